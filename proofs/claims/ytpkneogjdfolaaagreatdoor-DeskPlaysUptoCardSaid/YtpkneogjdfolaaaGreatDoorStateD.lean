/- Lemmas. -/
import Derived.Test.YtpkneogjdfolaaaGreatDoorBunF
import Derived.Deep.CutRange
set_option maxHeartbeats 20000000
set_option maxRecDepth 100000
set_option linter.unusedSimpArgs false
set_option linter.unusedVariables false
namespace Go.Proofs.YtpkneogjdfolaaaGreatDoor
open Go.RowKit
def Qe(w:zW)(B:Nat)(n:Int)(c:List PanicEntry)(a:Act)(W:zW):Prop:=
 (a.defers=Aax B∧a.tmps[4]? =some (.pointer (some ⟨B,0,none⟩)))∧c=[I3 n]∧W.cell? ⟨B,0,none⟩=some (.int .i64 0)∧W.frozen? ⟨B,0,none⟩=false∧Below w.heap.size w W
def RQ(T:List PanicEntry→Act→zW→Prop)(Q:Exit→Act→zW→Prop):Exit→Act→zW→Prop
 | .panic c,a,W=>T c a W
 |e,a,W=>Q e a W
theorem RQ.normal{T:List PanicEntry→Act→zW→Prop}{Q:Exit→Act→zW→Prop}{a:Act}{W:zW}(h:Q .normal a W):RQ T Q .normal a W:=h
theorem Jw{P:Program}{id:Nat}{ops:Array Oper}{b:Bool}{Q:Exit→Act→zW→Prop}{a:Act}{w:zW}(T:List PanicEntry→Act→zW→Prop)(hT:∀c a W,T c a W→Q (.panic c) a W)(h:(Code.region id ops b).wp P (RQ T Q) a w):(Code.region id ops b).wp P Q a w:=
 Code.wp_mono (fun e a W h=>by cases e<;>first|exact hT _ _ _ h|exact h) h
theorem Aai{w:zW}{B:Nat}{n:Int}{c:List PanicEntry}{a:Act}{W:zW}{k:Nat}{v:Value}(hk:k≠4)(h:Qe w B n c (a.put (some k) v) W):Qe w B n c a W:=by
 obtain⟨⟨h1,h2⟩,h3⟩:=h;refine⟨⟨h1,?_⟩,h3⟩;have e:(a.put (some k) v).tmps=a.tmps.setIfInBounds k v:=rfl;rw[e,Array.getElem?_setIfInBounds_ne hk] at h2;exact h2
theorem X8{p:Ab}{s:Aa}{w:zW}{B:Nat}{n:Int}(hB:w.heap.size≤B)(hn:Am p s=n)(c:List PanicEntry)(a:Act)(W:zW)(h:Qe w B n c a W):bodyPostD Tryz.prog Tryz.f82 (Nq p s w) (.panic c) a W:=by
 obtain⟨⟨h1,h2⟩,rfl,h3,h4,h5⟩:=h;exact K7 h1 h2 hB h3 h4 h5 hn
theorem Ahy{bs:List Bool}(h:bs.contains false=false):∀b∈bs,b=true:=fun b hb=>by
 cases b
 ·rw[List.contains_iff_mem.2 hb] at h;cases h
 ·rfl
theorem Mv{w W0 W2 W:zW}{A:zW→Prop}{D:Prop}{B:Nat}{n:Int}{a:Act}(HC:∀W,Below W0.heap.size W0 W→A W∧W.cell? ⟨B,0,none⟩=some (.int .i64 0)∧W.frozen? ⟨B,0,none⟩=false)(hA:∀W,A W→Below w.heap.size w W)(h2:Below W0.heap.size W0 W2)(hW:D∧Below W2.heap.size W2 W)
  (hd:a.defers=Aax B) (ht:a.tmps[4]? =some (.pointer (some ⟨B,0,none⟩))):Qe w B n [I3 n] a W:=by
 obtain⟨h,h3,h4⟩:=HC W (h2.trans (hW.2.mono h2.size));exact⟨⟨hd,ht⟩,rfl,h3,h4,hA W h⟩
def Ayj(s:Aa)(W0:zW)(m g:Nat)(ly i:Value)(wr:zW):Prop:=
 ∃k:Nat,k≤s.ready.length∧i= .int .i64 k∧ly= .int .i64 (lyK s k)∧Ja s.ah wr m g (Dj (s.ready.take k))∧(∀l∈s.ready.take k,Ct l=true)∧Below W0.heap.size W0 wr
def Ayk(s:Aa)(W0:zW)(m g k:Nat)(r:List Ao)(i:Value)(wr:zW):Prop:=
 ∃j:Nat,j≤r.length∧i= .int .i64 j∧Ja s.ah wr m g (Dj (s.ready.take k)++(r.take j).map (·.seq))∧Below W0.heap.size W0 wr
def Ayl(p:Ab)(s:Aa)(W0:zW)(m g:Nat)(i:Value)(wr:zW):Prop:=
 ∃j:Nat,j≤s.ae.length∧i= .int .i64 j∧Ja s.ah wr m g (Dj s.ready)∧(∀t∈s.ae.take j,Iv p.ag.length t=true)∧Below W0.heap.size W0 wr
def Aym(s:Aa)(W0:zW)(m g:Nat)(la i:Value)(wr:zW):Prop:=
 ∃j:Nat,j≤s.outs.length∧i= .int .i64 j∧la= .int .i64 (Hi s.outs j)∧Ja s.ah wr m g (Dj s.ready++Hd (s.outs.take j))∧(∀x∈s.outs.take j,Mt s x=true)∧(∀q (hq:q < s.outs.length),q < j→Hi s.outs q < s.outs[q].tag)∧Below W0.heap.size W0 wr
def Ayn(p:Ab)(s:Aa)(W0:zW)(i:Value)(wr:zW):Prop:=
 ∃j:Nat,j≤s.ready.length∧i= .int .i64 j∧(∀(q:Nat)(l:List Ao)(x:F7),q < j→s.ready[q]? =some l→p.ag[q]? =some x→(l.length:Int)≤x.bm)∧Below W0.heap.size W0 wr
def Ayo(s:Aa)(W0:zW)(i:Value)(wr:zW):Prop:=
 ∃j:Nat,j≤s.ae.length∧i= .int .i64 j∧(∀(k:Nat)(t:Cf),k < j→s.ae[k]? =some t→(Ck s k:Int)≤t.cf)∧Below W0.heap.size W0 wr
theorem below_grown{w W W':zW}{g:Nat}(h:Below w.heap.size w W)(hg:W.grownBy W' (some g))(h0:w.heap.size≤g):Below w.heap.size w W':=h.grown hg h.size (fun j hj=>by cases hj;exact h0)
theorem Fx(p:Ab)(s:Aa)(p1 p2 p3 a1 a2 a3:zZ)(q1 q2 q3 c1 c2 c3:Nat)(rows:List Bm)(w:zW)(hE:Env w)(hp:Au w 0 w.heap.size p1 p2 p3 p)(hps:Ai p)(hs:Av w 0 w.heap.size a1 a2 a3 rows s)(hss:Ap s)(hsi:A9 s):
  Calls Tryz.prog 82 #[Ay p p1 p2 p3 q1 q2 q3,Ad s a1 a2 a3 c1 c2 c3] w (Nq p s w):=by
 have hmf:∀(fn:Fn)(first cap:Array Value)(w:zW),(Instr.makeFunc fn first cap).run Tryz.prog w= .ok (.func fn first cap) w:=fun _ _ _ _=>rfl;have hbx:=Cj q1 q2 q3 c1 c2 c3 hE hp hs 26 40;unfold Ag at hbx;unfold Ad Ay Ag;have hsz:((w.alloc (.cells (zP p p1 p2 p3 q1 q2 q3) 26)).alloc (.cells (zV s a1 a2 a3 c1 c2 c3) 40)).heap.size=w.heap.size+2:=by simp
 have HBX:=zh hbx;have HPS:=zh hps;have HSS:=zh hss;have HSI:=zh hsi;clear hbx hE hp hs hps hss hsi
 go_enter_defers Tryz.func82,Tryz.ntmps82
 go_wp2_with fail
 generalize hWA:((w.alloc (.cells (zP p p1 p2 p3 q1 q2 q3) 26)).alloc (.cells (zV s a1 a2 a3 c1 c2 c3) 40))=WA at *;obtain⟨W0,hW0⟩:=zo (WA.alloc (.cells #[.int .i64 0] 27));rw[hW0];have hz0:W0.heap.size=w.heap.size+3:=by rw[←hW0];simp;omega
 have HC:Hid (∀W,Below W0.heap.size W0 W→Me w p s p1 p2 p3 a1 a2 a3 q1 q2 q3 c1 c2 c3 rows W∧W.cell? ⟨w.heap.size+2,0,none⟩=some (.int .i64 0)∧W.frozen? ⟨w.heap.size+2,0,none⟩=false):=fun W hW=>by
  have k:=Bk.new WA 27 #[.int .i64 0];rw[hW0,hsz] at k;have k2:=k.below hW (by omega);have bA:=zu hW0
  refine⟨HBX.out W (bA.trans (hW.mono bA.size)),?_,k2.frozen 0⟩;have:=k2.cell 0;simpa using this
 have HZ:=zh hz0;have hB2:w.heap.size≤w.heap.size+2:=by omega
 clear hW0 hWA hsz HBX hz0;refine(J6 p p1 p2 p3 q1 q2 q3 0 W0 (HC.out _ (zb _ _)).1.env (HC.out _ (zb _ _)).1.bu HPS.out).mono ?_;rintro e W1 ⟨rfl,hb1⟩;have HB1:=zh hb1;clear hb1
 obtain⟨⟨⟨m0,m1,m2⟩,⟨n0,n1,n2,n3,n4,n5,n6,n7⟩,_,_,_,_⟩,r0,rf⟩:=HC.out _ HB1.out;by_cases h0:Bc p=0
 ·have HP0:=zh h0
  rw[h0];clear h0;by_cases hm:s.ae.length≤4
  ·have HM:=zh hm
   have hmb:decide ((s.ae.length:Int)≤4)=true:=by simp;omega
   go_wp2_with fail
   refine(Lg [true] rfl rfl (by decide) (by decide)).mono ?_;rintro e W2 ⟨rfl,hw2⟩;have HB2:Hid (Below W0.heap.size W0 W2):=by
    refine(?_:Below W0.heap.size W0 W2);rw[hw2];exact HB1.out.alloc HB1.out.size _
   clear hw2;clear m0 m1 m2 n0 n1 n2 n3 n4 n5 n6 n7 r0 rf hm hmb;obtain⟨bl,hbl⟩:=zo ((s.ready.length:Int) == (p.ag.length:Int));obtain⟨b1,hb1⟩:=zo (countB s.ah);obtain⟨b2,hb2⟩:=zo (countB s.af);obtain⟨b3,hb3⟩:=zo (countB s.aw);obtain⟨b4,hb4⟩:=zo (countB s.ar);obtain⟨b5,hb5⟩:=zo (countB s.dropped);have HN1:Hid (∀W,Calls Tryz.prog 124 #[.int .i64 s.ah] W fun e w'=>e= .returned (.bool b1)∧w'=W):=fun W=>hb1▸Pv s.ah W;have HN2:Hid (∀W,Calls Tryz.prog 124 #[.int .i64 s.af] W fun e w'=>e= .returned (.bool b2)∧w'=W):=fun W=>hb2▸Pv s.af W;have HN3:Hid (∀W,Calls Tryz.prog 124 #[.int .i64 s.aw] W fun e w'=>e= .returned (.bool b3)∧w'=W):=fun W=>hb3▸Pv s.aw W;have HN4:Hid (∀W,Calls Tryz.prog 124 #[.int .i64 s.ar] W fun e w'=>e= .returned (.bool b4)∧w'=W):=fun W=>hb4▸Pv s.ar W;have HN5:Hid (∀W,Calls Tryz.prog 124 #[.int .i64 s.dropped] W fun e w'=>e= .returned (.bool b5)∧w'=W):=fun W=>hb5▸Pv s.dropped W;have HK:Hid (∀W,Below W2.heap.size W2 W→(W.cell? ⟨w.heap.size,1,none⟩=some (.slice p2 p.ag.length q2)∧W.cell? ⟨w.heap.size+1,0,none⟩=some (.slice a1 s.ready.length c1)∧W.cell? ⟨w.heap.size+1,3,none⟩=some (.int .i64 s.ah)∧W.cell? ⟨w.heap.size+1,4,none⟩=some (.int .i64 s.af)∧W.cell? ⟨w.heap.size+1,5,none⟩=some (.int .i64 s.aw)∧W.cell? ⟨w.heap.size+1,6,none⟩=some (.int .i64 s.ar)∧W.cell? ⟨w.heap.size+1,7,none⟩=some (.int .i64 s.dropped))∧Below W2.heap.size W2 W):=fun W hW=>by
    obtain⟨h,_⟩:=HC.out W (HB2.out.trans (hW.mono HB2.out.size));exact⟨⟨h.bz.2.1,h.state.1,h.state.2.2.2.1,h.state.2.2.2.2.1,h.state.2.2.2.2.2.1,h.state.2.2.2.2.2.2.1,h.state.2.2.2.2.2.2.2⟩,hW⟩
   have HEQ:Hid (((s.ready.length:Int) == (p.ag.length:Int))=bl∧countB s.ah=b1∧countB s.af=b2∧countB s.aw=b3∧countB s.ar=b4∧countB s.dropped=b5):=(⟨hbl,hb1,hb2,hb3,hb4,hb5⟩:_∧_);clear hb1 hb2 hb3 hb4 hb5;go_upto_region 6 with fail
   go_cut [] from 35 to 58 (fun wx=>Below W2.heap.size W2 wx∧s.ready.length=p.ag.length∧countB s.ah=true∧countB s.af=true∧countB s.aw=true∧countB s.ar=true∧countB s.dropped=true)
   case first=>
    cases hbs:[bl,b1,b2,b3,b4,b5].contains false
    ·have HBS:=zh hbs;clear hbs
     refine Jw (fun _ _ _=>False) (fun _ _ _ h=>h.elim) ?_;refine Kl [(0,false),(1,false),(2,false),(3,false),(4,false),(5,false),(6,false),(7,false),(8,false),(10,false),(11,false),(13,false),(14,false),(16,false),(17,false),(19,false),(20,false),(9,true),(12,true),(15,true),(18,true),(21,true),(22,true),(23,true)] (by kernel_rfl) (fun hOrd=> ?_);refine zS HK hOrd (by kernel_rfl) (fun hHeld=> ?_);clear hOrd
     iterate 24 ((first|(refine zT ?_)|(refine zL ?_)|(refine NW.call rfl (fun K hK=> ?_);go_simp;(first|(go_at_call 124;with_reducible refine(HN1.out _).mono ?_;rintro e wq ⟨rfl,rfl⟩)|(go_at_call 124;with_reducible refine(HN2.out _).mono ?_;rintro e wq ⟨rfl,rfl⟩)|(go_at_call 124;with_reducible refine(HN3.out _).mono ?_;rintro e wq ⟨rfl,rfl⟩)|(go_at_call 124;with_reducible refine(HN4.out _).mono ?_;rintro e wq ⟨rfl,rfl⟩)|(go_at_call 124;with_reducible refine(HN5.out _).mono ?_;rintro e wq ⟨rfl,rfl⟩)|(go_at_call 123;refine(My [bl,b1,b2,b3,b4,b5] rfl rfl HBS.out (by simp)).mono ?_;rintro e wq ⟨rfl,rfl⟩));refine hK.out _ _ (by first|assumption|exact HK.out _ (B7 (by assumption) _)|exact HK.out _ (by assumption)) (fun hHeld=> ?_);clear hK K)|(refine NW.call rfl (fun K hK=> ?_);go_simp;refine hK.out _ _ (by first|assumption|exact HK.out _ (B7 (by assumption) _)|exact HK.out _ (by assumption)) (fun hHeld=> ?_);clear hK K));try simp only[Act.put,zA,zB,zC,zD,zE,zF])
     refine NW.done ?_;refine RQ.normal ?_;go_wp2_with fail
     go_meet
     have hat:=Ahy HBS.out;have hq:=HEQ.out;have e0:bl=true:=hat bl (by simp);refine⟨(by assumption:_∧Below W2.heap.size W2 _).2,?_,hq.2.1.trans (hat b1 (by simp)),hq.2.2.1.trans (hat b2 (by simp)),hq.2.2.2.1.trans (hat b3 (by simp)),hq.2.2.2.2.1.trans (hat b4 (by simp)),hq.2.2.2.2.2.trans (hat b5 (by simp))⟩;have:=hq.1;rw[e0] at this;simp only[beq_iff_eq] at this;omega
    ·have HBS:=zh hbs;clear hbs
     have HNF:Hid (Am p s=1):=by
      refine Ek HP0.out HM.out fun hf=> ?_;have hc:=HBS.out;have:=HEQ.out;obtain⟨e0,e1,e2,e3,e4,e5⟩:=this;rw[←e0,←e1,←e2,←e3,←e4,←e5,hf.ah,hf.af,hf.aw,hf.ar,hf.dropped,show((s.ready.length:Int) == (p.ag.length:Int))=true by simp[hf.len]] at hc
      revert hc
      decide
     refine Jw (Qe w (w.heap.size+2) 1) (X8 hB2 HNF.out) ?_;refine wp_region_held_drew (S:=(fun W=>(W.cell? ⟨w.heap.size,1,none⟩=some (.slice p2 p.ag.length q2)∧W.cell? ⟨w.heap.size+1,0,none⟩=some (.slice a1 s.ready.length c1)∧W.cell? ⟨w.heap.size+1,3,none⟩=some (.int .i64 s.ah)∧W.cell? ⟨w.heap.size+1,4,none⟩=some (.int .i64 s.af)∧W.cell? ⟨w.heap.size+1,5,none⟩=some (.int .i64 s.aw)∧W.cell? ⟨w.heap.size+1,6,none⟩=some (.int .i64 s.ar)∧W.cell? ⟨w.heap.size+1,7,none⟩=some (.int .i64 s.dropped))∧Below W2.heap.size W2 W)) (by kernel_rfl) (by first|assumption|exact HK.out _ (zb _ _).drew|exact HK.out _ (B7 (by assumption) _)|exact HK.out _ (by assumption)) (fun hHeld=> ?_)
     first|(refine zH 0 ?_)|(refine zU 0 ?_)
     first|(refine zH 1 ?_)|(refine zU 1 ?_)
     first|(refine zH 2 ?_)|(refine zU 2 ?_)
     first|(refine zH 3 ?_)|(refine zU 3 ?_)
     first|(refine zH 4 ?_)|(refine zU 4 ?_)
     first|(refine zH 5 ?_)|(refine zU 5 ?_)
     first|(refine zH 6 ?_)|(refine zU 6 ?_)
     first|(refine zH 7 ?_)|(refine zU 7 ?_)
     first|(refine zH 8 ?_)|(refine zU 8 ?_)
     first|(refine zH 10 ?_)|(refine zU 10 ?_)
     first|(refine zH 11 ?_)|(refine zU 11 ?_)
     first|(refine zH 13 ?_)|(refine zU 13 ?_)
     first|(refine zH 14 ?_)|(refine zU 14 ?_)
     first|(refine zH 16 ?_)|(refine zU 16 ?_)
     first|(refine zH 17 ?_)|(refine zU 17 ?_)
     first|(refine zH 19 ?_)|(refine zU 19 ?_)
     first|(refine zH 20 ?_)|(refine zU 20 ?_)
     first
      |refine zU 9 ?_
      |(refine zR 9 fun K hK=> ?_;go_simp;(first|(go_at_call 124;with_reducible refine(HN1.out _).mono ?_;rintro e wq ⟨rfl,rfl⟩)|(go_at_call 124;with_reducible refine(HN2.out _).mono ?_;rintro e wq ⟨rfl,rfl⟩)|(go_at_call 124;with_reducible refine(HN3.out _).mono ?_;rintro e wq ⟨rfl,rfl⟩)|(go_at_call 124;with_reducible refine(HN4.out _).mono ?_;rintro e wq ⟨rfl,rfl⟩)|(go_at_call 124;with_reducible refine(HN5.out _).mono ?_;rintro e wq ⟨rfl,rfl⟩)|(go_at_call 123;refine(Mx [bl,b1,b2,b3,b4,b5] rfl rfl HBS.out (by simp)).mono ?_;rintro e wq ⟨rfl,rfl⟩;exact Mv HC.out (fun _ h=>h.below) HB2.out (by assumption) rfl rfl));refine hK.out _ _ (by first|assumption|exact HK.out _ (zb _ _).drew|exact HK.out _ (B7 (by assumption) _)|exact HK.out _ (by assumption)) (fun hHeld=> ?_);clear hK K)
     try simp only[Act.put,zA,zB,zC,zD,zE,zF]
     first
      |refine zU 12 ?_
      |(refine zR 12 fun K hK=> ?_;go_simp;(first|(go_at_call 124;with_reducible refine(HN1.out _).mono ?_;rintro e wq ⟨rfl,rfl⟩)|(go_at_call 124;with_reducible refine(HN2.out _).mono ?_;rintro e wq ⟨rfl,rfl⟩)|(go_at_call 124;with_reducible refine(HN3.out _).mono ?_;rintro e wq ⟨rfl,rfl⟩)|(go_at_call 124;with_reducible refine(HN4.out _).mono ?_;rintro e wq ⟨rfl,rfl⟩)|(go_at_call 124;with_reducible refine(HN5.out _).mono ?_;rintro e wq ⟨rfl,rfl⟩)|(go_at_call 123;refine(Mx [bl,b1,b2,b3,b4,b5] rfl rfl HBS.out (by simp)).mono ?_;rintro e wq ⟨rfl,rfl⟩;exact Mv HC.out (fun _ h=>h.below) HB2.out (by assumption) rfl rfl));refine hK.out _ _ (by first|assumption|exact HK.out _ (zb _ _).drew|exact HK.out _ (B7 (by assumption) _)|exact HK.out _ (by assumption)) (fun hHeld=> ?_);clear hK K)
     try simp only[Act.put,zA,zB,zC,zD,zE,zF]
     first
      |refine zU 15 ?_
      |(refine zR 15 fun K hK=> ?_;go_simp;(first|(go_at_call 124;with_reducible refine(HN1.out _).mono ?_;rintro e wq ⟨rfl,rfl⟩)|(go_at_call 124;with_reducible refine(HN2.out _).mono ?_;rintro e wq ⟨rfl,rfl⟩)|(go_at_call 124;with_reducible refine(HN3.out _).mono ?_;rintro e wq ⟨rfl,rfl⟩)|(go_at_call 124;with_reducible refine(HN4.out _).mono ?_;rintro e wq ⟨rfl,rfl⟩)|(go_at_call 124;with_reducible refine(HN5.out _).mono ?_;rintro e wq ⟨rfl,rfl⟩)|(go_at_call 123;refine(Mx [bl,b1,b2,b3,b4,b5] rfl rfl HBS.out (by simp)).mono ?_;rintro e wq ⟨rfl,rfl⟩;exact Mv HC.out (fun _ h=>h.below) HB2.out (by assumption) rfl rfl));refine hK.out _ _ (by first|assumption|exact HK.out _ (zb _ _).drew|exact HK.out _ (B7 (by assumption) _)|exact HK.out _ (by assumption)) (fun hHeld=> ?_);clear hK K)
     try simp only[Act.put,zA,zB,zC,zD,zE,zF]
     first
      |refine zU 18 ?_
      |(refine zR 18 fun K hK=> ?_;go_simp;(first|(go_at_call 124;with_reducible refine(HN1.out _).mono ?_;rintro e wq ⟨rfl,rfl⟩)|(go_at_call 124;with_reducible refine(HN2.out _).mono ?_;rintro e wq ⟨rfl,rfl⟩)|(go_at_call 124;with_reducible refine(HN3.out _).mono ?_;rintro e wq ⟨rfl,rfl⟩)|(go_at_call 124;with_reducible refine(HN4.out _).mono ?_;rintro e wq ⟨rfl,rfl⟩)|(go_at_call 124;with_reducible refine(HN5.out _).mono ?_;rintro e wq ⟨rfl,rfl⟩)|(go_at_call 123;refine(Mx [bl,b1,b2,b3,b4,b5] rfl rfl HBS.out (by simp)).mono ?_;rintro e wq ⟨rfl,rfl⟩;exact Mv HC.out (fun _ h=>h.below) HB2.out (by assumption) rfl rfl));refine hK.out _ _ (by first|assumption|exact HK.out _ (zb _ _).drew|exact HK.out _ (B7 (by assumption) _)|exact HK.out _ (by assumption)) (fun hHeld=> ?_);clear hK K)
     try simp only[Act.put,zA,zB,zC,zD,zE,zF]
     first
      |refine zU 21 ?_
      |(refine zR 21 fun K hK=> ?_;go_simp;(first|(go_at_call 124;with_reducible refine(HN1.out _).mono ?_;rintro e wq ⟨rfl,rfl⟩)|(go_at_call 124;with_reducible refine(HN2.out _).mono ?_;rintro e wq ⟨rfl,rfl⟩)|(go_at_call 124;with_reducible refine(HN3.out _).mono ?_;rintro e wq ⟨rfl,rfl⟩)|(go_at_call 124;with_reducible refine(HN4.out _).mono ?_;rintro e wq ⟨rfl,rfl⟩)|(go_at_call 124;with_reducible refine(HN5.out _).mono ?_;rintro e wq ⟨rfl,rfl⟩)|(go_at_call 123;refine(Mx [bl,b1,b2,b3,b4,b5] rfl rfl HBS.out (by simp)).mono ?_;rintro e wq ⟨rfl,rfl⟩;exact Mv HC.out (fun _ h=>h.below) HB2.out (by assumption) rfl rfl));refine hK.out _ _ (by first|assumption|exact HK.out _ (zb _ _).drew|exact HK.out _ (B7 (by assumption) _)|exact HK.out _ (by assumption)) (fun hHeld=> ?_);clear hK K)
     try simp only[Act.put,zA,zB,zC,zD,zE,zF]
     (refine zR 22 fun K hK=> ?_;go_simp;refine hK.out _ _ (by first|assumption|exact HK.out _ (zb _ _).drew|exact HK.out _ (B7 (by assumption) _)|exact HK.out _ (by assumption)) (fun hHeld=> ?_);clear hK K)
     try simp only[Act.put,zA,zB,zC,zD,zE,zF]
     (refine zR 23 fun K hK=> ?_;go_simp;(first|(go_at_call 124;with_reducible refine(HN1.out _).mono ?_;rintro e wq ⟨rfl,rfl⟩)|(go_at_call 124;with_reducible refine(HN2.out _).mono ?_;rintro e wq ⟨rfl,rfl⟩)|(go_at_call 124;with_reducible refine(HN3.out _).mono ?_;rintro e wq ⟨rfl,rfl⟩)|(go_at_call 124;with_reducible refine(HN4.out _).mono ?_;rintro e wq ⟨rfl,rfl⟩)|(go_at_call 124;with_reducible refine(HN5.out _).mono ?_;rintro e wq ⟨rfl,rfl⟩)|(go_at_call 123;refine(Mx [bl,b1,b2,b3,b4,b5] rfl rfl HBS.out (by simp)).mono ?_;rintro e wq ⟨rfl,rfl⟩;exact Mv HC.out (fun _ h=>h.below) HB2.out (by assumption) rfl rfl)))
   case rest=>
    obtain⟨hb3,hlen,k1,k2,k3,k4,k5⟩:=hcut;have HB3:=zm HB2 hb3;have HF1:=zh (zi hlen (zi k1 (zi k2 (zi k3 (zi k4 k5)))));clear hb3 hlen k1 k2 k3 k4 k5 HB2 HK HEQ HN1 HN2 HN3 HN4 HN5 hbl;have hmm:= @run_makeMap Tryz.prog;obtain⟨W4,hW4⟩:=zo ((wc.alloc (.map #[] 0)).alloc (.cells #[.map (some wc.heap.size)] 167));have hbm:Below wc.heap.size wc (wc.alloc (.map #[] 0)):=(zb _ _).alloc (zn _) _;have hb4:Below wc.heap.size wc W4:=by rw[←hW4];exact hbm.alloc (by simp) _
    have HB4:=zm HB3 hb4;have hk4:Bk W4 (wc.heap.size+1) 167 #[.map (some wc.heap.size)]:=by
     have:=Bk.new (wc.alloc (.map #[] 0)) 167 #[.map (some wc.heap.size)];rw[hW4] at this;simpa using this
    have hsz4:W4.heap.size=wc.heap.size+2:=by rw[←hW4];simp
    have HS4:Hid (Ja s.ah W4 (wc.heap.size+1) wc.heap.size []):=by
     refine(?_:Ja s.ah W4 (wc.heap.size+1) wc.heap.size []);refine⟨by have:=hk4.cell 0;simpa using this,⟨_,?_,Ahe⟩,List.nodup_nil,fun n hn=>by cases hn⟩;rw[←hW4];exact(World.ownsMap_made wc Tryz.prog 3 _).alloc _
    have hgm:wc.heap.size+1≠wc.heap.size:=by omega
    have hg0:W0.heap.size≤wc.heap.size:=HB3.out.size;have hst:w.heap.size+1≠wc.heap.size:=by have:=HZ.out;omega
    obtain⟨⟨_,⟨n0,n1,n2,n3,n4,n5,n6,n7⟩,_,_,_,_⟩,_,_⟩:=HC.out _ HB4.out;clear hbm hb4 hk4;go_wp2_with fail
    clear hW4 n0 n1 n2 n3 n4 n5 n6 n7;generalize hm:wc.heap.size+1=m at *;generalize hg:wc.heap.size=g at *;clear hm hg;have hrl:rows.length=s.ready.length:=by rw[←(HC.out _ HB4.out).1.bc.same,List.length_map]
    go_loopw [8,64] (fun ly i wr=>Ayj s W0 m g ly i wr) (fun _ i _=>s.ready.length - (intOf i).toNat)
    case atStart=>exact⟨0,by omega,rfl,rfl,HS4.out,fun l hl=>by simp at hl,HB4.out⟩
    case round=>
     obtain⟨k,hk,rfl,rfl,hseen,hfine,hB⟩:=hrel;have HB:=zh hB;have HSEEN:=zh hseen;have HFINE:=zh hfine
     clear hseen hfine;obtain⟨⟨_,⟨n0,n1,n2,n3,n4,n5,n6,n7⟩,_,henv,_,hsat⟩,r0,rf⟩:=HC.out _ hB;have HENV:=zh henv;have HSAT:=zh hsat;clear henv hsat
     by_cases hlt:k < s.ready.length
     ·have hltr:k < rows.length:=by omega
      obtain⟨b,o,ha,_,hb,hc⟩:=Bf El (by decide) HSAT.out.ready hltr;have e0:wr.cell? ⟨b,o+k,none⟩=some (.slice rows[k].at_ rows[k].items.length rows[k].cap):=by have:=hc 0 _ rfl;simpa using this
      have hrow:=HSAT.out.row _ (zg hltr);have hit:s.ready[k]=rows[k].items:=by simp[←HSAT.out.same]
      have hsm:=HSS.out.row _ (zg hlt);have HIT:=zh hit;rw[hit] at hsm;have HROW:=zh hrow;have HSM:=zh hsm
      have HMEM:=zh (zg hltr);have hllen:=hsm.len;have hly1:=Zw hlt;rw[hit] at hly1;have hly2:=Yp s k;have hly3:=Yp s (k+1);have hly4:E8 s≤1048576:=HSS.out.lying;have hrdy:=HSS.out.ready;have HLEN:=zh (Ajy s k);clear hc hrow hsm hit;generalize rows[k]=r at *;obtain⟨ra,rc,ri⟩:=r;dsimp only at e0 hllen hly1 HIT HROW HSM;subst ha;go_wp2_with fail
      refine(Qh ra rc ri 0 wr HENV.out HROW.out.1 HSM.out).mono ?_;rintro e W5 ⟨rfl,hb5⟩;have HB5:=zm HB hb5;have HS5:=zh (HSEEN.out.below hb5);clear hb5
      cases hq:Ct ri
      ·have HNF:=zh (Ek HP0.out HM.out (Anu (p:=p) (zg hlt) (by rw[HIT.out];exact hq)))
       have HE:Hid (Et ri=1):=(by simp[Et,hq]:Et ri=1);clear hq;rw[HE.out];go_wp2_with fail
       refine(Lf [false] rfl rfl (by decide) (by decide)).mono ?_;rintro e W6 ⟨rfl,hw6⟩;have HB6:Hid (Below W0.heap.size W0 W6):=by
        refine(?_:Below W0.heap.size W0 W6);rw[hw6];exact HB5.out.alloc HB5.out.size _
       clear hw6;go_wp2_with fail
       exact K7 rfl rfl hB2 (HC.out _ HB6.out).2.1 (HC.out _ HB6.out).2.2 (HC.out _ HB6.out).1.below HNF.out
      ·have HE:Hid (Et ri=0):=(by simp[Et,hq]:Et ri=0)
       have HQ:=zh hq;clear hq
       rw[HE.out];go_wp2_with fail
       refine(Lg [true] rfl rfl (by decide) (by decide)).mono ?_;rintro e W6 ⟨rfl,hw6⟩;have hb56:Below W5.heap.size W5 W6:=by rw[hw6];exact(zb _ _).alloc (zn _) _
       have HB6:=zm HB5 hb56;have HS6:=zh (HS5.out.below hb56);clear hw6 hb56 n0 n1 n2 n3 n4 n5 n6 n7 r0 rf;go_wp2_with fail
       go_loopw [75] (fun i wr=>Ayk s W0 m g k ri i wr) (fun i _=>ri.length - (intOf i).toNat)
       case atStart=>exact⟨0,by omega,rfl,by simpa using HS6.out,HB6.out⟩
       case round=>
        obtain⟨j,hj,rfl,hseen,hB⟩:=hrel;have HB7:=zh hB;by_cases hjl:j < ri.length
        ·obtain⟨b',o',ha',_,hb',hc'⟩:=Bf Cu (by decide) ((HC.out _ hB).1.bc.row _ HMEM.out).1 hjl
         dsimp only at ha' hc';obtain⟨e0,e1,e2,e3,e4⟩:=Hw (wr:=wr) (b:=b') (o:=o') (k:=j) (x:=ri[j]) fun q u hu=>hc' q u hu;have hpre:=Axd (s:=s) hlt (k:=j) (by rw[HIT.out];exact hjl);simp only[HIT.out] at hpre;have hstep:=row_step (s:=s) hlt (k:=j) (by rw[HIT.out];exact hjl);simp only[HIT.out] at hstep;have HPRE:=zh hpre;have HSTEP:=zh hstep
         have hsmall:=HSM.out.item _ (zg hjl);have HSMALL:=zh hsmall;have hL:(Dj (s.ready.take k)++(ri.take j).map (·.seq)).length≤1073741824:=by
          rw[ze,HLEN.out,List.length_map,List.length_take];omega
         have HL:=zh hL;clear hc' hpre hstep hsmall hL;generalize ri[j]=x at *;generalize hLL:Dj (s.ready.take k)++(ri.take j).map (·.seq)=L at *;have hbox:Below wr.heap.size wr (wr.alloc (.cells (zY x) 113)):=(zb _ _).alloc (zn _) _;have HS7:=zh (hseen.below hbox);have HBB:=zm HB7 hbox;have hst3:=(HC.out _ HBB.out).1.state.2.2.2.1;have HST3:=zh hst3;clear hseen hB hbox hst3;subst ha';go_wp2_with fail
         by_cases hin:x.seq∈L
         ·have HNF:=zh (Ek HP0.out HM.out (Aje (p:=p) HPRE.out hin))
          refine(Afg x m g (w.heap.size+1) L s.ah _ HS7.out HST3.out hgm hst HSMALL.out.2.2.1 HSMALL.out.2.2.2.1 HL.out hin).mono ?_;rintro e W9 ⟨rfl,hg9⟩;have HB9:=zh (below_grown HBB.out hg9 hg0);clear hg9 hin
          go_wp2_with fail
          exact K7 rfl rfl hB2 (HC.out _ HB9.out).2.1 (HC.out _ HB9.out).2.2 (HC.out _ HB9.out).1.below HNF.out
         ·by_cases hlow:s.ah≤x.seq
          ·have HNF:=zh (Ek HP0.out HM.out (Ajc (p:=p) HPRE.out hlow))
           refine(Aof x m g (w.heap.size+1) L s.ah _ HS7.out HST3.out hgm hst HSMALL.out.2.2.1 HSMALL.out.2.2.2.1 HL.out hin hlow).mono ?_;rintro e W9 ⟨rfl,hg9⟩;have HB9:=zh (below_grown HBB.out hg9 hg0);clear hg9 hin hlow
           go_wp2_with fail
           exact K7 rfl rfl hB2 (HC.out _ HB9.out).2.1 (HC.out _ HB9.out).2.2 (HC.out _ HB9.out).1.below HNF.out
          ·refine(Aun x m g (w.heap.size+1) L s.ah _ HS7.out HST3.out hgm hst HSMALL.out.2.2.1 HSMALL.out.2.2.2.1 HL.out hin (by omega)).mono ?_
           rintro e W9 ⟨rfl,hs9,hg9⟩;have HB9:=zh (below_grown HBB.out hg9 hg0);have HS9:=zh hs9;clear hg9 hs9 hin hlow;go_wp2_with fail
           exact⟨⟨j+1,hjl,by go_num,by rw[←HSTEP.out];exact HS9.out,HB9.out⟩,by simp[intOf];omega⟩
        ·obtain rfl:j=ri.length:=by omega
         have hnext:=Ajt (s:=s) hlt;rw[HIT.out] at hnext;rw[hnext] at hseen;have HSN:=zh hseen;clear hseen hB hnext;go_wp2_with fail
         exact⟨⟨k+1,hlt,by go_num,by rw[hly1];go_num,HSN.out,fun l hl=>by
          rw[zj hlt] at hl;rcases List.mem_append.1 hl with h|h
          ·exact HFINE.out l h
          ·rw[List.mem_singleton.1 h,HIT.out];exact HQ.out,HB7.out⟩,by simp[intOf];omega⟩
     ·obtain rfl:k=s.ready.length:=by omega
      have hs3:=HSEEN.out;rw[List.take_length] at hs3;have HS3:=zh hs3;have HLINES:=zh (fun l hl=>HFINE.out l (by rw[List.take_length];exact hl));clear hB hs3;go_wp2_with fail
      clear n0 n1 n2 n3 n4 n5 n6 n7 r0 rf
      go_loopw [91] (fun i wr=>Ayl p s W0 m g i wr) (fun i _=>s.ae.length - (intOf i).toNat)
      case atStart=>exact⟨0,by omega,rfl,HS3.out,fun t ht=>by simp at ht,HB.out⟩
      case round=>
       clear HB HSEEN HFINE HSAT HENV HS3;have htl:=HM.out;obtain⟨j,hj,rfl,hseen,htk,hB⟩:=hrel;have HB:=zh hB;have HSEEN:=zh hseen;have HTK:=zh htk
       clear hseen htk;obtain⟨⟨⟨m0,m1,m2⟩,⟨n0,n1,n2,n3,n4,n5,n6,n7⟩,_,_,_,hsat⟩,_,_⟩:=HC.out _ hB;by_cases hjl:j < s.ae.length
       ·obtain⟨b,o,ha,_,hb,hc⟩:=Bf Dg (by decide) hsat.ae hjl
        obtain⟨e0,e1⟩:=Gx (wr:=wr) (b:=b) (o:=o) (k:=j) (x:=s.ae[j]) fun q u hu=>hc q u hu;have HMEM:=zh (zg hjl);have HTS:=zh (zj hjl);clear hc hsat hB;generalize s.ae[j]=t at *;obtain⟨W7,hW7⟩:=zo (wr.alloc (.cells #[.int .i64 t.queue,.int .i64 t.cf] 147));have hb7:=zu hW7
        have k7:=zw hW7
        have f0:W7.cell? ⟨wr.heap.size,0,none⟩=some (.int .i64 t.queue):=by have:=k7.cell 0;simpa using this
        have f1:W7.cell? ⟨wr.heap.size,1,none⟩=some (.int .i64 t.cf):=by have:=k7.cell 1;simpa using this
        have HB7:=zm HB hb7;have HS7:=zh (HSEEN.out.below hb7);have g1:=(HC.out _ HB7.out).1.bz.2.1;clear hb7 k7;subst ha;go_wp2_with fail
        cases hq:Iv p.ag.length t
        ·have HNF:=zh (Ek HP0.out HM.out (Acd (p:=p) HMEM.out hq))
         refine(Lf [decide (-1≤t.queue),decide (t.queue < (p.ag.length:Int)),decide (1≤t.cf),decide (t.cf≤4)] rfl rfl (by rw[Ac0,hq];rfl) (by simp)).mono ?_;clear hq;rintro e W8 ⟨rfl,hw8⟩;have HB8:Hid (Below W0.heap.size W0 W8):=by
          refine(?_:Below W0.heap.size W0 W8);rw[hw8];exact HB7.out.alloc HB7.out.size _
         clear hw8;go_wp2_with fail
         exact K7 rfl rfl hB2 (HC.out _ HB8.out).2.1 (HC.out _ HB8.out).2.2 (HC.out _ HB8.out).1.below HNF.out
        ·have HQ:=zh hq
         refine(Lg [decide (-1≤t.queue),decide (t.queue < (p.ag.length:Int)),decide (1≤t.cf),decide (t.cf≤4)] rfl rfl (by rw[Ac0,hq];rfl) (by simp)).mono ?_;clear hq;rintro e W8 ⟨rfl,hw8⟩;have hb8:Below W7.heap.size W7 W8:=by rw[hw8];exact(zb _ _).alloc (zn _) _
         have HB8:=zm HB7 hb8;have HS8:=zh (HS7.out.below hb8);clear hw8 hb8 f0 f1 g1;go_wp2_with fail
         exact⟨⟨j+1,hjl,by go_num,HS8.out,fun y hy=>by
          rw[HTS.out] at hy;rcases List.mem_append.1 hy with h|h
          ·exact HTK.out y h
          ·rw[List.mem_singleton.1 h];exact HQ.out,HB8.out⟩,by simp[intOf];omega⟩
       ·obtain rfl:j=s.ae.length:=by omega
        have HTAKERS:=zh (fun t ht=>HTK.out t (by rw[List.take_length];exact ht));clear hB hsat;go_wp2_with fail
        clear m0 m1 m2 n0 n1 n2 n3 n4 n5 n6 n7;have HS4':Hid (Ja s.ah wr m g (Dj s.ready++Hd (s.outs.take 0))):=(by simpa [Hd] using HSEEN.out:Ja s.ah wr m g (Dj s.ready++Hd (s.outs.take 0)))
        go_loopw [15,116] (fun la i wr=>Aym s W0 m g la i wr) (fun _ i _=>s.outs.length - (intOf i).toNat)
        case atStart=>exact⟨0,by omega,rfl,rfl,HS4'.out,fun x hx=>by simp at hx,fun q hq h=>absurd h (by omega),HB.out⟩
        case round=>
         clear HB HSEEN HTK HS4';obtain⟨j,hj,rfl,rfl,hseen,hou,hor,hB⟩:=hrel;have HB:=zh hB;have HSEEN:=zh hseen;have HOU:=zh hou;have HOR:=zh hor
         have hol:=HSS.out.outs;clear hseen hou hor;obtain⟨⟨_,⟨n0,n1,n2,n3,n4,n5,n6,n7⟩,_,_,_,hsat⟩,_,_⟩:=HC.out _ hB;by_cases hjl:j < s.outs.length
         ·obtain⟨b,o,ha,_,hb,hc⟩:=Bf Dx (by decide) hsat.outs hjl
          obtain⟨e0,e1,e2,e3,e4,e5,e6,e7⟩:=Gd (wr:=wr) (b:=b) (o:=o) (k:=j) (x:=s.outs[j]) fun q u hu=>hc q u hu;have HTS:=zh (zj hjl);have HPRE:=zh (Axc (s:=s) hjl);have HSTEP:=zh (Ajk (s:=s) hjl);have HF1':=zh (fun hf=>Ap6 (p:=p) hjl hf);have HF2':=zh (fun ht hf=>Alz (p:=p) hjl ht hf);have HF3':=zh (fun h0 h1 ht h2=>Atz hjl h0 h1 ht h2);have HLT:=zh (Le hjl);have HSMALL:=zh (HSS.out.out _ (zg hjl));have hoi:=HSI.out.out _ (zg hjl);have HOI:=zh hoi;have hL:(Dj s.ready++Hd (s.outs.take j)).length≤1073741824:=by
           have h1:=Uh s.ready;have h2:(s.ready.map List.length).sum≤1048576:=HSS.out.lying;rw[ze,h1,Yx,List.length_take];omega
          have HL:=zh hL;have HORX:Hid (∀(h:Hi s.outs j < s.outs[j].tag),∀q (hq:q < s.outs.length),q < j+1→Hi s.outs q < s.outs[q].tag):=fun h q hq hqj=>by
           rcases Nat.lt_or_ge q j with h'|h'
           ·exact HOR.out q hq h'
           ·obtain rfl:q=j:=by omega
            exact h
          have HTAG:Hid (∀q (hq:q < s.outs.length),q < j→0≤s.outs[q].tag):=fun q hq hqj=>by
           have:=HOU.out s.outs[q] (by rw[List.mem_take_iff_getElem];exact⟨q,by omega,rfl⟩);unfold Mt at this;simp only[zc,zd] at this;exact this.1.1.1.1.1
          clear hc hB hoi hL;generalize s.outs[j]=x at *;generalize Hi s.outs j=la at *;generalize hLL:Dj s.ready++Hd (s.outs.take j)=L at *;obtain⟨W7,hW7⟩:=zo (wr.alloc (.cells #[.int .i64 x.tag,.int .i64 x.bg,.int .i64 x.queue,.int .i64 x.item.seq,.string x.item.key,.string x.item.body,.bool x.item.again,.int .i64 x.item.au] 115));have hb7:=zu hW7
          have k7:=zw hW7
          have HS7Z:Hid (W7.heap.size=wr.heap.size+1):=(by rw[←hW7];simp:W7.heap.size=wr.heap.size+1);have HK7:=zh k7;have f0:=k7.cell 0;have f1:=k7.cell 1
          simp only[zI,zJ,zK] at f0 f1;have HB7:=zm HB hb7;have HS7:=zh (HSEEN.out.below hb7);obtain⟨⟨_,⟨_,_,p2',_,p4',_,_,_⟩,_,_,_,_⟩,_,_⟩:=HC.out _ HB7.out;clear hb7 k7;subst ha;go_wp2_with fail
          cases hbs:[decide (la < x.tag),decide (x.tag < s.af),decide (0≤x.bg),decide (x.bg < (s.ae.length:Int))].contains false
          ·have HBS1:=zh hbs
           refine(Lg [decide (la < x.tag),decide (x.tag < s.af),decide (0≤x.bg),decide (x.bg < (s.ae.length:Int))] rfl rfl hbs (by simp)).mono ?_;rintro e W8 ⟨rfl,hw8⟩;have hb8:Below W7.heap.size W7 W8:=by rw[hw8];exact(zb _ _).alloc (zn _) _
           have HB8:=zm HB7 hb8;have HS8:=zh (HS7.out.below hb8);have HK8:=zh (HK7.out.below hb8 (by have:=HS7Z.out;omega));clear hw8 hb8 f0 f1 p2' p4' n0 n1 n2 n3 n4 n5 n6 n7 e0 e1 e2 e3 e4 e5 e6 e7;rw[Ann] at hbs;simp only[Bool.not_eq_false',zc,zd] at hbs;have hla:=hbs.1.1.1;have htk0:=hbs.1.2;have htk1:=hbs.2;clear hbs;have htl2:x.bg.toNat < s.ae.length:=by omega
           have HLA:=zh hla;clear hla;obtain⟨b2,o2,ha2,_,hb2,hc2⟩:=Bf Dg (by decide) (HC.out _ HB8.out).1.bc.ae htl2;obtain⟨d0,d1⟩:=Gx (wr:=W8) (b:=b2) (o:=o2) (k:=x.bg.toNat) (x:=s.ae[x.bg.toNat]) fun q u hu=>hc2 q u hu;have HF2:=zh (HF2'.out htl2);have HF3:=zh (fun h2=>HF3'.out HTAG.out HBS1.out htl2 h2);clear hc2 HF2' HF3';generalize s.ae[x.bg.toNat]=t at *;obtain⟨⟨_,⟨_,_,p2',_,p4',_,_,_⟩,_,_,_,_⟩,_,_⟩:=HC.out _ HB8.out;have f1:=HK8.out.cell 1;simp only[zI,zJ,zK] at f1;obtain⟨W9,hW9⟩:=zo (W8.alloc (.cells #[.int .i64 t.queue,.int .i64 t.cf] 147));have hb9:=zu hW9
           have k9:=zw hW9
           have HB9:=zm HB8 hb9;have HS9:=zh (HS8.out.below hb9);have HK9:=zh (HK8.out.below hb9 HK8.out.lt);have HK:Hid (∀W,Below W9.heap.size W9 W→(W.cell? ⟨W8.heap.size,0,none⟩=some (.int .i64 t.queue)∧W.cell? ⟨wr.heap.size,2,none⟩=some (.int .i64 x.queue)∧W.cell? ⟨wr.heap.size,3,none⟩=some (.int .i64 x.item.seq)∧W.cell? ⟨wr.heap.size,4,none⟩=some (.string x.item.key)∧W.cell? ⟨wr.heap.size,5,none⟩=some (.string x.item.body)∧W.cell? ⟨wr.heap.size,6,none⟩=some (.bool x.item.again)∧W.cell? ⟨wr.heap.size,7,none⟩=some (.int .i64 x.item.au))∧Below W9.heap.size W9 W):=fun W hW=>by
            have q9:=k9.below hW k9.lt;have q7:=HK9.out.below hW HK9.out.lt;exact⟨⟨by have:=q9.cell 0;simpa using this,q7.cell 2,q7.cell 3,q7.cell 4,q7.cell 5,q7.cell 6,q7.cell 7⟩,hW⟩
           obtain⟨bf,hbf⟩:=zo (Bl x.item);have HFN:Hid (∀W,(∃D:Prop,D∧Below W9.heap.size W9 W)→Calls Tryz.prog 127 #[.agg (zY x.item)] W fun e w'=>e= .returned (.bool bf)∧Below W.heap.size W w'):=fun W hW=>by
            obtain⟨_,_,hW⟩:=hW;have:=Zb x.item W (HC.out _ (HB9.out.trans (hW.mono HB9.out.size))).1.env HSMALL.out;rw[hbf] at this;exact this
           rw[hbf] at HF2 HF3;clear hb9 k9 hbf;subst ha2;go_upto_region 32 with fail
           clear d0 d1 f1 p2' p4'
           go_cut [116] from 116 to 165 (fun i wx=>i= .int .i64 j∧Below W9.heap.size W9 wx∧[decide (0≤t.queue),t.queue == x.queue,bf].contains false=false)
           case first=>
            cases hbs:[decide (0≤t.queue),t.queue == x.queue,bf].contains false
            ·have HBS:=zh hbs;clear hbs
             refine Jw (fun _ _ _=>False) (fun _ _ _ h=>h.elim) ?_;refine Kl [(0,false),(1,false),(2,false),(3,false),(4,false),(5,false),(6,false),(7,false),(8,false),(9,false),(10,true),(11,true),(12,true)] (by kernel_rfl) (fun hOrd=> ?_);refine zS HK hOrd (by kernel_rfl) (fun hHeld=> ?_);clear hOrd
             iterate 13 ((first|(refine zT ?_)|(refine zL ?_)|(refine NW.call rfl (fun K hK=> ?_);go_simp;(first|(go_at_call 127;have hfn:=HFN.out _ ⟨_,by assumption⟩;with_reducible refine hfn.mono ?_;clear hfn;rintro e wf ⟨rfl,hbf⟩;have hbf2:=Bq (by assumption) hbf;clear hbf)|(go_at_call 123;(first|refine(Lg [decide (0≤t.queue),t.queue == x.queue,bf] rfl rfl HBS.out (by simp)).mono ?_|refine(My [decide (0≤t.queue),t.queue == x.queue,bf] rfl rfl HBS.out (by simp)).mono ?_);rintro e wq ⟨rfl,rfl⟩));refine hK.out _ _ (by first|assumption|exact HK.out _ (B7 (by assumption) _)|exact HK.out _ (by assumption)) (fun hHeld=> ?_);clear hK K)|(refine NW.call rfl (fun K hK=> ?_);go_simp;refine hK.out _ _ (by first|assumption|exact HK.out _ (B7 (by assumption) _)|exact HK.out _ (by assumption)) (fun hHeld=> ?_);clear hK K));try simp only[Act.put,zA,zB,zC,zD,zE,zF])
             refine NW.done ?_;refine RQ.normal ?_;go_wp2_with fail
             go_meet
             exact⟨rfl,(by assumption:_∧Below W9.heap.size W9 _).2,HBS.out⟩
            ·have HBS:=zh hbs
             have HNF:=zh (Ek HP0.out HM.out (fun hf=>by have:=HF2.out hf;rw[hbs] at this;cases this));clear hbs;refine Jw (Qe w (w.heap.size+2) 1) (X8 hB2 HNF.out) ?_;refine wp_region_held_drew (S:=(fun W=>(W.cell? ⟨W8.heap.size,0,none⟩=some (.int .i64 t.queue)∧W.cell? ⟨wr.heap.size,2,none⟩=some (.int .i64 x.queue)∧W.cell? ⟨wr.heap.size,3,none⟩=some (.int .i64 x.item.seq)∧W.cell? ⟨wr.heap.size,4,none⟩=some (.string x.item.key)∧W.cell? ⟨wr.heap.size,5,none⟩=some (.string x.item.body)∧W.cell? ⟨wr.heap.size,6,none⟩=some (.bool x.item.again)∧W.cell? ⟨wr.heap.size,7,none⟩=some (.int .i64 x.item.au))∧Below W9.heap.size W9 W)) (by kernel_rfl) (by first|assumption|exact HK.out _ (zb _ _).drew|exact HK.out _ (B7 (by assumption) _)|exact HK.out _ (by assumption)) (fun hHeld=> ?_)
             first|(refine zH 0 ?_)|(refine zU 0 ?_)
             first|(refine zH 1 ?_)|(refine zU 1 ?_)
             first|(refine zH 2 ?_)|(refine zU 2 ?_)
             first|(refine zH 3 ?_)|(refine zU 3 ?_)
             first|(refine zH 4 ?_)|(refine zU 4 ?_)
             first|(refine zH 5 ?_)|(refine zU 5 ?_)
             first|(refine zH 6 ?_)|(refine zU 6 ?_)
             first|(refine zH 7 ?_)|(refine zU 7 ?_)
             first|(refine zH 8 ?_)|(refine zU 8 ?_)
             first|(refine zH 9 ?_)|(refine zU 9 ?_)
             first
              |refine zU 10 ?_
              |(refine zR 10 fun K hK=> ?_;go_simp;(first|(go_at_call 127;have hfn:=HFN.out _ ⟨_,by assumption⟩;with_reducible refine hfn.mono ?_;clear hfn;rintro e wf ⟨rfl,hbf⟩;have hbf2:=Bq (by assumption) hbf;clear hbf)|(go_at_call 123;(first|refine(Lf [decide (0≤t.queue),t.queue == x.queue,bf] rfl rfl HBS.out (by simp)).mono ?_|refine(Mx [decide (0≤t.queue),t.queue == x.queue,bf] rfl rfl HBS.out (by simp)).mono ?_);rintro e wq ⟨rfl,rfl⟩;exact Mv HC.out (fun _ h=>h.below) HB9.out (by assumption) rfl rfl));refine hK.out _ _ (by first|assumption|exact HK.out _ (zb _ _).drew|exact HK.out _ (B7 (by assumption) _)|exact HK.out _ (by assumption)) (fun hHeld=> ?_);clear hK K)
             try simp only[Act.put,zA,zB,zC,zD,zE,zF]
             (refine zR 11 fun K hK=> ?_;go_simp;refine hK.out _ _ (by first|assumption|exact HK.out _ (zb _ _).drew|exact HK.out _ (B7 (by assumption) _)|exact HK.out _ (by assumption)) (fun hHeld=> ?_);clear hK K)
             try simp only[Act.put,zA,zB,zC,zD,zE,zF]
             (refine zR 12 fun K hK=> ?_;go_simp;(first|(go_at_call 127;have hfn:=HFN.out _ ⟨_,by assumption⟩;with_reducible refine hfn.mono ?_;clear hfn;rintro e wf ⟨rfl,hbf⟩;have hbf2:=Bq (by assumption) hbf;clear hbf)|(go_at_call 123;(first|refine(Lf [decide (0≤t.queue),t.queue == x.queue,bf] rfl rfl HBS.out (by simp)).mono ?_|refine(Mx [decide (0≤t.queue),t.queue == x.queue,bf] rfl rfl HBS.out (by simp)).mono ?_);rintro e wq ⟨rfl,rfl⟩;exact Mv HC.out (fun _ h=>h.below) HB9.out (by assumption) rfl rfl)))
           case rest=>
            obtain⟨rfl,hbc,hthree⟩:=hcut;have HBC:=zm HB9 hbc;have HSC:=zh (HS9.out.below hbc);have hkc:=HK9.out.below hbc HK9.out.lt;have hout:=HF3.out hthree;have HOUT:=zh hout;clear hthree hout;have f0:=hkc.cell 0;have f3:=hkc.cell 3;have f4:=hkc.cell 4;have f5:=hkc.cell 5;have f6:=hkc.cell 6;have f7:=hkc.cell 7
            simp only[zI,zJ,zK] at f0 f3 f4 f5 f6 f7;have hgw:wr.heap.size≠g:=by
             obtain⟨D,hm',_⟩:=HSEEN.out.map;have:=hm'.lt;omega
            have HST3:=zh (HC.out _ HBC.out).1.state.2.2.2.1;have HF0:=zh f0;clear hbc hkc f0;go_wp2_with fail
            clear f3 f4 f5 f6 f7;by_cases hin:x.item.seq∈L
            ·have HNF:=zh (Ek HP0.out HM.out (Aje (p:=p) HPRE.out hin))
             refine(Afg x.item m g (w.heap.size+1) L s.ah _ HSC.out HST3.out hgm hst HSMALL.out.2.2.1 HSMALL.out.2.2.2.1 HL.out hin).mono ?_;rintro e WA ⟨rfl,hgA⟩;have HBA:=zh (below_grown HBC.out hgA hg0);clear hgA hin
             go_wp2_with fail
             exact K7 rfl rfl hB2 (HC.out _ HBA.out).2.1 (HC.out _ HBA.out).2.2 (HC.out _ HBA.out).1.below HNF.out
            ·by_cases hlow:s.ah≤x.item.seq
             ·have HNF:=zh (Ek HP0.out HM.out (Ajc (p:=p) HPRE.out hlow))
              refine(Aof x.item m g (w.heap.size+1) L s.ah _ HSC.out HST3.out hgm hst HSMALL.out.2.2.1 HSMALL.out.2.2.2.1 HL.out hin hlow).mono ?_;rintro e WA ⟨rfl,hgA⟩;have HBA:=zh (below_grown HBC.out hgA hg0);clear hgA hin hlow
              go_wp2_with fail
              exact K7 rfl rfl hB2 (HC.out _ HBA.out).2.1 (HC.out _ HBA.out).2.2 (HC.out _ HBA.out).1.below HNF.out
             ·refine(Aun x.item m g (w.heap.size+1) L s.ah _ HSC.out HST3.out hgm hst HSMALL.out.2.2.1 HSMALL.out.2.2.2.1 HL.out hin (by omega)).mono ?_
              rintro e WA ⟨rfl,hsA,hgA⟩;have HBA:=zh (below_grown HBC.out hgA hg0);have HSA:=zh hsA;have hfA:=Hv hgA HF0.out hgw;clear hgA hsA hin hlow;go_wp2_with fail
              exact⟨⟨j+1,hjl,by go_num,by rw[HLT.out],by rw[←HSTEP.out];exact HSA.out,fun y hy=>by
               rw[HTS.out] at hy;rcases List.mem_append.1 hy with h|h
               ·exact HOU.out y h
               ·rw[List.mem_singleton.1 h];exact HOUT.out,HORX.out HLA.out,HBA.out⟩,by simp[intOf];omega⟩
          ·have HNF:=zh (Ek HP0.out HM.out (fun hf=>by have:=HF1'.out hf;rw[hbs] at this;cases this))
           refine(Lf [decide (la < x.tag),decide (x.tag < s.af),decide (0≤x.bg),decide (x.bg < (s.ae.length:Int))] rfl rfl hbs (by simp)).mono ?_;clear hbs;rintro e W8 ⟨rfl,hw8⟩;have HB8:Hid (Below W0.heap.size W0 W8):=by
            refine(?_:Below W0.heap.size W0 W8);rw[hw8];exact HB7.out.alloc HB7.out.size _
           clear hw8;go_wp2_with fail
           exact K7 rfl rfl hB2 (HC.out _ HB8.out).2.1 (HC.out _ HB8.out).2.2 (HC.out _ HB8.out).1.below HNF.out
         ·obtain rfl:j=s.outs.length:=by omega
          have hseqs:=HSEEN.out;rw[List.take_length] at hseqs;have HFORM:Hid (Formed p s):=by
           refine(?_:Formed p s);have hf1:=HF1.out;have hou:∀x∈s.outs,Mt s x=true:=fun x hx=>HOU.out x (by rw[List.take_length];exact hx);have hor:=Afn (l:=s.outs) fun q hq=>HOR.out q hq hq;exact⟨hf1.1,hf1.2.1,hf1.2.2.1,hf1.2.2.2.1,hf1.2.2.2.2.1,hf1.2.2.2.2.2,HLINES.out,HTAKERS.out,hou,hor,hseqs.nodup,hseqs.low⟩
          clear hB hsat hseqs;go_wp2_with fail
          clear n0 n1 n2 n3 n4 n5 n6 n7
          go_loopw [169] (fun i wr=>Ayn p s W0 i wr) (fun i _=>s.ready.length - (intOf i).toNat)
          case atStart=>exact⟨0,by omega,rfl,fun q l x hq=>absurd hq (by omega),HB.out⟩
          case round=>
           clear HB HSEEN HOU HOR;obtain⟨j,hj,rfl,hlim,hB⟩:=hrel;have HB:=zh hB;have HLIM:=zh hlim;have hrd:=HSS.out.ready;clear hlim;obtain⟨⟨⟨m0,m1,m2⟩,⟨n0,n1,n2,n3,n4,n5,n6,n7⟩,_,_,hpat,hsat⟩,_,_⟩:=HC.out _ hB;by_cases hjl:j < s.ready.length
           ·have hltr:j < rows.length:=by omega
            have hltq:j < p.ag.length:=by have:=HF1.out.1;omega
            obtain⟨b,o,ha,_,hb,hc⟩:=Bf El (by decide) hsat.ready hltr;have e0:wr.cell? ⟨b,o+j,none⟩=some (.slice rows[j].at_ rows[j].items.length rows[j].cap):=by have:=hc 0 _ rfl;simpa using this
            obtain⟨b2,o2,ha2,_,hb2,hc2⟩:=Bf Hg (by decide) hpat.ag hltq;have d1:wr.cell? ⟨b2,o2+j * 3+1,none⟩=some (.int .i64 p.ag[j].bm):=hc2 1 _ rfl;have hit:s.ready[j]=rows[j].items:=by simp[←hsat.same]
            have HNR:=zh (Ajg (p:=p) (s:=s) hjl hltq);have HGQ:=zh (zG hltq);have HGR:=zh (zG hjl);have HIT:=zh hit;rw[hit] at HNR HGR;clear hc hc2 hsat hpat hB hit;generalize rows[j]=r at *;obtain⟨ra,rc,ri⟩:=r;dsimp only at e0 HNR HGR;generalize p.ag[j]=qd at *;subst ha ha2;go_wp2_with fail
            by_cases hle:(ri.length:Int)≤qd.bm
            ·have hleb:decide ((ri.length:Int)≤qd.bm)=true:=by simp[hle]
             refine(Lg [decide ((ri.length:Int)≤qd.bm)] rfl rfl (by rw[hleb];rfl) (by simp)).mono ?_;rintro e W8 ⟨rfl,hw8⟩;have HB8:Hid (Below W0.heap.size W0 W8):=by
              refine(?_:Below W0.heap.size W0 W8);rw[hw8];exact HB.out.alloc HB.out.size _
             have HLE:=zh hle;clear hw8 hle hleb m0 m1 m2 n0 n1 n2 n3 n4 n5 n6 n7;go_wp2_with fail
             exact⟨⟨j+1,hjl,by go_num,fun q l' x' hq hl' hx'=>by
              rcases Nat.lt_or_ge q j with h|h
              ·exact HLIM.out q l' x' h hl' hx'
              ·obtain rfl:q=j:=by omega
               rw[HGR.out] at hl';rw[HGQ.out] at hx'
               cases hl';cases hx'
               exact HLE.out,HB8.out⟩,by simp[intOf];omega⟩
            ·have hleb:decide ((ri.length:Int)≤qd.bm)=false:=by simp;omega
             have HNF:=zh (Jp HP0.out HM.out HFORM.out (HNR.out (by omega)));refine(Lf [decide ((ri.length:Int)≤qd.bm)] rfl rfl (by rw[hleb];rfl) (by simp)).mono ?_;rintro e W8 ⟨rfl,hw8⟩;have HB8:Hid (Below W0.heap.size W0 W8):=by
              refine(?_:Below W0.heap.size W0 W8);rw[hw8];exact HB.out.alloc HB.out.size _
             clear hw8 hle hleb m0 m1 m2 n0 n1 n2 n3 n4 n5 n6 n7;go_wp2_with fail
             exact K7 rfl rfl hB2 (HC.out _ HB8.out).2.1 (HC.out _ HB8.out).2.2 (HC.out _ HB8.out).1.below HNF.out
           ·obtain rfl:j=s.ready.length:=by omega
            have HLIMIT:Hid (Jc p s=true):=N0.2 fun q l x hl hx=>HLIM.out q l x (List.getElem?_eq_some_iff.1 hl).1 hl hx;clear hB hsat hpat;go_wp2_with fail
            clear m0 m1 m2 n0 n1 n2 n3 n4 n5 n6 n7
            go_loopw [189] (fun i wr=>Ayo s W0 i wr) (fun i _=>s.ae.length - (intOf i).toNat)
            case atStart=>exact⟨0,by omega,rfl,fun k t hk=>absurd hk (by omega),HB.out⟩
            case round=>
             clear HB HLIM;obtain⟨j,hj,rfl,hhe,hB⟩:=hrel;have HB:=zh hB;have HHE:=zh hhe;clear hhe;obtain⟨⟨⟨m0,m1,m2⟩,⟨n0,n1,n2,n3,n4,n5,n6,n7⟩,_,_,_,hsat⟩,_,_⟩:=HC.out _ hB;by_cases hjl:j < s.ae.length
             ·obtain⟨b,o,ha,_,hb,hc⟩:=Bf Dg (by decide) hsat.ae hjl
              obtain⟨e0,e1⟩:=Gx (wr:=wr) (b:=b) (o:=o) (k:=j) (x:=s.ae[j]) fun q u hu=>hc q u hu;have HNR:=zh (Anv (p:=p) (s:=s) hjl);have HGT:=zh (zG hjl);clear hc hsat hB;generalize s.ae[j]=t at *;obtain⟨W9,hW9⟩:=zo (wr.alloc (.cells #[.int .i64 t.queue,.int .i64 t.cf] 147));have hb9:=zu hW9
              have k9:=zw hW9
              have HB9:=zm HB hb9;obtain⟨hn,hhn⟩:=zo (Ck s j);subst ha;have HK:Hid (∀W,Below W9.heap.size W9 W→(W.cell? ⟨wr.heap.size,1,none⟩=some (.int .i64 t.cf)∧W.cell? ⟨w.heap.size+1,0,none⟩=some (.slice a1 s.ready.length c1)∧W.cell? ⟨w.heap.size+1,1,none⟩=some (.slice a2 s.outs.length c2)∧W.cell? ⟨w.heap.size+1,2,none⟩=some (.slice (some ⟨b,o,none⟩) s.ae.length c3)∧W.cell? ⟨w.heap.size+1,3,none⟩=some (.int .i64 s.ah)∧W.cell? ⟨w.heap.size+1,4,none⟩=some (.int .i64 s.af)∧W.cell? ⟨w.heap.size+1,5,none⟩=some (.int .i64 s.aw)∧W.cell? ⟨w.heap.size+1,6,none⟩=some (.int .i64 s.ar)∧W.cell? ⟨w.heap.size+1,7,none⟩=some (.int .i64 s.dropped))∧Below W9.heap.size W9 W):=fun W hW=>by
               have q9:=k9.below hW k9.lt;have h:=(HC.out W (HB9.out.trans (hW.mono HB9.out.size))).1.state;exact⟨⟨by have:=q9.cell 1;simpa using this,h⟩,hW⟩
              have HFN:Hid (∀W,(∃D:Prop,D∧Below W9.heap.size W9 W)→Calls Tryz.prog 128 #[.agg (zV s a1 a2 (some ⟨b,o,none⟩) c1 c2 c3),.int .i64 (j:Int)] W fun e w'=>e= .returned (.int .i64 (hn:Int))∧Below W.heap.size W w'):=fun W hW=>by
               obtain⟨_,_,hW⟩:=hW;have:=Akw s a1 a2 (some ⟨b,o,none⟩) c1 c2 c3 (j:Int) 0 W (HC.out _ (HB9.out.trans (hW.mono HB9.out.size))).1.bc.outs HSS.out.outs;rw[hhn] at this;exact this
              rw[hhn] at HNR;have HHN:=zh hhn;clear hb9 k9 hhn;go_upto_region 44 with fail
              clear m0 m1 m2 n0 n1 n2 n3 n4 n5 n6 n7 e0 e1
              cases hbs:[decide ((hn:Int)≤t.cf)].contains false
              ·have HBS:=zh hbs;clear hbs
               refine Jw (fun _ _ _=>False) (fun _ _ _ h=>h.elim) ?_;refine Kl [(0,false),(1,false),(3,false),(4,false),(2,true),(5,false),(6,true),(7,true)] (by kernel_rfl) (fun hOrd=> ?_);refine zS HK hOrd (by kernel_rfl) (fun hHeld=> ?_);clear hOrd
               iterate 8 ((first|(refine zT ?_)|(refine zL ?_)|(refine NW.call rfl (fun K hK=> ?_);go_simp;(first|(go_at_call 128;have hfn:=HFN.out _ ⟨_,by assumption⟩;with_reducible refine hfn.mono ?_;clear hfn;rintro e wf ⟨rfl,hbf⟩;have hbf2:=Bq (by assumption) hbf;clear hbf)|(go_at_call 123;(first|refine(Lg [decide ((hn:Int)≤t.cf)] rfl rfl HBS.out (by simp)).mono ?_|refine(My [decide ((hn:Int)≤t.cf)] rfl rfl HBS.out (by simp)).mono ?_);rintro e wq ⟨rfl,rfl⟩));refine hK.out _ _ (by first|assumption|exact HK.out _ (B7 (by assumption) _)|exact HK.out _ (by assumption)) (fun hHeld=> ?_);clear hK K)|(refine NW.call rfl (fun K hK=> ?_);go_simp;refine hK.out _ _ (by first|assumption|exact HK.out _ (B7 (by assumption) _)|exact HK.out _ (by assumption)) (fun hHeld=> ?_);clear hK K));try simp only[Act.put,zA,zB,zC,zD,zE,zF])
               refine NW.done ?_;refine RQ.normal ?_;go_wp2_with fail
               exact⟨⟨j+1,hjl,by go_num,fun k' t' hk' ht'=>by
                rcases Nat.lt_or_ge k' j with h|h
                ·exact HHE.out k' t' h ht'
                ·obtain rfl:k'=j:=by omega
                 rw[HGT.out] at ht'
                 cases ht'
                 rw[HHN.out];exact of_decide_eq_true (Ahy HBS.out _ (by simp)),HB9.out.trans ((by assumption:_∧Below W9.heap.size W9 _).2.mono HB9.out.size)⟩,by simp[intOf];omega⟩
              ·have HBS:=zh hbs
               have HNF:=zh (Jp HP0.out HM.out HFORM.out (HNR.out (by
                rcases Int.lt_or_le t.cf (hn:Int) with h|h
                ·exact h
                ·rw[decide_eq_true h] at hbs;cases hbs)))
               clear hbs;refine Jw (Qe w (w.heap.size+2) 3) (X8 hB2 HNF.out) ?_;refine wp_region_held_drew (S:=(fun W=>(W.cell? ⟨wr.heap.size,1,none⟩=some (.int .i64 t.cf)∧W.cell? ⟨w.heap.size+1,0,none⟩=some (.slice a1 s.ready.length c1)∧W.cell? ⟨w.heap.size+1,1,none⟩=some (.slice a2 s.outs.length c2)∧W.cell? ⟨w.heap.size+1,2,none⟩=some (.slice (some ⟨b,o,none⟩) s.ae.length c3)∧W.cell? ⟨w.heap.size+1,3,none⟩=some (.int .i64 s.ah)∧W.cell? ⟨w.heap.size+1,4,none⟩=some (.int .i64 s.af)∧W.cell? ⟨w.heap.size+1,5,none⟩=some (.int .i64 s.aw)∧W.cell? ⟨w.heap.size+1,6,none⟩=some (.int .i64 s.ar)∧W.cell? ⟨w.heap.size+1,7,none⟩=some (.int .i64 s.dropped))∧Below W9.heap.size W9 W)) (by kernel_rfl) (by first|assumption|exact HK.out _ (zb _ _).drew|exact HK.out _ (B7 (by assumption) _)|exact HK.out _ (by assumption)) (fun hHeld=> ?_)
               first|(refine zH 0 ?_)|(refine zU 0 ?_)
               first|(refine zH 1 ?_)|(refine zU 1 ?_)
               first|(refine zH 3 ?_)|(refine zU 3 ?_)
               first|(refine zH 4 ?_)|(refine zU 4 ?_)
               first
                |refine zU 2 ?_
                |(refine zR 2 fun K hK=> ?_;go_simp;(first|(go_at_call 128;have hfn:=HFN.out _ ⟨_,by assumption⟩;with_reducible refine hfn.mono ?_;clear hfn;rintro e wf ⟨rfl,hbf⟩;have hbf2:=Bq (by assumption) hbf;clear hbf)|(go_at_call 123;(first|refine(Lf [decide ((hn:Int)≤t.cf)] rfl rfl HBS.out (by simp)).mono ?_|refine(Mx [decide ((hn:Int)≤t.cf)] rfl rfl HBS.out (by simp)).mono ?_);rintro e wq ⟨rfl,rfl⟩;exact Mv HC.out (fun _ h=>h.below) HB9.out (by assumption) rfl rfl));refine hK.out _ _ (by first|assumption|exact HK.out _ (zb _ _).drew|exact HK.out _ (B7 (by assumption) _)|exact HK.out _ (by assumption)) (fun hHeld=> ?_);clear hK K)
               try simp only[Act.put,zA,zB,zC,zD,zE,zF]
               first|(refine zH 5 ?_)|(refine zU 5 ?_)
               (refine zR 6 fun K hK=> ?_;go_simp;refine hK.out _ _ (by first|assumption|exact HK.out _ (zb _ _).drew|exact HK.out _ (B7 (by assumption) _)|exact HK.out _ (by assumption)) (fun hHeld=> ?_);clear hK K)
               try simp only[Act.put,zA,zB,zC,zD,zE,zF]
               (refine zR 7 fun K hK=> ?_;go_simp;(first|(go_at_call 128;have hfn:=HFN.out _ ⟨_,by assumption⟩;with_reducible refine hfn.mono ?_;clear hfn;rintro e wf ⟨rfl,hbf⟩;have hbf2:=Bq (by assumption) hbf;clear hbf)|(go_at_call 123;(first|refine(Lf [decide ((hn:Int)≤t.cf)] rfl rfl HBS.out (by simp)).mono ?_|refine(Mx [decide ((hn:Int)≤t.cf)] rfl rfl HBS.out (by simp)).mono ?_);rintro e wq ⟨rfl,rfl⟩;exact Mv HC.out (fun _ h=>h.below) HB9.out (by assumption) rfl rfl)))
             ·obtain rfl:j=s.ae.length:=by omega
              have HHELD:Hid (Lt s=true):=Pz.2 fun k t ht=>HHE.out k t (List.getElem?_eq_some_iff.1 ht).1 ht;have HRANGE:Hid ((Jc p s && Lt s)=true):=(by rw[HLIMIT.out,HHELD.out];rfl:(Jc p s && Lt s)=true);clear hB hsat;obtain⟨hw1,hw2,hw3⟩:=Aqm (s:=s) HF1.out.2.2.2.2.1 HF1.out.2.2.2.2.2 HSS.out.lying HSS.out.outs;go_wp2_with fail
              cases hq:Adv s
              ·have HNF:=zh (Li HP0.out HM.out HFORM.out HRANGE.out hq)
               refine(Lf [s.aw == (lyK s s.ready.length:Int)+(s.outs.length:Int)+s.ar+s.dropped,s.aw == s.ah] rfl rfl (by rw[Aj1,hq];rfl) (by simp)).mono ?_;clear hq;rintro e W8 ⟨rfl,hw8⟩;have HB8:Hid (Below W0.heap.size W0 W8):=by
                refine(?_:Below W0.heap.size W0 W8);rw[hw8];exact HB.out.alloc HB.out.size _
               clear hw8 hw1 hw2 hw3 m0 m1 m2 n0 n1 n2 n3 n4 n5 n6 n7;go_wp2_with fail
               exact K7 rfl rfl hB2 (HC.out _ HB8.out).2.1 (HC.out _ HB8.out).2.2 (HC.out _ HB8.out).1.below HNF.out
              ·have HOK:=zh (Mr HP0.out HM.out HFORM.out HRANGE.out hq)
               refine(Lg [s.aw == (lyK s s.ready.length:Int)+(s.outs.length:Int)+s.ar+s.dropped,s.aw == s.ah] rfl rfl (by rw[Aj1,hq];rfl) (by simp)).mono ?_;clear hq;rintro e W8 ⟨rfl,hw8⟩;have HB8:Hid (Below W0.heap.size W0 W8):=by
                refine(?_:Below W0.heap.size W0 W8);rw[hw8];exact HB.out.alloc HB.out.size _
               clear hw8 hw1 hw2 hw3 m0 m1 m2 n0 n1 n2 n3 n4 n5 n6 n7;obtain⟨hin8,r0,rf⟩:=HC.out _ HB8.out;have HBE:Hid (Below w.heap.size w (W8.setCell ⟨w.heap.size+2,0,none⟩ (.int .i64 0))):=hin8.below.setCell (p:=⟨w.heap.size+2,0,none⟩) hB2 _;have HR0:=zh (World.cell?_setCell_same W8 ⟨w.heap.size+2,0,none⟩ (.int .i64 0) r0);clear hin8;go_wp2_with fail
               exact Amx rfl rfl HR0.out HBE.out HOK.out
  ·have HR:=zh (Pk (s:=s) HP0.out (by omega))
   have hmb:decide ((s.ae.length:Int)≤4)=false:=by simp;omega
   go_wp2_with fail
   refine(Lf [false] rfl rfl (by decide) (by decide)).mono ?_;rintro e W2 ⟨rfl,rfl⟩;have HB2:=zh (HB1.out.alloc HB1.out.size (.cells #[.bool false] 4));go_wp2_with fail
   exact K7 rfl rfl hB2 (HC.out _ HB2.out).2.1 (HC.out _ HB2.out).2.2 (HC.out _ HB2.out).1.below HR.out
 ·have HR:=zh (Pm (s:=s) h0)
  have h0b:(Bc p == 0)=false:=by simp[h0]
  clear h0;have HB3:Hid (Below w.heap.size w (W1.setCell ⟨w.heap.size+2,0,none⟩ (.int .i64 (Bc p)))):=(HC.out _ HB1.out).1.below.setCell (p:=⟨w.heap.size+2,0,none⟩) hB2 _;have HR0:=zh (World.cell?_setCell_same W1 ⟨w.heap.size+2,0,none⟩ (.int .i64 (Bc p)) r0);go_wp2_with fail
  exact Amx rfl rfl HR0.out HB3.out HR.out
end Go.Proofs.YtpkneogjdfolaaaGreatDoor
