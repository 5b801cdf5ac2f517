/- Lemmas. -/
import Derived.Test.YtpkneogjdfolaaaGreatDoorBunS
set_option maxHeartbeats 20000000
set_option maxRecDepth 100000
set_option linter.unusedSimpArgs false
set_option linter.unusedVariables false
namespace Go.Proofs.YtpkneogjdfolaaaGreatDoor
open Go Go.RowKit
def ra1_T(g Pb m cl n:Nat)(al:zZ)(t:Array Value):Array Value:=fj [[gd t 0,zt g,.slice al m cl,zt Pb,gd t 4,gd t 5,.int .i64 0,.int .i64 (n:Int)],fr t 8 62]
theorem Ajr{g Pb m cl n:Nat}{al:zZ}{t:Array Value}(h:t=(ra1_T g Pb m cl n al t)):∃u:Nat→Value,t= #[u 0,zt g,.slice al m cl,zt Pb,u 4,u 5,.int .i64 0,.int .i64 (n:Int),u 8,u 9,u 10,u 11,u 12,u 13,u 14,u 15,u 16,u 17,u 18,u 19,u 20,u 21,u 22,u 23,u 24,u 25,u 26,u 27,u 28,u 29,u 30,u 31,u 32,u 33,u 34,u 35,u 36,u 37,u 38,u 39,u 40,u 41,u 42,u 43,u 44,u 45,u 46,u 47,u 48,u 49,u 50,u 51,u 52,u 53,u 54,u 55,u 56,u 57,u 58,u 59,u 60,u 61,u 62,u 63,u 64,u 65,u 66,u 67,u 68,u 69]:=⟨fun i=>t.getD i undef,h⟩
noncomputable def Azq:Code:=It Tryz.f113 0
def ArR(lo g Pb:Nat)(p:Ab)(p1 p2 p3:zZ)(q1 q2 q3:Nat)(v1 v2 v3:Value)(s:Aa)(l:List Aj)(w:zW)(n:Nat)(al:zZ)(cl:Nat)(L:List Aj)(W:zW):Prop:=
 ∃(rows:List Bm)(s1:Aa),Ed W lo g v1 v2 v3 rows s1∧M0 W lo al L∧L.length≤cl∧Im p s l n (s1,L)∧Bk W Pb 26 (zP p p1 p2 p3 q1 q2 q3)∧Au W 0 lo p1 p2 p3 p∧Below lo w W
def Aod(lo g Pb:Nat)(p:Ab)(p1 p2 p3:zZ)(q1 q2 q3:Nat)(v1 v2 v3:Value)(s:Aa)(l:List Aj)(w:zW)(a:Act)(wr:zW):Prop:=
 ∃(t:Array Value)(n m cl:Nat)(al:zZ)(L:List Aj),t=(ra1_T g Pb m cl n al t)∧m=L.length∧ArR lo g Pb p p1 p2 p3 q1 q2 q3 v1 v2 v3 s l w n al cl L wr∧a=⟨t,[]⟩
theorem Axg(lo g Pb:Nat)(p:Ab)(p1 p2 p3:zZ)(q1 q2 q3:Nat)(hr:B8 p)(hs:Ai p)(v1 v2 v3:Value)(s:Aa)(l:List Aj)(w:zW)(hsq:s.ah≤524288)(hw:wC (s,l)≤700)(Q0:Exit→Act→zW→Prop)
  (hend:∀(t:Array Value)(n m cl:Nat)(al:zZ)(W:zW),t=(ra1_T g Pb m cl n al t)→(∃rows s1,Ed W lo g v1 v2 v3 rows s1∧Im p s l n (s1,[])∧Below lo w W)→Q0 (.exit 0) ⟨t,[]⟩ W) (t:Array Value) (n m cl:Nat) (al:zZ) (L:List Aj) (W:zW) (ht:t=(ra1_T g Pb m cl n al t)) (hm:m=L.length) (hW:ArR lo g Pb p p1 p2 p3 q1 q2 q3 v1 v2 v3 s l w n al cl L W):
  (Code.loop Azq).wp Tryz.prog Q0 ⟨t,[]⟩ W:=by
 refine wp_loop (Aod lo g Pb p p1 p2 p3 q1 q2 q3 v1 v2 v3 s l w) (fun a _=>701 - (intOf (a.tmps.getD 7 undef)).toNat) ⟨t,n,m,cl,al,L,ht,hm,hW,rfl⟩ ?_;clear ht hm hW t n m cl al L W;rintro a' wr ⟨t,n,m,cl,al,L,ht,rfl,⟨rows,s1,hS,hWt,hcl,hR,hPb,hpa,hB⟩,rfl⟩;obtain⟨u,rfl⟩:=Ajr ht;clear ht;have HEND:=zh hend;clear hend;have hn7:n≤700:=by have:=hR.less;omega
 conv=>arg 2;whnf
 cases L with
 |nil=>
  have HF:Hid (∃rows s1,Ed wr lo g v1 v2 v3 rows s1∧Im p s l n (s1,[])∧Below lo w wr):=zh ⟨rows,s1,hS,hR,hB⟩;clear hS hWt hR hPb hpa hB
  go_wp2
  exact HEND.out _ n 0 cl al _ rfl HF.out
 |cons a L=>
  have hsq1:s1.ah < 1048576:=by have h:=hR.seq;simp only at h;omega
  have hwa:=hR.ok.wait a List.mem_cons_self;obtain⟨k,hpre⟩:∃k,Akv p s1 a k:=Ani hR.ok.right hsq1 hwa;have HNX:Hid (Im p s l (n+1) (Fv p (s1,a::L))):=zh (hR.next hsq hw);have hkq:=hpre.kq;have hle:lo≤wr.heap.size:=hS.size;have hkl:=hpre.kl;have hslen:=hpre.len;obtain⟨A1,C1,hv1,_⟩:=Ae hS.held.ready;subst hv1;obtain⟨gr,rfl⟩:=Fs hS.held.ready (by omega);have hrow:s1.ready[k]? =some (Ak s1 k):=by
   have h1:k < s1.ready.length:=by omega
   rw[Ev (show((k:Int)).toNat < s1.ready.length by omega),zG h1];rfl
  obtain⟨gb,ob,rfl,_,_,hx⟩:=Bf D4 (by decide) (hWt.sl hle) (show 0 < (a::L).length by simp);have x0:wr.cell? ⟨gb,ob,none⟩=some (.int .i64 a.queue):=by simpa using hx 0 _ rfl
  have x1:wr.cell? ⟨gb,ob+1,none⟩=some (.string a.key):=by simpa using hx 1 _ rfl
  have x2:wr.cell? ⟨gb,ob+2,none⟩=some (.string a.body):=by simpa using hx 2 _ rfl
  have x3:wr.cell? ⟨gb,ob+3,none⟩=some (.int .i64 a.au):=by simpa using hx 3 _ rfl
  rw[hkq] at x0;have HKQ:=zh hkq;clear hkq;obtain⟨X1,hX1⟩:=zo (wr.alloc (.cells #[.int .i64 (k:Int),.string a.key,.string a.body,.int .i64 a.au] 142));have kb1:Bk X1 wr.heap.size 142 #[.int .i64 (k:Int),.string a.key,.string a.body,.int .i64 a.au]:=by rw[←hX1];exact Bk.new _ _ _
  have hb1:=zu hX1
  obtain⟨X2,hX2⟩:=zo (X1.alloc (.cells #[] 142));have hb2:=zu hX2
  have hbb:Below wr.heap.size wr X2:=hb1.trans (hb2.mono hb1.size);have hz0:X2.ownsRow lo 142 4 (.slice (some ⟨X1.heap.size,0,none⟩) 0 0) 0 []:=by
   rw[←hX2];exact World.ownsRow_lit _ #[] 0 (zr hle hb1.size) (by decide) rfl
  have hcut:=Av4 (some ⟨gb,ob,none⟩) (L.length+1) cl (by omega);have hsl2:Sl X2 0 X2.heap.size (E6 (some ⟨gb,ob,none⟩) cl 1 4) (L.flatMap Bp):=by
   have h:=(((hWt.sl hle).below hbb (zn _)).wider (lo':=0) (hi':=X2.heap.size) (zn _) hbb.size).cut (n:=L.length+1) (cap:=cl) (k:=1) (size:=4) (by rw[Dd D4,List.length_cons]) (by omega) (by simpa using hcl);have hd:((a::L).flatMap Bp).drop (1 * 4)=L.flatMap Bp:=by rw[List.flatMap_cons];rfl
   rwa [hd] at h
  obtain⟨v3',X3,hr3,hb3,ho3'⟩:=Ep (P:=Tryz.prog) X2 139 139 142 Tryz.underlying139 Ou rfl (by decide) (by decide) ⟨X1.heap.size,0,none⟩ 0 X2.heap.size (E6 (some ⟨gb,ob,none⟩) cl 1 4) L.length (cl - 1) (L.flatMap Bp) (Dd D4 _) hsl2 (by have h:=hR.less;have h2:=Afs s1 (a::L);simp at h2;omega);have ho3:X3.ownsRow lo 142 4 v3' L.length (L.flatMap Bp):=by
   rcases ho3' with⟨_,h1⟩|⟨h0,rfl,rfl⟩
   ·exact Da h1 (zr hle hbb.size)
   ·have:L=[]:=List.eq_nil_of_length_eq_zero h0
    subst this;exact hz0
  obtain⟨A3,C3,rfl,_⟩:=Ae ho3;have hb13:Below wr.heap.size wr X3:=hbb.trans (hb3.mono hbb.size);have HR3:=zh hr3;have HO3:=zh ho3;have HB3:=zh hb13;have hll1:(L.length:Int)+1 - 1=(L.length:Int):=by omega
  clear hz0 hsl2 ho3' ho3 hr3 hx;have hS3:=hS.since hb13;have hle3:lo≤X3.heap.size:=hS3.size;obtain⟨ra,rc,hrc,hrsl,hcell⟩:=hS3.held.rowAt rfl hrow;have HOKN:=zh hpre.ok;have HSTEP:Hid (∀nl,Bt (Ak s1 k) (Co s1 a)=nl→Fv p (s1,a::L)=((Rv p ⟨s1.ready.set k nl,s1.outs,s1.ae,s1.ah+1,s1.af,s1.aw+1,s1.ar,s1.dropped⟩ k).1,L++(Rv p ⟨s1.ready.set k nl,s1.outs,s1.ae,s1.ah+1,s1.af,s1.aw+1,s1.ar,s1.dropped⟩ k).2)):=zh fun nl hnl=>by
   have h1:Ei p (Fe s1) (k:Int) (Co s1 a)=Rv p ⟨s1.ready.set k nl,s1.outs,s1.ae,s1.ah+1,s1.af,s1.aw+1,s1.ar,s1.dropped⟩ (k:Int):=by
    rw[Ai1 (show((k:Int)).toNat < (Fe s1).ready.length from by show k < s1.ready.length;omega)];rw[show Bt (Ak (Fe s1) (k:Int)) (Co s1 a)=nl from hnl];rfl
   show((Ei p (Fe s1) a.queue (Co s1 a)).1,L++(Ei p (Fe s1) a.queue (Co s1 a)).2)=_
   rw[HKQ.out,h1]
  have HPUSH0:=Vx ra rc (Ak s1 k) (Co s1 a) lo X3.drew (hrsl.keep (Ah.oqb (ts:=[]) (zb _ _).drew) (by simp)).sl (by have:=hpre.short;omega);generalize hline:Ak s1 k=line at *;obtain⟨nl,hnl⟩:=zo (Bt line (Co s1 a));rw[hnl] at HPUSH0 HOKN;have HST:=zh (HSTEP.out nl hnl);have HPUSH:Hid (Calls Tryz.prog 110 #[.slice ra line.length rc,.agg #[.int .i64 s1.ah,.string a.key,.string a.body,.bool false,.int .i64 a.au]] X3.drew fun e w'=>∃v,e= .returned v∧w'.ownsRow X3.heap.size 113 5 v nl.length (nl.flatMap Ax)∧Below X3.heap.size X3 w'):=zh (HPUSH0.mono fun e w' ⟨v,h1,h2,h3⟩=>⟨v,h1,h2,((zb _ _).drew:Below X3.heap.size X3 X3.drew).trans h3⟩);have hbx3:Bk X3 wr.heap.size 142 #[.int .i64 (k:Int),.string a.key,.string a.body,.int .i64 a.au]:=kb1.below (hb2.trans (hb3.mono hb2.size)) kb1.lt;have HAFTER:Hid (∀(w5:zW)(Ar:zZ)(Cr:Nat),w5.ownsRow X3.heap.size 113 5 (.slice Ar nl.length Cr) nl.length (nl.flatMap Ax)→nl.length≤Cr→Below X3.heap.size X3 w5→(zM w5 g 0 (.slice (some ⟨gr,0,none⟩) s1.ready.length C1)∧zM w5 g 3 (.int .i64 s1.ah)∧zM w5 wr.heap.size 0 (.int .i64 (k:Int))∧zM w5 wr.heap.size 1 (.string a.key)∧zM w5 wr.heap.size 2 (.string a.body)∧zM w5 wr.heap.size 3 (.int .i64 a.au))∧((w5.setCell ⟨gr,k,none⟩ (.slice Ar nl.length Cr)).cell? ⟨g,0,none⟩=some (.slice (some ⟨gr,0,none⟩) s1.ready.length C1)∧(w5.setCell ⟨gr,k,none⟩ (.slice Ar nl.length Cr)).cell? ⟨g,3,none⟩=some (.int .i64 s1.ah)∧(w5.setCell ⟨gr,k,none⟩ (.slice Ar nl.length Cr)).cell? ⟨wr.heap.size,0,none⟩=some (.int .i64 (k:Int))∧(w5.setCell ⟨gr,k,none⟩ (.slice Ar nl.length Cr)).cell? ⟨wr.heap.size,1,none⟩=some (.string a.key)∧(w5.setCell ⟨gr,k,none⟩ (.slice Ar nl.length Cr)).cell? ⟨wr.heap.size,2,none⟩=some (.string a.body)∧(w5.setCell ⟨gr,k,none⟩ (.slice Ar nl.length Cr)).cell? ⟨wr.heap.size,3,none⟩=some (.int .i64 a.au))∧(zM w5 gr k (.slice ra line.length rc)∧w5.frozen? ⟨gr,k,none⟩=false∧gr < w5.heap.size)∧Ed (w5.setCell ⟨gr,k,none⟩ (.slice Ar nl.length Cr)) lo g (.slice (some ⟨gr,0,none⟩) s1.ready.length C1) v2 v3 (rows.set k ⟨Ar,Cr,nl⟩) { s1 with ready:=s1.ready.set k nl } ∧Bk (w5.setCell ⟨gr,k,none⟩ (.slice Ar nl.length Cr)) wr.heap.size 142 #[.int .i64 (k:Int),.string a.key,.string a.body,.int .i64 a.au]∧Ah [132] X3 (w5.setCell ⟨gr,k,none⟩ (.slice Ar nl.length Cr))∧Below lo X3 (w5.setCell ⟨gr,k,none⟩ (.slice Ar nl.length Cr))):=zh fun w5 Ar Cr n1 hcr n2=>by
   have h5:=hS3.since n2;have hset:=h5.rowSet (k:=k) rfl Ar Cr nl ((SlT.cu n1).wider hle3) hcr;have hb5:=hbx3.below n2 hbx3.lt;have hb6:=hset.2.1 _ _ _ (by decide) hb5;exact⟨⟨h5.box.cell 0,h5.box.cell 3,hb5.cell 0,hb5.cell 1,hb5.cell 2,hb5.cell 3⟩,⟨hset.1.box.cell 0,hset.1.box.cell 3,hb6.cell 0,hb6.cell 1,hb6.cell 2,hb6.cell 3⟩,hcell [] w5 (by simp) (Ah.oqb n2),hset.1,hb6,(Ah.oqb n2).trans hset.2.1,(n2.mono hle3).trans hset.2.2⟩
  have e0:(X3.drew.cell? ⟨g,0,none⟩=some (.slice (some ⟨gr,0,none⟩) s1.ready.length C1)∧X3.drew.cell? ⟨g,3,none⟩=some (.int .i64 s1.ah)∧X3.drew.cell? ⟨wr.heap.size,0,none⟩=some (.int .i64 (k:Int))∧X3.drew.cell? ⟨wr.heap.size,1,none⟩=some (.string a.key)∧X3.drew.cell? ⟨wr.heap.size,2,none⟩=some (.string a.body)∧X3.drew.cell? ⟨wr.heap.size,3,none⟩=some (.int .i64 a.au)):=⟨hS3.box.cell 0,hS3.box.cell 3,hbx3.cell 0,hbx3.cell 1,hbx3.cell 2,hbx3.cell 3⟩;have z0:X3.drew.cell? ⟨gr,k,none⟩=some (.slice ra line.length rc):=(hcell [] X3 (by simp) (Ah.refl _ _)).1;have HP3:Hid (Bk X3 Pb 26 (zP p p1 p2 p3 q1 q2 q3)):=zh (hPb.below hb13 hPb.lt);have HPA:=zh (hpa.below (hb13.mono hle) (zn _));have hj2:(k:Int) < (s1.ready.length:Int):=by omega
  have HSS:=zh (zi hslen hpre.dropped);have hw1:IntKind.i64.wrap (s1.ah+1)=s1.ah+1:=IntWalk.i64_in _ (by have:=hpre.ah;omega);have hw2:IntKind.i64.wrap (s1.aw+1)=s1.aw+1:=IntWalk.i64_in _ (by have:=hpre.aw;omega);have HBW:=zh (hB.trans (hb13.mono hle));have HLL:=zh (show L.length≤1400 from by have h:=hR.less;have h2:=Afs s1 (a::L);simp at h2;omega);have HR:Hid (∀(t:Array Value)(n' m' cl':Nat)(al':zZ)(L':List Aj)(W:zW),n'=n+1→t=fj [[gd t 0,zt g,.slice al' m' cl',zt Pb,gd t 4,gd t 5,.int .i64 0,.int .i64 (n':Int)],fr t 8 62]→m'=L'.length→ArR lo g Pb p p1 p2 p3 q1 q2 q3 (.slice (some ⟨gr,0,none⟩) s1.ready.length C1) v2 v3 s l w (n+1) al' cl' L' W→Aod lo g Pb p p1 p2 p3 q1 q2 q3 (.slice (some ⟨gr,0,none⟩) s1.ready.length C1) v2 v3 s l w ⟨t,[]⟩ W):=
   zh fun t n' m' cl' al' L' W hn' ht hm' hW=>⟨t,n',m',cl',al',L',ht,hm',by rw[hn'];exact hW,rfl⟩
  clear HSTEP HPUSH0 hbx3 hcell hrsl hrc hrow hS hWt hcl hR hPb hpa hB hS3 hwa hpre kb1 hb1 hb2 hb3 hbb hb13 hnl hline HEND hslen hkl hle3 hsq1;go_wp2_with (first|(at_builtin;refine Lib.wpList_append_run _ rfl _ _ _ _ rfl _ _ rfl rfl _ _ HR3.out ?_)|fail)
  clear x0 x1 x2 x3 hcut hX1 hX2;refine Jo ?_;refine Kl [(0,false),(1,false),(2,false),(3,false),(4,false),(5,false),(6,false),(7,false),(8,false),(9,false),(10,false),(11,false),(12,false),(14,false),(15,false),(16,false),(17,false),(18,false),(19,false),(20,false),(21,false),(22,false),(23,false),(24,false),(13,true),(25,true),(26,false),(27,true)] (by kernel_rfl) (fun hOrd=> ?_);refine Rt (S:=(fun W=>(zM W g 0 (.slice (some ⟨gr,0,none⟩) s1.ready.length C1)∧zM W g 3 (.int .i64 s1.ah)∧zM W wr.heap.size 0 (.int .i64 (k:Int))∧zM W wr.heap.size 1 (.string a.key)∧zM W wr.heap.size 2 (.string a.body)∧zM W wr.heap.size 3 (.int .i64 a.au)))) hOrd (by kernel_rfl) (by first|assumption|exact e0|exact e6|exact e5) (fun hHeld=> ?_);clear hOrd
  iterate 28 ((first|(refine zT ?_)|(refine zL ?_)|(refine NW.call rfl (fun K hK=> ?_);go_simp;((go_at_call 110;(with_reducible refine HPUSH.out.mono ?_);rintro e w5 ⟨v5,rfl,n1,n2⟩;obtain⟨Ar,Cr,rfl,hcr⟩:=Ae n1;have hA:=HAFTER.out w5 Ar Cr n1 hcr n2;have e5:=hA.1;have e6:=hA.2.1;obtain⟨z5,f5,l5⟩:=hA.2.2.1;have HA5:=zh hA.2.2.2;clear hA n1 n2 hcr));refine zk hK (by first|assumption|exact e0|exact e6|exact e5) (fun hHeld=> ?_);clear hK K)|(refine NW.call rfl (fun K hK=> ?_);go_simp;refine hK.out _ _ (by first|assumption|exact e0|exact e6|exact e5) (fun hHeld=> ?_);clear hK K)))
  refine NW.done ?_;refine RQ0.normal ?_;obtain⟨Y,hYY⟩:=zo (w5.setCell ⟨gr,k,none⟩ (.slice Ar nl.length Cr));rw[hYY] at HA5;rw[hYY];clear e0 e5 e6 z0 z5 f5 l5 hHeld hYY;obtain⟨Z1,hZ1⟩:=zo (Y.setCell ⟨g,3,none⟩ (.int .i64 (s1.ah+1)));obtain⟨r1,k1,b1⟩:=HA5.out.1.num 3 (.int .i64 (s1.ah+1)) (s1.ah+1) s1.af s1.aw s1.ar s1.dropped rfl;rw[hZ1] at r1 k1 b1;obtain⟨Z2,hZ2⟩:=zo (Z1.setCell ⟨g,5,none⟩ (.int .i64 (s1.aw+1)));obtain⟨r2,k2,b2⟩:=r1.num 5 (.int .i64 (s1.aw+1)) (s1.ah+1) s1.af (s1.aw+1) s1.ar s1.dropped rfl;rw[hZ2] at r2 k2 b2;have y3:=HA5.out.1.box.cell 3;have fy:=HA5.out.1.box.frozen 3;have ly:=HA5.out.1.box.lt;have y5:=r1.box.cell 5;have f5:=r1.box.frozen 5;have l5:=r1.box.lt;simp only[Ey,zI,zJ,zK] at y3 y5;have kY2:Ah [132,40] Y Z2:=(k1.trans k2).more (by simp);have k32:Ah [132,40] X3 Z2:=(HA5.out.2.2.1.more (by simp)).trans kY2;have b32:Below lo X3 Z2:=HA5.out.2.2.2.trans (b1.trans b2);have hx2:=kY2 _ _ _ (by decide) HA5.out.2.1;have x0:=hx2.cell 0;have hp2:=k32 _ _ _ (by decide) HP3.out;have j0:=hp2.cell 0;have j1:=hp2.cell 1;have j2:=hp2.cell 2;simp only[zI,zJ,zK] at x0 j0 j1 j2;have hlS:Ak ⟨s1.ready.set k nl,s1.outs,s1.ae,s1.ah+1,s1.af,s1.aw+1,s1.ar,s1.dropped⟩ (k:Int)=nl:=by
   rw[Ev (by show((k:Int)).toNat < (s1.ready.set k nl).length;rw[List.length_set];omega)];simp
  have HSHED:=zh (Acu lo g p p1 p2 p3 q1 q2 q3 hr hs _ v2 v3 _ ⟨s1.ready.set k nl,s1.outs,s1.ae,s1.ah+1,s1.af,s1.aw+1,s1.ar,s1.dropped⟩ k Z2 (HPA.out.below b32 (zn _)) r2 (by have:=HSS.out.1;omega) (by show(s1.ready.set k nl).length=_;rw[List.length_set];exact HSS.out.1) (by rw[hlS];exact HOKN.out) HSS.out.2 (Tw hr (by have:=HSS.out.1;omega)).1);have HO2:=zh (Dl HO3.out k32 (by decide));have HK2:=zh (zi k32 (zi b32 hp2));clear r1 k1 b1 r2 k2 b2 kY2 k32 b32 hx2 hp2 hlS;go_wp2_with fail
  refine HSHED.out.mono ?_;rintro e w6 ⟨v6,rows6,rfl,r6,o6,k6,b6⟩;have hst:=HST.out;have hnx:=HNX.out;obtain⟨⟨s3,new⟩,hc2⟩:∃c2,Rv p ⟨s1.ready.set k nl,s1.outs,s1.ae,s1.ah+1,s1.af,s1.aw+1,s1.ar,s1.dropped⟩ (k:Int)=c2:=⟨_,rfl⟩;rw[hc2] at r6 o6 hst;simp only at r6 o6 hst;rw[hst] at hnx;have hlen7:(L++new).length≤1400:=by
   have h:=hnx.less;have h2:=Afs s3 (L++new);omega
  obtain⟨A6,C6,rfl,_⟩:=Ae o6;have ho6:=Dl HO2.out k6 (by decide);obtain⟨v7,w7,hr7,ho7,hg7⟩:=Oc w6 lo _ L new A6 C6 _ _ ho6 (SlT.cu o6).sl (by rw[ze] at hlen7;omega) r6.size 139;obtain⟨A7,C7,rfl,hc7⟩:=Ae ho7;have k7:Ah [142] w6 w7:=Ah.grown ho6 hg7 (by simp);have b7:Below lo w6 w7:=Br ho6 hg7 (zb _ _) (zn _) r6.size;have b67:=HK2.out.2.1.trans (b6.trans b7);have HN:Hid (ArR lo g Pb p p1 p2 p3 q1 q2 q3 (.slice (some ⟨gr,0,none⟩) s1.ready.length C1) v2 v3 s l w (n+1) A7 C7 (L++new) w7):=zh
   ⟨rows6,s3,r6.kept k7 b7 (by decide) (by decide) (by decide) (by decide) (by decide),M0.own ho7,hc7,hnx,k7 _ _ _ (by decide) (k6 _ _ _ (by decide) HK2.out.2.2),HPA.out.below b67 (zn _),HBW.out.trans b67⟩
  have HR7:=zh hr7;clear r6 o6 k6 b6 ho6 ho7 hg7 k7 b7 b67 hr7 hst hnx hc2 hlen7 x0 j0 j1 j2 y3 fy ly y5 f5 l5;go_wp2_with (first|(at_builtin;refine Lib.wpList_append_run _ rfl _ _ _ _ rfl _ _ rfl rfl _ _ HR7.out ?_)|fail)
  exact⟨HR.out _ _ _ _ _ _ _ rfl rfl (by simp) HN.out,by simp[intOf];omega⟩
theorem Vf(lo g:Nat)(p:Ab)(p1 p2 p3:zZ)(q1 q2 q3:Nat)(hr:B8 p)(hs:Ai p)(v1 v2 v3:Value)(rows:List Bm)(s:Aa)(l:List Aj)(al:zZ)(cl:Nat)(w:zW)(H:Ed w lo g v1 v2 v3 rows s)(hp:Au w 0 lo p1 p2 p3 p)(hwt:M0 w lo al l)(hcl:l.length≤cl)(hok:O4 p (s,l))(hsq:s.ah≤524288)(hw:wC (s,l)≤700):
  Calls Tryz.prog 113 #[.agg (zP p p1 p2 p3 q1 q2 q3),zt g,.slice al l.length cl] w fun e W=>e= .returned (.int .i64 ((Dv p s l).ah - s.ah))∧∃rows',Ed W lo g v1 v2 v3 rows' (Dv p s l)∧Below lo w W:=by
 obtain⟨W0,hW0⟩:=zo (w.alloc (.cells (zP p p1 p2 p3 q1 q2 q3) 26));have hX:=zw hW0
 have hb0:=zu hW0
 have hbl:=hb0.mono H.size;have HIN:Hid (ArR lo g w.heap.size p p1 p2 p3 q1 q2 q3 v1 v2 v3 s l w 0 al cl l W0):=zh
  ⟨rows,s,H.since hb0,hwt.kept (Ah.oqb (ts:=[]) hb0) hbl (by simp),hcl,.start hok,hX,hp.below hbl (zn _),hbl⟩
 clear hX hb0 hbl H hp hwt;go_enter Tryz.func113,Tryz.ntmps113
 go_wp2_with fail
 refine Axg lo g w.heap.size p p1 p2 p3 q1 q2 q3 hr hs v1 v2 v3 s l w hsq hw _ ?_ _ 0 l.length cl al l W0 rfl rfl HIN.out;rintro t n m cl al W ht ⟨rows1,s1,h1,h2,h3⟩;obtain⟨u,rfl⟩:=Ajr ht;have HE:=zh (h2.end_ hw);have H1:=zh (zi h1 h3);clear ht h1 h2 h3
 go_wp2
 go_ret
 refine⟨?_,rows1,?_,H1.out.2⟩
 ·rw[HE.out.1,HE.out.2]
  rfl
 ·rw[HE.out.1]
  exact H1.out.1
theorem R7(p:Ab)(s:Aa)(l:List Aj)(p1 p2 p3 a1 a2 a3 al:zZ)(q1 q2 q3 c1 c2 c3 cl:Nat)(rows:List Bm)(w:zW)(hE:Env w)(hp:Au w 0 w.heap.size p1 p2 p3 p)(hps:Ai p)(hs:Av w 0 w.heap.size a1 a2 a3 rows s)(hss:Ap s)(hsi:A9 s)
  (hl:Sl w 0 w.heap.size al (l.flatMap Bp)) (hll:l.length≤1048576) (hlc:l.length≤cl) (hsm:∀a∈l,Iz a):
  Calls Tryz.prog 104 #[Ay p p1 p2 p3 q1 q2 q3,Ad s a1 a2 a3 c1 c2 c3,.slice al l.length cl] w (Gj (Cy p s l) (E3 p s l) (Bh p s l) w):=by
 have hbx:=Cj q1 q2 q3 c1 c2 c3 hE hp hs 26 40;unfold Ag at hbx;unfold Ad Ay Ag;have htl:=hss.ae;have HPS:=zh hps;have HSS:=zh hss;have HSI:=zh hsi;clear hE hp hs hps hss hsi;go_enter Tryz.func104,Tryz.ntmps104
 obtain⟨⟨m0,m1,m2⟩,⟨n0,n1,n2,n3,n4,n5,n6,n7⟩,_,_,_,_⟩:=hbx _ ((zb _ _).alloc (zn _) (.cells zO 40));go_wp2_with fail
 clear m0 m1 m2 n0 n1 n2 n3 n4 n5 n6 n7;obtain⟨V0,hV0⟩:=zo ((w.alloc (.cells (zP p p1 p2 p3 q1 q2 q3) 26)).alloc (.cells (zV s a1 a2 a3 c1 c2 c3) 40));have hzV:V0.heap.size=w.heap.size+1+1:=by rw[←hV0];simp
 rw[hV0] at hbx;have HBV:=zh hbx;obtain⟨W0,hW0⟩:=zo (V0.alloc (.cells zO 40));have hbV:=zu hW0
 have HZ:Hid (W0.heap.size=w.heap.size+1+1+1):=by refine(?_:W0.heap.size=_);rw[←hW0,←hzV];simp
 have HBX:Hid (∀W,Below W0.heap.size W0 W→Me w p s p1 p2 p3 a1 a2 a3 q1 q2 q3 c1 c2 c3 rows W∧Bk W (w.heap.size+1+1) 40 zeroCells):=fun W hW=>by
  have k:Bk W0 (w.heap.size+1+1) 40 zeroCells:=by rw[←hW0];exact Bk.cg _ _ _ hzV.symm
  exact⟨HBV.out W (hbV.trans (hW.mono hbV.size)),k.below hW k.lt⟩
 rw[hV0,hW0];clear hbx hbV hzV HBV hV0 hW0;have HERR:Hid (∀err,Bh p s l=err→err≠0→∀W,Below w.heap.size w W→Gj (Cy p s l) (E3 p s l) (Bh p s l) w (.returned (.tuple #[Ad Bd none none none 0 0 0,.int .i64 0,.int .i64 err])) W):=fun err h h0 W hb=>Ams h h0 w W hb;have HSLW:Hid (∀W,Below W0.heap.size W0 W→Sl W 0 W.heap.size al (l.flatMap Bp)):=fun W hW=>(hl.below (HBX.out W hW).1.below (zn _)).wider (zn _) (HBX.out W hW).1.below.size;have hcall:=Aag p s l p1 p2 p3 a1 a2 a3 al q1 q2 q3 c1 c2 c3 cl rows W0 (HBX.out _ (zb _ _)).1.env (HBX.out _ (zb _ _)).1.bu HPS.out (HBX.out _ (zb _ _)).1.bc HSS.out HSI.out (HSLW.out _ (zb _ _)) hll hsm;clear hl hsm;unfold Ad Ay Ag at hcall;refine hcall.mono ?_;clear hcall;rintro e W1 ⟨rfl,hb1⟩;have HB1:=zh hb1;clear hb1;by_cases hc:Bh p s l=0
 ·have b1:(Bh p s l != 0)=false:=by simp[hc]
  have HOK:=zh (zi hc (Oj hc));clear hc;obtain⟨n0,n1,n2,n3,n4,n5,n6,n7⟩:=(HBX.out _ HB1.out).1.state;go_wp2_with fail
  have hcall:=Ke s a1 a2 a3 c1 c2 c3 rows W1 (HBX.out _ HB1.out).1.bc HSS.out;unfold Ad Ag at hcall;refine hcall.mono ?_;clear hcall n0 n1 n2 n3 n4 n5 n6 n7;rintro e W5 ⟨v1,v2,v3,rows5,rfl,ho5,hb5⟩;unfold Ey;obtain⟨W6,hW6⟩:=zo (W5.alloc (.cells #[v1,v2,v3,.int .i64 s.ah,.int .i64 s.af,.int .i64 s.aw,.int .i64 s.ar,.int .i64 s.dropped] 40));have kb6:Bk W6 W5.heap.size 40 (Ey s v1 v2 v3):=by rw[←hW6];exact Bk.new _ _ _
  have hal6:=zu hW6
  have hb16:Below W1.heap.size W1 W6:=hb5.trans (hal6.mono hb5.size);have HB6:=zm HB1 hb16;obtain⟨A1,C1,rfl,_⟩:=Ae ho5.ready;obtain⟨A2,C2,rfl,_⟩:=Ae ho5.outs;obtain⟨A3,C3,rfl,_⟩:=Ae ho5.ae;have HCALL:=zh (Vf W1.heap.size W5.heap.size p p1 p2 p3 q1 q2 q3 (Cp HOK.out.2.1.right.bz) HPS.out _ _ _ rows5 s l al cl W6
   ⟨hb16.size,kb6,(ho5.below hal6).held,hb5.size⟩ ((HBX.out _ HB1.out).1.bu.below hb16 (zn _)) (.inl ((HSLW.out _ HB1.out).below hb16 (zn _))) hlc HOK.out.2.1 HOK.out.2.2.2 (Aj5 HOK.out.2.1.right HOK.out.2.2.1))
  clear ho5 hb5 kb6 hal6 hb16;obtain⟨m0,m1,m2⟩:=(HBX.out _ HB6.out).1.bz;go_wp2_with fail
  refine HCALL.out.mono ?_;clear m0 m1 m2;rintro e W8 ⟨rfl,rows8,h8,hb8⟩;have HFS:Hid (Cy p s l=Dv p s l∧E3 p s l=(Dv p s l).ah - s.ah):=zh ⟨by unfold Cy;rw[zp HOK.out.1],by unfold E3;rw[zp HOK.out.1]⟩;generalize Dv p s l=s8 at *;have HB8:=zh (HB6.out.trans (hb8.mono HB1.out.size));have g0:=h8.box.cell 0;have g1:=h8.box.cell 1;have g2:=h8.box.cell 2;have g3:=h8.box.cell 3;have g4:=h8.box.cell 4;have g5:=h8.box.cell 5;have g6:=h8.box.cell 6;have g7:=h8.box.cell 7;simp only[Ey,zI,zJ,zK] at g0 g1 g2 g3 g4 g5 g6 g7;have HH8:=zh h8;clear h8 hb8;have hzk:=(HBX.out _ HB8.out).2;have HZS:=zh hzk;unfold zeroCells at hzk;obtain⟨k0,k1,k2,k3,k4,k5,k6,k7,f0,f1,f2,f3,f4,f5,f6,f7,hlt⟩:=Af hzk;clear hzk;have HLO:=zh (zr (HBX.out _ (zb _ _)).1.below.size HB1.out.size);go_wp2_with fail
  refine bodyPost_ret (v:= .tuple #[.agg #[.slice A1 s.ready.length C1,.slice A2 s.outs.length C2,.slice A3 s.ae.length C3,.int .i64 s8.ah,.int .i64 s8.af,.int .i64 s8.aw,.int .i64 s8.ar,.int .i64 s8.dropped],.int .i64 (s8.ah - s.ah),.int .i64 0]) (by simp[results,Tryz.results104,go_sem,k0,k1,k2,k3,k4,k5,k6,k7,hlt]) rfl ?_;have hfin:=HH8.out.held.kept (Ah.dg HZS.out (ts:=[40]) (by decide) (.slice A1 s.ready.length C1) (.slice A2 s.outs.length C2) (.slice A3 s.ae.length C3) (.int .i64 s8.ah) (.int .i64 s8.af) (.int .i64 s8.aw) (.int .i64 s8.ar) (.int .i64 s8.dropped));obtain⟨_,e1,e2,e3⟩:=hfin.bc;rw[HFS.out.1,HFS.out.2,HOK.out.1];refine⟨A1,A2,A3,C1,C2,C3,rows8,?_,hfin.lens HLO.out,Al (HBX.out _ HB8.out).1.below (by omega) _ _ _ _ _ _ _ _⟩;unfold Ad Ag;rw[e1,e2,e3]
 ·have b1:(Bh p s l != 0)=true:=by simp[hc]
  obtain⟨k0,k1,k2,k3,k4,k5,k6,k7,f0,f1,f2,f3,f4,f5,f6,f7,hlt⟩:=Af (HBX.out _ HB1.out).2;go_wp2_with fail
  refine bodyPost_ret (v:= .tuple #[Ad Bd none none none 0 0 0,.int .i64 0,.int .i64 (Bh p s l)]) (by simp[results,Tryz.results104,go_sem,Ad,Ag,Bd,k0,k1,k2,k3,k4,k5,k6,k7,hlt]) rfl
   (HERR.out _ rfl hc _ (Al (HBX.out _ HB1.out).1.below (by omega) _ _ _ _ _ _ _ _))
end Go.Proofs.YtpkneogjdfolaaaGreatDoor
