/- Lemmas. -/
import Derived.Test.YtpkneogjdfolaaaGreatDoorBunCA
set_option maxHeartbeats 20000000
set_option maxRecDepth 100000
set_option linter.unusedSimpArgs false
set_option linter.unusedVariables false
namespace Go.Proofs.YtpkneogjdfolaaaGreatDoor
open Go Go.RowKit
structure Arn (lo tb pb:Nat) (p:Ab) (p1 p2 p3:zZ) (q1 q2 q3:Nat) (t0:Int) (W:zW):Prop where
 bz:Au W 0 lo p1 p2 p3 p
 env:Og lo W
 cells:zM W pb 0 (.slice p1 p.aj.length q1)∧zM W pb 1 (.slice p2 p.ag.length q2)∧zM W pb 2 (.slice p3 p.binds.length q3)
 bg:W.cell? ⟨tb,0,none⟩=some (.int .i64 t0)
 pl:pb < lo
 tl:tb < lo
theorem Arn.keep{lo tb pb:Nat}{p:Ab}{p1 p2 p3:zZ}{q1 q2 q3:Nat}{t0:Int}{W W':zW}(h:Arn lo tb pb p p1 p2 p3 q1 q2 q3 t0 W)(hb:Below lo W W'):Arn lo tb pb p p1 p2 p3 q1 q2 q3 t0 W':=
 ⟨h.bz.below hb (zn _),h.env.keep fun p hp=>hb.cell hp,⟨(hb.cell (p:=⟨pb,0,none⟩) h.pl).trans h.cells.1,(hb.cell (p:=⟨pb,1,none⟩) h.pl).trans h.cells.2.1,(hb.cell (p:=⟨pb,2,none⟩) h.pl).trans h.cells.2.2⟩,(hb.cell (p:=⟨tb,0,none⟩) h.tl).trans h.bg,h.pl,h.tl⟩
theorem Auq{W W':zW}{B:Nat}{al:zZ}{us:List Value}{v:Value}(h:SlT W B 115 al us)(hk:KO v W W')(hv:∀b,B≤b→v.ownBlock≠some b):SlT W' B 115 al us:=by
 rcases h with h|⟨b,o,cs,ha,h1,hb,hc⟩
 ·exact .inl h
 ·exact .inr ⟨b,o,cs,ha,h1,hk b cs (hv b h1) hb,hc⟩
structure LvR (lo g tb pb B n cl:Nat) (al:zZ) (p:Ab) (p1 p2 p3:zZ) (q1 q2 q3:Nat) (s:Aa) (t0:Int) (v0:Value) (w:zW) (i:Nat) (c:Aa) (v1 v2 v3:Value) (rows:List Bm) (W:zW):Prop where
 at_:Fo p s t0 i c
 st:Ed W lo g v1 v2 v3 rows c
 own:v2.ownBlock=v0.ownBlock
 cl:SlT W B 115 al (s.outs.flatMap D6)
 in_:Arn lo tb pb p p1 p2 p3 q1 q2 q3 t0 W
 below:Below lo w W
theorem LvR.since{lo g tb pb B n cl:Nat}{al:zZ}{p:Ab}{p1 p2 p3:zZ}{q1 q2 q3:Nat}{s:Aa}{t0:Int}{v0:Value}{w:zW}{i:Nat}{c:Aa}{v1 v2 v3:Value}{rows:List Bm}{W W':zW}(h:LvR lo g tb pb B n cl al p p1 p2 p3 q1 q2 q3 s t0 v0 w i c v1 v2 v3 rows W)(hb:Below W.heap.size W W'):LvR lo g tb pb B n cl al p p1 p2 p3 q1 q2 q3 s t0 v0 w i c v1 v2 v3 rows W':=
 ⟨h.at_,h.st.since hb,h.own,h.cl.keep (Ah.oqb (ts:=[]) hb) (by simp),h.in_.keep (hb.mono h.st.size),h.below.trans (hb.mono h.st.size)⟩
def lv1_T(g tb pb n cl i:Nat)(al:zZ)(t:Array Value):Array Value:=fj [[zt g,zt tb,zt pb,gd t 3,.int .i64 0],fr t 5 29,[.slice al n cl,.int .i64 (n:Int),.int .i64 (i:Int)],fr t 37 23]
theorem Ai7{g tb pb n cl i:Nat}{al:zZ}{t:Array Value}(h:t=(lv1_T g tb pb n cl i al t)):∃u:Nat→Value,t= #[zt g,zt tb,zt pb,u 3,.int .i64 0,u 5,u 6,u 7,u 8,u 9,u 10,u 11,u 12,u 13,u 14,u 15,u 16,u 17,u 18,u 19,u 20,u 21,u 22,u 23,u 24,u 25,u 26,u 27,u 28,u 29,u 30,u 31,u 32,u 33,.slice al n cl,.int .i64 (n:Int),.int .i64 (i:Int),u 37,u 38,u 39,u 40,u 41,u 42,u 43,u 44,u 45,u 46,u 47,u 48,u 49,u 50,u 51,u 52,u 53,u 54,u 55,u 56,u 57,u 58,u 59]:=⟨fun i=>t.getD i undef,h⟩
def lvr_T(err:Int)(t:Array Value):Array Value:=fj [fr t 0 4,[.int .i64 err],fr t 5 55]
theorem Atm{err:Int}{t:Array Value}(h:t=(lvr_T err t)):∃u:Nat→Value,t= #[u 0,u 1,u 2,u 3,.int .i64 err,u 5,u 6,u 7,u 8,u 9,u 10,u 11,u 12,u 13,u 14,u 15,u 16,u 17,u 18,u 19,u 20,u 21,u 22,u 23,u 24,u 25,u 26,u 27,u 28,u 29,u 30,u 31,u 32,u 33,u 34,u 35,u 36,u 37,u 38,u 39,u 40,u 41,u 42,u 43,u 44,u 45,u 46,u 47,u 48,u 49,u 50,u 51,u 52,u 53,u 54,u 55,u 56,u 57,u 58,u 59]:=⟨fun i=>t.getD i undef,h⟩
noncomputable def Azj:Code:=It Tryz.f142 0
def Anr(lo g tb pb B n cl:Nat)(al:zZ)(p:Ab)(p1 p2 p3:zZ)(q1 q2 q3:Nat)(s:Aa)(t0:Int)(v0:Value)(w:zW)(a:Act)(wr:zW):Prop:=
 ∃(t:Array Value)(i:Nat)(c:Aa)(v1 v2 v3:Value)(rows:List Bm),t=(lv1_T g tb pb n cl i al t)∧i≤n∧LvR lo g tb pb B n cl al p p1 p2 p3 q1 q2 q3 s t0 v0 w i c v1 v2 v3 rows wr∧a=⟨t,[]⟩
theorem Awt(lo g tb pb B n cl:Nat)(al:zZ)(p:Ab)(p1 p2 p3:zZ)(q1 q2 q3:Nat)(s:Aa)(t0:Int)(v0:Value)(w:zW)(hn:s.outs.length=n)(hn2:n≤1048576)(hps:Ai p)(hv0:∀b,B≤b→v0.ownBlock≠some b)(Q0:Exit→Act→zW→Prop)
  (hend:∀(t:Array Value)(i:Nat)(c:Aa)(v1 v2 v3:Value)(rows:List Bm)(W:zW),t=(lv1_T g tb pb n cl i al t)→LvR lo g tb pb B n cl al p p1 p2 p3 q1 q2 q3 s t0 v0 w n c v1 v2 v3 rows W→Q0 (.exit 0) ⟨t,[]⟩ W)
  (hret:∀(t:Array Value)(err:Int)(W:zW),t=(lvr_T err t)→err≠0→(Ib p t0 s.outs s).2=err→Below lo w W→Q0 .ret ⟨t,[]⟩ W)
  (t:Array Value) (i:Nat) (c:Aa) (v1 v2 v3:Value) (rows:List Bm) (W:zW) (ht:t=(lv1_T g tb pb n cl i al t)) (hi:i≤n) (hW:LvR lo g tb pb B n cl al p p1 p2 p3 q1 q2 q3 s t0 v0 w i c v1 v2 v3 rows W):
  (Code.loop Azj).wp Tryz.prog Q0 ⟨t,[]⟩ W:=by
 refine wp_loop (Anr lo g tb pb B n cl al p p1 p2 p3 q1 q2 q3 s t0 v0 w) (fun a _=>n - (intOf (a.tmps.getD 36 undef)).toNat) ⟨t,i,c,v1,v2,v3,rows,ht,hi,hW,rfl⟩ ?_;clear ht hi hW t i c v1 v2 v3 rows W;rintro a' wr ⟨t,i,c,v1,v2,v3,rows,ht,hi,hR,rfl⟩;obtain⟨u,rfl⟩:=Ai7 ht;clear ht;have HEND:=zh hend;have HRET:=zh hret;have HV0:=zh hv0;have HPS:=zh hps;have HN:=zh hn;clear hend hret hv0 hps
 conv=>arg 2;whnf
 by_cases hlt:i < n
 ·have hlt2:i < s.outs.length:=by omega
  have hj2:(i:Int) < (n:Int):=by omega
  obtain⟨b,o,rfl,_,_,hc⟩:=Bf Dx (by decide) hR.cl.sl hlt2;obtain⟨e0,e1,e2,e3,e4,e5,e6,e7⟩:=Gd (wr:=wr) (b:=b) (o:=o) (k:=i) (x:=s.outs[i]) hc;have HRR:=zh hR;have HSK:=zh (fun h=>hR.at_.skip hlt2 h);have HBK:=zh (fun h1 h2=>hR.at_.back hlt2 h1 h2);have HST:=zh (fun h1 h2=>hR.at_.stop hlt2 h1 h2);have HR:Hid (∀t:Array Value,∀(i':Nat)(c:Aa)(v1 v2 v3:Value)(rows:List Bm),i'=i+1→t=fj [[zt g,zt tb,zt pb,gd t 3,.int .i64 0],fr t 5 29,[.slice (some ⟨b,o,none⟩) n cl,.int .i64 (n:Int),.int .i64 (i':Int)],fr t 37 23]→∀W,LvR lo g tb pb B n cl (some ⟨b,o,none⟩) p p1 p2 p3 q1 q2 q3 s t0 v0 w (i+1) c v1 v2 v3 rows W→Anr lo g tb pb B n cl (some ⟨b,o,none⟩) p p1 p2 p3 q1 q2 q3 s t0 v0 w ⟨t,[]⟩ W):=
   zh fun t i' c v1 v2 v3 rows hi' ht W hW=>⟨t,i',c,v1,v2,v3,rows,ht,by omega,by rw[hi'];exact hW,rfl⟩
  clear hc hR;generalize s.outs[i]=x at *;obtain⟨X1,hX1⟩:=zo (wr.alloc (.cells #[.int .i64 x.tag,.int .i64 x.bg,.int .i64 x.queue,.int .i64 x.item.seq,.string x.item.key,.string x.item.body,.bool x.item.again,.int .i64 x.item.au] 115));have hb1:=zu hX1
  have kx1:=zw hX1
  have h1:=HRR.out.since hb1;have x0:=kx1.cell 0;have x1:=kx1.cell 1;have tc:=h1.in_.bg;obtain⟨m0,m1,m2⟩:=h1.in_.cells;simp only[zI,zJ,zK] at x0 x1;have H1:=zh h1;clear hb1 kx1 h1;by_cases hx:x.bg=t0
  ·have bx:(x.bg != t0)=false:=by simp[hx]
   have HX:=zh hx;clear hx;go_wp2_with fail
   clear hX1 e0 e1 e2 e3 e4 e5 e6 e7 x0 x1 tc m0 m1 m2;refine(Acm lo g p p1 p2 p3 q1 q2 q3 c H1.out.at_.right HPS.out x.tag true v1 v2 v3 rows X1 H1.out.in_.bz H1.out.in_.env H1.out.st).mono ?_;rintro e W2 ⟨rfl,hb2,h2⟩;have HB2:=zh (H1.out.below.trans hb2);have HI2:=zh (H1.out.in_.keep hb2);have HH2:=zh h2;clear hb2 h2;by_cases he:Az p c x.tag=0
   ·have be:(Az p c x.tag != 0)=false:=by simp[he]
    obtain⟨v1',v2',v3',rows',h3,ho3,hk3⟩:=HH2.out he;have HNX:=zh (show LvR lo g tb pb B n cl (some ⟨b,o,none⟩) p p1 p2 p3 q1 q2 q3 s t0 v0 w (i+1) (Cb p c x.tag true) v1' v2' v3' rows' W2 from⟨HBK.out HX.out he,h3,ho3.trans H1.out.own,Auq H1.out.cl hk3 (fun b hb=>by rw[H1.out.own];exact HV0.out b hb),HI2.out,HB2.out⟩);clear h3 ho3 hk3 he;go_wp2_with fail
    exact⟨HR.out _ _ _ _ _ _ _ rfl rfl _ HNX.out,by simp[intOf];omega⟩
   ·have be:(Az p c x.tag != 0)=true:=by simp[he]
    have HE:=zh (zi he (by rw[(HST.out HX.out he).1]:(Ib p t0 s.outs s).2=Az p c x.tag));clear he;go_wp2_with fail
    exact HRET.out _ _ _ rfl HE.out.1 HE.out.2 HB2.out
  ·have bx:(x.bg != t0)=true:=by simp[hx]
   have HNX:=zh (show LvR lo g tb pb B n cl (some ⟨b,o,none⟩) p p1 p2 p3 q1 q2 q3 s t0 v0 w (i+1) c v1 v2 v3 rows X1 from⟨HSK.out hx,H1.out.st,H1.out.own,H1.out.cl,H1.out.in_,H1.out.below⟩);clear hx;go_wp2_with fail
   exact⟨HR.out _ _ _ _ _ _ _ rfl rfl _ HNX.out,by simp[intOf];omega⟩
 ·obtain rfl:i=n:=by omega
  have hj3:¬ (i:Int) < (i:Int):=by omega
  have HF:=zh hR;clear hR;go_wp2_with fail
  exact HEND.out _ i _ _ _ _ _ _ rfl HF.out
theorem Zr:∀(l:List Cf)(k:Nat)(h:k < l.length)(q:Int),(l.flatMap Ez).set (k * 2) (.int .i64 q)=(l.set k ⟨q,l[k].cf⟩).flatMap Ez
 |x::l,0,_,q=>rfl
 |x::l,k+1,h,q=>by
  have ih:=Zr l k (by simpa using h) q;rw[List.flatMap_cons,zC,List.flatMap_cons,zF,←ih];unfold Ez;rw[show(k+1) * 2=k * 2+1+1 by omega];rfl
theorem Ca.takersTo{ts:List TypeId}{w w':zW}{lo:Nat}{v1 v2 v3 v3':Value}{rows:List Bm}{s:Aa}{l:List Cf}(h:Ca w lo v1 v2 v3 rows s)(hk:Ah ts w w')(ho:w'.ownsRow lo 147 2 v3' l.length (l.flatMap Ez))
  (h1:132∉ts:=by decide) (h2:113∉ts:=by decide) (h4:115∉ts:=by decide):Ca w' lo v1 v2 v3' rows { s with ae:=l } :=
 ⟨h.same,Dl h.ready hk h1,fun r hr=>⟨(h.row r hr).1.keep hk h2,(h.row r hr).2⟩,Dl h.outs hk h4,ho⟩
theorem Ed.gone{w:zW}{lo g g3 C3 k:Nat}{v1 v2:Value}{rows:List Bm}{s:Aa}(H:Ed w lo g v1 v2 (.slice (some ⟨g3,0,none⟩) s.ae.length C3) rows s)(hk:k < s.ae.length):
  (w.cell? ⟨g3,k * 2,none⟩=some (.int .i64 s.ae[k].queue)∧w.frozen? ⟨g3,k * 2,none⟩=false∧g3 < w.heap.size)∧Ed (w.setCell ⟨g3,k * 2,none⟩ (.int .i64 (-1))) lo g v1 v2 (.slice (some ⟨g3,0,none⟩) s.ae.length C3) rows { s with ae:=s.ae.set k ⟨-1,s.ae[k].cf⟩ } ∧Below lo w (w.setCell ⟨g3,k * 2,none⟩ (.int .i64 (-1))):=by
 have h1:=H.held.ae.stored (k * 2) (.int .i64 (-1));have hkt:Ah [147] w (w.setCell ⟨g3,k * 2,none⟩ (.int .i64 (-1))):=Ah.grown H.held.ae h1.2 (by simp);have hlt:=H.held.ae.lt g3 rfl;have hb:Below lo w (w.setCell ⟨g3,k * 2,none⟩ (.int .i64 (-1))):=(zb _ _).setCell (p:=⟨g3,k * 2,none⟩) hlt.1 _;refine⟨⟨?_,H.held.ae.frozenAt _,hlt.2⟩,⟨zr H.size hb.size,hkt _ _ _ (by decide) H.box,H.held.takersTo hkt ?_,H.gl⟩,hb⟩
 ·rw[H.held.ae.cellAt _ (by omega)]
  exact(flat_get Dg _ k hk 0 (by decide)).trans rfl
 ·have h2:=h1.1
  rw[Zr _ k hk] at h2;rw[List.length_set];exact h2
theorem Alo(lo g tb pb:Nat)(p:Ab)(p1 p2 p3:zZ)(q1 q2 q3:Nat)(s:Aa)(hR:Bw p s)(hps:Ai p)(t0:Int)(v1 v2 v3:Value)(rows:List Bm)(w:zW)(hin:Arn lo tb pb p p1 p2 p3 q1 q2 q3 t0 w)(H:Ed w lo g v1 v2 v3 rows s):
  Calls Tryz.prog 142 #[zt g,zt tb,zt pb] w (Ps lo g (Bv p s t0) (De p s t0) w):=by
 have hoc:=Rf hR;have hlow:=H.size;obtain⟨A2,C2,rfl,_⟩:=Ae H.held.outs;obtain⟨A3,C3,rfl,_⟩:=Ae H.held.ae;have n1:=H.box.cell 1;have n2:=H.box.cell 2;simp only[Ey,zI,zJ,zK] at n1 n2;have tc:=hin.bg;have HH:=zh H;have HIN:=zh hin;have HR:=zh hR;have HPS:=zh hps;have HOC:=zh hoc;have HLOW:=zh hlow;have herr:Am p s=0:=Cv.2 hR;have HLE:Hid (Bv p s t0=if Ij s t0 then 5 else (Ib p t0 s.outs s).2):=zh (by unfold Bv;rw[zq (by rw[herr];decide)]);have h5:Hid (Ij s t0→Bv p s t0=5):=zh fun h=>by rw[HLE.out,zp h]
 clear H hin hR hps hoc hlow herr;by_cases ht0:t0 < 0
 ·have HE:=zh (h5.out (.inl ht0))
  go_enter Tryz.func142,Tryz.ntmps142
  go_upto_region 1 with fail
  refine Kl [(0,false),(1,false),(2,false),(3,false),(4,false),(5,false),(6,false),(7,false),(8,false),(9,false),(10,false),(11,false),(12,false),(13,false),(14,false),(15,false),(16,false),(17,false),(18,false),(19,false),(20,false),(21,false)] (by kernel_rfl) (fun hOrd=> ?_);refine Rt (S:=(fun W=>zM W tb 0 (.int .i64 t0)∧zM W g 2 (.slice A3 s.ae.length C3))) hOrd (by kernel_rfl) (by exact⟨tc,n2⟩) (fun hHeld=> ?_);clear hOrd
  iterate 22 (first|(refine zT ?_)|(refine zL ?_))
  refine NW.done ?_;go_wp2_with fail
  go_ret
  exact⟨by rw[HE.out];rfl,by first|exact zb _ _|exact(zb _ _).drew,fun h=>absurd h (by rw[HE.out];decide)⟩
 ·by_cases htl:(s.ae.length:Int)≤t0
  ·have HE:=zh (h5.out (.inr (.inl htl)))
   go_enter Tryz.func142,Tryz.ntmps142
   go_upto_region 1 with fail
   refine Kl [(0,false),(1,false),(2,false),(3,false),(4,false),(5,false),(6,false),(7,false),(8,false),(9,false),(10,false),(11,false),(12,false),(13,false),(14,false),(15,false),(16,false),(17,false),(18,false),(19,false),(20,false),(21,false)] (by kernel_rfl) (fun hOrd=> ?_);refine Rt (S:=(fun W=>zM W tb 0 (.int .i64 t0)∧zM W g 2 (.slice A3 s.ae.length C3))) hOrd (by kernel_rfl) (by exact⟨tc,n2⟩) (fun hHeld=> ?_);clear hOrd
   iterate 22 (first|(refine zT ?_)|(refine zL ?_))
   refine NW.done ?_;go_wp2_with fail
   go_ret
   exact⟨by rw[HE.out];rfl,by first|exact zb _ _|exact(zb _ _).drew,fun h=>absurd h (by rw[HE.out];decide)⟩
  ·obtain⟨k,rfl⟩:=Int.eq_ofNat_of_zero_le (show 0≤t0 by omega)
   have hkl:k < s.ae.length:=by omega
   have hta:Ni s (k:Int)=s.ae[k]:=by unfold Ni;rw[Int.toNat_natCast,zG hkl];rfl
   obtain⟨g3,rfl⟩:=Fs HH.out.held.ae (by omega);have c0:=(HH.out.gone hkl).1.1;by_cases hq:s.ae[k].queue < 0
   ·have HE:=zh (h5.out (.inr (.inr (by rw[hta];exact hq))))
    clear hta;generalize s.ae[k]=tk at *;go_enter Tryz.func142,Tryz.ntmps142
    go_upto_region 1 with fail
    refine Kl [(0,false),(1,false),(2,false),(3,false),(4,false),(5,false),(6,false),(7,false),(8,false),(9,false),(10,false),(11,false),(12,false),(13,false),(14,false),(15,false),(16,false),(17,false),(18,false),(19,false),(20,false),(21,false)] (by kernel_rfl) (fun hOrd=> ?_);refine Rt (S:=(fun W=>zM W tb 0 (.int .i64 (k:Int))∧zM W g 2 (.slice (some ⟨g3,0,none⟩) s.ae.length C3)∧W.cell? ⟨g3,k * 2,none⟩=some (.int .i64 tk.queue))) hOrd (by kernel_rfl) (by exact⟨tc,n2,c0⟩) (fun hHeld=> ?_);clear hOrd
    iterate 22 (first|(refine zT ?_)|(refine zL ?_))
    refine NW.done ?_;go_wp2_with fail
    go_ret
    exact⟨by rw[HE.out];rfl,by first|exact zb _ _|exact(zb _ _).drew,fun h=>absurd h (by rw[HE.out];decide)⟩
   ·have hno:¬ Ij s (k:Int):=by unfold Ij;rw[hta];omega
    have HLL:Hid (Bv p s (k:Int)=(Ib p (k:Int) s.outs s).2):=zh (by rw[HLE.out,zq hno]);have HLS:Hid (∀c,Fo p s (k:Int) s.outs.length c→Bv p s (k:Int)=0∧De p s (k:Int)= { c with ae:=c.ae.set k ⟨-1,s.ae[k].cf⟩ }):=zh fun c hc=>by
     have h0:Bv p s (k:Int)=0:=by rw[HLL.out,hc.end_.1]
     refine⟨h0,?_⟩;unfold De Qv;rw[zp h0,hc.end_.1,hta,Int.toNat_natCast,hc.ae]
    clear hta hno HLE h5;generalize hTK:s.ae[k]=tk at *;go_enter Tryz.func142,Tryz.ntmps142
    go_upto_region 1 with fail
    refine Kl [(0,false),(1,false),(2,false),(3,false),(4,false),(5,false),(6,false),(7,false),(8,false),(9,false),(10,false),(11,false),(12,false),(13,false),(14,false),(15,false),(16,false),(17,false),(18,false),(19,false),(20,false),(21,false)] (by kernel_rfl) (fun hOrd=> ?_);refine Rt (S:=(fun W=>zM W tb 0 (.int .i64 (k:Int))∧zM W g 2 (.slice (some ⟨g3,0,none⟩) s.ae.length C3)∧W.cell? ⟨g3,k * 2,none⟩=some (.int .i64 tk.queue))) hOrd (by kernel_rfl) (by exact⟨tc,n2,c0⟩) (fun hHeld=> ?_);clear hOrd
    iterate 22 (first|(refine zT ?_)|(refine zL ?_))
    refine NW.done ?_;go_wp2_with fail
    clear c0 n2 tc;refine(Abg A2 C2 s.outs lo _ ?_ HOC.out).mono ?_
    ·first|exact Sl.cu HH.out.held.outs|exact Sl.cu HH.out.held.outs.drew
    rintro e W1 ⟨vc,rfl,hoc1,hbc⟩;obtain⟨al,cl,rfl,_⟩:=Ae hoc1;have hb1:Below w.heap.size w W1:=((zb _ _).drew:Below w.heap.size w w.drew).trans hbc;have h1:=HH.out.since hb1;have HL1:=zh (show LvR lo g tb pb w.heap.size s.outs.length cl al p p1 p2 p3 q1 q2 q3 s (k:Int) (.slice A2 s.outs.length C2) w 0 s v1 _ _ rows W1 from⟨Fo.start HR.out _,h1,rfl,SlT.cu hoc1,HIN.out.keep (hb1.mono HLOW.out),hb1.mono HLOW.out⟩);have HV0:=zh (fun b hb=>(Xk HH.out.held.outs b hb).elim (fun h=>by rw[h];exact(fun e=>by cases e)) id:∀b,w.heap.size≤b→(Value.slice A2 s.outs.length C2).ownBlock≠some b);clear hoc1 hbc hb1 h1 n1;go_wp2_with fail
    refine Awt lo g tb pb w.heap.size s.outs.length cl al p p1 p2 p3 q1 q2 q3 s (k:Int) (.slice A2 s.outs.length C2) w rfl HOC.out HPS.out HV0.out _ ?_ ?_ _ 0 s v1 _ _ rows W1 rfl (Nat.zero_le _) HL1.out
    ·rintro t i c u1 u2 u3 rows' W ht hL
     obtain⟨u,rfl⟩:=Ai7 ht;have hct:=hL.at_.ae;obtain⟨he0,hS0⟩:=HLS.out c hL.at_;have hkc:k < c.ae.length:=by rw[hct];exact hkl
     obtain⟨B3,D3,rfl,_⟩:=Ae hL.st.held.ae;obtain⟨g4,rfl⟩:=Fs hL.st.held.ae (by omega);obtain⟨⟨k0,f0,l0⟩,hgone,hbg⟩:=hL.st.gone hkc;have htk:c.ae[k]=tk:=by rw[←hTK];simp only[hct]
     rw[htk] at hgone k0;have hgone2:=hgone.since (zb (W.setCell ⟨g4,k * 2,none⟩ (.int .i64 (-1))).heap.size (W.setCell ⟨g4,k * 2,none⟩ (.int .i64 (-1)))).drew;have hbd:Below lo W (W.setCell ⟨g4,k * 2,none⟩ (.int .i64 (-1))).drew:=hbg.drew;have HF:=zh (zi hgone2 (hL.below.trans hbd));have n3:=hgone2.box.cell 2;simp only[Ey,zI,zJ,zK] at n3;have tc3:=(hL.in_.keep hbd).bg;have HE:=zh (zi he0 hS0);have n2:=hL.st.box.cell 2;simp only[Ey,zI,zJ,zK] at n2;have tc:=hL.in_.bg;have hkc2:(k:Int) < (c.ae.length:Int):=by omega
     have k1:W.drew.cell? ⟨g4,k * 2,none⟩=some (.int .i64 tk.queue):=k0;have f1:W.drew.frozen? ⟨g4,k * 2,none⟩=false:=f0;have l1:g4 < W.drew.heap.size:=l0;clear ht hgone hgone2 hbg hL htk hct he0 hS0 hkc k0 f0 l0 hbd;go_upto_region 11 with fail
     refine Kl [(0,false),(1,false),(2,false),(3,false),(4,false),(5,false),(6,false),(7,true)] (by kernel_rfl) (fun hOrd=> ?_);refine Rt (S:=(fun W=>zM W g 2 (.slice (some ⟨g4,0,none⟩) c.ae.length D3)∧zM W tb 0 (.int .i64 (k:Int)))) hOrd (by kernel_rfl) (by first|exact⟨n2,tc⟩|exact⟨n3,tc3⟩) (fun hHeld=> ?_);clear hOrd
     iterate 8 ((first|(refine zT ?_)|(refine zL ?_)|(refine NW.call rfl (fun K hK=> ?_);go_simp;refine zk hK (by first|exact⟨n2,tc⟩|exact⟨n3,tc3⟩) (fun hHeld=> ?_);clear hK K)))
     refine NW.done ?_;clear n2 tc n3 tc3 k1 f1 l1;go_wp2_with fail
     go_ret
     exact⟨by rw[HE.out.1];rfl,HF.out.2,fun _=>⟨_,_,_,_,by rw[HE.out.2];exact HF.out.1⟩⟩
    ·rintro t err W ht he hl hb
     obtain⟨u,rfl⟩:=Atm ht;have HE:=zh (show Bv p s (k:Int)=err by rw[HLL.out,hl]);have HB:=zh hb;have HNE:=zh he;clear ht he hl hb;go_wp2_with fail
     go_ret
     exact⟨by rw[HE.out];rfl,HB.out,fun h=>absurd h (by rw[HE.out];exact HNE.out)⟩
theorem Apl:∀args w,(callFunc 142 args).run Tryz.prog w= .ok (.enter 142 args) w:=enters_of Tryz.func142 (by kernel_rfl) rfl
theorem Alp(p:Ab)(s:Aa)(t:Int):(Am p s≠0→De p s t=Bd∧Bv p s t=Am p s)∧(Am p s=0→Bv p s t=Bv p s t∧(Bv p s t=0→De p s t=De p s t)∧(Bv p s t≠0→De p s t=Bd)):=by
 have h0:Bv p s t≠0→De p s t=Bd:=fun h=>by unfold De;rw[zq h]
 refine⟨fun h=> ?_,fun _=>⟨rfl,fun _=>rfl,h0⟩⟩;have e:Bv p s t=Am p s:=by unfold Bv;rw[zp h]
 exact⟨h0 (by rw[e];exact h),e⟩
theorem Va(p:Ab)(s:Aa)(t0:Int)(p1 p2 p3 a1 a2 a3:zZ)(q1 q2 q3 c1 c2 c3:Nat)(rows:List Bm)(w:zW)(hE:Env w)(hp:Au w 0 w.heap.size p1 p2 p3 p)(hps:Ai p)(hs:Av w 0 w.heap.size a1 a2 a3 rows s)(hss:Ap s)(hsi:A9 s):
  Calls Tryz.prog 94 #[Ay p p1 p2 p3 q1 q2 q3,Ad s a1 a2 a3 c1 c2 c3,.int .i64 t0] w (G1 (De p s t0) (Bv p s t0) w):=by
 have hbx:=Cj q1 q2 q3 c1 c2 c3 hE hp hs 26 40;unfold Ag at hbx;unfold Ad Ay Ag;have HPS:=zh hps;have HSS:=zh hss;have HSI:=zh hsi;have HPQ:=zh hp;clear hE hp hs hps hss hsi;obtain⟨⟨m0,m1,m2⟩,⟨n0,n1,n2,n3,n4,n5,n6,n7⟩,_,_,_,_⟩:=hbx ((((w.alloc (.cells (zP p p1 p2 p3 q1 q2 q3) 26)).alloc (.cells (zV s a1 a2 a3 c1 c2 c3) 40)).alloc (.cells #[.int .i64 t0] 3)).alloc (.cells zO 40)) (((zb _ _).alloc (zn _) _).alloc (by simp) _);go_enter Tryz.func94,Tryz.ntmps94
 go_wp2_with fail
 clear m0 m1 m2 n0 n1 n2 n3 n4 n5 n6 n7;obtain⟨V2,hV2⟩:=zo ((w.alloc (.cells (zP p p1 p2 p3 q1 q2 q3) 26)).alloc (.cells (zV s a1 a2 a3 c1 c2 c3) 40));have hz2:V2.heap.size=w.heap.size+1+1:=by rw[←hV2];simp
 rw[hV2] at hbx;rw[hV2];clear hV2;obtain⟨U0,hU0⟩:=zo (V2.alloc (.cells #[.int .i64 t0] 3));have kb0:Bk U0 (w.heap.size+1+1) 3 #[.int .i64 t0]:=by rw[←hU0];exact Bk.cg _ _ _ (by rw[hz2])
 have zu0:U0.heap.size=w.heap.size+1+1+1:=by rw[←hU0];simp[hz2]
 have bu0:=zu hU0
 rw[hU0];obtain⟨W0,hW0⟩:=zo (U0.alloc (.cells zO 40));have kbz:Bk W0 (w.heap.size+1+1+1) 40 zeroCells:=by rw[←hW0];exact Bk.cg _ _ _ zu0.symm
 have bW:=zu hW0
 have HZ0:Hid (W0.heap.size=w.heap.size+1+1+1+1):=by refine(?_:W0.heap.size=_);rw[←hW0,←zu0];simp
 rw[hW0];have HBX:Hid (∀W,Below W0.heap.size W0 W→Me w p s p1 p2 p3 a1 a2 a3 q1 q2 q3 c1 c2 c3 rows W∧Bk W (w.heap.size+1+1+1) 40 zeroCells∧Bk W (w.heap.size+1+1) 3 #[.int .i64 t0]):=zh fun W hW=>
  ⟨hbx W ((bu0.trans (bW.mono bu0.size)).trans (hW.mono (bu0.trans (bW.mono bu0.size)).size)),kbz.below hW kbz.lt,((kb0.below bW (by rw[zu0];omega)).below hW (by have:=bW.size;rw[zu0] at this;omega))⟩
 clear hbx hz2 hW0 kbz bW kb0 zu0 bu0 hU0;have HIN:=zh (HBX.out _ (zb _ _)).1;refine(O0 p s (Bv p s t0) (De p s t0) 142 #[zt (w.heap.size+1+1),zt w.heap.size] Apl p1 p2 p3 a1 a2 a3 q1 q2 q3 c1 c2 c3 rows W0 HIN.out.env HIN.out.bu HPS.out HIN.out.bc HSS.out HSI.out (De p s t0) (Bv p s t0) (Alp p s t0) (fun hR W lo g v1 v2 v3 rows' hlo hW hr=>Alo lo g (w.heap.size+1+1) w.heap.size p p1 p2 p3 q1 q2 q3 s hR HPS.out t0 v1 v2 v3 rows' W ⟨(HPQ.out.below (HBX.out _ hW).1.below (zn _)).wider (zn _) (zr (HBX.out _ (zb _ _)).1.below.size hlo),Am6 (HIN.out.env) hW hlo,(HBX.out _ hW).1.bz,(HBX.out _ hW).2.2.cell 0,by have:=HZ0.out;omega,by have:=HZ0.out;omega⟩ hr)).mono ?_;rintro e W1 ⟨b1,b2,b3,d1,d2,d3,rows1,rfl,hs1,hb1⟩;have HB1:=zh hb1;have HS1:=zh hs1;clear hb1 hs1;generalize De p s t0=Y at *;unfold Ad Ag;have hzk:=(HBX.out _ HB1.out).2.1;have HZS:=zh hzk;unfold zeroCells at hzk;obtain⟨k0,k1,k2,k3,k4,k5,k6,k7,f0,f1,f2,f3,f4,f5,f6,f7,hlt⟩:=Af hzk;clear hzk;go_wp2_with fail
 refine bodyPost_ret (v:= .tuple #[.agg (zV Y b1 b2 b3 d1 d2 d3),.int .i64 (Bv p s t0)]) (by simp[results,Tryz.results94,go_sem,k0,k1,k2,k3,k4,k5,k6,k7,hlt]) rfl ?_;exact⟨b1,b2,b3,d1,d2,d3,rows1,rfl,(HS1.out.kept (Ah.dg HZS.out (ts:=[40]) (by decide) _ _ _ _ _ _ _ _)).wider (zr (by omega) (Nat.le_of_eq HZ0.out.symm)),Al (HBX.out _ HB1.out).1.below (by omega) _ _ _ _ _ _ _ _⟩
end Go.Proofs.YtpkneogjdfolaaaGreatDoor
