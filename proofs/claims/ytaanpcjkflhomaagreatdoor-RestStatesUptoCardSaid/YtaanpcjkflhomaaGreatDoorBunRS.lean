/-
  Rows that are written over: what stays of a block when its cells are stored.
-/
import Derived.Test.YtaanpcjkflhomaaGreatDoorBunH
import Derived.Test.YtaanpcjkflhomaaGreatDoorBunLB
import Derived.Test.YtaanpcjkflhomaaGreatDoorLogQ
import Derived.Test.YtaanpcjkflhomaaGreatDoorBunG
import Derived.Deep.CutBlock
set_option maxHeartbeats 20000000
set_option maxRecDepth 100000
set_option linter.unusedSimpArgs false
set_option linter.unusedVariables false
namespace Go.Proofs.YtaanpcjkflhomaaGreatDoor
open Go Go.RowKit
def Hole (w:World) (lo:Nat) (e:TypeId) (a:Option Addr) (n:Nat):Prop:=
 n=0∨∃b o cs,a=some ⟨b,o,none⟩∧lo≤b∧Bk w b e cs∧o+n≤cs.size
theorem SlT.hole {w:World} {lo:Nat} {e:TypeId} {a:Option Addr} {us:List Value} (h:SlT w lo e a us) {n:Nat} (hn:us.length=n):Hole w lo e a n:=by
 subst hn;rcases h with rfl|⟨b,o,cs,ha,h1,hb,hc⟩
 ·exact .inl rfl
 ·by_cases h0:us.length=0
  ·exact .inl h0
  ·refine .inr ⟨b,o,cs,ha,h1,hb,?_⟩
   have h2:=hc (us.length - 1) _ (zG (by omega));have h3:=(Array.getElem?_eq_some_iff.1 h2).1;omega
theorem Hole.set {w:World} {lo:Nat} {e:TypeId} {a:Option Addr} {n:Nat} (h:Hole w lo e a n) (g i:Nat) (u:Value):Hole (w.setCell ⟨g,i,none⟩ u) lo e a n:=by
 rcases h with h|⟨b,o,cs,ha,h1,hb,hc⟩
 ·exact .inl h
 ·refine .inr ?_
  by_cases hg:b=g
  ·subst hg
   exact⟨b,o,cs.setIfInBounds i u,ha,h1,hb.ck i u,by simpa using hc⟩
  ·exact⟨b,o,cs,ha,h1,hb.far (p:=⟨g,i,none⟩) hg u,hc⟩
theorem Hole.keep {ts:List TypeId} {w w':World} {lo:Nat} {e:TypeId} {a:Option Addr} {n:Nat} (h:Hole w lo e a n) (hk:Al ts w w') (he:e∉ts):Hole w' lo e a n:=by
 rcases h with h|⟨b,o,cs,ha,h1,hb,hc⟩
 ·exact .inl h
 ·exact .inr ⟨b,o,cs,ha,h1,hk b e cs he hb,hc⟩
theorem Hole.get {w:World} {lo:Nat} {e:TypeId} {a:Option Addr} {n j:Nat} (h:Hole w lo e a n) (hj:j < n):∃b o cs,a=some ⟨b,o,none⟩∧lo≤b∧Bk w b e cs∧o+n≤cs.size:=by
 rcases h with h|h
 ·omega
 ·exact h
theorem Bk.some_ {w:World} {b i:Nat} {e:TypeId} {cs:Array Value} (h:Bk w b e cs) (hi:i < cs.size):∃u,w.cell? ⟨b,i,none⟩=some u:=⟨cs[i],by rw[h.cell,Array.getElem?_eq_getElem hi]⟩
theorem set_step {w W:World} {lo g i:Nat} {t:TypeId} {ts:List TypeId} {cs:Array Value} {u:Value} (hk:Al ts w W) (hb:Below lo w W) (h:Bk W g t cs) (ht:t∈ts) (hg:lo≤g):
  Al ts w (W.setCell ⟨g,i,none⟩ u)∧Below lo w (W.setCell ⟨g,i,none⟩ u)∧Bk (W.setCell ⟨g,i,none⟩ u) g t (cs.setIfInBounds i u):=
 ⟨hk.trans (Al.set h ht i u),hb.setCell (p:=⟨g,i,none⟩) hg u,h.ck i u⟩
open Go Go.RowKit
structure RsRel (WX:World) (lo:Nat) (x1:Option Addr) (rx:List Bq) (k:Nat) (w:World):Prop where
 keep:Al [50,52] WX w
 below:Below lo WX w
 outer:rx.length=0∨∃b cs,x1=some ⟨b,0,none⟩∧lo≤b∧Bk w b 50 cs∧rx.length≤cs.size∧∀q r,k≤q→rx[q]? =some r→cs[q]? =some (Afa r)
 inner:∀r∈rx,Hole w lo 52 r.at_ (r.items.length * 5)
structure RiRel (WR:World) (lo:Nat) (rx:List Bq) (w:World):Prop where
 keep:Al [52] WR w
 below:Below lo WR w
 inner:∀r∈rx,Hole w lo 52 r.at_ (r.items.length * 5)
theorem ri_set {WR w:World} {lo b i:Nat} {rx:List Bq} {cs:Array Value} (h:RiRel WR lo rx w) (hlo:lo≤b) (hb:Bk w b 52 cs) (u:Value):RiRel WR lo rx (w.setCell ⟨b,i,none⟩ u)∧Bk (w.setCell ⟨b,i,none⟩ u) b 52 (cs.setIfInBounds i u):=by
 obtain⟨h1,h2,h3⟩:=set_step h.keep h.below hb (by decide) hlo (i:=i) (u:=u);exact⟨⟨h1,h2,fun r hr=>(h.inner r hr).set b i u⟩,h3⟩
theorem ri_set5 {WR w:World} {lo b:Nat} {rx:List Bq} {cs:Array Value} (h:RiRel WR lo rx w) (hlo:lo≤b) (hb:Bk w b 52 cs) (i0 i1 i2 i3 i4:Nat) (u0 u1 u2 u3 u4:Value):
  RiRel WR lo rx (((((w.setCell ⟨b,i0,none⟩ u0).setCell ⟨b,i1,none⟩ u1).setCell ⟨b,i2,none⟩ u2).setCell ⟨b,i3,none⟩ u3).setCell ⟨b,i4,none⟩ u4):=by
 obtain⟨h1,b1⟩:=ri_set (i:=i0) h hlo hb u0;obtain⟨h2,b2⟩:=ri_set (i:=i1) h1 hlo b1 u1;obtain⟨h3,b3⟩:=ri_set (i:=i2) h2 hlo b2 u2;obtain⟨h4,b4⟩:=ri_set (i:=i3) h3 hlo b3 u3;exact(ri_set (i:=i4) h4 hlo b4 u4).1
theorem rs_next {WX WR w:World} {lo k b:Nat} {rx:List Bq} {cs:Array Value} (h:RsRel WX lo (some ⟨b,0,none⟩) rx k WR) (hlo:lo≤b) (hb:Bk WR b 50 cs) (hsz:rx.length≤cs.size) (hrow:∀q r,k≤q→rx[q]? =some r→cs[q]? =some (Afa r)) (hI:RiRel WR lo rx w):
  RsRel WX lo (some ⟨b,0,none⟩) rx (k+1) (w.setCell ⟨b,k,none⟩ (.slice none 0 0)):=by
 have hb':=hI.keep _ _ _ (by decide) hb;have hk:=h.keep.trans (hI.keep.more (ts':=[50,52]) (by simp));obtain⟨h1,h2,h3⟩:=set_step hk (h.below.trans hI.below) hb' (by decide) hlo (i:=k) (u:= .slice none 0 0);refine⟨h1,h2,.inr ⟨b,_,rfl,hlo,h3,by simpa using hsz,fun q r hq hr=> ?_⟩,fun r hr=>(hI.inner r hr).set b k _⟩;rw[Array.getElem?_setIfInBounds_ne (by omega)];exact hrow q r (by omega) hr
structure ZRel (WR:World) (lo:Nat) (e:TypeId) (a:Option Addr) (n:Nat) (w:World):Prop where
 keep:Al [e] WR w
 below:Below lo WR w
 hole:Hole w lo e a n
theorem zr_set {WR w:World} {lo b i n:Nat} {e:TypeId} {a:Option Addr} {cs:Array Value} (h:ZRel WR lo e a n w) (hlo:lo≤b) (hb:Bk w b e cs) (u:Value):ZRel WR lo e a n (w.setCell ⟨b,i,none⟩ u)∧Bk (w.setCell ⟨b,i,none⟩ u) b e (cs.setIfInBounds i u):=by
 obtain⟨h1,h2,h3⟩:=set_step h.keep h.below hb (by simp) hlo (i:=i) (u:=u);exact⟨⟨h1,h2,h.hole.set b i u⟩,h3⟩
theorem zr_set2 {WR w:World} {lo b n:Nat} {e:TypeId} {a:Option Addr} {cs:Array Value} (h:ZRel WR lo e a n w) (hlo:lo≤b) (hb:Bk w b e cs) (i0 i1:Nat) (u0 u1:Value):ZRel WR lo e a n ((w.setCell ⟨b,i0,none⟩ u0).setCell ⟨b,i1,none⟩ u1):=by
 obtain⟨h1,b1⟩:=zr_set (i:=i0) h hlo hb u0;exact(zr_set (i:=i1) h1 hlo b1 u1).1
theorem zr_set8 {WR w:World} {lo b n:Nat} {e:TypeId} {a:Option Addr} {cs:Array Value} (h:ZRel WR lo e a n w) (hlo:lo≤b) (hb:Bk w b e cs) (i0 i1 i2 i3 i4 i5 i6 i7:Nat) (u0 u1 u2 u3 u4 u5 u6 u7:Value):
  ZRel WR lo e a n ((((((((w.setCell ⟨b,i0,none⟩ u0).setCell ⟨b,i1,none⟩ u1).setCell ⟨b,i2,none⟩ u2).setCell ⟨b,i3,none⟩ u3).setCell ⟨b,i4,none⟩ u4).setCell ⟨b,i5,none⟩ u5).setCell ⟨b,i6,none⟩ u6).setCell ⟨b,i7,none⟩ u7):=by
 obtain⟨h1,b1⟩:=zr_set (i:=i0) h hlo hb u0;obtain⟨h2,b2⟩:=zr_set (i:=i1) h1 hlo b1 u1;obtain⟨h3,b3⟩:=zr_set (i:=i2) h2 hlo b2 u2;obtain⟨h4,b4⟩:=zr_set (i:=i3) h3 hlo b3 u3;obtain⟨h5,b5⟩:=zr_set (i:=i4) h4 hlo b4 u4;obtain⟨h6,b6⟩:=zr_set (i:=i5) h5 hlo b5 u5;obtain⟨h7,b7⟩:=zr_set (i:=i6) h6 hlo b6 u6;exact(zr_set (i:=i7) h7 hlo b7 u7).1
theorem rs_start {WX:World} {lo n c:Nat} {x1:Option Addr} {v2 v3:Value} {rx:List Bq} {X:Aa} (h:Cm WX lo (.slice x1 n c) v2 v3 rx X) (hi:∀r∈rx,Hole WX lo 52 r.at_ (r.items.length * 5)):RsRel WX lo x1 rx 0 WX:=by
 refine⟨Al.refl _ _,zb _ _,?_,hi⟩;obtain⟨hl,ho⟩:=h.ready;have hlen:(rx.flatMap Nv).length=rx.length:=by rw[Dc Dv];omega
 have hrl:rx.length=X.ready.length:=by rw[←h.same,List.length_map]
 rcases ho with⟨_,hn⟩|⟨g,cap,cur,hv,hg,hh,hnc,hm,hcs,ht⟩
 ·left;omega
 ·right
  simp only[Value.slice.injEq] at hv;obtain⟨rfl,_,rfl⟩:=hv;have hc:∀q r,rx[q]? =some r→cur[q]? =some (Afa r):=fun q r hr=>by
   obtain⟨hq,e⟩:=List.getElem?_eq_some_iff.1 hr;have h1:(rx.flatMap Nv)[q]? =some (Afa r):=by
    have h:=flat_get Dv rx q hq 0 (by decide);rw[Nat.mul_one,Nat.add_zero,e] at h;rw[h];rfl
   rw[←ht,List.getElem?_take] at h1
   split at h1
   ·simpa using h1
   ·cases h1
  refine⟨g,cur,rfl,hg,hh,?_,fun q r _ hr=>hc q r hr⟩;by_cases h0:rx.length=0
  ·omega
  ·have h1:=hc (rx.length - 1) _ (zG (by omega))
   have:=(Array.getElem?_eq_some_iff.1 h1).1;omega
theorem restStates_go (p:Ab) (s:Aa) (x:Cn) (p1 p2 p3 a1 a2 a3:Option Addr) (q1 q2 q3 c1 c2 c3:Nat) (rows:List Bq) (w:World) (hE:Env w) (hp:Az w 0 w.heap.size p1 p2 p3 p) (hps:Ai p) (hs:Ax w 0 w.heap.size a1 a2 a3 rows s) (hss:Am s) (hsi:Ba s) (hcap:s.outs.length≤c2) (hx:Eb x):
  Calls Tryz.prog 14 #[Bc p p1 p2 p3 q1 q2 q3,Ac s a1 a2 a3 c1 c2 c3,.agg (Ez x).toArray] w fun e w'=>e= .returned (.bool true)∧Below w.heap.size w w':=by
 have HCAP:=zh hcap;clear hcap;have hbx:=B9 q1 q2 q3 c1 c2 c3 hE hp hs 26 31;unfold Ag at hbx;unfold Ac Bc Ag Ez;have HPS:=zh hps;have HSS:=zh hss;have HSI:=zh hsi;have HAS:=zh hx;clear hE hp hs hps hss hsi hx;obtain⟨⟨m0,m1,m2⟩,⟨n0,n1,n2,n3,n4,n5,n6,n7⟩,_,_,_,_⟩:=hbx ((((w.alloc (.cells (zP p p1 p2 p3 q1 q2 q3) 26)).alloc (.cells (zV s a1 a2 a3 c1 c2 c3) 31)).alloc (.cells (zX x) 57))) ((zb _ _).alloc (zn _) _);go_enter Tryz.func14,Tryz.ntmps14
 go_upto_region 1 with fail
 clear m0 m1 m2 n0 n1 n2 n3 n4 n5 n6 n7;obtain⟨V2,hV2⟩:∃V2,((w.alloc (.cells (zP p p1 p2 p3 q1 q2 q3) 26)).alloc (.cells (zV s a1 a2 a3 c1 c2 c3) 31))=V2:=⟨_,rfl⟩;have hz2:V2.heap.size=w.heap.size+1+1:=by rw[←hV2];simp
 rw[hV2] at hbx;rw[hV2];clear hV2;obtain⟨W0,hW0⟩:∃W0,V2.alloc (.cells (zX x) 57)=W0:=⟨_,rfl⟩;have kb0:Bk W0 (w.heap.size+1+1) 57 (zX x):=by rw[←hW0];exact Bk.cg _ _ _ hz2.symm
 have bW:Below V2.heap.size V2 W0:=by rw[←hW0];exact(zb _ _).alloc (zn _) _
 rw[hW0];have HBX:Hid (∀W,Below W0.heap.size W0 W→La w p s p1 p2 p3 a1 a2 a3 q1 q2 q3 c1 c2 c3 rows W∧Bk W (w.heap.size+1+1) 57 (zX x)):=zh fun W hW=>⟨hbx W (bW.trans (hW.mono bW.size)),kb0.below hW kb0.lt⟩;clear hbx hz2 hW0 bW kb0;obtain⟨⟨⟨m0,m1,m2⟩,⟨n0,n1,n2,n3,n4,n5,n6,n7⟩,_,_,_,_⟩,_⟩:=HBX.out _ (zb _ _);go_wp2_with fail
 clear m0 m1 m2 n0 n1 n2 n3 n4 n5 n6 n7;refine(Fx p s p1 p2 p3 a1 a2 a3 q1 q2 q3 c1 c2 c3 rows W0 (HBX.out _ (zb _ _)).1.env (HBX.out _ (zb _ _)).1.bu HPS.out (HBX.out _ (zb _ _)).1.bc HSS.out HSI.out).mono ?_;rintro e w1 ⟨rfl,hb1⟩;have HB1:=zh hb1;clear hb1;by_cases he:Ao p s=0
 ·rw[he]
  clear he;obtain⟨⟨_,⟨n0,n1,n2,n3,n4,n5,n6,n7⟩,_,_,_,_⟩,_⟩:=HBX.out _ HB1.out;go_wp2_with fail
  clear n0 n1 n2 n3 n4 n5 n6 n7;have hcall:=Kk s a1 a2 a3 c1 c2 c3 rows w1 (HBX.out _ HB1.out).1.bc HSS.out;unfold Ac Ag at hcall;refine hcall.mono ?_;clear hcall;rintro e w2 ⟨v1,v2,v3,ro,rfl,hown,hb⟩;obtain⟨o1,oc1,rfl,_⟩:=Ad hown.ready;obtain⟨o2,oc2,rfl,_⟩:=Ad hown.outs;obtain⟨o3,oc3,rfl,_⟩:=Ad hown.ae;have hs:=hown.held.bc.1;have hb:=HB1.out.trans (hb.mono HB1.out.size);clear hown;unfold Ey;go_upto_region 4 with fail
  obtain⟨WO,hW1⟩:∃WO,w2.alloc (.cells (zV s o1 o2 o3 oc1 oc2 oc3) 31)=WO:=⟨_,rfl⟩;have HWO:=zh (Cb (x:=s) oc1 oc2 oc3 hs hb hW1);rw[hW1];clear hW1 hs hb;obtain⟨⟨⟨m0,m1,m2⟩,⟨n0,n1,n2,n3,n4,n5,n6,n7⟩,_,_,_,_⟩,hact⟩:=HBX.out _ (HWO.out _ (zb _ _)).2;have x0:=hact.cell 0;have x1:=hact.cell 1;have x2:=hact.cell 2;have x3:=hact.cell 3;have x4:=hact.cell 4
  simp only[zI,zJ,zK] at x0 x1 x2 x3 x4;clear hact;go_wp2_with fail
  clear m0 m1 m2 n0 n1 n2 n3 n4 n5 n6 n7 x0 x1 x2 x3 x4;have HD:Hid (∀W,La w p s p1 p2 p3 a1 a2 a3 q1 q2 q3 c1 c2 c3 rows W→Calls Tryz.prog 34 #[.agg (zP p p1 p2 p3 q1 q2 q3),.agg (zV s a1 a2 a3 c1 c2 c3),.agg (zX x)] W (Js (doS p s x) (E2 p s x) W)):=zh fun W hW=>
   Do_held p s x p1 p2 p3 a1 a2 a3 q1 q2 q3 c1 c2 c3 rows W hW.env hW.bu HPS.out hW.bc HSS.out HSI.out HAS.out
  have HO:Hid (∀W,La w p s p1 p2 p3 a1 a2 a3 q1 q2 q3 c1 c2 c3 rows W→Calls Tryz.prog 35 #[.agg (zP p p1 p2 p3 q1 q2 q3),.agg (zV s a1 a2 a3 c1 c2 c3),.agg (zX x)] W (Jk (doS p s x) (E2 p s x) W)):=zh fun W hW=>
   Apu p s x p1 p2 p3 a1 a2 a3 q1 q2 q3 c1 c2 c3 rows W hW.env hW.bu HPS.out hW.bc HSS.out HSI.out HCAP.out HAS.out
  have HSM:=zh (Anr p s x);generalize doS p s x=X at *;generalize E2 p s x=er at *;refine(HD.out WO (HBX.out _ (HWO.out _ (zb _ _)).2).1).mono ?_;rintro e w3 ⟨x1,x2,x3,xc1,xc2,xc3,rx,rfl,hh,hb3⟩;unfold Ac Ag;go_upto_region 5 with fail
  obtain⟨WX,hWX⟩:∃WX,w3.alloc (.cells (zV X x1 x2 x3 xc1 xc2 xc3) 31)=WX:=⟨_,rfl⟩;have hal:Below w3.heap.size w3 WX:=by rw[←hWX];exact(zb _ _).alloc (zn _) _
  have HKX:Hid (Bk WX w3.heap.size 31 (Ag X x1 x2 x3 xc1 xc2 xc3)):=zh (by rw[←hWX];exact Bk.new _ _ _);have HH:=zh (hh.kept (Al.ct (ts:=[]) hal));have HBX3:=zh (hb3.trans (hal.mono hb3.size));rw[hWX];clear hWX hal hh hb3;have HXR:Hid (∀r∈rx,Hole WX WO.heap.size 52 r.at_ (r.items.length * 5)):=zh fun r hr=>(HH.out.row r hr).1.hole (Dc Cg r.items);have HXO:=zh ((SlT.cu HH.out.outs).hole (Dc Dy X.outs));have HXT:=zh ((SlT.cu HH.out.ae).hole (Dc Cy X.ae));have hrl:rx.length=X.ready.length:=by rw[←HH.out.same,List.length_map]
  have HRL:=zh hrl;have hXready:X.ready.length≤1048576:=HSM.out.ready;have hXouts:X.outs.length≤1048576:=HSM.out.outs;have hXtakers:X.ae.length≤1048576:=HSM.out.ae;have HXL:Hid (∀r∈rx,r.items.length≤1048576):=zh fun r hr=>(HSM.out.row r.items (by rw[←HH.out.same];exact List.mem_map_of_mem hr)).len;clear hrl
  go_upto_block 0 with fail
  go_cut [10] from 32 to 61 (fun i wx=>Al [50,52] WX wx∧Below WO.heap.size WX wx)
  case first=>
   go_wp2_with fail
   go_loopw [10] (fun i wx=>∃k:Nat,k≤X.ready.length∧i= .int .i64 k∧RsRel WX WO.heap.size x1 rx k wx) (fun i _=>X.ready.length - (intOf i).toNat)
   case atStart=>exact⟨0,Nat.zero_le _,rfl,rs_start HH.out HXR.out⟩
   case round=>
    obtain⟨k,hk,rfl,hR⟩:=hrel;have kx:=hR.keep _ _ _ (by decide) HKX.out;have g0:wr.cell? ⟨w3.heap.size,0,none⟩=some (.slice x1 X.ready.length xc1):=kx.cell 0;have HR:=zh hR;clear hR kx;by_cases hlt:k < X.ready.length
    ·have hkI:(k:Int) < (X.ready.length:Int):=by omega
     have HKL:=zh hlt;obtain⟨b,cs,hx1,hlo,hbk,hsz,hrow⟩:∃b cs,x1=some ⟨b,0,none⟩∧WO.heap.size≤b∧Bk wr b 50 cs∧rx.length≤cs.size∧∀q r,k≤q→rx[q]? =some r→cs[q]? =some (Afa r):=by
      rcases HR.out.outer with h|h
      ·have:=HRL.out;omega
      ·exact h
     have hkr:k < rx.length:=by have:=HRL.out;omega
     have hcr:=hrow k _ (zn _) (zG hkr);have HMEM:=zh (zg hkr);have HOUT:=zh (zi hlo (zi hbk (zi hsz hrow)));have hrl:=HXL.out _ HMEM.out;subst hx1;clear hk hlt hlo hsz hrow;generalize rx[k]=r at *;clear hkr;have e0:wr.cell? ⟨b,k,none⟩=some (.slice r.at_ r.items.length r.cap):=(hbk.cell k).trans hcr;clear hbk hcr;obtain⟨ra,rc,ri⟩:=r;dsimp only at e0 hrl;generalize wr=WR at *;clear wr;go_wp2_with fail
     go_loopw [11] (fun i wx=>∃j:Nat,j≤ri.length∧i= .int .i64 j∧RiRel WR WO.heap.size rx wx) (fun i _=>ri.length - (intOf i).toNat)
     case atStart=>exact⟨0,Nat.zero_le _,rfl,⟨Al.refl _ _,zb _ _,HR.out.inner⟩⟩
     case round=>
      obtain⟨j,hj,rfl,hI⟩:=hrel;have kx:=hI.keep _ _ _ (by decide) (HR.out.keep _ _ _ (by decide) HKX.out);have g0:wr.cell? ⟨w3.heap.size,0,none⟩=some (.slice (some ⟨b,0,none⟩) X.ready.length xc1):=kx.cell 0;have kb:=hI.keep _ _ _ (by decide) HOUT.out.2.1;have e1:wr.cell? ⟨b,k,none⟩=some (.slice ra ri.length rc):=(kb.cell k).trans ((HOUT.out.2.1.cell k).symm.trans e0);have HI:=zh hI;have HKB:=zh kb;clear kx hI kb;by_cases hjl:j < ri.length
      ·have hjI:(j:Int) < (ri.length:Int):=by omega
       have HJ:=zh hjl;obtain⟨b2,o2,c2',hra,hlo2,hbk2,hsz2⟩:=(HI.out.inner _ HMEM.out).get (j:=j * 5) (by show j * 5 < ri.length * 5;omega);dsimp only at hra hsz2;subst hra;obtain⟨u0,q0⟩:=hbk2.some_ (i:=o2+j * 5) (by omega);obtain⟨u1,q1'⟩:=hbk2.some_ (i:=o2+j * 5+1) (by omega);obtain⟨u2,q2'⟩:=hbk2.some_ (i:=o2+j * 5+2) (by omega);obtain⟨u3,q3'⟩:=hbk2.some_ (i:=o2+j * 5+3) (by omega);obtain⟨u4,q4⟩:=hbk2.some_ (i:=o2+j * 5+4) (by omega);have f0:=hbk2.frozen (o2+j * 5);have f1:=hbk2.frozen (o2+j * 5+1);have f2:=hbk2.frozen (o2+j * 5+2);have f3:=hbk2.frozen (o2+j * 5+3);have f4:=hbk2.frozen (o2+j * 5+4)
       have l2:=hbk2.lt;have HB2:=zh (zi hlo2 hbk2);clear hj hjl hsz2 hlo2 hbk2;go_wp2_with fail
       exact⟨⟨j+1,HJ.out,by go_num,ri_set5 HI.out HB2.out.1 HB2.out.2 _ _ _ _ _ _ _ _ _ _⟩,by have:=HJ.out;simp[intOf];omega⟩
      ·obtain rfl:j=ri.length:=by omega
       have hjI:¬ ((ri.length:Int) < (ri.length:Int)):=by omega
       have hbl:=HKB.out.lt;have hf:=HKB.out.frozen k;clear hj hjl;go_wp2_with fail
       exact⟨⟨k+1,HKL.out,by go_num,rs_next HR.out HOUT.out.1 HOUT.out.2.1 HOUT.out.2.2.1 HOUT.out.2.2.2 HI.out⟩,by have:=HKL.out;simp[intOf];omega⟩
    ·obtain rfl:k=X.ready.length:=by omega
     have hkI:¬ ((X.ready.length:Int) < (X.ready.length:Int)):=by omega
     clear hk hlt;go_wp2_with fail
     go_meet
     exact⟨HR.out.keep,HR.out.below⟩
  case rest=>
   have HC1:=zh hcut;clear hcut HXR;generalize wc=W1 at *;clear wc
   go_upto_block 4 with fail
   go_cut [12] from 61 to 73 (fun i wx=>Al [77] W1 wx∧Below WO.heap.size W1 wx)
   case first=>
    go_wp2_with fail
    go_loopw [12] (fun i wx=>∃k:Nat,k≤X.outs.length∧i= .int .i64 k∧ZRel W1 WO.heap.size 77 x2 (X.outs.length * 8) wx) (fun i _=>X.outs.length - (intOf i).toNat)
    case atStart=>exact⟨0,Nat.zero_le _,rfl,⟨Al.refl _ _,zb _ _,HXO.out.keep HC1.out.1 (by decide)⟩⟩
    case round=>
     obtain⟨k,hk,rfl,hR⟩:=hrel;have kx:=hR.keep _ _ _ (by decide) (HC1.out.1 _ _ _ (by decide) HKX.out);have g0:wr.cell? ⟨w3.heap.size,1,none⟩=some (.slice x2 X.outs.length xc2):=kx.cell 1;have HR:=zh hR;clear hR kx;by_cases hlt:k < X.outs.length
     ·have hkI:(k:Int) < (X.outs.length:Int):=by omega
      have HKL:=zh hlt;obtain⟨b2,o2,cs2,hx2,hlo2,hbk2,hsz2⟩:=HR.out.hole.get (j:=k * 8) (by omega);subst hx2;obtain⟨u0,q0'⟩:=hbk2.some_ (i:=o2+k * 8) (by omega);have f0:=hbk2.frozen (o2+k * 8);obtain⟨u1,q1'⟩:=hbk2.some_ (i:=o2+k * 8+1) (by omega);have f1:=hbk2.frozen (o2+k * 8+1);obtain⟨u2,q2'⟩:=hbk2.some_ (i:=o2+k * 8+2) (by omega);have f2:=hbk2.frozen (o2+k * 8+2);obtain⟨u3,q3'⟩:=hbk2.some_ (i:=o2+k * 8+3) (by omega);have f3:=hbk2.frozen (o2+k * 8+3);obtain⟨u4,q4'⟩:=hbk2.some_ (i:=o2+k * 8+4) (by omega);have f4:=hbk2.frozen (o2+k * 8+4);obtain⟨u5,q5'⟩:=hbk2.some_ (i:=o2+k * 8+5) (by omega);have f5:=hbk2.frozen (o2+k * 8+5);obtain⟨u6,q6'⟩:=hbk2.some_ (i:=o2+k * 8+6) (by omega);have f6:=hbk2.frozen (o2+k * 8+6);obtain⟨u7,q7'⟩:=hbk2.some_ (i:=o2+k * 8+7) (by omega);have f7:=hbk2.frozen (o2+k * 8+7);have l2:=hbk2.lt;have HB2:=zh (zi hlo2 hbk2);clear hk hlt hsz2 hlo2 hbk2;go_wp2_with fail
      exact⟨⟨k+1,HKL.out,by go_num,zr_set8 HR.out HB2.out.1 HB2.out.2 _ _ _ _ _ _ _ _ _ _ _ _ _ _ _ _⟩,by have:=HKL.out;simp[intOf];omega⟩
     ·obtain rfl:k=X.outs.length:=by omega
      have hkI:¬ ((X.outs.length:Int) < (X.outs.length:Int)):=by omega
      clear hk hlt;go_wp2_with fail
      go_meet
      exact⟨HR.out.keep,HR.out.below⟩
   case rest=>
    have HC2:=zh hcut;clear hcut HXO;generalize wc=W2 at *;clear wc
    go_upto_block 6 with fail
    go_cut [13] from 73 to 85 (fun i wx=>Al [79] W2 wx∧Below WO.heap.size W2 wx)
    case first=>
     go_wp2_with fail
     go_loopw [13] (fun i wx=>∃k:Nat,k≤X.ae.length∧i= .int .i64 k∧ZRel W2 WO.heap.size 79 x3 (X.ae.length * 2) wx) (fun i _=>X.ae.length - (intOf i).toNat)
     case atStart=>exact⟨0,Nat.zero_le _,rfl,⟨Al.refl _ _,zb _ _,(HXT.out.keep HC1.out.1 (by decide)).keep HC2.out.1 (by decide)⟩⟩
     case round=>
      obtain⟨k,hk,rfl,hR⟩:=hrel;have kx:=hR.keep _ _ _ (by decide) (HC2.out.1 _ _ _ (by decide) (HC1.out.1 _ _ _ (by decide) HKX.out));have g0:wr.cell? ⟨w3.heap.size,2,none⟩=some (.slice x3 X.ae.length xc3):=kx.cell 2;have HR:=zh hR;clear hR kx;by_cases hlt:k < X.ae.length
      ·have hkI:(k:Int) < (X.ae.length:Int):=by omega
       have HKL:=zh hlt;obtain⟨b2,o2,cs2,hx2,hlo2,hbk2,hsz2⟩:=HR.out.hole.get (j:=k * 2) (by omega);subst hx2;obtain⟨u0,q0'⟩:=hbk2.some_ (i:=o2+k * 2) (by omega);have f0:=hbk2.frozen (o2+k * 2);obtain⟨u1,q1'⟩:=hbk2.some_ (i:=o2+k * 2+1) (by omega);have f1:=hbk2.frozen (o2+k * 2+1);have l2:=hbk2.lt;have HB2:=zh (zi hlo2 hbk2);clear hk hlt hsz2 hlo2 hbk2;go_wp2_with fail
       exact⟨⟨k+1,HKL.out,by go_num,zr_set2 HR.out HB2.out.1 HB2.out.2 _ _ _ _⟩,by have:=HKL.out;simp[intOf];omega⟩
      ·obtain rfl:k=X.ae.length:=by omega
       have hkI:¬ ((X.ae.length:Int) < (X.ae.length:Int)):=by omega
       clear hk hlt;go_wp2_with fail
       go_meet
       exact⟨HR.out.keep,HR.out.below⟩
    case rest=>
     have HC3:=zh hcut;clear hcut HXT;generalize wc=W3 at *;clear wc;have HBW:Hid (Below WO.heap.size WO W3):=zh (HBX3.out.trans (HC1.out.2.trans (HC2.out.2.trans HC3.out.2)));clear HC1 HC2 HC3 HKX HBX3;obtain⟨⟨⟨m0,m1,m2⟩,⟨n0,n1,n2,n3,n4,n5,n6,n7⟩,_,_,_,_⟩,hact⟩:=HBX.out _ (HWO.out _ HBW.out).2;have y0:=hact.cell 0;have y1':=hact.cell 1;have y2':=hact.cell 2;have y3':=hact.cell 3;have y4:=hact.cell 4
     simp only[zI,zJ,zK] at y0 y1' y2' y3' y4;clear hact;go_wp2_with fail
     clear m0 m1 m2 n0 n1 n2 n3 n4 n5 n6 n7 y0 y1' y2' y3' y4;refine(HD.out W3 (HBX.out _ (HWO.out _ HBW.out).2).1).mono ?_;rintro e w4 ⟨y1,y2,y3,yc1,yc2,yc3,ry,rfl,hh,hb⟩;have hs:=hh.bc.1;have hb:=HBW.out.trans (hb.mono HBW.out.size);clear hh;unfold Ac Ag;go_upto_region 22 with fail
     obtain⟨WY,hW1⟩:∃WY,w4.alloc (.cells (zV X y1 y2 y3 yc1 yc2 yc3) 31)=WY:=⟨_,rfl⟩;have HWY:=zh (Cb (x:=X) yc1 yc2 yc3 hs hb hW1);rw[hW1];clear hW1 hs hb;obtain⟨⟨⟨m0,m1,m2⟩,⟨n0,n1,n2,n3,n4,n5,n6,n7⟩,_,_,_,_⟩,hact⟩:=HBX.out _ (HWO.out _ (HWY.out _ (zb _ _)).2).2;have y0:=hact.cell 0;have y1':=hact.cell 1;have y2':=hact.cell 2;have y3':=hact.cell 3;have y4:=hact.cell 4
     simp only[zI,zJ,zK] at y0 y1' y2' y3' y4;clear hact;go_wp2_with fail
     clear m0 m1 m2 n0 n1 n2 n3 n4 n5 n6 n7 y0 y1' y2' y3' y4;refine(HO.out WY (HBX.out _ (HWO.out _ (HWY.out _ (zb _ _)).2).2).1).mono ?_;rintro e w5 ⟨z1,z2,z3,zc1,zc2,zc3,rz,rfl,hs,hb⟩;unfold Ac Ag;go_upto_region 23 with fail
     obtain⟨WZ,hW1⟩:∃WZ,w5.alloc (.cells (zV X z1 z2 z3 zc1 zc2 zc3) 31)=WZ:=⟨_,rfl⟩;have HWZ:=zh (Cb (x:=X) zc1 zc2 zc3 hs hb hW1);rw[hW1];clear hW1 hs hb;go_wp2_with fail
     refine(Dl _ (HBX.out _ (HWO.out _ (HWY.out _ (HWZ.out _ (zb _ _)).2).2).2).1.env).mono ?_;rintro e w6 ⟨rfl,hb6⟩;have HB6:=zh hb6;clear hb6;have HY6:=zh (HWY.out _ (HWZ.out _ HB6.out).2);have HO6:=zh (HWO.out _ HY6.out.2);obtain⟨_,⟨n0,n1,n2,n3,n4,n5,n6,n7⟩,_,_,_,_⟩:=(HBX.out _ HO6.out.2).1;obtain⟨k0,k1,k2,k3,k4,k5,k6,k7⟩:=HO6.out.1.cells;go_wp2_with fail
     clear n0 n1 n2 n3 n4 n5 n6 n7 k0 k1 k2 k3 k4 k5 k6 k7;refine(Di s s a1 a2 a3 o1 o2 o3 c1 c2 c3 oc1 oc2 oc3 rows ro w6 (HBX.out _ HO6.out.2).1.bc HSS.out HO6.out.1.at_ HSS.out).mono ?_;rw[Ea];rintro e w7 ⟨rfl,hb7⟩;have HB7:=zh (HB6.out.trans (hb7.mono HB6.out.size));clear hb7;have HZ7:=zh (HWZ.out _ HB7.out);have HY7:=zh (HWY.out _ HZ7.out.2);obtain⟨n0,n1,n2,n3,n4,n5,n6,n7⟩:=HY7.out.1.cells;obtain⟨k0,k1,k2,k3,k4,k5,k6,k7⟩:=HZ7.out.1.cells;go_wp2_with fail
     refine(Di X X y1 y2 y3 z1 z2 z3 yc1 yc2 yc3 zc1 zc2 zc3 ry rz w7 HY7.out.1.at_ HSM.out HZ7.out.1.at_ HSM.out).mono ?_;rw[Ea];rintro e w8 ⟨rfl,hb8⟩;have HB8:=zh (HB7.out.trans (hb8.mono HB7.out.size));clear hb8;go_wp2_with fail
     go_ret
     exact⟨rfl,(HBX.out _ (HWO.out _ (HWY.out _ (HWZ.out _ HB8.out).2).2).2).1.below⟩
 ·have b0:(Ao p s != 0)=true:=by simp[he]
  clear he;go_wp2_with fail
  refine(Dl _ (HBX.out _ HB1.out).1.env).mono ?_;rintro e w2 ⟨rfl,hb2⟩;have HB2:=zh (HB1.out.trans (hb2.mono HB1.out.size));clear hb2;go_wp2_with fail
  go_ret
  exact⟨rfl,(HBX.out _ HB2.out).1.below⟩
theorem restStates_any (p:Ab) (p1 p2 p3:Option Addr) (q1 q2 q3:Nat) (s:Aa) (a1 a2 a3:Option Addr) (c1 c2 c3:Nat) (rows:List Bq) (x:Cn) (w:World) (hp:Az w 0 w.heap.size p1 p2 p3 p) (hps:Ai p) (_:E1 p) (hs:Ax w 0 w.heap.size a1 a2 a3 rows s) (hss:Am s) (hsi:Ba s)
  (hc:s.ready.length≤c1∧s.outs.length≤c2∧s.ae.length≤c3) (hx:Eb x) (hE:Env w):
  Calls Tryz.prog 14 #[Bc p p1 p2 p3 q1 q2 q3,Ac s a1 a2 a3 c1 c2 c3,.agg (Ez x).toArray] w fun e w'=>e= .returned (.bool true)∧Below w.heap.size w w':=
 restStates_go p s x p1 p2 p3 a1 a2 a3 q1 q2 q3 c1 c2 c3 rows w hE hp hps hs hss hsi hc.2.1 hx
end Go.Proofs.YtaanpcjkflhomaaGreatDoor
