/-
  The law LogDoes answers true.
-/
import Derived.Test.YtaanpcjkflhomaaGreatDoorBunLB
import Derived.Test.YtaanpcjkflhomaaGreatDoorBunG
import Derived.Test.YtaanpcjkflhomaaGreatDoorBunDC
set_option maxHeartbeats 20000000
set_option maxRecDepth 100000
set_option linter.unusedSimpArgs false
set_option linter.unusedVariables false
namespace Go.Proofs.YtaanpcjkflhomaaGreatDoor
open Go Go.RowKit
theorem Anr (p:Ab) (s:Aa) (x:Cn):Am (doS p s x):=by
 by_cases h:E2 p s x=0
 ·exact(Q8 h).right.small
 ·rw[Aul h]
  exact G4
theorem Akj (p:Ab) (s:Aa) (x:Cn) (p1 p2 p3 a1 a2 a3:Option Addr) (q1 q2 q3 c1 c2 c3:Nat) (rows:List Bq) (w:World) (hE:Env w) (hp:Az w 0 w.heap.size p1 p2 p3 p) (hps:Ai p) (hs:Ax w 0 w.heap.size a1 a2 a3 rows s) (hss:Am s) (hsi:Ba s) (hcap:s.outs.length≤c2) (hx:Eb x):
  Calls Tryz.prog 8 #[Bc p p1 p2 p3 q1 q2 q3,Ac s a1 a2 a3 c1 c2 c3,.agg (Ez x).toArray] w fun e w'=>e= .returned (.bool true)∧Below w.heap.size w w':=by
 have HCAP:=zh hcap;clear hcap;have hbx:=B9 q1 q2 q3 c1 c2 c3 hE hp hs 26 31;unfold Ag at hbx;unfold Ac Bc Ag Ez;have HPS:=zh hps;have HSS:=zh hss;have HSI:=zh hsi;have HAS:=zh hx;clear hE hp hs hps hss hsi hx;obtain⟨⟨m0,m1,m2⟩,⟨n0,n1,n2,n3,n4,n5,n6,n7⟩,_,_,_,_⟩:=hbx ((((w.alloc (.cells (zP p p1 p2 p3 q1 q2 q3) 26)).alloc (.cells (zV s a1 a2 a3 c1 c2 c3) 31)).alloc (.cells (zX x) 57))) ((zb _ _).alloc (zn _) _);go_enter Tryz.func8,Tryz.ntmps8
 go_upto_region 1 with fail
 clear m0 m1 m2 n0 n1 n2 n3 n4 n5 n6 n7;obtain⟨V2,hV2⟩:∃V2,((w.alloc (.cells (zP p p1 p2 p3 q1 q2 q3) 26)).alloc (.cells (zV s a1 a2 a3 c1 c2 c3) 31))=V2:=⟨_,rfl⟩;have hz2:V2.heap.size=w.heap.size+1+1:=by rw[←hV2];simp
 rw[hV2] at hbx;rw[hV2];clear hV2;obtain⟨W0,hW0⟩:∃W0,V2.alloc (.cells (zX x) 57)=W0:=⟨_,rfl⟩;have kb0:Bk W0 (w.heap.size+1+1) 57 (zX x):=by rw[←hW0];exact Bk.cg _ _ _ hz2.symm
 have bW:Below V2.heap.size V2 W0:=by rw[←hW0];exact(zb _ _).alloc (zn _) _
 rw[hW0];have HBX:Hid (∀W,Below W0.heap.size W0 W→La w p s p1 p2 p3 a1 a2 a3 q1 q2 q3 c1 c2 c3 rows W∧Bk W (w.heap.size+1+1) 57 (zX x)):=zh fun W hW=>⟨hbx W (bW.trans (hW.mono bW.size)),kb0.below hW kb0.lt⟩;clear hbx hz2 hW0 bW kb0;obtain⟨⟨⟨m0,m1,m2⟩,⟨n0,n1,n2,n3,n4,n5,n6,n7⟩,_,_,_,_⟩,hact⟩:=HBX.out _ (zb _ _);have x0:=hact.cell 0;have x1:=hact.cell 1;have x2:=hact.cell 2;have x3:=hact.cell 3;have x4:=hact.cell 4
 simp only[zI,zJ,zK] at x0 x1 x2 x3 x4;clear hact;go_wp2_with fail
 refine(T3 p s x p1 p2 p3 a1 a2 a3 q1 q2 q3 c1 c2 c3 rows W0 (HBX.out _ (zb _ _)).1.env (HBX.out _ (zb _ _)).1.bu HPS.out (HBX.out _ (zb _ _)).1.bc HSS.out HSI.out HAS.out).mono ?_;rintro e w2 ⟨x1,x2,x3,xc1,xc2,xc3,rx,rfl,hs,hb⟩;clear m0 m1 m2 n0 n1 n2 n3 n4 n5 n6 n7;have HSM:=zh (Anr p s x);have HD2:Hid (∀W,La w p s p1 p2 p3 a1 a2 a3 q1 q2 q3 c1 c2 c3 rows W→Calls Tryz.prog 35 #[.agg (zP p p1 p2 p3 q1 q2 q3),.agg (zV s a1 a2 a3 c1 c2 c3),.agg (zX x)] W (Jk (doS p s x) (E2 p s x) W)):=zh fun W hW=>
  Apu p s x p1 p2 p3 a1 a2 a3 q1 q2 q3 c1 c2 c3 rows W hW.env hW.bu HPS.out hW.bc HSS.out HSI.out HCAP.out HAS.out
 generalize doS p s x=X at *;generalize E2 p s x=er at *;unfold Ac Ag;go_upto_region 2 with fail
 obtain⟨WX,hW1⟩:∃WX,w2.alloc (.cells (zV X x1 x2 x3 xc1 xc2 xc3) 31)=WX:=⟨_,rfl⟩;have HWX:=zh (Cb (x:=X) xc1 xc2 xc3 hs hb hW1);rw[hW1];clear hW1 hs hb;obtain⟨⟨⟨m0,m1,m2⟩,⟨n0,n1,n2,n3,n4,n5,n6,n7⟩,_,_,_,_⟩,hact⟩:=HBX.out _ (HWX.out _ (zb _ _)).2;have x0:=hact.cell 0;have x1':=hact.cell 1;have x2':=hact.cell 2;have x3':=hact.cell 3;have x4:=hact.cell 4
 simp only[zI,zJ,zK] at x0 x1' x2' x3' x4;clear hact;go_wp2_with fail
 clear m0 m1 m2 n0 n1 n2 n3 n4 n5 n6 n7 x0 x1' x2' x3' x4;refine(HD2.out _ (HBX.out _ (HWX.out _ (zb _ _)).2).1).mono ?_;rintro e w5 ⟨y1,y2,y3,yc1,yc2,yc3,ry,rfl,hs,hb⟩;unfold Ac Ag;go_upto_region 3 with fail
 obtain⟨WZ,hW1⟩:∃WZ,w5.alloc (.cells (zV X y1 y2 y3 yc1 yc2 yc3) 31)=WZ:=⟨_,rfl⟩;have HWZ:=zh (Cb (x:=X) yc1 yc2 yc3 hs hb hW1);rw[hW1];clear hW1 hs hb;go_wp2_with fail
 refine(Dl _ (HBX.out _ (HWX.out _ (HWZ.out _ (zb _ _)).2).2).1.env).mono ?_;rintro e w6 ⟨rfl,hb6⟩;have HB6:=zh hb6;clear hb6;have HZ7:=zh (HWZ.out _ HB6.out);have HX7:=zh (HWX.out _ HZ7.out.2);obtain⟨n0,n1,n2,n3,n4,n5,n6,n7⟩:=HX7.out.1.cells;obtain⟨k0,k1,k2,k3,k4,k5,k6,k7⟩:=HZ7.out.1.cells;go_wp2_with fail
 refine(Di X X x1 x2 x3 y1 y2 y3 xc1 xc2 xc3 yc1 yc2 yc3 rx ry w6 HX7.out.1.at_ HSM.out HZ7.out.1.at_ HSM.out).mono ?_;rw[Ea];rintro e w8 ⟨rfl,hb8⟩;have HB8:=zh (HB6.out.trans (hb8.mono HB6.out.size));clear hb8;go_wp2_with fail
 go_ret
 exact⟨rfl,(HBX.out _ (HWX.out _ (HWZ.out _ HB8.out).2).2).1.below⟩
theorem Ape (p:Ab) (p1 p2 p3:Option Addr) (q1 q2 q3:Nat) (s:Aa) (a1 a2 a3:Option Addr) (c1 c2 c3:Nat) (rows:List Bq) (x:Cn) (w:World) (hp:Az w 0 w.heap.size p1 p2 p3 p) (hps:Ai p) (_:E1 p) (hs:Ax w 0 w.heap.size a1 a2 a3 rows s) (hss:Am s) (hsi:Ba s)
  (hc:s.ready.length≤c1∧s.outs.length≤c2∧s.ae.length≤c3) (hx:Eb x) (hE:Env w):
  Calls Tryz.prog 8 #[Bc p p1 p2 p3 q1 q2 q3,Ac s a1 a2 a3 c1 c2 c3,.agg (Ez x).toArray] w fun e w'=>e= .returned (.bool true)∧Below w.heap.size w w':=
 Akj p s x p1 p2 p3 a1 a2 a3 q1 q2 q3 c1 c2 c3 rows w hE hp hps hs hss hsi hc.2.1 hx
end Go.Proofs.YtaanpcjkflhomaaGreatDoor
