/-
  The law BookTells answers true.
-/
import Derived.Test.YtaanpcjkflhomaaGreatDoorBunDA
import Derived.Test.YtaanpcjkflhomaaGreatDoorBunDD
set_option maxHeartbeats 20000000
set_option maxRecDepth 100000
set_option linter.unusedSimpArgs false
set_option linter.unusedVariables false
namespace Go.Proofs.YtaanpcjkflhomaaGreatDoor
open Go Go.RowKit
theorem Agv (p:Ab) (s:Aa) (q:Int):Am (Gl p s q):=by
 by_cases h:Ck p s q=0
 ·obtain⟨k,rfl,hd⟩:=Ua h
  exact hd.right.small
 ·unfold Gl
  rw[zq h];exact G4
theorem Aj4 (p:Ab) (s:Aa) (q:Int):(Ih p s q).length≤1048576:=by
 unfold Ih
 split
 ·rename_i h
  obtain⟨k,rfl,hd⟩:=Ua h;have hR:=(Fv.1 (Ko.1 (Pf.1 h).1).1).1;rw[List.length_map,hd.line];exact(hR.small.row _ (zg hd.isK)).len
 ·exact Nat.zero_le _
theorem Aec (p:Ab) (s:Aa) (q:Int) (p1 p2 p3 a1 a2 a3:Option Addr) (q1 q2 q3 c1 c2 c3:Nat) (rows:List Bq) (w:World) (hE:Env w) (hp:Az w 0 w.heap.size p1 p2 p3 p) (hps:Ai p) (hs:Ax w 0 w.heap.size a1 a2 a3 rows s) (hss:Am s) (hsi:Ba s):
  Calls Tryz.prog 5 #[Bc p p1 p2 p3 q1 q2 q3,Ac s a1 a2 a3 c1 c2 c3,.int .i64 q] w fun e w'=>e= .returned (.bool true)∧Below w.heap.size w w':=by
 have hbx:=B9 q1 q2 q3 c1 c2 c3 hE hp hs 26 31;unfold Ag at hbx;unfold Ac Bc Ag;have HBX:=zh hbx;have HPS:=zh hps;have HSS:=zh hss;have HSI:=zh hsi;clear hbx hE hp hs hps hss hsi;go_enter Tryz.func5,Tryz.ntmps5
 obtain⟨⟨m0,m1,m2⟩,⟨n0,n1,n2,n3,n4,n5,n6,n7⟩,_,_,_,_⟩:=HBX.out _ (zb _ _);go_wp2_with fail
 clear m0 m1 m2 n0 n1 n2 n3 n4 n5 n6 n7;generalize ((w.alloc (.cells (zP p p1 p2 p3 q1 q2 q3) 26)).alloc (.cells (zV s a1 a2 a3 c1 c2 c3) 31))=W0 at *;have HJ:Hid (Am (Gl p s q)):=zh (Agv p s q);have HLL:Hid ((Ih p s q).length≤4294967296):=zh (by have:=Aj4 p s q;omega);generalize hX:Gl p s q=X at *;generalize hl:Ih p s q=l at *;generalize her:Ck p s q=er at *;have HD:Hid (∀W,Below W0.heap.size W0 W→Calls Tryz.prog 24 #[.agg (zP p p1 p2 p3 q1 q2 q3),.agg (zV s a1 a2 a3 c1 c2 c3),.int .i64 q] W (Pq X l er W)):=fun W hW=>by
  rw[←hX,←hl,←her];exact Sa p s q p1 p2 p3 a1 a2 a3 q1 q2 q3 c1 c2 c3 rows W (HBX.out _ hW).env (HBX.out _ hW).bu HPS.out (HBX.out _ hW).bc HSS.out HSI.out
 have HO:Hid (∀W,Below W0.heap.size W0 W→Calls Tryz.prog 27 #[.agg (zP p p1 p2 p3 q1 q2 q3),.agg (zV s a1 a2 a3 c1 c2 c3),.int .i64 q] W (Pq X l er W)):=fun W hW=>by
  rw[←hX,←hl,←her];exact Afk p s q p1 p2 p3 a1 a2 a3 q1 q2 q3 c1 c2 c3 rows W (HBX.out _ hW).env (HBX.out _ hW).bu HPS.out (HBX.out _ hW).bc HSS.out HSI.out
 clear hX hl her;obtain⟨⟨m0,m1,m2⟩,⟨n0,n1,n2,n3,n4,n5,n6,n7⟩,_,_,_,_⟩:=HBX.out _ (zb _ _);go_wp2_with fail
 refine(Sc p s p1 p2 p3 a1 a2 a3 q1 q2 q3 c1 c2 c3 rows W0 (HBX.out _ (zb _ _)).env (HBX.out _ (zb _ _)).bu HPS.out (HBX.out _ (zb _ _)).bc HSS.out HSI.out).mono ?_;generalize hLX:(if Ao p s=0 then I0 s else [])=LX;rintro e w1 ⟨la,ln,lc,rfl,rfl,hll,hb1⟩;have HLX:=zh hLX;clear hLX;have HB1:=zh hb1;have HL1:=zh (hll.wider (Nat.zero_le _) (zn _));clear hb1 hll;clear m0 m1 m2 n0 n1 n2 n3 n4 n5 n6 n7;obtain⟨⟨m0,m1,m2⟩,⟨n0,n1,n2,n3,n4,n5,n6,n7⟩,_,_,_,_⟩:=HBX.out _ HB1.out;go_wp2_with fail
 refine(HD.out _ HB1.out).mono ?_;rintro e w2 ⟨x1,x2,x3,xc1,xc2,xc3,rx,xt,xtc,rfl,hs,hsl,hb⟩;have hbo:=hb;have hb:=HB1.out.trans (hb.mono HB1.out.size);unfold Ac Ag;clear m0 m1 m2 n0 n1 n2 n3 n4 n5 n6 n7;go_upto_region 3 with fail
 obtain⟨WX,hW1⟩:∃WX,w2.alloc (.cells (zV X x1 x2 x3 xc1 xc2 xc3) 31)=WX:=⟨_,rfl⟩;have hal:Below w2.heap.size w2 WX:=by rw[←hW1];exact(zb _ _).alloc (zn _) _
 have HWX:=zh (Cb (x:=X) xc1 xc2 xc3 hs hb hW1);have HPWX:Hid (∀W,Below WX.heap.size WX W→Below w1.heap.size w1 W):=zh fun W hW=>(hbo.trans (hal.mono hbo.size)).trans (hW.mono (hbo.trans (hal.mono hbo.size)).size);have HTWX:Hid (∀W,Below WX.heap.size WX W→Sl W 0 W.heap.size xt (l.map Value.string)):=zh fun W hW=>(((hsl.below hal (zn _)).wider (Nat.zero_le _) hal.size).below hW (zn _)).wider (zn _) hW.size;rw[hW1];clear hW1 hal hs hsl hb hbo;obtain⟨⟨m0,m1,m2⟩,⟨n0,n1,n2,n3,n4,n5,n6,n7⟩,_,_,_,_⟩:=HBX.out _ (HWX.out _ (zb _ _)).2;go_wp2_with fail
 refine(Fx p s p1 p2 p3 a1 a2 a3 q1 q2 q3 c1 c2 c3 rows WX (HBX.out _ (HWX.out _ (zb _ _)).2).env (HBX.out _ (HWX.out _ (zb _ _)).2).bu HPS.out (HBX.out _ (HWX.out _ (zb _ _)).2).bc HSS.out HSI.out).mono ?_;rintro e w3 ⟨rfl,hb3⟩;have HB3:=zh hb3;clear hb3;clear m0 m1 m2 n0 n1 n2 n3 n4 n5 n6 n7;by_cases he:Ao p s=0
 ·have b0:(Ao p s == 0)=true:=by simp[he]
  obtain rfl:I0 s=LX:=by have:=HLX.out;rwa [zp he] at this
  rw[Gq];clear HLX;have HLS:Hid ((I0 s).length≤4294967296):=zh (by rw[Gq];have:=HSS.out.ready;omega);clear he;obtain⟨_,⟨n0,n1,n2,n3,n4,n5,n6,n7⟩,_,_,_,_⟩:=HBX.out _ (HWX.out _ HB3.out).2;go_wp2_with fail
  refine(Afm s a1 a2 a3 c1 c2 c3 rows w3 (HBX.out _ (HWX.out _ HB3.out).2).bc HSS.out).mono ?_;rintro e w4 ⟨v,rfl,hv,hb4⟩;obtain⟨va,vc,rfl,_⟩:=Ad hv;have HVA:Hid (Sl w4 0 w4.heap.size va (Ld (I0 s))):=zh ((Sl.cu hv).wider (Nat.zero_le _) (zn _));have HB4:=zh (HB3.out.trans (hb4.mono HB3.out.size));clear n0 n1 n2 n3 n4 n5 n6 n7 hv hb4 b0;obtain⟨⟨m0,m1,m2⟩,⟨n0,n1,n2,n3,n4,n5,n6,n7⟩,_,_,_,_⟩:=HBX.out _ (HWX.out _ HB4.out).2;go_wp2_with fail
  refine(HO.out _ (HWX.out _ HB4.out).2).mono ?_;rintro e w5 ⟨y1,y2,y3,yc1,yc2,yc3,ry,yt,ytc,rfl,hs,hsl,hb⟩;have hbo:=hb;have hb:=HB4.out.trans (hb.mono HB4.out.size);unfold Ac Ag;clear m0 m1 m2 n0 n1 n2 n3 n4 n5 n6 n7;go_upto_region 8 with fail
  obtain⟨WY,hW1⟩:∃WY,w5.alloc (.cells (zV X y1 y2 y3 yc1 yc2 yc3) 31)=WY:=⟨_,rfl⟩;have hal:Below w5.heap.size w5 WY:=by rw[←hW1];exact(zb _ _).alloc (zn _) _
  have HWY:=zh (Cb (x:=X) yc1 yc2 yc3 hs hb hW1);have HPWY:Hid (∀W,Below WY.heap.size WY W→Below w4.heap.size w4 W):=zh fun W hW=>(hbo.trans (hal.mono hbo.size)).trans (hW.mono (hbo.trans (hal.mono hbo.size)).size);have HTWY:Hid (∀W,Below WY.heap.size WY W→Sl W 0 W.heap.size yt (l.map Value.string)):=zh fun W hW=>(((hsl.below hal (zn _)).wider (Nat.zero_le _) hal.size).below hW (zn _)).wider (zn _) hW.size;rw[hW1];clear hW1 hal hs hsl hb hbo;go_wp2_with fail
  refine(Hh _ (HBX.out _ (HWX.out _ (HWY.out _ (zb _ _)).2).2).env).mono ?_;rintro e w6 ⟨rfl,hb6⟩;have HB6:=zh hb6;clear hb6;have HY6:=zh (HWY.out _ HB6.out);have hbx1:Below w1.heap.size w1 w6:=HPWX.out _ HY6.out.2;have hbx4:Below w4.heap.size w4 w6:=HPWY.out _ HB6.out;have hsi:=Mt la va lc vc (I0 s) (I0 s) w6 0 ((HL1.out.below hbx1 (zn _)).wider (zn _) hbx1.size) ((HVA.out.below hbx4 (zn _)).wider (zn _) hbx4.size) HLS.out HLS.out;rw[Gq] at hsi;have edi:decide (I0 s=I0 s)=true:=decide_eq_true rfl;rw[edi] at hsi;clear edi;have HSI2:=zh hsi;clear hsi hbx1 hbx4;go_wp2_with fail
  refine HSI2.out.mono ?_;rintro e w7 ⟨rfl,hb7⟩;have HB7:=zh (HB6.out.trans (hb7.mono HB6.out.size));clear hb7;go_wp2_with fail
  have hst:=Lo xt yt xtc ytc l l w7 0 (HTWX.out _ (HWY.out _ HB7.out).2) (HTWY.out _ HB7.out) HLL.out HLL.out;have edi:decide (l=l)=true:=decide_eq_true rfl;rw[edi] at hst;clear edi;refine hst.mono ?_;clear hst;rintro e w8 ⟨rfl,hb8⟩;have HB8:=zh (HB7.out.trans (hb8.mono HB7.out.size));clear hb8;have HY8:=zh (HWY.out _ HB8.out);have HX8:=zh (HWX.out _ HY8.out.2);obtain⟨n0,n1,n2,n3,n4,n5,n6,n7⟩:=HX8.out.1.cells;obtain⟨k0,k1,k2,k3,k4,k5,k6,k7⟩:=HY8.out.1.cells;go_wp2_with fail
  refine(Di X X x1 x2 x3 y1 y2 y3 xc1 xc2 xc3 yc1 yc2 yc3 rx ry w8 HX8.out.1.at_ HJ.out HY8.out.1.at_ HJ.out).mono ?_;rw[Ea];rintro e w9 ⟨rfl,hb9⟩;have HB9:=zh (HB8.out.trans (hb9.mono HB8.out.size));clear hb9;go_wp2_with fail
  go_ret
  exact⟨rfl,(HBX.out _ (HWX.out _ (HWY.out _ HB9.out).2).2).below⟩
 ·have b0:(Ao p s == 0)=false:=by simp[he]
  obtain rfl:[]=LX:=by have:=HLX.out;rwa [zq he] at this
  rw[List.length_nil];clear HLX;have HVA:Hid (Sl w3 0 w3.heap.size none (Ld [])):=zh (Sl.nil _ _ _ _);have HLS:Hid (([]:List Int).length≤4294967296):=zh (Nat.zero_le _);have HB4:=zh HB3.out;clear he;obtain⟨⟨m0,m1,m2⟩,⟨n0,n1,n2,n3,n4,n5,n6,n7⟩,_,_,_,_⟩:=HBX.out _ (HWX.out _ HB4.out).2;go_wp2_with fail
  refine(HO.out _ (HWX.out _ HB4.out).2).mono ?_;rintro e w5 ⟨y1,y2,y3,yc1,yc2,yc3,ry,yt,ytc,rfl,hs,hsl,hb⟩;have hbo:=hb;have hb:=HB4.out.trans (hb.mono HB4.out.size);unfold Ac Ag;clear m0 m1 m2 n0 n1 n2 n3 n4 n5 n6 n7;go_upto_region 8 with fail
  obtain⟨WY,hW1⟩:∃WY,w5.alloc (.cells (zV X y1 y2 y3 yc1 yc2 yc3) 31)=WY:=⟨_,rfl⟩;have hal:Below w5.heap.size w5 WY:=by rw[←hW1];exact(zb _ _).alloc (zn _) _
  have HWY:=zh (Cb (x:=X) yc1 yc2 yc3 hs hb hW1);have HPWY:Hid (∀W,Below WY.heap.size WY W→Below w3.heap.size w3 W):=zh fun W hW=>(hbo.trans (hal.mono hbo.size)).trans (hW.mono (hbo.trans (hal.mono hbo.size)).size);have HTWY:Hid (∀W,Below WY.heap.size WY W→Sl W 0 W.heap.size yt (l.map Value.string)):=zh fun W hW=>(((hsl.below hal (zn _)).wider (Nat.zero_le _) hal.size).below hW (zn _)).wider (zn _) hW.size;rw[hW1];clear hW1 hal hs hsl hb hbo;go_wp2_with fail
  refine(Hh _ (HBX.out _ (HWX.out _ (HWY.out _ (zb _ _)).2).2).env).mono ?_;rintro e w6 ⟨rfl,hb6⟩;have HB6:=zh hb6;clear hb6;have HY6:=zh (HWY.out _ HB6.out);have hbx1:Below w1.heap.size w1 w6:=HPWX.out _ HY6.out.2;have hbx4:Below w3.heap.size w3 w6:=HPWY.out _ HB6.out;have hsi:=Mt la none lc 0 [] [] w6 0 ((HL1.out.below hbx1 (zn _)).wider (zn _) hbx1.size) ((HVA.out.below hbx4 (zn _)).wider (zn _) hbx4.size) HLS.out HLS.out;rw[List.length_nil] at hsi;have edi:decide (([]:List Int)=[])=true:=decide_eq_true rfl;rw[edi] at hsi;clear edi;have HSI2:=zh hsi;clear hsi hbx1 hbx4;go_wp2_with fail
  refine HSI2.out.mono ?_;rintro e w7 ⟨rfl,hb7⟩;have HB7:=zh (HB6.out.trans (hb7.mono HB6.out.size));clear hb7;go_wp2_with fail
  have hst:=Lo xt yt xtc ytc l l w7 0 (HTWX.out _ (HWY.out _ HB7.out).2) (HTWY.out _ HB7.out) HLL.out HLL.out;have edi:decide (l=l)=true:=decide_eq_true rfl;rw[edi] at hst;clear edi;refine hst.mono ?_;clear hst;rintro e w8 ⟨rfl,hb8⟩;have HB8:=zh (HB7.out.trans (hb8.mono HB7.out.size));clear hb8;have HY8:=zh (HWY.out _ HB8.out);have HX8:=zh (HWX.out _ HY8.out.2);obtain⟨n0,n1,n2,n3,n4,n5,n6,n7⟩:=HX8.out.1.cells;obtain⟨k0,k1,k2,k3,k4,k5,k6,k7⟩:=HY8.out.1.cells;go_wp2_with fail
  refine(Di X X x1 x2 x3 y1 y2 y3 xc1 xc2 xc3 yc1 yc2 yc3 rx ry w8 HX8.out.1.at_ HJ.out HY8.out.1.at_ HJ.out).mono ?_;rw[Ea];rintro e w9 ⟨rfl,hb9⟩;have HB9:=zh (HB8.out.trans (hb9.mono HB8.out.size));clear hb9;go_wp2_with fail
  go_ret
  exact⟨rfl,(HBX.out _ (HWX.out _ (HWY.out _ HB9.out).2).2).below⟩
theorem Ai0 (p:Ab) (p1 p2 p3:Option Addr) (q1 q2 q3:Nat) (s:Aa) (a1 a2 a3:Option Addr) (c1 c2 c3:Nat) (rows:List Bq) (q:Int) (w:World) (hp:Az w 0 w.heap.size p1 p2 p3 p) (hps:Ai p) (_:E1 p) (hs:Ax w 0 w.heap.size a1 a2 a3 rows s) (hss:Am s) (hsi:Ba s)
  (_:s.ready.length≤c1∧s.outs.length≤c2∧s.ae.length≤c3) (_: -9223372036854775808≤q∧q≤9223372036854775807) (hE:Env w):
  Calls Tryz.prog 5 #[Bc p p1 p2 p3 q1 q2 q3,Ac s a1 a2 a3 c1 c2 c3,.int .i64 q] w fun e w'=>e= .returned (.bool true)∧Below w.heap.size w w':=
 Aec p s q p1 p2 p3 a1 a2 a3 q1 q2 q3 c1 c2 c3 rows w hE hp hps hs hss hsi
end Go.Proofs.YtaanpcjkflhomaaGreatDoor
