/-
  The law LogRecovers answers true.
-/
import Derived.Test.YtaanpcjkflhomaaGreatDoorBunLB
import Derived.Test.YtaanpcjkflhomaaGreatDoorBunLD
import Derived.Test.YtaanpcjkflhomaaGreatDoorLogJ
import Derived.Test.YtaanpcjkflhomaaGreatDoorBunG
set_option maxHeartbeats 20000000
set_option maxRecDepth 100000
set_option linter.unusedSimpArgs false
set_option linter.unusedVariables false
namespace Go.Proofs.YtaanpcjkflhomaaGreatDoor
open Go Go.RowKit
theorem Z7 (p:Ab) (p1 p2 p3:Option Addr) (q1 q2 q3:Nat) (t:ByteArray) (w:World) (hp:Az w 0 w.heap.size p1 p2 p3 p) (hps:Ai p) (ht:t.size≤1048576) (hE:Env w):
  Calls Tryz.prog 10 #[Bc p p1 p2 p3 q1 q2 q3,.string t] w fun e w'=>e= .returned (.bool true)∧Below w.heap.size w w':=by
 have hbx:∀W,Below (w.alloc (.cells (zP p p1 p2 p3 q1 q2 q3) 26)).heap.size (w.alloc (.cells (zP p p1 p2 p3 q1 q2 q3) 26)) W→
   Az W 0 W.heap.size p1 p2 p3 p∧(W.cell? ⟨w.heap.size,0,none⟩=some (.slice p1 p.aj.length q1)∧W.cell? ⟨w.heap.size,1,none⟩=some (.slice p2 p.ag.length q2)∧W.cell? ⟨w.heap.size,2,none⟩=some (.slice p3 p.binds.length q3))∧Below w.heap.size w W:=fun W hW=>by
  have h:=G6 hp q1 q2 q3 26 W hW;exact⟨h.1.wider (zn _) (by have:=hW.size;simp at this⊢;omega),h.2.1,h.2.2⟩
 unfold Bc;have HPS:=zh hps;have HT:=zh ht;have HV:=zh hE;clear hp hps ht hE;go_enter Tryz.func10,Tryz.ntmps10
 go_upto_region 1 with fail
 obtain⟨W0,hW0⟩:∃W0,w.alloc (.cells (zP p p1 p2 p3 q1 q2 q3) 26)=W0:=⟨_,rfl⟩;rw[hW0] at hbx;rw[hW0];have HBX:=zh hbx;clear hbx hW0;obtain⟨_,⟨m0,m1,m2⟩,_⟩:=HBX.out _ (zb _ _);go_wp2_with fail
 clear m0 m1 m2;refine(Ly p t p1 p2 p3 q1 q2 q3 W0 (Av (HBX.out _ (zb _ _)).2.2 HV.out) (HBX.out _ (zb _ _)).1 HPS.out HT.out).mono ?_;rintro e w2 ⟨x1,x2,x3,xc1,xc2,xc3,rx,rfl,hs,hb⟩;by_cases hc:Bf p=0
 ·by_cases hr:Dd t=0
  ·obtain⟨g1,g2,g3⟩:=Qn hc hr
   rw[g1] at hs;rw[g1,g2,g3];have HC:=zh hc;have HR:=zh hr;have HRG:=zh (fun x hx=>Xt (Tv t x hx));have HL60:=zh (L8 t);have HSM:=zh (Nr HPS.out (Dq t)).1;have HRP:=zh (fun w=>Ms t HT.out w);unfold Vr at HRP;clear g1 g2 g3 hc hr;generalize Dq t=L at *;obtain⟨X,hX⟩:∃X,Ju p L=X:=⟨_,rfl⟩;rw[hX] at hs HSM;rw[hX];have HX:=zh hX;clear hX;unfold Ac Ag;go_upto_region 2 with fail
   obtain⟨WX,hW1⟩:∃WX,w2.alloc (.cells (zV X x1 x2 x3 xc1 xc2 xc3) 31)=WX:=⟨_,rfl⟩;have HWX:=zh (Cb (x:=X) xc1 xc2 xc3 hs hb hW1);rw[hW1];clear hW1 hs hb;obtain⟨_,⟨m0,m1,m2⟩,_⟩:=HBX.out _ (HWX.out _ (zb _ _)).2;go_wp2_with fail
   clear m0 m1 m2;refine(Gt p p1 p2 p3 q1 q2 q3 0 WX (HBX.out _ (HWX.out _ (zb _ _)).2).1 HPS.out).mono ?_;rw[HC.out];rintro e w3 ⟨rfl,hb3⟩;have HB3:=zh hb3;clear hb3;go_wp2_with fail
   refine(HRP.out w3).mono ?_;rw[HR.out];rintro e w4 ⟨la,lc,rfl,hl4,hb4⟩;have HB4:=zh (HB3.out.trans (hb4.mono HB3.out.size));have HL4:=zh (hl4.wider (Nat.zero_le _) (zn _));clear hb4 hl4;go_upto_region 9 with fail
   obtain⟨WZ,hWZ⟩:∃WZ,w4.alloc (.cells zO 31)=WZ:=⟨_,rfl⟩;have hbz:Below w4.heap.size w4 WZ:=by rw[←hWZ];exact(zb _ _).alloc (zn _) _
   have HBZ:=zh (HB4.out.trans (hbz.mono HB4.out.size));have HKZ:Hid (Bk WZ w4.heap.size 31 zO):=zh (by rw[←hWZ];exact Bk.new _ _ _);have HLZ:=zh ((HL4.out.below hbz (zn _)).wider (zn _) hbz.size);rw[hWZ];clear hWZ hbz;obtain⟨_,⟨m0,m1,m2⟩,_⟩:=HBX.out _ (HWX.out _ HBZ.out).2;have hdo:=Za p L p1 p2 p3 la q1 q2 q3 lc WZ (Av (HBX.out _ (HWX.out _ HBZ.out).2).2.2 HV.out) (HBX.out _ (HWX.out _ HBZ.out).2).1 HPS.out HLZ.out HL60.out HRG.out;rw[HX.out] at hdo;have HDN:=zh hdo;clear hdo;go_wp2_with fail
   clear m0 m1 m2;refine HDN.out.mono ?_;rintro e w5 ⟨y1,y2,y3,yc1,yc2,yc3,ry,rfl,hs5,hb5⟩;have HB5:=zh (HBZ.out.trans (hb5.mono HBZ.out.size));have HS5:=zh hs5;have HK5:=zh (HKZ.out.below hb5 HKZ.out.lt);have HLT:=zh HKZ.out.lt;have HGE:=zh (show WX.heap.size≤w4.heap.size from HB4.out.size);clear hs5 hb5;unfold Ac Ag;obtain⟨_,_,_,_,_,_,_,_,g0,g1,g2,g3,g4,g5,g6,g7,hltG⟩:=Af HK5.out;go_upto_region 10 with fail
   clear g0 g1 g2 g3 g4 g5 g6 g7 hltG;generalize hWS:((((((((w5.setCell ⟨w4.heap.size,0,none⟩ (.slice y1 X.ready.length yc1)).setCell ⟨w4.heap.size,1,none⟩ (.slice y2 X.outs.length yc2)).setCell ⟨w4.heap.size,2,none⟩ (.slice y3 X.ae.length yc3)).setCell ⟨w4.heap.size,3,none⟩ (.int .i64 X.ah)).setCell ⟨w4.heap.size,4,none⟩ (.int .i64 X.af)).setCell ⟨w4.heap.size,5,none⟩ (.int .i64 X.aw)).setCell ⟨w4.heap.size,6,none⟩ (.int .i64 X.ar)).setCell ⟨w4.heap.size,7,none⟩ (.int .i64 X.dropped))=WS;have HKS:Hid (Bk WS w4.heap.size 31 (zV X y1 y2 y3 yc1 yc2 yc3)):=zh (by rw[←hWS];exact Yf HK5.out _ _ _ _ _ _ _ _);have HBS:Hid (Below WX.heap.size WX WS):=zh (by rw[←hWS];exact Ak HB5.out HGE.out _ _ _ _ _ _ _ _);have HSS:Hid (Ax WS 0 WS.heap.size y1 y2 y3 ry X):=zh (by rw[←hWS];exact(Mp HS5.out HLT.out _ _ _ _ _ _ _ _).wider (Nat.zero_le _) (by simp[World.setCell]));clear hWS;go_wp2_with fail
   refine(Dl _ (Av (HBX.out _ (HWX.out _ HBS.out).2).2.2 HV.out)).mono ?_;rintro e w6 ⟨rfl,hb6⟩;have HB6:=zh (HBS.out.trans (hb6.mono HBS.out.size));have HK6:=zh (HKS.out.below hb6 HKS.out.lt);have HS6:=zh ((HSS.out.below hb6 (zn _)).wider (zn _) hb6.size);clear hb6;have HX7:=zh (HWX.out _ HB6.out);obtain⟨n0,n1,n2,n3,n4,n5,n6,n7⟩:=HX7.out.1.cells;obtain⟨k0,k1,k2,k3,k4,k5,k6,k7⟩:=Jl HK6.out;go_wp2_with fail
   refine(Di X X x1 x2 x3 y1 y2 y3 xc1 xc2 xc3 yc1 yc2 yc3 rx ry w6 HX7.out.1.at_ HSM.out HS6.out HSM.out).mono ?_;rw[Ea];rintro e w8 ⟨rfl,hb8⟩;have HB8:=zh (HB6.out.trans (hb8.mono HB6.out.size));clear hb8;go_wp2_with fail
   go_ret
   exact⟨rfl,(HBX.out _ (HWX.out _ HB8.out).2).2.2⟩
  ·obtain⟨g1,g2,g3⟩:=Ae3 (p:=p) (t:=t) (by unfold Hn;rw[zq (by simp[hc])]) hr
   rw[g1] at hs;rw[g1,g2,g3];have HC:=zh hc;clear g1 g2 g3 hc;have hr1:(Dd t == 0)=false:=by simp[hr]
   have HRP:=zh (fun w=>Ms t HT.out w);unfold Vr at HRP;clear hr;generalize Dd t=er at *;generalize Dq t=L at *;unfold Ac Ag;go_upto_region 2 with fail
   obtain⟨WX,hW1⟩:∃WX,w2.alloc (.cells (zV Ay x1 x2 x3 xc1 xc2 xc3) 31)=WX:=⟨_,rfl⟩;have HWX:=zh (Cb (x:=Ay) xc1 xc2 xc3 hs hb hW1);rw[hW1];clear hW1 hs hb;obtain⟨_,⟨m0,m1,m2⟩,_⟩:=HBX.out _ (HWX.out _ (zb _ _)).2;go_wp2_with fail
   clear m0 m1 m2;refine(Gt p p1 p2 p3 q1 q2 q3 0 WX (HBX.out _ (HWX.out _ (zb _ _)).2).1 HPS.out).mono ?_;rw[HC.out];rintro e w3 ⟨rfl,hb3⟩;have HB3:=zh hb3;clear hb3;go_wp2_with fail
   refine(HRP.out w3).mono ?_;rintro e w4 ⟨la,lc,rfl,hl4,hb4⟩;have HB4:=zh (HB3.out.trans (hb4.mono HB3.out.size));have HL4:=zh (hl4.wider (Nat.zero_le _) (zn _));clear hb4 hl4;go_wp2_with fail
   obtain⟨WZ,hWZ⟩:∃WZ,w4.alloc (.cells zO 31)=WZ:=⟨_,rfl⟩;have HBZ:Hid (Below WX.heap.size WX WZ):=zh (by rw[←hWZ];exact HB4.out.alloc HB4.out.size _);have HKZ:Hid (Bk WZ w4.heap.size 31 zO):=zh (by rw[←hWZ];exact Bk.new _ _ _);rw[hWZ];clear hWZ;refine(Dl _ (Av (HBX.out _ (HWX.out _ HBZ.out).2).2.2 HV.out)).mono ?_;rintro e w5 ⟨rfl,hb5⟩;have HB5:=zh (HBZ.out.trans (hb5.mono HBZ.out.size));have HK5:=zh (HKZ.out.below hb5 HKZ.out.lt);clear hb5;have HX7:=zh (HWX.out _ HB5.out);obtain⟨n0,n1,n2,n3,n4,n5,n6,n7⟩:=HX7.out.1.cells;obtain⟨k0,k1,k2,k3,k4,k5,k6,k7⟩:=Jl HK5.out;have HSS:=zh (Di Ay Ay x1 x2 x3 none none none xc1 xc2 xc3 0 0 0 rx [] w5 HX7.out.1.at_ G4 (Ki _ _ _) G4);rw[Ea] at HSS;go_wp2_with fail
   refine HSS.out.mono ?_;rintro e w8 ⟨rfl,hb8⟩;have HB8:=zh (HB5.out.trans (hb8.mono HB5.out.size));clear hb8;go_wp2_with fail
   go_ret
   exact⟨rfl,(HBX.out _ (HWX.out _ HB8.out).2).2.2⟩
 ·obtain⟨g1,g2,g3⟩:=Ae3 (p:=p) (t:=t) (by unfold Hn;rw[zp hc]) hc
  rw[g1] at hs;rw[g1,g2,g3];clear g1 g2 g3;have hr1:(Bf p == 0)=false:=by simp[hc]
  have HCP:=zh (fun w h=>Gt p p1 p2 p3 q1 q2 q3 0 w h HPS.out);clear hc;generalize Bf p=er at *;unfold Ac Ag;go_upto_region 2 with fail
  obtain⟨WX,hW1⟩:∃WX,w2.alloc (.cells (zV Ay x1 x2 x3 xc1 xc2 xc3) 31)=WX:=⟨_,rfl⟩;have HWX:=zh (Cb (x:=Ay) xc1 xc2 xc3 hs hb hW1);rw[hW1];clear hW1 hs hb;obtain⟨_,⟨m0,m1,m2⟩,_⟩:=HBX.out _ (HWX.out _ (zb _ _)).2;go_wp2_with fail
  clear m0 m1 m2;refine(HCP.out WX (HBX.out _ (HWX.out _ (zb _ _)).2).1).mono ?_;rintro e w3 ⟨rfl,hb3⟩;have HB3:=zh hb3;clear hb3;go_wp2_with fail
  refine(Ms t HT.out w3).mono ?_;rintro e w4 ⟨la,lc,rfl,hl4,hb4⟩;have HB4:=zh (HB3.out.trans (hb4.mono HB3.out.size));have HL4:=zh (hl4.wider (Nat.zero_le _) (zn _));clear hb4 hl4;go_wp2_with fail
  obtain⟨WZ,hWZ⟩:∃WZ,w4.alloc (.cells zO 31)=WZ:=⟨_,rfl⟩;have HBZ:Hid (Below WX.heap.size WX WZ):=zh (by rw[←hWZ];exact HB4.out.alloc HB4.out.size _);have HKZ:Hid (Bk WZ w4.heap.size 31 zO):=zh (by rw[←hWZ];exact Bk.new _ _ _);rw[hWZ];clear hWZ;refine(Dl _ (Av (HBX.out _ (HWX.out _ HBZ.out).2).2.2 HV.out)).mono ?_;rintro e w5 ⟨rfl,hb5⟩;have HB5:=zh (HBZ.out.trans (hb5.mono HBZ.out.size));have HK5:=zh (HKZ.out.below hb5 HKZ.out.lt);clear hb5;have HX7:=zh (HWX.out _ HB5.out);obtain⟨n0,n1,n2,n3,n4,n5,n6,n7⟩:=HX7.out.1.cells;obtain⟨k0,k1,k2,k3,k4,k5,k6,k7⟩:=Jl HK5.out;have HSS:=zh (Di Ay Ay x1 x2 x3 none none none xc1 xc2 xc3 0 0 0 rx [] w5 HX7.out.1.at_ G4 (Ki _ _ _) G4);rw[Ea] at HSS;go_wp2_with fail
  refine HSS.out.mono ?_;rintro e w8 ⟨rfl,hb8⟩;have HB8:=zh (HB5.out.trans (hb8.mono HB5.out.size));clear hb8;go_wp2_with fail
  go_ret
  exact⟨rfl,(HBX.out _ (HWX.out _ HB8.out).2).2.2⟩
theorem Afg (p:Ab) (p1 p2 p3:Option Addr) (q1 q2 q3:Nat) (t:ByteArray) (w:World) (hp:Az w 0 w.heap.size p1 p2 p3 p) (hps:Ai p) (_:E1 p) (ht:t.size≤1048576) (hE:Env w):
  Calls Tryz.prog 10 #[Bc p p1 p2 p3 q1 q2 q3,.string t] w fun e w'=>e= .returned (.bool true)∧Below w.heap.size w w':=
 Z7 p p1 p2 p3 q1 q2 q3 t w hp hps ht hE
end Go.Proofs.YtaanpcjkflhomaaGreatDoor
