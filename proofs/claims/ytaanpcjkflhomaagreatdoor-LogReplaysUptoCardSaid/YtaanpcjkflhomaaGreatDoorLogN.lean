/-
  The law LogReplays answers true.
-/
import Derived.Test.YtaanpcjkflhomaaGreatDoorLogM
import Derived.Test.YtaanpcjkflhomaaGreatDoorLogF
import Derived.Test.YtaanpcjkflhomaaGreatDoorLogG
set_option maxHeartbeats 20000000
set_option maxRecDepth 100000
set_option linter.unusedSimpArgs false
set_option linter.unusedVariables false
namespace Go.Proofs.YtaanpcjkflhomaaGreatDoor
open Go Go.RowKit
theorem Ahj (x:Cn) (t:ByteArray) (w:World) (hx:Eb x) (ht:t.size≤1048576) (hE:Env w):
  Calls Tryz.prog 9 #[.agg (Ez x).toArray,.string t] w fun e w'=>e= .returned (.bool true)∧Below w.heap.size w w':=by
 have HX:=zh hx
 have HE:=zh hE
 clear hx hE
 unfold Ez
 go_enter Tryz.func9,Tryz.ntmps9
 go_upto_region 1 with fail
 obtain⟨W0,hW0⟩:∃W0,w.alloc (.cells #[.int .i64 x.kind,.int .i64 x.a,.int .i64 x.b,.string x.key,.string x.body] 57)=W0:=⟨_,rfl⟩
 have HB0:Hid (Below w.heap.size w W0):=zh (by rw[←hW0];exact(zb _ _).alloc (zn _) _)
 have HK0:Hid (Bk W0 w.heap.size 57 #[.int .i64 x.kind,.int .i64 x.a,.int .i64 x.b,.string x.key,.string x.body]):=zh (by rw[←hW0];exact Bk.new _ _ _)
 rw[hW0]
 clear hW0
 have x0:=HK0.out.cell 0;have x1:=HK0.out.cell 1;have x2:=HK0.out.cell 2;have x3:=HK0.out.cell 3;have x4:=HK0.out.cell 4
 simp only[zI,zJ,zK] at x0 x1 x2 x3 x4
 go_wp2_with fail
 clear x0 x1 x2 x3 x4
 refine(Jv x HX.out _).mono ?_
 rintro e w1 ⟨rfl,hb1⟩
 have HB1:=zh (HB0.out.trans (hb1.mono HB0.out.size))
 have HK1:=zh (HK0.out.below hb1 HK0.out.lt)
 have x0:=HK1.out.cell 0;have x1:=HK1.out.cell 1;have x2:=HK1.out.cell 2;have x3:=HK1.out.cell 3;have x4:=HK1.out.cell 4
 simp only[zI,zJ,zK] at x0 x1 x2 x3 x4
 clear hb1
 have HAB:=zh (fun w=>Adv x HX.out w)
 generalize Gc x=A at *
 generalize F0 x=ea at *
 go_wp2_with fail
 clear x0 x1 x2 x3 x4
 refine(HAB.out _).mono ?_
 rintro e w2 ⟨rfl,hb2⟩
 have HB2:=zh (HB1.out.trans (hb2.mono HB1.out.size))
 clear hb2
 go_wp2_with fail
 have hrp:=Pt t ht w2
 have HRO:=zh (fun w=>Ms t ht w)
 have HLN:Hid ((Dq t).length≤4294967296):=zh (Nat.le_trans (L8 t) (by decide))
 unfold Vr at hrp HRO
 generalize Dq t=L at *
 generalize J4 t=n at *
 generalize Dd t=er at *
 refine hrp.mono ?_
 clear hrp
 rintro e w3 ⟨la,lc,rfl,hl3,hb3⟩
 have HB3:=zh (HB2.out.trans (hb3.mono HB2.out.size))
 have HL3:=zh (hl3.wider (Nat.zero_le _) (zn _))
 clear hb3 hl3
 go_wp2_with fail
 refine(HRO.out w3).mono ?_
 rintro e w4 ⟨ma,mc,rfl,hl4,hb4⟩
 have HB4:=zh (HB3.out.trans (hb4.mono HB3.out.size))
 have HL4:=zh ((HL3.out.below hb4 (zn _)).wider (Nat.zero_le _) hb4.size)
 have HM4:=zh (hl4.wider (Nat.zero_le _) (zn _))
 clear hb4 hl4
 go_wp2_with fail
 refine(Dl _ (Av HB4.out HE.out)).mono ?_
 rintro e w5 ⟨rfl,hb5⟩
 have HB5:=zh (HB4.out.trans (hb5.mono HB4.out.size))
 have HS:=Ad0 la ma lc mc L L w5 0 ((HL4.out.below hb5 (zn _)).wider (zn _) hb5.size) ((HM4.out.below hb5 (zn _)).wider (zn _) hb5.size) HLN.out HLN.out
 rw[Pv.2 rfl] at HS
 have HS:=zh HS
 clear hb5
 go_wp2_with fail
 refine HS.out.mono ?_
 rintro e w6 ⟨rfl,hb6⟩
 have HB6:=zh (HB5.out.trans (hb6.mono HB5.out.size))
 clear hb6
 go_wp2_with fail
 go_ret
 exact⟨rfl,HB6.out⟩
end Go.Proofs.YtaanpcjkflhomaaGreatDoor
