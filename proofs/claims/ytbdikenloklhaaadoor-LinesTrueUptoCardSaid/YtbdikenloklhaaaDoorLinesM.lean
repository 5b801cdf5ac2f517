/-
  LinesTells and LinesSheds answer true.
-/
import Derived.Test.YtbdikenloklhaaaDoorLinesH
namespace Go.Proofs.YtbdikenloklhaaaDoor
open Go.RowKit
set_option maxRecDepth 100000

theorem pushOut_len (l : List ItemD) (x : ItemD) : (pushOut l x).length ≤ l.length + 1 := by
  unfold pushOut
  split
  · rw [pushL_len]; exact Nat.le_refl _
  · simp
theorem shedStay_len (l : List ItemD) (n : Int) : (shedStay l n).length ≤ l.length := by
  unfold shedStay
  split
  · rw [List.length_drop]; omega
  · simp
theorem shedOff_len (l : List ItemD) (n : Int) : (shedOff l n).length ≤ l.length := by
  unfold shedOff
  split
  · rw [List.length_take]; omega
  · simp

set_option maxHeartbeats 2000000 in
theorem linesSheds_any (a : Option Addr) (c : Nat) (l : List ItemD) (n : Int) (w : World) (hl : Sl w 0 w.heap.size a (l.flatMap vItem)) (hs : LineSmall l) (hc : l.length ≤ c) (hn : -9223372036854775808 ≤ n ∧ n ≤ 9223372036854775807) (hE : Env w) :
    Calls Tryd.prog 8 #[.slice a l.length c, .int .i64 n] w fun e w' => e = .returned (.bool true) ∧ Below w.heap.size w w' := by
  have hll := hs.len
  have hl1 := shedStay_len l n
  have hl2 := shedOff_len l n
  have HL := Lib.hid hl; clear hl
  have HS := Lib.hid hs; clear hs
  have HE := Lib.hid hE; clear hE
  have HN := Lib.hid hn
  go_enter Tryd.func8, Tryd.ntmps8
  go_wp2_with fail
  refine (Shed_any a c l n 0 w HE.out HL.out HS.out hc HN.out).mono ?_
  rintro e w1 ⟨a1, c1, b1, d1, rfl, hs1, _, ho1, _, hb1⟩
  have H1 := Lib.hid (And.intro hs1 ho1); have HB1 := Lib.hid hb1; clear hs1 ho1 hb1
  go_wp2_with fail
  refine (ShedOf_any a c l n 0 w1 ((HL.out.below HB1.out (Nat.le_refl _)).wider (Nat.le_refl _) HB1.out.size) HS.out hc HN.out).mono ?_
  rintro e w2 ⟨a2, c2, b2, d2, rfl, hs2, _, ho2, _, hb2⟩
  have H2 := Lib.hid (And.intro hs2 ho2)
  have HB12 := Lib.hid hb2
  have HB2 := Lib.hid (HB1.out.trans (hb2.mono HB1.out.size)); clear hs2 ho2 hb2
  go_wp2_with fail
  refine (linesBegun_any w2 (below_env HB2.out HE.out)).mono ?_
  rintro e w3 ⟨rfl, hb3⟩
  have HB23 := Lib.hid hb3
  have HB3 := Lib.hid (HB2.out.trans (hb3.mono HB2.out.size)); clear hb3
  go_wp2_with fail
  have k1 : Below w1.heap.size w1 w3 := HB12.out.trans (HB23.out.mono HB12.out.size)
  refine (SameItems_any a1 a2 c1 c2 (shedStay l n) (shedStay l n) w3 0 ((H1.out.1.below k1 (Nat.le_refl _)).wider (Nat.zero_le _) k1.size) ((H2.out.1.below HB23.out (Nat.le_refl _)).wider (Nat.zero_le _) HB23.out.size) (by omega) (by omega)).mono ?_
  have K1 := Lib.hid k1; clear k1
  rw [itemsEq_refl]
  rintro e w4 ⟨rfl, hb4⟩
  have HB34 := Lib.hid hb4
  have HB4 := Lib.hid (HB3.out.trans (hb4.mono HB3.out.size)); clear hb4
  go_wp2_with fail
  have k1 : Below w1.heap.size w1 w4 := K1.out.trans (HB34.out.mono K1.out.size)
  have k2 : Below w2.heap.size w2 w4 := HB23.out.trans (HB34.out.mono HB23.out.size)
  refine (SameItems_any b1 b2 d1 d2 (shedOff l n) (shedOff l n) w4 0 ((H1.out.2.below k1 (Nat.le_refl _)).wider (Nat.zero_le _) k1.size) ((H2.out.2.below k2 (Nat.le_refl _)).wider (Nat.zero_le _) k2.size) (by omega) (by omega)).mono ?_
  clear k1 k2
  rw [itemsEq_refl]
  rintro e w5 ⟨rfl, hb5⟩
  have HB5 := Lib.hid (HB4.out.trans (hb5.mono HB4.out.size)); clear hb5
  go_wp2_with fail
  go_ret
  exact ⟨by simp, HB5.out⟩

set_option maxHeartbeats 2000000 in
theorem linesTells_any (a : Option Addr) (c : Nat) (l : List ItemD) (x : ItemD) (w : World) (hl : Sl w 0 w.heap.size a (l.flatMap vItem)) (hs : LineSmall l) (_hc : l.length ≤ c) (hx : ItemSmall x) (hE : Env w) :
    Calls Tryd.prog 7 #[.slice a l.length c, .agg (vItem x).toArray] w fun e w' => e = .returned (.bool true) ∧ Below w.heap.size w w' := by
  have hll := hs.len
  have hl1 := pushOut_len l x
  have HS := Lib.hid hs; clear hs
  have HX := Lib.hid hx; clear hx
  have HE := Lib.hid hE; clear hE
  have hbx := boxedI_new w x 45
  have hz : (w.alloc (.cells #[.int .i64 x.seq, .string x.key, .string x.body, .bool x.again, .int .i64 x.deaths] 45)).heap.size = w.heap.size + 1 := by simp
  have hl0 := (hl.below ((Below.refl _ w).alloc (Nat.le_refl _) (.cells #[.int .i64 x.seq, .string x.key, .string x.body, .bool x.again, .int .i64 x.deaths] 45)) (Nat.le_refl _)).wider (lo' := 0) (hi' := (w.alloc (.cells #[.int .i64 x.seq, .string x.key, .string x.body, .bool x.again, .int .i64 x.deaths] 45)).heap.size) (Nat.zero_le _) (by simp)
  have HL0 := Lib.hid hl0
  have HBX := Lib.hid hbx
  clear hl hbx hl0
  unfold vItem
  go_enter Tryd.func7, Tryd.ntmps7
  obtain ⟨⟨e0, e1, e2, e3, e4⟩, _⟩ := HBX.out _ (Below.refl _ _)
  go_wp2_with fail
  generalize w.alloc (.cells #[.int .i64 x.seq, .string x.key, .string x.body, .bool x.again, .int .i64 x.deaths] 45) = W0 at *
  clear hz
  refine (Push_any a c l x 0 W0 (below_env (HBX.out _ (Below.refl _ _)).2 HE.out) HL0.out HS.out HX.out).mono ?_
  rintro e w1 ⟨a1, c1, rfl, hs1, _, hb1⟩
  have H1 := Lib.hid hs1; have HB1 := Lib.hid hb1; clear hs1 hb1 e0 e1 e2 e3 e4
  obtain ⟨⟨e0, e1, e2, e3, e4⟩, _⟩ := HBX.out _ HB1.out
  go_wp2_with fail
  refine (PushOf_any a c l x 0 w1 ((HL0.out.below HB1.out (Nat.le_refl _)).wider (Nat.le_refl _) HB1.out.size) HS.out HX.out).mono ?_
  rintro e w2 ⟨a2, c2, rfl, hs2, _, hb2⟩
  have H2 := Lib.hid hs2; have HB12 := Lib.hid hb2
  have HB2 := Lib.hid (HB1.out.trans (hb2.mono HB1.out.size)); clear hs2 hb2 e0 e1 e2 e3 e4
  go_wp2_with fail
  refine (linesBegun_any w2 (below_env (HBX.out _ HB2.out).2 HE.out)).mono ?_
  rintro e w3 ⟨rfl, hb3⟩
  have HB23 := Lib.hid hb3
  have HB3 := Lib.hid (HB2.out.trans (hb3.mono HB2.out.size)); clear hb3
  go_wp2_with fail
  refine (LCheck_any a c l 0 w3 (below_env (HBX.out _ HB3.out).2 HE.out) ((HL0.out.below HB3.out (Nat.le_refl _)).wider (Nat.le_refl _) HB3.out.size) HS.out).mono ?_
  rintro e w4 ⟨rfl, hb4⟩
  have HB34 := Lib.hid hb4
  have HB4 := Lib.hid (HB3.out.trans (hb4.mono HB3.out.size)); clear hb4
  go_wp2_with fail
  refine (LineFine_any a c l 0 w4 ((HL0.out.below HB4.out (Nat.le_refl _)).wider (Nat.le_refl _) HB4.out.size) HS.out).mono ?_
  rintro e w5 ⟨rfl, hb5⟩
  have HB45 := Lib.hid hb5
  have HB5 := Lib.hid (HB4.out.trans (hb5.mono HB4.out.size)); clear hb5
  have heq : (decide (lineErr l = 0) == lineFine l) = true := by
    unfold lineErr
    cases lineFine l <;> simp
  have heq2 : ((lineErr l == 0) == lineFine l) = true := by
    unfold lineErr
    cases lineFine l <;> simp
  go_wp2_with fail
  have k2 : Below w2.heap.size w2 w5 := (HB23.out.trans (HB34.out.mono HB23.out.size)).trans (HB45.out.mono (Nat.le_trans HB23.out.size HB34.out.size))
  have k1 : Below w1.heap.size w1 w5 := HB12.out.trans (k2.mono HB12.out.size)
  refine (SameItems_any a1 a2 c1 c2 (pushOut l x) (pushOut l x) w5 0 ((H1.out.below k1 (Nat.le_refl _)).wider (Nat.zero_le _) k1.size) ((H2.out.below k2 (Nat.le_refl _)).wider (Nat.zero_le _) k2.size) (by omega) (by omega)).mono ?_
  clear k1 k2
  rw [itemsEq_refl]
  rintro e w6 ⟨rfl, hb6⟩
  have HB6 := Lib.hid (HB5.out.trans (hb6.mono HB5.out.size)); clear hb6
  go_wp2_with fail
  go_ret
  exact ⟨by simp, (HBX.out _ HB6.out).2⟩

end Go.Proofs.YtbdikenloklhaaaDoor
