/-
  WordsTells: the law answers true at every text of fewer than 2^20 bytes.
-/
import Derived.Test.YteflcgmdklejcaaDoorBegunA
namespace Go.Proofs.YteflcgmdklejcaaDoor
open Go.RowKit

set_option maxHeartbeats 1000000 in
theorem wordsTells_any (s : ByteArray) (w : World) (hs : s.size ≤ 1048576) (hE : Env w) :
    Calls Tryd.prog 3 #[.string s] w fun e w' => e = .returned (.bool true) ∧ Below w.heap.size w w' := by
  have HE := Lib.hid hE; clear hE
  go_enter Tryd.func3, Tryd.ntmps3
  go_wp2_with fail
  refine (Split_env s w (by omega) HE.out).mono ?_
  rintro e w1 ⟨a1, c1, rfl, hs1, hc1, hb1⟩
  have H1 := Lib.hid (And.intro (below_env hb1 HE.out) (And.intro hs1 (And.intro hc1 hb1))); clear hs1 hc1 hb1
  go_wp2_with fail
  refine (SplitOf_any s w1 (by omega)).mono ?_
  rintro e w2 ⟨a2, c2, rfl, hs2, hc2, hb2⟩
  have H2 := Lib.hid (And.intro (below_env hb2 H1.out.1) (And.intro hs2 (And.intro hc2 hb2))); clear hs2 hc2 hb2
  go_wp2_with fail
  refine (wordsBegun_any w2 H2.out.1).mono ?_
  rintro e w3 ⟨rfl, hb3⟩
  have H3 := Lib.hid (And.intro (below_env hb3 H2.out.1) hb3); clear hb3
  go_wp2_with fail
  have hb13 : Below w1.heap.size w1 w3 := H2.out.2.2.2.trans (H3.out.2.mono H2.out.2.2.2.size)
  have hb03 : Below w.heap.size w w3 := H1.out.2.2.2.trans (hb13.mono H1.out.2.2.2.size)
  have hl : (splitOut isWord s).length ≤ 4294967296 := by
    have := parts_len_le s
    unfold splitOut
    split <;> simp
    omega
  refine (SameTexts_any a1 a2 c1 c2 (splitOut isWord s) (splitOut isWord s) w3 w.heap.size ((H1.out.2.1.below hb13 (Nat.le_refl _)).wider (Nat.le_refl _) hb13.size) ((H2.out.2.1.below H3.out.2 (Nat.le_refl _)).wider H1.out.2.2.2.size H3.out.2.size) hl hl).mono ?_
  have HB3 := Lib.hid hb03
  clear hl hb13 hb03
  rintro e w4 ⟨rfl, hb4⟩
  have H4 := Lib.hid (And.intro (below_env hb4 H3.out.1) (HB3.out.trans (hb4.mono HB3.out.size))); clear hb4
  simp only [decide_true]
  go_wp2_with fail
  refine (Pattern_env s w4 (by omega) H4.out.1).mono ?_
  rintro e w5 ⟨rfl, hb5⟩
  have H5 := Lib.hid (And.intro (below_env hb5 H4.out.1) (H4.out.2.trans (hb5.mono H4.out.2.size))); clear hb5
  go_wp2_with fail
  refine (PatternError_any s w5 (by omega)).mono ?_
  rintro e w6 ⟨rfl, hb6⟩
  have H6 := Lib.hid (H5.out.2.trans (hb6.mono H5.out.2.size)); clear hb6
  go_wp2_with fail
  go_ret
  exact ⟨rfl, H6.out⟩
end Go.Proofs.YteflcgmdklejcaaDoor
