/-
  The walk of MatchOf.
-/
import Derived.Test.YteflcgmdklejcaaDoorWalkM
namespace Go.Proofs.YteflcgmdklejcaaDoor
open Go.RowKit

set_option maxHeartbeats 400000 in
theorem MatchOf_any (p k : ByteArray) (w : World) (hp : p.size ≤ 4294967280) (hk : k.size ≤ 4294967280) :
    Calls Tryd.prog 14 #[.string p, .string k] w fun e w' => e = .returned (.tuple #[.bool (matchIs p k), .int .i64 (matchErr p k)]) ∧ Below w.heap.size w w' := by
  by_cases h1 : splitErr isWild p = 0
  · by_cases h2 : splitErr isWord k = 0
    · have HE := Lib.hid (matchErr_ok h1 h2)
      have b1 : (splitErr isWild p != 0) = false := by simp [h1]
      have b2 : (splitErr isWord k != 0) = false := by simp [h2]
      clear h1 h2
      go_enter Tryd.func14, Tryd.ntmps14
      go_wp2_with (first | (go_at_call 12; refine (PatternError_any p _ (by omega)).mono ?_; rintro e w1 ⟨rfl, hb1⟩) | (go_at_call 18; refine (KeyError_any k _ (by omega)).mono ?_; rintro e w2 ⟨rfl, hb2⟩) | (go_at_call 23; refine (refFit_any p k _ (by omega) (by omega)).mono ?_; rintro e w3 ⟨rfl, hb3⟩))
      go_ret2
      exact ⟨by rw [HE.out.1, HE.out.2]; rfl, (hb1.trans (hb2.mono hb1.size)).trans (hb3.mono (Nat.le_trans hb1.size hb2.size))⟩
    · have HE := Lib.hid (matchErr_key h1 h2)
      have b1 : (splitErr isWild p != 0) = false := by simp [h1]
      have b2 : (splitErr isWord k != 0) = true := by simp [h2]
      clear h1 h2
      go_enter Tryd.func14, Tryd.ntmps14
      go_wp2_with (first | (go_at_call 12; refine (PatternError_any p _ (by omega)).mono ?_; rintro e w1 ⟨rfl, hb1⟩) | (go_at_call 18; refine (KeyError_any k _ (by omega)).mono ?_; rintro e w2 ⟨rfl, hb2⟩))
      go_ret2
      exact ⟨by rw [HE.out.1, HE.out.2]; rfl, hb1.trans (hb2.mono hb1.size)⟩
  · have HE := Lib.hid (matchErr_bad (k := k) h1)
    have b1 : (splitErr isWild p != 0) = true := by simp [h1]
    clear h1
    go_enter Tryd.func14, Tryd.ntmps14
    go_wp2_with (go_at_call 12; refine (PatternError_any p _ (by omega)).mono ?_; rintro e w1 ⟨rfl, hb1⟩)
    go_ret2
    exact ⟨by rw [HE.out.1, HE.out.2]; rfl, hb1⟩

end Go.Proofs.YteflcgmdklejcaaDoor
