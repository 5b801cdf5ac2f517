/-
  WordsMatches: the law answers true at every pattern and key of fewer than 2^20 bytes.
-/
import Derived.Test.YteflcgmdklejcaaDoorBegunA
import Derived.Test.YteflcgmdklejcaaDoorWalkMR
namespace Go.Proofs.YteflcgmdklejcaaDoor
open Go.RowKit

set_option maxHeartbeats 1000000 in
theorem wordsMatches_any (p k : ByteArray) (w : World) (hp : p.size ≤ 1048576) (hk : k.size ≤ 1048576) (hE : Env w) :
    Calls Tryd.prog 4 #[.string p, .string k] w fun e w' => e = .returned (.bool true) ∧ Below w.heap.size w w' := by
  have HE := Lib.hid hE; clear hE
  go_enter Tryd.func4, Tryd.ntmps4
  go_wp2_with fail
  refine (Match_env p k w (by omega) (by omega) HE.out).mono ?_
  rintro e w1 ⟨rfl, hb1⟩
  have H1 := Lib.hid (And.intro (below_env hb1 HE.out) hb1); clear hb1
  go_wp2_with fail
  refine (MatchOf_any p k w1 (by omega) (by omega)).mono ?_
  rintro e w2 ⟨rfl, hb2⟩
  have H2 := Lib.hid (And.intro (below_env hb2 H1.out.1) (H1.out.2.trans (hb2.mono H1.out.2.size))); clear hb2
  go_wp2_with fail
  refine (wordsBegun_any w2 H2.out.1).mono ?_
  rintro e w3 ⟨rfl, hb3⟩
  have H3 := Lib.hid (H2.out.2.trans (hb3.mono H2.out.2.size)); clear hb3
  go_wp2_with fail
  go_ret
  exact ⟨rfl, H3.out⟩
end Go.Proofs.YteflcgmdklejcaaDoor
