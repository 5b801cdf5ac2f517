/-
  WordsTrue: the law answers true at every pattern, key and other text of fewer than 2^20 bytes each.
-/
import Derived.Test.YteflcgmdklejcaaDoorBegunA
import Derived.Test.YteflcgmdklejcaaDoorTruePure
namespace Go.Proofs.YteflcgmdklejcaaDoor
open Go.RowKit

set_option maxHeartbeats 2000000 in
theorem wordsTrue_any (p k o : ByteArray) (w : World) (hp : p.size ≤ 1048576) (hk : k.size ≤ 1048576) (ho : o.size ≤ 1048576) (hE : Env w) :
    Calls Tryd.prog 5 #[.string p, .string k, .string o] w fun e w' => e = .returned (.bool true) ∧ Below w.heap.size w w' := by
  have HE := Lib.hid hE; clear hE
  have hs1 : (⟨#[35]⟩ : ByteArray).size ≤ 4294967280 := by decide
  have hs2 : (p ++ ⟨#[46, 35]⟩ : ByteArray).size ≤ 4294967280 := by rw [ByteArray.size_append, show (⟨#[46, 35]⟩ : ByteArray).size = 2 from rfl]; omega
  have hs3 : (k ++ ⟨#[46]⟩ ++ o : ByteArray).size ≤ 4294967280 := by rw [ByteArray.size_append, ByteArray.size_append, show (⟨#[46]⟩ : ByteArray).size = 1 from rfl]; omega
  have HS := Lib.hid (And.intro hs1 (And.intro hs2 hs3)); clear hs1 hs2 hs3
  by_cases h0 : splitErr isWord k = 0
  · have m1 : matchErr ⟨#[35]⟩ k = 0 := by rw [match_hash]; exact h0
    have m2 := match_hash_is h0
    have m3 := match_self h0
    have M := Lib.hid (And.intro h0 (And.intro m1 (And.intro m2 m3))); clear h0 m1 m2 m3
    go_enter Tryd.func5, Tryd.ntmps5
    go_wp2_with fail
    refine (Match_env ⟨#[35]⟩ k w HS.out.1 (by omega) HE.out).mono ?_
    rw [M.out.2.1, M.out.2.2.1]
    rintro e w1 ⟨rfl, hb1⟩
    have H1 := Lib.hid (And.intro (below_env hb1 HE.out) hb1); clear hb1
    go_wp2_with fail
    refine (Match_env k k w1 (by omega) (by omega) H1.out.1).mono ?_
    rw [M.out.2.2.2.1, M.out.2.2.2.2]
    rintro e w2 ⟨rfl, hb2⟩
    have H2 := Lib.hid (And.intro (below_env hb2 H1.out.1) (H1.out.2.trans (hb2.mono H1.out.2.size))); clear hb2
    go_wp2_with fail
    have third : Calls Tryd.prog 13 #[.string k, .string o] w2 fun e w' => ∃ b g, e = .returned (.tuple #[.bool b, .int .i64 g]) ∧ (g = 0 → b = (k.toList == o.toList)) ∧ Below w2.heap.size w2 w' :=
      (Match_env k o w2 (by omega) (by omega) H2.out.1).mono (by rintro e w' ⟨rfl, hb⟩; exact ⟨_, _, rfl, match_third M.out.1, hb⟩)
    refine third.mono ?_
    clear third
    rintro e w3 ⟨b3, g3, rfl, hq3, hb3⟩
    have H3 := Lib.hid (And.intro (below_env hb3 H2.out.1) (H2.out.2.trans (hb3.mono H2.out.2.size))); clear hb3
    have HQ3 := Lib.hid hq3; clear hq3
    go_wp2_with fail
    · rename_i hz hb
      exfalso
      rw [HQ3.out hz] at hb
      revert hb
      cases (k.toList == o.toList) <;> decide
    all_goals
      have fourth : Calls Tryd.prog 13 #[.string p, .string k] w3 fun e w' => ∃ b g, e = .returned (.tuple #[.bool b, .int .i64 g]) ∧ (b = matchIs p k ∧ g = matchErr p k) ∧ Below w3.heap.size w3 w' :=
        (Match_env p k w3 (by omega) (by omega) H3.out.1).mono (by rintro e w' ⟨rfl, hb⟩; exact ⟨_, _, rfl, ⟨rfl, rfl⟩, hb⟩)
      refine fourth.mono ?_
      clear fourth
      rintro e w4 ⟨b4, g4, rfl, hq4, hb4⟩
      have H4 := Lib.hid (And.intro (below_env hb4 H3.out.1) (H3.out.2.trans (hb4.mono H3.out.2.size))); clear hb4
      have HQ4 := Lib.hid hq4; clear hq4
      go_wp2_with fail
      have fifth : Calls Tryd.prog 13 #[.string (p ++ ⟨#[46, 35]⟩), .string k] w4 fun e w' => ∃ b g, e = .returned (.tuple #[.bool b, .int .i64 g]) ∧ (b = matchIs (p ++ ⟨#[46, 35]⟩) k ∧ g = matchErr (p ++ ⟨#[46, 35]⟩) k) ∧ Below w4.heap.size w4 w' :=
        (Match_env _ k w4 HS.out.2.1 (by omega) H4.out.1).mono (by rintro e w' ⟨rfl, hb⟩; exact ⟨_, _, rfl, ⟨rfl, rfl⟩, hb⟩)
      refine fifth.mono ?_
      clear fifth
      rintro e w5 ⟨b5, g5, rfl, hq5, hb5⟩
      have H5 := Lib.hid (And.intro (below_env hb5 H4.out.1) (H4.out.2.trans (hb5.mono H4.out.2.size))); clear hb5
      have HQ5 := Lib.hid hq5; clear hq5
      go_wp2_with fail
      have sixth : Calls Tryd.prog 13 #[.string (p ++ ⟨#[46, 35]⟩), .string (k ++ ⟨#[46]⟩ ++ o)] w5 fun e w' => ∃ b g, e = .returned (.tuple #[.bool b, .int .i64 g]) ∧ (b = matchIs (p ++ ⟨#[46, 35]⟩) (k ++ ⟨#[46]⟩ ++ o) ∧ g = matchErr (p ++ ⟨#[46, 35]⟩) (k ++ ⟨#[46]⟩ ++ o)) ∧ Below w5.heap.size w5 w' :=
        (Match_env _ _ w5 HS.out.2.1 HS.out.2.2 H5.out.1).mono (by rintro e w' ⟨rfl, hb⟩; exact ⟨_, _, rfl, ⟨rfl, rfl⟩, hb⟩)
      refine sixth.mono ?_
      clear sixth
      rintro e w6 ⟨b6, g6, rfl, hq6, hb6⟩
      have H6 := Lib.hid (And.intro (below_env hb6 H5.out.1) (H5.out.2.trans (hb6.mono H5.out.2.size))); clear hb6
      have HQ6 := Lib.hid hq6; clear hq6
      have P5 : Hid (g4 = 0 → (!b4) = false → g5 = 0 → b5 = true) := fun h4 hb h5 => by
        rw [HQ5.out.1]
        exact match_more (by rw [← HQ4.out.1]; simpa using hb) (by rw [← HQ4.out.2]; exact h4) (by rw [← HQ5.out.2]; exact h5)
      have P6 : Hid (g4 = 0 → (!b4) = false → g6 = 0 → b6 = true) := fun h4 hb h6 => by
        rw [HQ6.out.1]
        exact match_longer (by rw [← HQ4.out.1]; simpa using hb) (by rw [← HQ4.out.2]; exact h4) (by rw [← HQ6.out.2]; exact h6)
      go_wp2_with (go_at_call 9; refine (wordsBegun_any w6 H6.out.1).mono ?_; rintro e w7 ⟨rfl, hb7⟩)
      all_goals go_ret
      all_goals refine ⟨?_, H6.out.2.trans (hb7.mono H6.out.2.size)⟩
      all_goals first
        | rfl
        | exact absurd (P5.out ‹g4 = 0› ‹(!b4) = false› ‹g5 = 0›) ‹¬ b5 = true›
        | (have hb6 := P6.out ‹g4 = 0› ‹(!b4) = false› ‹g6 = 0›; subst hb6; rfl)
  · have m1 : (matchErr ⟨#[35]⟩ k != 0) = true := by rw [match_hash]; simpa using h0
    clear h0
    go_enter Tryd.func5, Tryd.ntmps5
    go_wp2_with fail
    refine (Match_env ⟨#[35]⟩ k w HS.out.1 (by omega) HE.out).mono ?_
    rintro e w1 ⟨rfl, hb1⟩
    have H1 := Lib.hid (And.intro (below_env hb1 HE.out) hb1); clear hb1
    go_wp2_with fail
    refine (wordsBegun_any w1 H1.out.1).mono ?_
    rintro e w2 ⟨rfl, hb2⟩
    have H2 := Lib.hid (H1.out.2.trans (hb2.mono H1.out.2.size)); clear hb2
    go_wp2_with fail
    go_ret
    exact ⟨rfl, H2.out⟩
end Go.Proofs.YteflcgmdklejcaaDoor
