/-
  wordsBegun answers true: what must be in any case of the words.
-/
import Derived.Test.YteflcgmdklejcaaDoorWalkM
import Derived.Test.YteflcgmdklejcaaDoorWalkS
namespace Go.Proofs.YteflcgmdklejcaaDoor
open Go.RowKit

def bA : ByteArray := ⟨#[97, 46, 98, 49]⟩
def bStr (l : List UInt8) : ByteArray := ⟨l.toArray⟩
theorem bStr_list (l : List UInt8) : (bStr l).toList = l := by rw [ByteArray.toList_eq]; rfl

theorem bStr_size (l : List UInt8) : (bStr l).size = l.length := List.size_toArray

theorem split_ab1 (w : World) (hE : Env w) : Calls Tryd.prog 7 #[.string ⟨#[97, 46, 98, 49]⟩] w fun e w' =>
    ∃ a c, e = .returned (.tuple #[.slice a 2 c, .int .i64 0]) ∧ Sl w' w.heap.size w'.heap.size a ([⟨#[97]⟩, ⟨#[98, 49]⟩].map Value.string) ∧ 2 ≤ c ∧ Below w.heap.size w w' := by
  have h1 : splitErr isWord (bStr [97, 46, 98, 49]) = 0 := by rw [splitErr_list, bStr_list]; decide
  have h2 : splitOut isWord (bStr [97, 46, 98, 49]) = [⟨#[97]⟩, ⟨#[98, 49]⟩] := by
    simp only [splitOut, h1, if_true]
    apply map_toList_inj
    rw [parts_data, bStr_list]
    simp only [List.map_cons, List.map_nil, ByteArray.toList_eq]
    decide
  refine (Split_env _ w (by decide) hE).mono ?_
  rintro e w' ⟨a, c, rfl, hs, hc, hb⟩
  rw [show (⟨#[97, 46, 98, 49]⟩ : ByteArray) = bStr [97, 46, 98, 49] from rfl] at *
  rw [h2] at hs hc ⊢
  rw [h1]
  exact ⟨a, c, rfl, hs, hc, hb⟩

theorem split_bad (w : World) (hE : Env w) : Calls Tryd.prog 7 #[.string ⟨#[97, 46, 46, 98]⟩] w fun e w' =>
    ∃ v, e = .returned (.tuple #[v, .int .i64 1]) ∧ Below w.heap.size w w' := by
  have h1 : splitErr isWord (bStr [97, 46, 46, 98]) = 1 := by rw [splitErr_list, bStr_list]; decide
  refine (Split_env _ w (by decide) hE).mono ?_
  rintro e w' ⟨a, c, rfl, hs, hc, hb⟩
  rw [show (⟨#[97, 46, 46, 98]⟩ : ByteArray) = bStr [97, 46, 46, 98] from rfl]
  rw [h1]
  exact ⟨_, rfl, hb⟩

theorem match_at (p k : List UInt8) (b : Bool) (n : Int) (hb : (if n = 0 then laidP (dots p) (dots k) else false) = b) (hn : (if splitErrL isWild p = 0 then splitErrL isWord k else splitErrL isWild p) = n) (hp : p.length ≤ 4294967280) (hk : k.length ≤ 4294967280) (w : World) (hE : Env w) :
    Calls Tryd.prog 13 #[.string (bStr p), .string (bStr k)] w fun e w' => e = .returned (.tuple #[.bool b, .int .i64 n]) ∧ Below w.heap.size w w' := by
  have e1 : matchErr (bStr p) (bStr k) = n := by
    unfold matchErr
    rw [splitErr_list, splitErr_list, bStr_list, bStr_list]
    exact hn
  have e2 : matchIs (bStr p) (bStr k) = b := by
    unfold matchIs
    rw [e1, fitP_list, bStr_list, bStr_list]
    exact hb
  have := Match_env (bStr p) (bStr k) w (by rw [bStr_size]; exact hp) (by rw [bStr_size]; exact hk) hE
  rw [e1, e2] at this
  exact this

theorem pattern_at (p : List UInt8) (n : Int) (hn : splitErrL isWild p = n) (hp : p.length < 4294967281) (w : World) (hE : Env w) :
    Calls Tryd.prog 11 #[.string (bStr p)] w fun e w' => e = .returned (.int .i64 n) ∧ Below w.heap.size w w' := by
  have e1 : splitErr isWild (bStr p) = n := by rw [splitErr_list, bStr_list]; exact hn
  have := Pattern_env (bStr p) w (by rw [bStr_size]; exact hp) hE
  rw [e1] at this
  exact this

set_option maxHeartbeats 1000000 in
theorem wordsBegun_any (w : World) (hE : Env w) :
    Calls Tryd.prog 9 #[] w fun e w' => e = .returned (.bool true) ∧ Below w.heap.size w w' := by
  have HE := Lib.hid hE; clear hE
  go_enter Tryd.func9, Tryd.ntmps9
  go_wp2_with fail
  refine (split_ab1 w HE.out).mono ?_
  rintro e w1 ⟨a1, c1, rfl, hs1, hc1, hb1⟩
  have H1 := Lib.hid (And.intro (below_env hb1 HE.out) (And.intro hs1 (And.intro hc1 hb1)))
  clear hs1 hc1 hb1
  go_wp2_with fail
  refine (match_at [97, 46, 35, 46, 99] [97, 46, 99] true 0 (by decide) (by decide) (by decide) (by decide) w1 H1.out.1).mono ?_
  rintro e w2 ⟨rfl, hb2⟩
  have H2 := Lib.hid (And.intro (below_env hb2 H1.out.1) hb2); clear hb2
  go_wp2_with fail
  refine (match_at [97, 46, 42, 46, 99] [97, 46, 99] false 0 (by decide) (by decide) (by decide) (by decide) w2 H2.out.1).mono ?_
  rintro e w3 ⟨rfl, hb3⟩
  have H3 := Lib.hid (And.intro (below_env hb3 H2.out.1) hb3); clear hb3
  go_wp2_with fail
  refine (split_bad w3 H3.out.1).mono ?_
  rintro e w4 ⟨v4, rfl, hb4⟩
  have H4 := Lib.hid (And.intro (below_env hb4 H3.out.1) hb4); clear hb4
  go_wp2_with fail
  refine (match_at [35] [65] false 1 (by decide) (by decide) (by decide) (by decide) w4 H4.out.1).mono ?_
  rintro e w5 ⟨rfl, hb5⟩
  have H5 := Lib.hid (And.intro (below_env hb5 H4.out.1) hb5); clear hb5
  go_wp2_with fail
  have hb15 : Below w1.heap.size w1 w5 := ((H2.out.2.trans (H3.out.2.mono H2.out.2.size)).trans (H4.out.2.mono (Nat.le_trans H2.out.2.size H3.out.2.size))).trans (H5.out.2.mono (Nat.le_trans (Nat.le_trans H2.out.2.size H3.out.2.size) H4.out.2.size))
  have hb05 : Below w.heap.size w w5 := H1.out.2.2.2.trans (hb15.mono H1.out.2.2.2.size)
  have h6 : Sl (w5.alloc (.cells #[.string ⟨#[97]⟩, .string ⟨#[98, 49]⟩] 9)) w.heap.size (w5.alloc (.cells #[.string ⟨#[97]⟩, .string ⟨#[98, 49]⟩] 9)).heap.size a1 ([⟨#[97]⟩, ⟨#[98, 49]⟩].map Value.string) :=
    (H1.out.2.1.below (hb15.alloc hb15.size _) (Nat.le_refl _)).wider (Nat.le_refl _) (by have := hb15.size; simp; omega)
  have h7 : Sl (w5.alloc (.cells #[.string ⟨#[97]⟩, .string ⟨#[98, 49]⟩] 9)) w.heap.size (w5.alloc (.cells #[.string ⟨#[97]⟩, .string ⟨#[98, 49]⟩] 9)).heap.size (some ⟨w5.heap.size, 0, none⟩) ([⟨#[97]⟩, ⟨#[98, 49]⟩].map Value.string) :=
    (Sl.new w5 [.string ⟨#[97]⟩, .string ⟨#[98, 49]⟩] 9 (w5.heap.size + 1) (by omega)).wider hb05.size (by simp)
  refine (SameTexts_any a1 (some ⟨w5.heap.size, 0, none⟩) c1 2 [⟨#[97]⟩, ⟨#[98, 49]⟩] [⟨#[97]⟩, ⟨#[98, 49]⟩] _ w.heap.size h6 h7 (by decide) (by decide)).mono ?_
  have hb06 := hb05.alloc hb05.size (.cells #[.string ⟨#[97]⟩, .string ⟨#[98, 49]⟩] 9)
  have hE6 := below_env hb06 HE.out
  have H6 := Lib.hid (And.intro hE6 hb06)
  clear h6 h7 hb05 hb15 hE6 hb06
  rintro e w7 ⟨rfl, hb7⟩
  have H7 := Lib.hid (And.intro (below_env hb7 H6.out.1) (H6.out.2.trans (hb7.mono H6.out.2.size))); clear hb7
  simp only [decide_true]
  go_wp2_with fail
  refine (pattern_at [42, 46, 35] 0 (by decide) (by decide) w7 H7.out.1).mono ?_
  rintro e w8 ⟨rfl, hb8⟩
  have H8 := Lib.hid (And.intro (below_env hb8 H7.out.1) (H7.out.2.trans (hb8.mono H7.out.2.size))); clear hb8
  go_wp2_with fail
  refine (pattern_at [97, 42] 1 (by decide) (by decide) w8 H8.out.1).mono ?_
  rintro e w9 ⟨rfl, hb9⟩
  have H9 := Lib.hid (And.intro (below_env hb9 H8.out.1) (H8.out.2.trans (hb9.mono H8.out.2.size))); clear hb9
  go_wp2_with fail
  refine (pattern_at [97, 46, 98, 46, 99, 46, 100, 46, 101, 46, 102, 46, 103] 2 (by decide) (by decide) w9 H9.out.1).mono ?_
  rintro e wx ⟨rfl, hbx⟩
  have HX := Lib.hid (H9.out.2.trans (hbx.mono H9.out.2.size)); clear hbx
  go_wp2_with fail
  go_ret
  exact ⟨rfl, HX.out⟩
end Go.Proofs.YteflcgmdklejcaaDoor
