/-
  The walks of words.Match and its reference.
-/
import Derived.Test.YteflcgmdklejcaaDoorWalkF
namespace Go.Proofs.YteflcgmdklejcaaDoor
open Go.RowKit

def matchErr (p k : ByteArray) : Int := if splitErr isWild p = 0 then splitErr isWord k else splitErr isWild p
def matchIs (p k : ByteArray) : Bool := if matchErr p k = 0 then fitP p k else false

theorem matchErr_bad {p k : ByteArray} (h : ¬ splitErr isWild p = 0) : matchErr p k = splitErr isWild p ∧ matchIs p k = false := by
  have : matchErr p k = splitErr isWild p := by simp [matchErr, h]
  exact ⟨this, by simp [matchIs, this, h]⟩
theorem matchErr_key {p k : ByteArray} (h : splitErr isWild p = 0) (h2 : ¬ splitErr isWord k = 0) : matchErr p k = splitErr isWord k ∧ matchIs p k = false := by
  have : matchErr p k = splitErr isWord k := by simp [matchErr, h]
  exact ⟨this, by simp [matchIs, this, h2]⟩
theorem matchErr_ok {p k : ByteArray} (h : splitErr isWild p = 0) (h2 : splitErr isWord k = 0) : matchErr p k = 0 ∧ matchIs p k = fitP p k := by
  have : matchErr p k = 0 := by simp [matchErr, h, h2]
  exact ⟨this, by simp [matchIs, this]⟩

set_option maxHeartbeats 400000 in
theorem Match_any (p k : ByteArray) (m : Int) (w : World) (hp : p.size ≤ 4294967280) (hk : k.size ≤ 4294967280) (hB : 0 < w.heap.size) (hm : w.cell? ⟨0, 0, none⟩ = some (.int .i64 m)) :
    Calls Tryd.prog 13 #[.string p, .string k] w fun e w' => e = .returned (.tuple #[.bool (matchIs p k), .int .i64 (matchErr p k)]) ∧ Below w.heap.size w w' := by
  by_cases h1 : splitErr isWild p = 0
  · by_cases h2 : splitErr isWord k = 0
    · have HE := Lib.hid (matchErr_ok h1 h2)
      have b1 : (splitErr isWild p != 0) = false := by simp [h1]
      have b2 : (splitErr isWord k != 0) = false := by simp [h2]
      clear h1 h2
      go_enter Tryd.func13, Tryd.ntmps13
      go_wp2_with (first | (go_at_call 11; refine (Pattern_any p m _ (by omega) hm).mono ?_; rintro e w1 ⟨rfl, hb1⟩; have hm1 := (hb1.cell (p := ⟨0, 0, none⟩) hB).trans hm) | (go_at_call 7; refine (Split_any k m _ (by omega) hm1).mono ?_; rintro e w2 ⟨a, c, rfl, hs2, hc2, hb2⟩; have hm2 := (hb2.cell (p := ⟨0, 0, none⟩) (Nat.lt_of_lt_of_le hB hb1.size)).trans hm1) | (go_at_call 22; refine (Fit_any p k m _ hp hk hm2).mono ?_; rintro e w3 ⟨rfl, hb3⟩))
      go_ret2
      exact ⟨by rw [HE.out.1, HE.out.2]; rfl, (hb1.trans (hb2.mono hb1.size)).trans (hb3.mono (Nat.le_trans hb1.size hb2.size))⟩
    · have HE := Lib.hid (matchErr_key h1 h2)
      have b1 : (splitErr isWild p != 0) = false := by simp [h1]
      have b2 : (splitErr isWord k != 0) = true := by simp [h2]
      clear h1 h2
      go_enter Tryd.func13, Tryd.ntmps13
      go_wp2_with (first | (go_at_call 11; refine (Pattern_any p m _ (by omega) hm).mono ?_; rintro e w1 ⟨rfl, hb1⟩; have hm1 := (hb1.cell (p := ⟨0, 0, none⟩) hB).trans hm) | (go_at_call 7; refine (Split_any k m _ (by omega) hm1).mono ?_; rintro e w2 ⟨a, c, rfl, hs2, hc2, hb2⟩))
      go_ret2
      exact ⟨by rw [HE.out.1, HE.out.2]; rfl, hb1.trans (hb2.mono hb1.size)⟩
  · have HE := Lib.hid (matchErr_bad (k := k) h1)
    have b1 : (splitErr isWild p != 0) = true := by simp [h1]
    clear h1
    go_enter Tryd.func13, Tryd.ntmps13
    go_wp2_with (go_at_call 11; refine (Pattern_any p m _ (by omega) hm).mono ?_; rintro e w1 ⟨rfl, hb1⟩)
    go_ret2
    exact ⟨by rw [HE.out.1, HE.out.2]; rfl, hb1⟩

theorem Match_env (p k : ByteArray) (w : World) (hp : p.size ≤ 4294967280) (hk : k.size ≤ 4294967280) (hE : Env w) :
    Calls Tryd.prog 13 #[.string p, .string k] w fun e w' => e = .returned (.tuple #[.bool (matchIs p k), .int .i64 (matchErr p k)]) ∧ Below w.heap.size w w' := by
  obtain ⟨m, hm⟩ := hE
  exact Match_any p k m w hp hk (lt_of_cell hm) hm

theorem fitP_list (p k : ByteArray) : fitP p k = laidP (dots p.toList) (dots k.toList) := by
  unfold fitP
  rw [← parts_data, ← parts_data]

end Go.Proofs.YteflcgmdklejcaaDoor
