/-
  Plain laws on matching: a hash, a key itself, what goes on; stars.
-/
import Derived.Test.YteflcgmdklejcaaDoorWalkM
namespace Go.Proofs.YteflcgmdklejcaaDoor
open Go Go.RowKit

theorem laidP_any (k : List (List UInt8)) : laidP [[35]] k = true := (laidP_hash [] k).2 ⟨k.length, Nat.le_refl _, by rw [List.drop_eq_nil_of_le (Nat.le_refl _)]; rfl⟩

theorem laidP_plain : ∀ (ps ks : List (List UInt8)), (∀ w ∈ ps, w ≠ [35] ∧ w ≠ [42]) → laidP ps ks = decide (ps = ks)
  | [], ks, _ => by cases ks <;> simp [laidP]
  | p :: ps, [], h => by rw [laidP_word (h p (by simp)).1]; simp
  | p :: ps, k :: ks, h => by
    rw [laidP_cons (h p (by simp)).1, laidP_plain ps ks (fun w hw => h w (by simp [hw]))]
    have h2 : (p == [42]) = false := by simp; exact (h p (by simp)).2
    rw [h2, Bool.false_or, Bool.eq_iff_iff]
    simp

theorem isWord_not {w : List UInt8} (h : isWord w = true) : w ≠ [35] ∧ w ≠ [42] := by
  constructor
  · rintro rfl; exact absurd h (by decide)
  · rintro rfl; exact absurd h (by decide)

theorem dots_inj : ∀ a b : List UInt8, dots a = dots b → a = b
  | [], [], _ => rfl
  | [], y :: r, h => by
    unfold dots at h
    split at h
    · simp at h; exact absurd h (dots_ne r)
    · simp at h
  | x :: r, [], h => by
    unfold dots at h
    split at h
    · simp at h; exact absurd h (dots_ne r)
    · simp at h
  | x :: r, y :: q, h => by
    by_cases hx : x = 46
    · by_cases hy : y = 46
      · subst hx; subst hy
        simp only [dots, if_true, List.cons.injEq, true_and] at h
        rw [dots_inj r q h]
      · simp only [dots, hx, hy, if_true, if_false, List.cons.injEq] at h
        exact absurd h.1 (by simp)
    · by_cases hy : y = 46
      · simp only [dots, hx, hy, if_true, if_false, List.cons.injEq] at h
        exact absurd h.1 (by simp)
      · simp only [dots, hx, hy, if_false, List.cons.injEq] at h
        obtain ⟨⟨rfl, h1⟩, h2⟩ := h
        have : dots r = dots q := by rw [← dots_head r, ← dots_head q, h1, h2]
        rw [dots_inj r q this]

theorem dots_append : ∀ l r : List UInt8, dots (l ++ 46 :: r) = dots l ++ dots r
  | [], r => by simp [dots]
  | x :: l, r => by
    have e1 : ∀ q : List UInt8, dots (x :: q) = if x = 46 then [] :: dots q else (x :: (dots q).headD []) :: (dots q).tail := fun _ => rfl
    rw [List.cons_append, e1, e1, dots_append l r]
    split
    · rfl
    · cases hd : dots l with
      | nil => exact absurd hd (dots_ne l)
      | cons a t => rfl

theorem splitErr_ok {p : List UInt8 → Bool} {s : ByteArray} (h : splitErr p s = 0) : s.toList.length ≤ 24 ∧ (dots s.toList).length ≤ 6 ∧ ∀ w ∈ dots s.toList, p w = true := by
  rw [splitErr_list] at h
  unfold splitErrL at h
  split at h
  · cases h
  · split at h
    · rename_i h1 h2
      exact ⟨by omega, by omega, fun w hw => List.all_eq_true.1 h2 w hw⟩
    · cases h
theorem splitErr_zero {p : List UInt8 → Bool} {s : ByteArray} (h1 : s.toList.length ≤ 24) (h2 : (dots s.toList).length ≤ 6) (h3 : ∀ w ∈ dots s.toList, p w = true) : splitErr p s = 0 := by
  rw [splitErr_list]
  unfold splitErrL
  rw [if_neg (by omega), if_pos (List.all_eq_true.2 h3)]

theorem isWild_of_word {w : List UInt8} (h : isWord w = true) : isWild w = true := by simp [isWild, h]

theorem match_hash (k : ByteArray) : matchErr ⟨#[35]⟩ k = splitErr isWord k := by
  have : splitErr isWild (⟨#[35]⟩ : ByteArray) = 0 := by rw [splitErr_list, ByteArray.toList_eq]; decide
  simp [matchErr, this]
theorem match_hash_is {k : ByteArray} (h : splitErr isWord k = 0) : matchIs ⟨#[35]⟩ k = true := by
  unfold matchIs
  rw [match_hash, if_pos h, fitP_list, show dots (⟨#[35]⟩ : ByteArray).toList = [[35]] from by rw [ByteArray.toList_eq]; rfl]
  exact laidP_any _
theorem match_self {k : ByteArray} (h : splitErr isWord k = 0) : matchErr k k = 0 ∧ matchIs k k = true := by
  obtain ⟨h1, h2, h3⟩ := splitErr_ok h
  have hw : splitErr isWild k = 0 := splitErr_zero h1 h2 fun w hw => isWild_of_word (h3 w hw)
  have he : matchErr k k = 0 := by simp [matchErr, hw, h]
  refine ⟨he, ?_⟩
  unfold matchIs
  rw [if_pos he, fitP_list, laidP_plain _ _ (fun w hw => isWord_not (h3 w hw))]
  simp
theorem match_third {k o : ByteArray} (h : splitErr isWord k = 0) (hg : matchErr k o = 0) : matchIs k o = (k.toList == o.toList) := by
  obtain ⟨h1, h2, h3⟩ := splitErr_ok h
  unfold matchIs
  rw [if_pos hg, fitP_list, laidP_plain _ _ (fun w hw => isWord_not (h3 w hw)), Bool.eq_iff_iff]
  simp
  exact ⟨dots_inj _ _, fun h => by rw [h]⟩
theorem append_toList (a b : ByteArray) : (a ++ b).toList = a.toList ++ b.toList := by
  rw [ByteArray.toList_eq, ByteArray.toList_eq, ByteArray.toList_eq]
  simp
theorem match_more {p k : ByteArray} (hi : matchIs p k = true) (he : matchErr p k = 0) (hm : matchErr (p ++ ⟨#[46, 35]⟩) k = 0) : matchIs (p ++ ⟨#[46, 35]⟩) k = true := by
  unfold matchIs at hi ⊢
  rw [if_pos he, fitP_list] at hi
  rw [if_pos hm, fitP_list, append_toList, show ((⟨#[46, 35]⟩ : ByteArray)).toList = 46 :: [35] from by rw [ByteArray.toList_eq], dots_append]
  exact (laidP_hash_last _ _).2 ⟨(dots k.toList).length, Nat.le_refl _, by rw [List.take_of_length_le (Nat.le_refl _)]; exact hi⟩
theorem match_longer {p k o : ByteArray} (hi : matchIs p k = true) (he : matchErr p k = 0) (hm : matchErr (p ++ ⟨#[46, 35]⟩) (k ++ ⟨#[46]⟩ ++ o) = 0) : matchIs (p ++ ⟨#[46, 35]⟩) (k ++ ⟨#[46]⟩ ++ o) = true := by
  unfold matchIs at hi ⊢
  rw [if_pos he, fitP_list] at hi
  rw [if_pos hm, fitP_list, append_toList, append_toList, append_toList, show ((⟨#[46, 35]⟩ : ByteArray)).toList = 46 :: [35] from by rw [ByteArray.toList_eq], dots_append,
    show ((⟨#[46]⟩ : ByteArray)).toList = [46] from by rw [ByteArray.toList_eq], List.append_assoc, List.singleton_append, dots_append]
  exact (laidP_hash_last _ _).2 ⟨(dots k.toList).length, by simp, by rw [List.take_append_of_le_length (Nat.le_refl _), List.take_of_length_le (Nat.le_refl _)]; exact hi⟩

end Go.Proofs.YteflcgmdklejcaaDoor
