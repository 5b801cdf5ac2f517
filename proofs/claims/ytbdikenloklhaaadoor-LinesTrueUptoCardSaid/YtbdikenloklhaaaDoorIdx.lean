/-
  Where the first element stands of which a test says yes; -1: nowhere. Plain.
-/
import Derived.Test.YtbdikenloklhaaaDoorData
namespace Go.Proofs.YtbdikenloklhaaaDoor
open Go.RowKit

def idxOf {α : Type} (p : α → Bool) : List α → Int
  | [] => -1
  | x :: xs => if p x then 0 else if idxOf p xs < 0 then -1 else idxOf p xs + 1

theorem idxOf_ge {α : Type} (p : α → Bool) : ∀ xs : List α, -1 ≤ idxOf p xs
  | [] => by simp [idxOf]
  | x :: xs => by
    have := idxOf_ge p xs
    unfold idxOf
    split
    · omega
    · split <;> omega
theorem idxOf_lt {α : Type} (p : α → Bool) : ∀ xs : List α, idxOf p xs < xs.length
  | [] => by simp [idxOf]
  | x :: xs => by
    have := idxOf_lt p xs
    unfold idxOf
    rw [List.length_cons]
    split
    · omega
    · split <;> omega
theorem idxOf_any {α : Type} (p : α → Bool) : ∀ xs : List α, decide (0 ≤ idxOf p xs) = xs.any p
  | [] => rfl
  | x :: xs => by
    have := idxOf_any p xs
    unfold idxOf
    rw [List.any_cons, ← this]
    by_cases h : p x = true
    · simp [h]
    · have h' : p x = false := by simpa using h
      rw [if_neg h, h', Bool.false_or, Bool.eq_iff_iff]
      split <;> simp <;> omega
theorem idxOf_hit {α : Type} {p : α → Bool} : ∀ {xs : List α} {k : Nat}, (∀ j x, j < k → xs[j]? = some x → p x = false) → (h : k < xs.length) → p xs[k] = true → idxOf p xs = k
  | x :: xs, 0, _, _, hp => by simp only [List.getElem_cons_zero] at hp; simp [idxOf, hp]
  | x :: xs, k + 1, hall, h, hp => by
    have h0 : p x = false := hall 0 x (by omega) rfl
    have ih := idxOf_hit (p := p) (xs := xs) (k := k) (fun j y hj hy => hall (j + 1) y (by omega) hy) (by simpa using h) (by simpa using hp)
    unfold idxOf
    rw [h0, ih]
    simp only [Bool.false_eq_true, if_false]
    rw [if_neg (by omega)]
    omega
theorem idxOf_miss {α : Type} {p : α → Bool} : ∀ {xs : List α} {k : Nat}, (∀ j x, j < k → xs[j]? = some x → p x = false) → xs.length ≤ k → idxOf p xs = -1
  | [], _, _, _ => rfl
  | x :: xs, k, hall, h => by
    rw [List.length_cons] at h
    have h0 : p x = false := hall 0 x (by omega) rfl
    have ih := idxOf_miss (p := p) (xs := xs) (k := k - 1) (fun j y hj hy => hall (j + 1) y (by omega) hy) (by omega)
    unfold idxOf
    rw [h0, ih]
    rfl

def IdxRel {α : Type} (p : α → Bool) (xs : List α) (B : Nat) (w : World) (i : Value) (wr : World) : Prop :=
  ∃ k : Nat, k ≤ xs.length ∧ i = .int .i64 k ∧ Below B w wr ∧ ∀ j x, j < k → xs[j]? = some x → p x = false

theorem idxRel_step {α : Type} {p : α → Bool} {xs : List α} {B : Nat} {w : World} {k : Nat} {w1 : World} (hall : ∀ j x, j < k → xs[j]? = some x → p x = false) (h : k < xs.length) (hp : p xs[k] = false) (hb : Below B w w1) :
    IdxRel p xs B w (.int .i64 ((k : Int) + 1)) w1 :=
  ⟨k + 1, h, by go_num, hb, fun j x hj hx => by
    rcases Nat.lt_or_ge j k with h1 | h1
    · exact hall j x h1 hx
    · obtain rfl : j = k := by omega
      rw [List.getElem?_eq_getElem h] at hx
      cases hx
      exact hp⟩

end Go.Proofs.YtbdikenloklhaaaDoor
