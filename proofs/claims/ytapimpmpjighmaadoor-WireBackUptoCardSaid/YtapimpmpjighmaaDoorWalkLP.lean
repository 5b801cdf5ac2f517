/-
  Plain laws on patterns laid along keys: by the pattern's last word and the key's last word.
-/
import Derived.Test.YtapimpmpjighmaaDoorWalkB
namespace Go.Proofs.YtapimpmpjighmaaDoor

/-- Can the pattern's words be laid along the key's? -/
def laidP : List (List UInt8) → List (List UInt8) → Bool
  | [], k => k.isEmpty
  | p :: ps, k => if p = [35] then (List.range (k.length + 1)).any fun n => laidP ps (k.drop n) else match k with
    | [] => false
    | x :: r => (p == [42] || p == x) && laidP ps r

theorem laidP_hash (ps k : List (List UInt8)) : laidP ([35] :: ps) k = true ↔ ∃ n, n ≤ k.length ∧ laidP ps (k.drop n) = true := by
  simp only [laidP, if_true, List.any_eq_true, List.mem_range]
  exact ⟨fun ⟨n, h1, h2⟩ => ⟨n, by omega, h2⟩, fun ⟨n, h1, h2⟩ => ⟨n, by omega, h2⟩⟩

theorem laidP_word {p : List UInt8} (hp : p ≠ [35]) (ps : List (List UInt8)) : laidP (p :: ps) [] = false := by
  simp [laidP, hp]
theorem laidP_cons {p : List UInt8} (hp : p ≠ [35]) (ps : List (List UInt8)) (x : List UInt8) (r : List (List UInt8)) : laidP (p :: ps) (x :: r) = ((p == [42] || p == x) && laidP ps r) := by
  simp [laidP, hp]

/-- A last word that is no hash takes the key's last word. -/
theorem laidP_snoc {w : List UInt8} (hw : w ≠ [35]) : ∀ (ps ks : List (List UInt8)) (x : List UInt8), laidP (ps ++ [w]) (ks ++ [x]) = (laidP ps ks && (w == [42] || w == x))
  | [], [], x => by simp [laidP, hw]
  | [], k :: ks, x => by
    have : laidP [] (ks ++ [x]) = false := by cases ks <;> rfl
    rw [List.nil_append, List.cons_append, laidP_cons hw, this, Bool.and_false]
    rfl
  | p :: ps, ks, x => by
    by_cases hp : p = [35]
    · subst hp
      rw [Bool.eq_iff_iff, Bool.and_eq_true, List.cons_append, laidP_hash, laidP_hash]
      constructor
      · rintro ⟨n, hn, h⟩
        rcases Nat.lt_or_ge ks.length n with h1 | h1
        · have : (ks ++ [x]).drop n = [] := List.drop_eq_nil_of_le (by simp; omega)
          rw [this] at h
          have hnil : ∀ q : List (List UInt8), laidP (q ++ [w]) [] = false := by
            intro q
            induction q with
            | nil => exact laidP_word hw []
            | cons a q ih =>
              by_cases ha : a = [35]
              · subst ha
                cases hc : laidP ([35] :: q ++ [w]) [] with
                | false => rfl
                | true =>
                  rw [List.cons_append, laidP_hash] at hc
                  obtain ⟨n, _, hc⟩ := hc
                  rw [List.drop_nil, ih] at hc
                  cases hc
              · exact laidP_word ha _
          rw [hnil] at h
          cases h
        · rw [List.drop_append_of_le_length h1, laidP_snoc hw ps (ks.drop n) x, Bool.and_eq_true] at h
          exact ⟨⟨n, h1, h.1⟩, h.2⟩
      · rintro ⟨⟨n, hn, h⟩, h2⟩
        exact ⟨n, by simp; omega, by rw [List.drop_append_of_le_length hn, laidP_snoc hw ps (ks.drop n) x, h, h2]; rfl⟩
    · cases ks with
      | nil =>
        rw [List.nil_append, List.cons_append, laidP_cons hp, laidP_word hp, Bool.false_and]
        have hne : laidP (ps ++ [w]) [] = false := by
          cases hps : ps with
          | nil => exact laidP_word hw []
          | cons a q =>
            clear hps
            have : ∀ q : List (List UInt8), laidP (q ++ [w]) [] = false := by
              intro q
              induction q with
              | nil => exact laidP_word hw []
              | cons a q ih =>
                by_cases ha : a = [35]
                · subst ha
                  cases hc : laidP ([35] :: q ++ [w]) [] with
                  | false => rfl
                  | true =>
                    rw [List.cons_append, laidP_hash] at hc
                    obtain ⟨n, _, hc⟩ := hc
                    rw [List.drop_nil, ih] at hc
                    cases hc
                · exact laidP_word ha _
            exact this _
        rw [hne, Bool.and_false]
      | cons k ks =>
        rw [List.cons_append, List.cons_append, laidP_cons hp, laidP_cons hp, laidP_snoc hw ps ks x, Bool.and_assoc]

theorem laidP_snoc_nil {w : List UInt8} (hw : w ≠ [35]) : ∀ q : List (List UInt8), laidP (q ++ [w]) [] = false
  | [] => laidP_word hw []
  | a :: q => by
    by_cases ha : a = [35]
    · subst ha
      cases hc : laidP ([35] :: q ++ [w]) [] with
      | false => rfl
      | true =>
        rw [List.cons_append, laidP_hash] at hc
        obtain ⟨n, _, hc⟩ := hc
        rw [List.drop_nil, laidP_snoc_nil hw q] at hc
        cases hc
    · exact laidP_word ha _

/-- A hash behind takes any rest of the key. -/
theorem laidP_hash_last : ∀ (ps ks : List (List UInt8)), laidP (ps ++ [[35]]) ks = true ↔ ∃ n, n ≤ ks.length ∧ laidP ps (ks.take n) = true
  | [], ks => by
    rw [List.nil_append, laidP_hash]
    constructor
    · intro _
      exact ⟨0, Nat.zero_le _, rfl⟩
    · intro _
      exact ⟨ks.length, Nat.le_refl _, by rw [List.drop_eq_nil_of_le (Nat.le_refl _)]; rfl⟩
  | p :: ps, ks => by
    by_cases hp : p = [35]
    · subst hp
      rw [List.cons_append, laidP_hash]
      constructor
      · rintro ⟨n, hn, h⟩
        obtain ⟨m, hm, h⟩ := (laidP_hash_last ps (ks.drop n)).1 h
        rw [List.length_drop] at hm
        refine ⟨n + m, by omega, (laidP_hash _ _).2 ⟨n, by rw [List.length_take]; omega, ?_⟩⟩
        rw [List.drop_take, show n + m - n = m from by omega]
        exact h
      · rintro ⟨n, hn, h⟩
        obtain ⟨m, hm, h⟩ := (laidP_hash _ _).1 h
        rw [List.length_take] at hm
        refine ⟨m, by omega, (laidP_hash_last ps (ks.drop m)).2 ⟨n - m, by rw [List.length_drop]; omega, ?_⟩⟩
        rw [List.drop_take] at h
        exact h
    · cases ks with
      | nil =>
        rw [List.cons_append, laidP_word hp]
        constructor
        · intro h; cases h
        · rintro ⟨n, hn, h⟩
          rw [List.take_nil, laidP_word hp] at h
          cases h
      | cons k ks =>
        rw [List.cons_append, laidP_cons hp, Bool.and_eq_true, laidP_hash_last ps ks]
        constructor
        · rintro ⟨h1, n, hn, h2⟩
          exact ⟨n + 1, by simp; omega, by rw [List.take_succ_cons, laidP_cons hp, h1, h2]; rfl⟩
        · rintro ⟨n, hn, h⟩
          cases n with
          | zero => rw [List.take_zero, laidP_word hp] at h; cases h
          | succ n =>
            rw [List.take_succ_cons, laidP_cons hp, Bool.and_eq_true] at h
            exact ⟨h.1, n, by simp at hn; omega, h.2⟩

theorem laidP_hash_nil (ps : List (List UInt8)) : laidP (ps ++ [[35]]) [] = laidP ps [] := by
  rw [Bool.eq_iff_iff, laidP_hash_last]
  constructor
  · rintro ⟨n, _, h⟩; rwa [List.take_nil] at h
  · intro h; exact ⟨0, Nat.le_refl _, by rwa [List.take_nil]⟩

theorem laidP_hash_snoc (ps ks : List (List UInt8)) (x : List UInt8) : laidP (ps ++ [[35]]) (ks ++ [x]) = (laidP ps (ks ++ [x]) || laidP (ps ++ [[35]]) ks) := by
  rw [Bool.eq_iff_iff, Bool.or_eq_true, laidP_hash_last, laidP_hash_last]
  constructor
  · rintro ⟨n, hn, h⟩
    rcases Nat.lt_or_ge ks.length n with h1 | h1
    · left
      rw [List.take_of_length_le (by simp; omega)] at h
      exact h
    · right
      rw [List.take_append_of_le_length h1] at h
      exact ⟨n, h1, h⟩
  · rintro (h | ⟨n, hn, h⟩)
    · exact ⟨ks.length + 1, by simp, by rw [List.take_of_length_le (by simp)]; exact h⟩
    · exact ⟨n, by simp; omega, by rw [List.take_append_of_le_length hn]; exact h⟩

/-- The row of a pattern at a key: can it be laid along the key's first i words? -/
def rowP (ps ks : List (List UInt8)) (i : Nat) : Bool := laidP ps (ks.take i)

theorem rowP_nil (ks : List (List UInt8)) (i : Nat) (h : i ≤ ks.length) : rowP [] ks i = decide (i = 0) := by
  cases i with
  | zero => rfl
  | succ i =>
    cases ks with
    | nil => simp at h
    | cons k ks => rfl
theorem take_snoc_get {α : Type} (ks : List α) (i : Nat) (h : i < ks.length) : ks.take (i + 1) = ks.take i ++ [ks[i]] := by
  rw [List.take_add_one, List.getElem?_eq_getElem h]
  rfl
theorem rowP_word {w : List UInt8} (hw : w ≠ [35]) (ps ks : List (List UInt8)) (i : Nat) (h : i < ks.length) : rowP (ps ++ [w]) ks (i + 1) = (rowP ps ks i && (w == [42] || w == ks[i])) := by
  unfold rowP
  rw [take_snoc_get ks i h, laidP_snoc hw]
theorem rowP_word0 {w : List UInt8} (hw : w ≠ [35]) (ps ks : List (List UInt8)) : rowP (ps ++ [w]) ks 0 = false := laidP_snoc_nil hw ps
theorem rowP_hash (ps ks : List (List UInt8)) (i : Nat) (h : i < ks.length) : rowP (ps ++ [[35]]) ks (i + 1) = (rowP ps ks (i + 1) || rowP (ps ++ [[35]]) ks i) := by
  unfold rowP
  rw [take_snoc_get ks i h, laidP_hash_snoc]
theorem rowP_hash0 (ps ks : List (List UInt8)) : rowP (ps ++ [[35]]) ks 0 = rowP ps ks 0 := laidP_hash_nil ps
theorem rowP_all (ps ks : List (List UInt8)) : rowP ps ks ks.length = laidP ps ks := by
  unfold rowP
  rw [List.take_of_length_le (Nat.le_refl _)]

end Go.Proofs.YtapimpmpjighmaaDoor

namespace Go.Proofs.YtapimpmpjighmaaDoor
open Go.RowKit
set_option maxRecDepth 100000

def LaidRel (ps ks : List (List UInt8)) (w : World) (i : Value) (wr : World) : Prop :=
  ∃ k n : Nat, k ≤ ks.length + 1 ∧ i = .int .i64 k ∧ wr = w.drewN n ∧ ∀ j, j < k → laidP ps (ks.drop j) = false

abbrev tl (l : List ByteArray) : List (List UInt8) := l.map ByteArray.toList

/-- A slice of strings, cut. -/
theorem cut_strs {w : World} {lo hi : Nat} {a : Option Addr} {xs : List ByteArray} {n c : Nat} (h : Sl w lo hi a (xs.map Value.string)) (hn : n = xs.length) (hc : n ≤ c) (k : Nat) (i : Int) (hi_ : i = (k : Int)) (hk : k ≤ n) :
    ∃ A, (∀ w, (Instr.slice 84 (.slice a n c) (some (.int .i64 i)) none none).run Tryd.prog w = .ok (.slice A (n - k) (c - k)) w) ∧ Sl w lo hi A ((xs.drop k).map Value.string) :=
  ⟨cutA a c k 1, fun w => run_cut Tryd.underlying84 (fun _ => by kernel_rfl) a n c k i hi_ hk w, by
    have := h.cut (n := n) (cap := c) (k := k) (size := 1) (by simp [hn]) hk hc
    rw [Nat.mul_one, ← List.map_drop] at this
    exact this⟩

/-- Does a pattern fit a key? -/
def fitP (p k : ByteArray) : Bool := laidP (tl (parts p)) (tl (parts k))

end Go.Proofs.YtapimpmpjighmaaDoor
