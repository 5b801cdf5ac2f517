/-
  append without room, plain: a new row, and nothing that was there has turned.
-/
import Derived.Test.YtbdikenloklhaaaDoorBase
import Derived.Test.YtbdikenloklhaaaDoorNames
import Derived.Lib.AppendZeros
namespace Go.Proofs.YtbdikenloklhaaaDoor
open Go.RowKit

theorem addr_add' (b o j : Nat) : (⟨b, o, none⟩ : Addr).add j = ⟨b, o + j, none⟩ := by
  unfold Addr.add
  split
  · simp_all
  · simp

theorem own_new {w : World} {e : TypeId} {size k : Nat} (n cap : Nat) (us : List Value) (rest : Array Value) (hl : us.length = n * size) (hc : n ≤ cap) (hm : cap ≤ maxLen) (hr : rest.size = (cap - n) * size) (hk : k ≤ w.heap.size) :
    (w.drew.alloc (.cells (us.toArray ++ rest) e)).ownsRow k e size (.slice (some ⟨w.heap.size, 0, none⟩) n cap) n us := by
  refine ⟨hl, .inr ⟨w.heap.size, _, _, rfl, hk, heap_alloc_new w.drew _, hc, hm, ?_, ?_⟩⟩
  · simp only [Array.size_append, List.size_toArray, hl, hr, ← Nat.add_mul]
    congr 1
    omega
  · simp only [Array.toList_append]
    rw [← hl]
    exact List.take_left

theorem run_append_new {P : Program} (w : World) (t ty e : TypeId) {z : Value} {size bytes : Nat} (ht : P.underlying t = some (.slice e)) (hinfo : (P.info? e).map (fun i => (i.zero, i.size, i.bytes)) = some (some z, size, bytes))
    (hzs : z.cells.size = size) (hsz : 0 < size) (hb : bytes ≤ 4096) (b0 : Addr) (n cap : Nat) (olds : List Value) (lo hi : Nat) (hol : olds.length = n * size) (ho : Sl w lo hi (some b0) olds)
    (lo' hi' : Nat) (a : Option Addr) (m c : Nat) (news : List Value) (hl : news.length = m * size) (hs : Sl w lo' hi' a news) (hnc : n ≤ cap) (hg : cap < n + m) (hn : n + m ≤ 4294967296) :
    ∃ v' w', (Builtin.append_ #[t, t] ty #[.slice (some b0) n cap, .slice a m c]).run P w = .ok v' w' ∧ w'.ownsRow w.heap.size e size v' (n + m) (olds ++ news) ∧ Below w.heap.size w w' := by
  obtain ⟨i, hi, hz0, hz1, hz2⟩ := info_parts hinfo
  have hnil : news ≠ [] := by
    rintro rfl
    have : m * size = 0 := hl.symm
    rcases Nat.mul_eq_zero.1 this with h | h <;> omega
  rcases hs with h | ⟨b, o, rfl, _, _, hc⟩
  · exact absurd h hnil
  have hby : (n + m) * bytes ≤ 140737488355328 := by
    have : (n + m) * bytes ≤ 4294967296 * 4096 := Nat.mul_le_mul hn hb
    omega
  have hr := run_append_grow (P := P) w t ty e i z ht hi hz0 b0 n cap olds (by rw [hz1]; exact hol) (fun j v hj => by
      rcases ho with h | ⟨b', o', e', _, _, hc'⟩
      · rw [h] at hj; simp at hj
      · simp only [Option.some.injEq] at e'
        rw [e', addr_add']
        exact hc' j v hj) ⟨b, o, none⟩ m c news (by rw [hz1]; exact hl) (fun j v hj => by rw [addr_add']; exact hc j v hj) hg (by omega) (growslice_fits hg (by rw [hz2]; exact hby))
  have hge := grownCap_ge w (n + m) cap e
  have hcm : grownCap w (n + m) cap e ≤ maxLen := grownCap_le_maxLen w (n + m) cap e (by unfold maxLen; omega)
  refine ⟨_, _, hr, ?_, (Below.refl _ w).drew.alloc (Nat.le_refl _) _⟩
  rw [List.append_toArray olds news]
  exact own_new (n + m) _ (olds ++ news) _ (by rw [List.length_append, hol, hl, Nat.add_mul]) hge hcm (by rw [size_zeroCells, hzs]) (Nat.le_refl _)

/-- append to a slice of no element and no room. -/
theorem run_append_zero {P : Program} (w : World) (t ty e : TypeId) {z : Value} {size bytes : Nat} (ht : P.underlying t = some (.slice e)) (hinfo : (P.info? e).map (fun i => (i.zero, i.size, i.bytes)) = some (some z, size, bytes))
    (hzs : z.cells.size = size) (hsz : 0 < size) (hb : bytes ≤ 4096) (b0 : Addr) (lo hi : Nat) (a : Option Addr) (m c : Nat) (news : List Value) (hl : news.length = m * size) (hs : Sl w lo hi a news) (hn : m ≤ 4294967296) :
    ∃ v' w', (Builtin.append_ #[t, t] ty #[.slice (some b0) 0 0, .slice a m c]).run P w = .ok v' w' ∧ Below w.heap.size w w' ∧ (0 < m ∧ w'.ownsRow w.heap.size e size v' m news ∨ m = 0 ∧ v' = .slice (some b0) 0 0 ∧ w' = w) := by
  by_cases hm : m = 0
  · subst hm
    obtain ⟨i, hi, hz0, hz1, hz2⟩ := info_parts hinfo
    refine ⟨.slice (some b0) 0 0, w, ?_, Below.refl _ _, .inr ⟨rfl, rfl, rfl⟩⟩
    cases a with
    | none => simp [Builtin.append_, run_underlying ht, sizeOf, typeInfo, hi, Builtin.lenOf, Builtin.firstCells, storeCells]
    | some ad =>
      have hf := run_firstCells_some (P := P) w i.size 0 ad 0 c [] (by simp) (by intro j v hj; simp at hj)
      simp [Builtin.append_, run_underlying ht, sizeOf, typeInfo, hi, Builtin.lenOf, hf, storeCells]
  · obtain ⟨v', w', h1, h2, h3⟩ := run_append_new (P := P) w t ty e ht hinfo hzs hsz hb b0 0 0 [] 0 0 (by simp) (Sl.nil _ _ _ _) lo hi a m c news hl hs (Nat.le_refl _) (by omega) (by omega)
    rw [Nat.zero_add, List.nil_append] at h2
    exact ⟨v', w', h1, h3, .inl ⟨by omega, h2⟩⟩

/-- The same, as the slice reads. -/
theorem zero_reads {w w' : World} {e : TypeId} {size m : Nat} {v' : Value} {b0 : Addr} {news : List Value} (hl : news.length = m * size) (h : 0 < m ∧ w'.ownsRow w.heap.size e size v' m news ∨ m = 0 ∧ v' = .slice (some b0) 0 0 ∧ w' = w) :
    ∃ a c, v' = .slice a m c ∧ m ≤ c ∧ Sl w' w.heap.size w'.heap.size a news := by
  rcases h with ⟨_, h⟩ | ⟨rfl, rfl, rfl⟩
  · obtain ⟨a, c, rfl, hc⟩ := own_slice h
    exact ⟨a, c, rfl, hc, Sl.of_own h⟩
  · exact ⟨_, 0, rfl, Nat.le_refl _, .inl (List.eq_nil_of_length_eq_zero (by simpa using hl))⟩

end Go.Proofs.YtbdikenloklhaaaDoor
