/-
  Arguments opened: a slice of structs that came in reads as a list of plain ones. No program in sight but its types.
-/
import Derived.Test.YtapimpmpjighmaaDoorBulk
import Derived.Test.YtapimpmpjighmaaDoorData
import Derived.Deep.Slices
import Derived.Deep.Fields
import Derived.ChangeSame
namespace Go.Proofs.YtapimpmpjighmaaDoor
open Go.RowKit Go.ChangeShapes Go.WideShapes Go.Deep

theorem list_of {α : Type} {p : Nat → α → Prop} : ∀ n : Nat, (∀ i, i < n → ∃ x, p i x) → ∃ xs : List α, xs.length = n ∧ ∀ i x, xs[i]? = some x → p i x
  | 0, _ => ⟨[], rfl, fun i x h => by simp at h⟩
  | n + 1, h => by
    obtain ⟨xs, hl, hx⟩ := list_of n fun i hi => h i (by omega)
    obtain ⟨x, hp⟩ := h n (by omega)
    refine ⟨xs ++ [x], by simp [hl], fun i y hy => ?_⟩
    rcases Nat.lt_or_ge i n with h1 | h1
    · rw [List.getElem?_append_left (by omega)] at hy
      exact hx i y hy
    · have : i < (xs ++ [x]).length := (List.getElem?_eq_some_iff.1 hy).1
      have e : i = n := by simp [hl] at this; omega
      subst e
      rw [List.getElem?_append_right (by omega)] at hy
      simp [hl] at hy
      exact hy ▸ hp

theorem bulk_pos {H : Type} (d : DataW H) : 1 ≤ Rows.uptoBulk d := by
  cases d with
  | lit l => cases l <;> simp [Rows.uptoBulk]
  | _ => simp [Rows.uptoBulk]

theorem bulk_length {H : Type} : ∀ l : List (DataW H), l.length ≤ Rows.uptoBulkAll l
  | [] => by simp
  | d :: r => by
    have := bulk_length r
    have := bulk_pos d
    simp only [Rows.uptoBulkAll, List.length_cons]
    omega

theorem bulk_agg {H : Type} {d : DataW H} {l : List (DataW H)} (h : d ∈ l) : Rows.uptoBulk d < Rows.uptoBulk (.agg l) := by
  have := bulk_part h
  simp only [Rows.uptoBulk]
  omega

theorem cells_struct {H : Type} {encH : TypeId × Value → H} {P : Program} {w : World} {base : Nat} {spare : Nat → Bool} {held : Bool} {t fuel : Nat} {fs : Array Field} {cs : List Value} {x : DataW H × List MemPlace}
    (ht : P.underlying t = some (.struct fs)) (h : DataW.trod encH P w base spare held fuel t cs = some x) :
    ∃ (xs : List (DataW H × List MemPlace)) (n : Nat), x.1 = .agg (xs.map (·.1)) ∧ cs.length = P.cellsOf t ∧ xs.length = fs.size ∧ ∀ (j : Nat) (f : Field), fs[j]? = some f → ∃ y, y.1 ∈ xs.map (·.1) ∧ DataW.trod encH P w base spare held n f.type ((cs.drop f.offset).take (P.cellsOf f.type)) = some y := by
  obtain ⟨xs, n, _, rfl, hl, hlen, hf⟩ := DataW.trod_struct ht h
  refine ⟨xs, n, rfl, hl, hlen, fun j f hj => ?_⟩
  have hjl : j < fs.size := (Array.getElem?_eq_some_iff.1 hj).1
  have h1 := hf j f hj
  have hx : j < xs.length := by omega
  exact ⟨xs[j], List.mem_map.2 ⟨_, List.getElem_mem hx, rfl⟩, by rw [h1]; exact List.getElem?_eq_getElem hx⟩

theorem addr_add (b o j : Nat) : (⟨b, o, none⟩ : Addr).add j = ⟨b, o + j, none⟩ := by
  unfold Addr.add
  split
  · simp_all
  · simp

/-- A slice of structs (of so many cells) that came in. -/
theorem open_list {H α : Type} {encH : TypeId × Value → H} {P : Program} {w : World} {base : Nat} {spare : Nat → Bool} {held : Bool} {t e size fuel : Nat} {cs : List Value} {x : DataW H × List MemPlace}
    {enc : α → List Value} (rel : DataW H → α → Prop) (ht : P.underlying t = some (.slice e)) (hC : P.cellsOf e = size) (h0 : 0 < size) (hs : ∀ x, (enc x).length = size)
    (hel : ∀ n cs y, DataW.trod encH P w base spare held n e cs = some y → ∃ x, cs = enc x ∧ rel y.1 x)
    (h : DataW.trod encH P w base spare held fuel t cs = some x) :
    ∃ (a : Option Addr) (c : Nat) (xs : List α), cs = [.slice a xs.length c] ∧ xs.length ≤ c ∧ c ≤ maxLen ∧ Sl w 0 w.heap.size a (xs.flatMap enc) ∧ xs.length < Rows.uptoBulk x.1 ∧ (∀ y ∈ xs, ∃ d, rel d y ∧ Rows.uptoBulk d ≤ Rows.uptoBulk x.1) ∧
      ∃ ds : List (DataW H), ds.length = xs.length ∧ Rows.uptoBulkAll ds < Rows.uptoBulk x.1 ∧ ∀ (i : Nat) (d : DataW H) (y : α), ds[i]? = some d → xs[i]? = some y → rel d y := by
  subst hC
  rcases open_slice ht h with ⟨rfl, rfl⟩ | ⟨a, len, cap, m, n, D, Pl, rfl, hb, hl, hm, hmm, hx, hi⟩
  · exact ⟨none, 0, [], rfl, Nat.le_refl _, by decide, Sl.nil _ _ _ _, by simp [Rows.uptoBulk], fun y hy => by simp at hy, [], rfl, by simp [Rows.uptoBulk, Rows.uptoBulkAll], fun i d y h => by simp at h⟩
  · have hle : len ≤ m := by rw [hmm]; split <;> omega
    obtain ⟨xs, hxl, hxs⟩ := list_of (p := fun i (y : α) => w.cells? base (a.add (i * P.cellsOf e)) (P.cellsOf e) = some (enc y) ∧ rel (D i) y) len fun i hi' => by
      obtain ⟨cs', h1, h2⟩ := hi i (by omega)
      obtain ⟨y, rfl, hr⟩ := hel n cs' _ h2
      exact ⟨y, h1, hr⟩
    subst hxl
    have hall : Rows.uptoBulkAll ((List.range xs.length).map D) < Rows.uptoBulk x.1 := by
      rw [hx]
      simp only [Rows.uptoBulk]
      omega
    refine ⟨some a, cap, xs, rfl, hl, hm, ?_, ?_, ?_, (List.range xs.length).map D, by simp, hall, fun i d y hd hy => ?_⟩
    · cases xs with
      | nil => exact Sl.nil _ _ _ _
      | cons y0 ys =>
        have hcell : ∀ i y, (y0 :: ys)[i]? = some y → ∀ j, j < P.cellsOf e → w.cell? ((a.add (i * P.cellsOf e)).add j) = (enc y)[j]? := fun i y hy j hj => by
          obtain ⟨_, _, hat⟩ := World.cells?_some (hxs i y hy).1
          exact hat j hj
        have hc0 := hcell 0 y0 rfl 0 h0
        rw [Nat.zero_mul] at hc0
        have hg : ∃ v, (enc y0)[0]? = some v := ⟨_, List.getElem?_eq_getElem (by rw [hs]; exact h0)⟩
        obtain ⟨v0, hv0⟩ := hg
        rw [hv0] at hc0
        have e00 : (a.add 0).add 0 = a := by simp [Addr.add]
        rw [e00] at hc0
        have hspot := World.cell?_spot hc0
        obtain ⟨b, o, spot⟩ := a
        simp only at hspot
        subst hspot
        have hblt : b < w.heap.size := by
          rcases Nat.lt_or_ge b w.heap.size with h1 | h1
          · exact h1
          · simp [World.cell?, Array.getElem?_eq_none h1] at hc0
        refine .inr ⟨b, o, rfl, Nat.zero_le _, hblt, fun j u hu => ?_⟩
        have hjl : j < ((y0 :: ys).flatMap enc).length := (List.getElem?_eq_some_iff.1 hu).1
        rw [flat_len hs] at hjl
        have hq : j / P.cellsOf e < (y0 :: ys).length := (Nat.div_lt_iff_lt_mul h0).2 hjl
        have hr : j % P.cellsOf e < P.cellsOf e := Nat.mod_lt _ h0
        have hj : j = j / P.cellsOf e * P.cellsOf e + j % P.cellsOf e := by
          have := Nat.div_add_mod j (P.cellsOf e)
          rw [Nat.mul_comm] at this
          exact this.symm
        have hg := flat_get hs (y0 :: ys) _ hq _ hr
        rw [← hj, hu] at hg
        have hc := hcell _ _ (List.getElem?_eq_getElem hq) _ hr
        rw [← hg, Go.Deep.add_add, ← hj] at hc
        rw [addr_add] at hc
        exact hc
    · have := bulk_length ((List.range xs.length).map D)
      simp only [List.length_map, List.length_range] at this
      omega
    · intro y hy
      obtain ⟨i, hi'⟩ := List.getElem?_of_mem hy
      have hil : i < xs.length := (List.getElem?_eq_some_iff.1 hi').1
      refine ⟨D i, (hxs i y hi').2, ?_⟩
      have hmem : D i ∈ (List.range xs.length).map D := List.mem_map.2 ⟨i, List.mem_range.2 hil, rfl⟩
      have := bulk_part hmem
      omega
    · have hil : i < xs.length := (List.getElem?_eq_some_iff.1 hy).1
      rw [List.getElem?_map, List.getElem?_range hil] at hd
      simp only [Option.map_some, Option.some.injEq] at hd
      subst hd
      exact (hxs i y hy).2

theorem bulk_sum {H α : Type} {f : α → Nat} : ∀ (ds : List (DataW H)) (xs : List α), ds.length = xs.length → (∀ (i : Nat) (d : DataW H) (y : α), ds[i]? = some d → xs[i]? = some y → f y ≤ Rows.uptoBulk d) → (xs.map f).sum ≤ Rows.uptoBulkAll ds
  | [], [], _, _ => by simp
  | d :: ds, x :: xs, hl, h => by
    have h0 := h 0 d x rfl rfl
    have ih := bulk_sum (f := f) ds xs (by simpa using hl) fun i d y hd hy => h (i + 1) d y (by simpa using hd) (by simpa using hy)
    simp only [List.map_cons, List.sum_cons, Rows.uptoBulkAll]
    omega

end Go.Proofs.YtapimpmpjighmaaDoor
