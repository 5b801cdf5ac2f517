/-
  Plain predicates on memory for this claim's walks: a slice that reads as a list of cells between two block numbers, and how it is kept. No program in sight.
-/
import Derived.WalkKit
import Derived.WalkSpells
import Derived.WalkLawsBesides
import Derived.Lib.Hide
import Derived.Deep.QuietTactic
import Derived.BigQuiet
import Derived.Deep.OwnRows
namespace Go.Proofs.YtapimpmpjighmaaDoor
open Go.RowKit

/-- The cells from address a on are us; the block lies in [lo, hi). Nothing is said of a where us is empty. -/
def Sl (w : World) (lo hi : Nat) (a : Option Addr) (us : List Value) : Prop :=
  us = [] ∨ ∃ b o, a = some ⟨b, o, none⟩ ∧ lo ≤ b ∧ b < hi ∧ ∀ j u, us[j]? = some u → w.cell? ⟨b, o + j, none⟩ = some u

theorem Sl.nil (w : World) (lo hi : Nat) (a : Option Addr) : Sl w lo hi a [] := .inl rfl

theorem Sl.at_ {w : World} {lo hi : Nat} {a : Option Addr} {us : List Value} (h : Sl w lo hi a us) {k : Nat} (hk : k < us.length) :
    ∃ b o, a = some ⟨b, o, none⟩ ∧ lo ≤ b ∧ b < hi ∧ ∀ j u, us[j]? = some u → w.cell? ⟨b, o + j, none⟩ = some u := by
  rcases h with rfl | h
  · simp at hk
  · exact h

theorem Sl.keep {w w' : World} {lo hi : Nat} {a : Option Addr} {us : List Value} (h : Sl w lo hi a us) (hk : ∀ p : Addr, p.block < hi → w'.cell? p = w.cell? p) : Sl w' lo hi a us := by
  rcases h with h | ⟨b, o, e, h1, h2, hc⟩
  · exact .inl h
  · exact .inr ⟨b, o, e, h1, h2, fun j u hu => (hk _ h2).trans (hc j u hu)⟩

theorem Sl.below {w w' : World} {lo hi B : Nat} {a : Option Addr} {us : List Value} (h : Sl w lo hi a us) (hb : Below B w w') (hB : hi ≤ B) : Sl w' lo hi a us :=
  h.keep fun p hp => hb.cell (by omega)

theorem Sl.wider {w : World} {lo hi lo' hi' : Nat} {a : Option Addr} {us : List Value} (h : Sl w lo hi a us) (h1 : lo' ≤ lo) (h2 : hi ≤ hi') : Sl w lo' hi' a us := by
  rcases h with h | ⟨b, o, e, h3, h4, hc⟩
  · exact .inl h
  · exact .inr ⟨b, o, e, by omega, by omega, hc⟩

/-- A new block. -/
theorem Sl.new (w : World) (us : List Value) (t : TypeId) (hi : Nat) (h : w.heap.size < hi) : Sl (w.alloc (.cells us.toArray t)) w.heap.size hi (some ⟨w.heap.size, 0, none⟩) us :=
  .inr ⟨_, 0, rfl, Nat.le_refl _, h, fun j u hu => by rw [World.cell?_alloc_at _ _ _ _ rfl]; simpa using hu⟩

/-- A part of it, from k on. -/
theorem Sl.drop {w : World} {lo hi : Nat} {b o : Nat} {us : List Value} (h : Sl w lo hi (some ⟨b, o, none⟩) us) (k : Nat) : Sl w lo hi (some ⟨b, o + k, none⟩) (us.drop k) := by
  rcases h with rfl | ⟨b', o', e, h1, h2, hc⟩
  · left; simp
  · right
    simp only [Option.some.injEq, Addr.mk.injEq] at e
    obtain ⟨rfl, rfl, _⟩ := e
    exact ⟨b, o + k, rfl, h1, h2, fun j u hu => by
      have := hc (k + j) u (by simpa using hu)
      rw [show o + k + j = o + (k + j) from by omega]; exact this⟩

/-- The head of it. -/
theorem Sl.take {w : World} {lo hi : Nat} {a : Option Addr} {us : List Value} (h : Sl w lo hi a us) (k : Nat) : Sl w lo hi a (us.take k) := by
  rcases h with rfl | ⟨b', o', e, h1, h2, hc⟩
  · left; simp
  · exact .inr ⟨b', o', e, h1, h2, fun j u hu => hc j u (by
      rw [List.getElem?_take] at hu
      split at hu
      · exact hu
      · cases hu)⟩

/-- A row of the call's own reads as a list. -/
theorem Sl.of_own {w : World} {base : Nat} {e : TypeId} {size n c : Nat} {a : Option Addr} {us : List Value} (h : w.ownsRow base e size (.slice a n c) n us) : Sl w base w.heap.size a us := by
  obtain ⟨hl, h⟩ := h
  rcases h with ⟨_, hn⟩ | ⟨g, cap, cur, hv, hg, hh, hnc, hm, hcs, ht⟩
  · left
    subst hn
    exact List.eq_nil_of_length_eq_zero (by simpa using hl)
  · right
    simp only [Value.slice.injEq] at hv
    obtain ⟨rfl, _, rfl⟩ := hv
    have hlt : g < w.heap.size := by
      rcases Nat.lt_or_ge g w.heap.size with h | h
      · exact h
      · rw [Array.getElem?_eq_none h] at hh; cases hh
    refine ⟨g, 0, rfl, hg, hlt, fun j u hu => ?_⟩
    simp only [World.cell?, hh, Nat.zero_add]
    rw [← ht, List.getElem?_take] at hu
    split at hu
    · simpa using hu
    · cases hu

theorem own_slice {w : World} {base : Nat} {e : TypeId} {size n : Nat} {v : Value} {us : List Value} (h : w.ownsRow base e size v n us) : ∃ a c, v = .slice a n c ∧ n ≤ c := by
  obtain ⟨hl, h⟩ := h
  rcases h with ⟨rfl, rfl⟩ | ⟨g, cap, cur, hv, hg, hh, hnc, hm, hcs, ht⟩
  · exact ⟨none, 0, rfl, Nat.le_refl _⟩
  · exact ⟨_, cap, hv, hnc⟩

theorem own_below {w w' : World} {base : Nat} {e : TypeId} {size n : Nat} {v : Value} {us : List Value} (h : w.ownsRow base e size v n us) (hb : Below w.heap.size w w') : w'.ownsRow base e size v n us := by
  obtain ⟨hl, h⟩ := h
  refine ⟨hl, ?_⟩
  rcases h with h | ⟨g, cap, cur, hv, hg, hh, r⟩
  · exact .inl h
  · exact .inr ⟨g, cap, cur, hv, hg, (hb.block g (Array.getElem?_eq_some_iff.1 hh).1).trans hh, r⟩

theorem grownBy_of_alloc {w w1 : World} {o : Obj} {row : Option Nat} (hg : (w.alloc o).grownBy w1 row) : w.grownBy w1 row :=
  ⟨hg.os, hg.tape, hg.output, Nat.le_trans (by simp) hg.size, fun k hk hne => (hg.block k (by simp; omega) hne).trans (Below.heap_alloc _ _ _ hk)⟩

theorem below_own {B : Nat} {w0 w w1 : World} {base : Nat} {e : TypeId} {size n : Nat} {v : Value} {us : List Value} (hown : w.ownsRow base e size v n us) (hg : w.grownBy w1 v.ownBlock) (hb : Below B w0 w) (h1 : B ≤ base) (h2 : B ≤ w.heap.size) : Below B w0 w1 :=
  hb.grown hg h2 fun k hk => by have := (hown.lt k hk).1; omega

/-- append of one element (of one or more cells) that has just been laid in a block of its own, to a row of the call's own. -/
theorem append1 {P : Program} {ops : Array Oper} {rest : List Oper} {o : Oper} {a : Act} {W : World} {Q : Exit → Act → World → Prop} (hgd : o.guard = none) (s x : Operand) (t : TypeId)
    (ho : o.op = .call { callee := .builtin .append, args := #[s, x], argTypes := #[t, t] })
    (base : Nat) (e : TypeId) {z : Value} {size bytes : Nat} (hinfo : (P.info? e).map (fun i => (i.zero, i.size, i.bytes)) = some (some z, size, bytes)) (ht : P.underlying t = some (.slice e)) (hzs : z.cells.size = size) (hsz : 0 < size) (hb : bytes ≤ 4096)
    (w : World) (v : Value) (n : Nat) (us : List Value) (hs : a.eval s = v) (hown : w.ownsRow base e size v n us)
    (news : List Value) (hW : W = w.alloc (.cells news.toArray e)) (hx : a.eval x = .slice (some ⟨w.heap.size, 0, none⟩) 1 1) (hl : news.length = size) (h1 : ∀ u ∈ news, u.oneCell' = true) (hn : n < 4294967296) (hbase : base ≤ w.heap.size)
    (h : ∀ v' w', w'.ownsRow base e size v' (n + 1) (us ++ news) → w.grownBy w' v.ownBlock → wpList P ops Q rest (a.put o.dst v') w') : wpList P ops Q (o :: rest) a W := by
  subst hW
  obtain ⟨i, hi, hz0, hz1, hz2⟩ := info_parts hinfo
  refine wpList_append_own _ hgd s x t ho base e i z size bytes ht hi hz0 hz1 hz2 hzs hsz v n us hs (hown.alloc _) ⟨w.heap.size, 0, none⟩ 1 1 news hx (by simpa using hl) (fun j u hu => ?_) h1 (by unfold maxLen; omega) ?_ (by simp; omega) (fun v' w' h2 h3 _ => h v' w' h2 (grownBy_of_alloc h3))
  · have : ((⟨w.heap.size, 0, none⟩ : Addr).add j) = ⟨w.heap.size, j, none⟩ := by
      unfold Addr.add
      split
      · simp_all
      · simp
    rw [this, World.cell?_alloc_at _ _ _ _ rfl]
    simpa using hu
  · have : (n + 1) * bytes ≤ 4294967296 * 4096 := Nat.mul_le_mul (by omega) hb
    omega

/-- Block g holds just the cells cs, of element type t; none is frozen. -/
def Bk (w : World) (g : Nat) (t : TypeId) (cs : Array Value) : Prop := w.heap[g]? = some (.cells cs t (0, 0))

theorem Bk.lt {w : World} {g : Nat} {t : TypeId} {cs : Array Value} (h : Bk w g t cs) : g < w.heap.size := (Array.getElem?_eq_some_iff.1 h).1
theorem Bk.new (w : World) (t : TypeId) (cs : Array Value) : Bk (w.alloc (.cells cs t)) w.heap.size t cs := by
  show (w.heap.push _)[w.heap.size]? = _
  rw [Array.getElem?_push, if_pos rfl]
theorem Bk.new_at (w : World) (t : TypeId) (cs : Array Value) {g : Nat} (h : g = w.heap.size) : Bk (w.alloc (.cells cs t)) g t cs := h ▸ Bk.new w t cs
theorem Bk.alloc {w : World} {g : Nat} {t : TypeId} {cs : Array Value} (h : Bk w g t cs) (o : Obj) : Bk (w.alloc o) g t cs := (Below.heap_alloc w o g h.lt).trans h
theorem Bk.cell {w : World} {g : Nat} {t : TypeId} {cs : Array Value} (h : Bk w g t cs) (i : Nat) : w.cell? ⟨g, i, none⟩ = cs[i]? := by
  unfold Bk at h
  simp [World.cell?, h]
theorem Bk.frozen {w : World} {g : Nat} {t : TypeId} {cs : Array Value} (h : Bk w g t cs) (i : Nat) : w.frozen? ⟨g, i, none⟩ = false := by
  unfold Bk at h
  simp [World.frozen?, h]
theorem Bk.below {w w' : World} {B g : Nat} {t : TypeId} {cs : Array Value} (h : Bk w g t cs) (hb : Below B w w') (hg : g < B) : Bk w' g t cs := (hb.block g hg).trans h
theorem Bk.set_ {w : World} {g : Nat} {t : TypeId} {cs : Array Value} (h : Bk w g t cs) (i : Nat) (u : Value) : Bk (w.setCell ⟨g, i, none⟩ u) g t (cs.setIfInBounds i u) := by
  unfold Bk at h ⊢
  simp [World.setCell, Array.getElem?_modify, h]
theorem Bk.far {w : World} {g : Nat} {t : TypeId} {cs : Array Value} (h : Bk w g t cs) {p : Addr} (hp : g ≠ p.block) (u : Value) : Bk (w.setCell p u) g t cs := (Below.heap_setCell w p u g hp).trans h
theorem Bk.drewN {w : World} {g : Nat} {t : TypeId} {cs : Array Value} (h : Bk w g t cs) (n : Nat) : Bk (w.drewN n) g t cs := h
theorem Bk.grown {w w' : World} {g : Nat} {t : TypeId} {cs : Array Value} {row : Option Nat} (h : Bk w g t cs) (hg : w.grownBy w' row) (hne : some g ≠ row) : Bk w' g t cs := (hg.block g h.lt hne).trans h

/-- make([]T, n), T of one cell, at a length that the walk has as a sum. -/
theorem run_make1 {P : Program} {t e : TypeId} {z : Value} {bytes : Nat} (ht : P.underlying t = some (.slice e)) (hinfo : (P.info? e).map (fun i => (i.zero, i.size, i.bytes)) = some (some z, 1, bytes)) (hz1 : z.cells = #[z])
    (n : Nat) (i : Int) (hi : i = (n : Int)) (hb : bytes ≤ 4096) (hn : n ≤ 4294967296) (w : World) :
    (Instr.makeSlice t (.int .i64 i) (.int .i64 i)).run P w = .ok (.slice (some ⟨w.heap.size, 0, none⟩) n n) (w.alloc (.cells (List.replicate n z).toArray e)) := by
  subst hi
  have h1 : bytes * n ≤ 4096 * 4294967296 := Nat.mul_le_mul hb hn
  have := run_make_row' t e z bytes ht hinfo hz1 .i64 .i64 n (by omega) (by omega) w
  rw [this]
  congr 3
  apply Array.toList_inj.1
  rw [toList_madeCells_one]

/-- Where a slice begins that was cut k elements (of so many cells) from its head on: Go keeps the address where nothing of the capacity is left. -/
def cutA (a : Option Addr) (cap k size : Nat) : Option Addr := if cap = k then a else a.map (·.add (k * size))

theorem run_cut {P : Program} {t size : Nat} (ht : P.underlying t = some (.slice (P.elem t))) (hs : ∀ w, (sizeOf (P.elem t)).run P w = .ok size w) (a : Option Addr) (len cap k : Nat) (i : Int) (hi : i = (k : Int)) (hk : k ≤ len) (w : World) :
    (Instr.slice t (.slice a len cap) (some (.int .i64 i)) none none).run P w = .ok (.slice (cutA a cap k size) (len - k) (cap - k)) w := by
  subst hi
  rw [run_slice_l w t a len cap ht .i64 k (by omega) (by omega), hs]
  simp [sliced, cutA, Result.andThen]
  try (split <;> simp_all)

theorem Sl.cut {w : World} {lo hi : Nat} {a : Option Addr} {us : List Value} (h : Sl w lo hi a us) {n cap k size : Nat} (hl : us.length = n * size) (hk : k ≤ n) (hc : n ≤ cap) : Sl w lo hi (cutA a cap k size) (us.drop (k * size)) := by
  rcases h with rfl | ⟨b, o, rfl, h1, h2, hcell⟩
  · left; simp
  · unfold cutA
    split
    · left
      apply List.drop_eq_nil_of_le
      rw [hl]
      exact Nat.mul_le_mul_right _ (by omega)
    · right
      refine ⟨b, o + k * size, ?_, h1, h2, fun j u hu => ?_⟩
      · simp only [Option.map_some, Addr.add]
        split
        · simp_all
        · simp
      · have := hcell (k * size + j) u (by simpa using hu)
        rw [show o + k * size + j = o + (k * size + j) from by omega]; exact this

theorem below_draws {B : Nat} {w0 w : World} (h : Below B w0 w) : ∀ n, Below B w0 (w.drewN n)
  | 0 => h
  | n + 1 => (below_draws h n).drew

theorem below_alloc_new {w w1 : World} (hb : Below w.heap.size w w1) (o : Obj) : Below w.heap.size w (w1.alloc o) := hb.alloc hb.size o

end Go.Proofs.YtapimpmpjighmaaDoor
