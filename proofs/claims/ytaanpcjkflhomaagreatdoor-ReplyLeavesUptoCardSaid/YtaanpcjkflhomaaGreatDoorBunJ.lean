/-
  takers.Deliver, walked.
  the reference's DeliverOf, walked.
  A right state is small; a state that was boxed.
-/
import Derived.Test.YtaanpcjkflhomaaGreatDoorBunA
import Derived.Test.YtaanpcjkflhomaaGreatDoorBunI
import Derived.Test.YtaanpcjkflhomaaGreatDoorBunH
import Derived.Test.YtaanpcjkflhomaaGreatDoorBunG
set_option linter.unusedSimpArgs false
set_option linter.unusedVariables false
namespace Go.Proofs.YtaanpcjkflhomaaGreatDoor
open Go.RowKit
set_option maxRecDepth 100000
open Go.RowKit
set_option maxRecDepth 100000
open Go.RowKit
set_option maxRecDepth 100000
theorem fine_small {x : ItemD} (h : itemFine x = true) : ItemSmall x := by
 unfold itemFine at h
 simp only [Bool.and_eq_true, decide_eq_true_eq] at h
 obtain ⟨⟨⟨⟨⟨h1, h2⟩, h3⟩, h4⟩, h5⟩, h6⟩ := h
 have := splitErr_size h1
 unfold ItemSmall
 omega
theorem mem_sum : ∀ {l : List (List ItemD)} {r : List ItemD}, r ∈ l → r.length ≤ (l.map List.length).sum
 | x :: l, r, h => by
  rw [List.map_cons, List.sum_cons]
  rcases List.mem_cons.1 h with rfl | h
  ·omega
  ·have := mem_sum h; omega
theorem count_in {n : Int} (h : countB n = true) : 0 ≤ n ∧ n ≤ 1048576 := by
 unfold countB at h
 simpa [Bool.and_eq_true, decide_eq_true_eq] using h
theorem Right.small {p : PlanD} {s : StateD} (h : Right p s) : StateSmall s := by
 have h1 := count_in h.came
 have h2 := count_in h.acked
 have h3 := count_in h.dropped
 have hs := h.sum
 have hp := (checkP_right h.plan).queues
 have hm := h.many
 unfold lyingS at hs
 refine ⟨by rw [h.len]; omega, by omega, by omega, fun l hl => ⟨?_, fun x hx => ?_⟩, fun x hx => ?_, by omega⟩
 ·have := mem_sum hl
  omega
 ·exact fine_small ((lineFine_iff.1 (h.line l hl)).1 x hx)
 ·obtain ⟨_, _, _, _, _, _, _, _, h8⟩ := tk_out h.toFormed hx
  exact fine_small h8
theorem i64_mk {n : Int} (h1 : -1 ≤ n) (h2 : n ≤ 1048576) : i64 n := by unfold i64; omega
theorem Right.ints {p : PlanD} {s : StateD} (h : Right p s) : StateInts s := by
 have h1 := count_in h.came
 have h2 := count_in h.acked
 have h3 := count_in h.dropped
 have h4 := count_in h.nextSeq
 have h5 := count_in h.nextTag
 have hp := (checkP_right h.plan).queues
 have hm := h.many
 have ht : ∀ x ∈ s.takers, -1 ≤ x.queue ∧ x.queue ≤ 1048576 ∧ -1 ≤ x.atOnce ∧ x.atOnce ≤ 1048576 := fun x hx => by
  have := h.taker x hx
  unfold takerB at this
  simp only [Bool.and_eq_true, decide_eq_true_eq] at this
  omega
 refine ⟨i64_mk (by omega) (by omega), i64_mk (by omega) (by omega), i64_mk (by omega) (by omega), i64_mk (by omega) (by omega), i64_mk (by omega) (by omega), fun x hx => ?_, fun x hx => ?_⟩
 ·have := ht x hx
  exact ⟨i64_mk (by omega) (by omega), i64_mk (by omega) (by omega)⟩
 ·obtain ⟨t, k1, k2, k3, k4, k5, k6, k7, _⟩ := tk_out h.toFormed hx
  have := ht t (List.mem_of_getElem? k1)
  exact ⟨i64_mk (by omega) (by omega), i64_mk (by omega) (by omega), i64_mk (by omega) (by omega)⟩
theorem zero_small : StateSmall zeroS := ⟨by decide, by decide, by decide, (by intro l hl; cases hl), (by intro x hx; cases hx), by decide⟩
theorem zero_ints : StateInts zeroS := ⟨i64_mk (by decide) (by decide), i64_mk (by decide) (by decide), i64_mk (by decide) (by decide), i64_mk (by decide) (by decide), i64_mk (by decide) (by decide), (by intro x hx; cases hx), (by intro x hx; cases hx)⟩
structure BoxS (w : World) (g : Nat) (x : StateD) (a1 a2 a3 : Option Addr) (c1 c2 c3 : Nat) (rows : List RowD) : Prop where
 bk : Bk w g 31 (vState x a1 a2 a3 c1 c2 c3)
 at_ : StateAt w 0 w.heap.size a1 a2 a3 rows x
theorem BoxS.below {w w' : World} {g : Nat} {x : StateD} {a1 a2 a3 : Option Addr} {c1 c2 c3 : Nat} {rows : List RowD} (h : BoxS w g x a1 a2 a3 c1 c2 c3 rows) (hb : Below w.heap.size w w') : BoxS w' g x a1 a2 a3 c1 c2 c3 rows :=
 ⟨h.bk.below hb h.bk.lt, (h.at_.below hb (Nat.le_refl _)).wider (Nat.le_refl _) hb.size⟩
theorem BoxS.new {w : World} {x : StateD} {a1 a2 a3 : Option Addr} {rows : List RowD} (h : StateAt w 0 w.heap.size a1 a2 a3 rows x) (c1 c2 c3 : Nat) : BoxS (w.alloc (.cells (vState x a1 a2 a3 c1 c2 c3) 31)) w.heap.size x a1 a2 a3 c1 c2 c3 rows :=
 ⟨Bk.new _ _ _, (h.below ((Below.refl _ _).alloc (Nat.le_refl _) _) (Nat.le_refl _)).wider (Nat.le_refl _) (by simp)⟩
theorem BoxS.cells {w : World} {g : Nat} {x : StateD} {a1 a2 a3 : Option Addr} {c1 c2 c3 : Nat} {rows : List RowD} (h : BoxS w g x a1 a2 a3 c1 c2 c3 rows) :
  w.cell? ⟨g, 0, none⟩ = some (.slice a1 x.ready.length c1) ∧ w.cell? ⟨g, 1, none⟩ = some (.slice a2 x.outs.length c2) ∧ w.cell? ⟨g, 2, none⟩ = some (.slice a3 x.takers.length c3) ∧ w.cell? ⟨g, 3, none⟩ = some (.int .i64 x.nextSeq) ∧ w.cell? ⟨g, 4, none⟩ = some (.int .i64 x.nextTag) ∧ w.cell? ⟨g, 5, none⟩ = some (.int .i64 x.came) ∧ w.cell? ⟨g, 6, none⟩ = some (.int .i64 x.acked) ∧ w.cell? ⟨g, 7, none⟩ = some (.int .i64 x.dropped) :=
 cells8 h.bk
theorem box_since {w0 w1 : World} {x : StateD} {a1 a2 a3 : Option Addr} {rows : List RowD} (c1 c2 c3 : Nat) {lo : Nat} (h : StateAt w1 lo w1.heap.size a1 a2 a3 rows x) (hb : Below w0.heap.size w0 w1) {W1 : World} (hW : w1.alloc (.cells (vState x a1 a2 a3 c1 c2 c3) 31) = W1) :
  ∀ W, Below W1.heap.size W1 W → BoxS W w1.heap.size x a1 a2 a3 c1 c2 c3 rows ∧ Below w0.heap.size w0 W := fun W h2 => by
 subst hW
 exact ⟨(BoxS.new (h.wider (Nat.zero_le _) (Nat.le_refl _)) c1 c2 c3).below h2, (hb.alloc hb.size _).trans (h2.mono (by have := hb.size; simp; omega))⟩
theorem Sl.away {w : World} {lo hi : Nat} {a : Option Addr} {us : List Value} (h : Sl w lo hi a us) {p : Addr} (hp : p.block < lo ∨ hi ≤ p.block) (v : Value) : Sl (w.setCell p v) lo hi a us := by
 rcases h with h | ⟨b, o, rfl, h1, h2, hc⟩
 ·exact .inl h
 ·refine .inr ⟨b, o, rfl, h1, h2, fun j u hu => ?_⟩
  have he := Below.heap_setCell w p v b (by omega)
  have := hc j u hu
  simp only [World.cell?] at this ⊢
  rw [he]
  exact this
theorem StateAt.away {w : World} {lo hi : Nat} {a1 a2 a3 : Option Addr} {rows : List RowD} {s : StateD} (h : StateAt w lo hi a1 a2 a3 rows s) {p : Addr} (hp : p.block < lo ∨ hi ≤ p.block) (v : Value) : StateAt (w.setCell p v) lo hi a1 a2 a3 rows s :=
 ⟨h.same, h.ready.away hp v, fun r hr => ⟨(h.row r hr).1.away hp v, (h.row r hr).2⟩, h.outs.away hp v, h.takers.away hp v⟩
end Go.Proofs.YtaanpcjkflhomaaGreatDoor
