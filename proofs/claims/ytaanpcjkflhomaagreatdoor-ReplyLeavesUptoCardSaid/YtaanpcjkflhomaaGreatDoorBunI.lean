/-
  The plain law of takers: who joins, who is next, what is delivered.
  takers.Asked and the reference's QueueError: the error that all share.
  takers.Next and the reference's NextOf, walked.
  takers.Join and the reference's JoinOf, walked.
  The reference's JoinOf, walked.
-/
import Derived.Test.YtaanpcjkflhomaaGreatDoorBunF
import Derived.Test.YtaanpcjkflhomaaGreatDoorStateD
import Derived.Test.YtaanpcjkflhomaaGreatDoorBunG
import Derived.Test.YtaanpcjkflhomaaGreatDoorBunE
import Derived.Test.YtaanpcjkflhomaaGreatDoorBunH
set_option linter.unusedSimpArgs false
set_option linter.unusedVariables false
namespace Go.Proofs.YtaanpcjkflhomaaGreatDoor
def lineAt (s : StateD) (q : Int) : List ItemD := (s.ready[q.toNat]?).getD []
def Elig (s : StateD) (q : Int) (i : Nat) : Prop := ∃ t, s.takers[i]? = some t ∧ t.queue = q ∧ (heldS s i : Int) < t.atOnce
def Best (s : StateD) (q : Int) (k : Nat) (r : Int × Int) : Prop :=
 (r = (-1, 4) ∧ ∀ i : Nat, i < k → ¬ Elig s q i) ∨
  ∃ i : Nat, i < k ∧ r = ((i : Int), (heldS s i : Int)) ∧ Elig s q i ∧ (∀ j : Nat, j < k → Elig s q j → heldS s i ≤ heldS s j) ∧ (∀ j : Nat, j < i → Elig s q j → heldS s i < heldS s j)
theorem taker_four {p : PlanD} {s : StateD} (h : Right p s) {i : Nat} {t : TakerD} (ht : s.takers[i]? = some t) : -1 ≤ t.queue ∧ t.queue < (p.queues.length : Int) ∧ 1 ≤ t.atOnce ∧ t.atOnce ≤ 4 := by
 have := h.taker t (List.mem_of_getElem? ht)
 unfold takerB at this
 simp only [Bool.and_eq_true, decide_eq_true_eq] at this
 exact ⟨this.1.1.1, this.1.1.2, this.1.2, this.2⟩
theorem Best.none {s : StateD} {q : Int} {n : Nat} {r : Int × Int} (h : Best s q n r) (hno : ∀ i : Nat, i < n → ¬ Elig s q i) : r = (-1, 4) := by
 rcases h with ⟨e, _⟩ | ⟨k, hk, e, hek, _⟩
 ·exact e
 ·exact absurd hek (hno k hk)
theorem Elig.lt {s : StateD} {q : Int} {i : Nat} (h : Elig s q i) : i < s.takers.length := by
 obtain ⟨t, ht, _⟩ := h
 exact (List.getElem?_eq_some_iff.1 ht).1
theorem Elig.held {p : PlanD} {s : StateD} (hr : Right p s) {q : Int} {i : Nat} (h : Elig s q i) : heldS s i < 4 := by
 obtain ⟨t, ht, _, h2⟩ := h
 have := taker_four hr ht
 omega
theorem tk_out {p : PlanD} {s : StateD} (h : Formed p s) {x : OutD} (hx : x ∈ s.outs) : ∃ t, s.takers[x.taker.toNat]? = some t ∧ 0 ≤ t.queue ∧ t.queue = x.queue ∧ 0 ≤ x.tag ∧ x.tag < s.nextTag ∧ 0 ≤ x.taker ∧ x.taker < (s.takers.length : Int) ∧ itemFine x.item = true := by
 have := h.out x hx
 unfold outB at this
 simp only [Bool.and_eq_true, decide_eq_true_eq] at this
 obtain ⟨⟨⟨⟨⟨h1, h2⟩, h3⟩, h4⟩, h5⟩, h6⟩ := this
 cases ht : s.takers[x.taker.toNat]? with
 | none => rw [ht] at h5; cases h5
 | some t =>
  rw [ht] at h5
  simp only [Bool.and_eq_true, decide_eq_true_eq] at h5
  exact ⟨t, rfl, h5.1, h5.2, h1, h2, h3, h4, h6⟩
theorem tk_mk {s : StateD} {x : OutD} {t : TakerD} (ht : s.takers[x.taker.toNat]? = some t) (h0 : 0 ≤ t.queue) (hq : t.queue = x.queue) (h1 : 0 ≤ x.tag) (h2 : x.tag < s.nextTag) (h3 : 0 ≤ x.taker) (h6 : itemFine x.item = true) : outB s x = true := by
 have h4 := (List.getElem?_eq_some_iff.1 ht).1
 unfold outB
 rw [ht]
 simp only [Bool.and_eq_true, decide_eq_true_eq]
 exact ⟨⟨⟨⟨⟨h1, h2⟩, h3⟩, by omega⟩, h0, hq⟩, h6⟩
open Go.RowKit
set_option maxRecDepth 100000
open Go.RowKit
set_option maxRecDepth 100000
open Go.RowKit
set_option maxRecDepth 100000
theorem OwnedAt.takersTo {w w' : World} {lo : Nat} {v1 v2 v3 v3' : Value} {rows : List RowD} {s : StateD} {l : List TakerD} (h : OwnedAt w lo v1 v2 v3 rows s) (hg : w.grownBy w' v3.ownBlock) (ht : w'.ownsRow lo 79 2 v3' l.length (l.flatMap vTaker)) : OwnedAt w' lo v1 v2 v3' rows { s with takers := l } :=
 ⟨h.same, h.ready.kept hg (own_own h.ready h.takers (by decide)), h.rows.kept h.takers (by decide) hg, h.outs.kept hg (own_own h.outs h.takers (by decide)), ht⟩
open Go.RowKit
set_option maxRecDepth 100000
theorem OwnedAt.drew {w : World} {lo : Nat} {v1 v2 v3 : Value} {rows : List RowD} {s : StateD} (h : OwnedAt w lo v1 v2 v3 rows s) : OwnedAt w.drew lo v1 v2 v3 rows s :=
 ⟨h.same, h.ready.drew, h.rows.drew, h.outs.drew, h.takers.drew⟩
theorem Bk.dr {w : World} {g : Nat} {t : TypeId} {cs : Array Value} (h : Bk w g t cs) : Bk w.drew g t cs := h
theorem cells8 {w : World} {g : Nat} {t : TypeId} {v0 v1 v2 v3 v4 v5 v6 v7 : Value} (h : Bk w g t #[v0, v1, v2, v3, v4, v5, v6, v7]) :
  w.cell? ⟨g, 0, none⟩ = some v0 ∧ w.cell? ⟨g, 1, none⟩ = some v1 ∧ w.cell? ⟨g, 2, none⟩ = some v2 ∧ w.cell? ⟨g, 3, none⟩ = some v3 ∧ w.cell? ⟨g, 4, none⟩ = some v4 ∧ w.cell? ⟨g, 5, none⟩ = some v5 ∧ w.cell? ⟨g, 6, none⟩ = some v6 ∧ w.cell? ⟨g, 7, none⟩ = some v7 :=
 ⟨h.cell 0, h.cell 1, h.cell 2, h.cell 3, h.cell 4, h.cell 5, h.cell 6, h.cell 7⟩
end Go.Proofs.YtaanpcjkflhomaaGreatDoor
