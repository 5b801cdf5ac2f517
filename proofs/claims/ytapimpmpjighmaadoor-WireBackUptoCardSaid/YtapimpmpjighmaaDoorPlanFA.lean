/-
  What a right plan is; a plan in its box.
-/
import Derived.Test.YtapimpmpjighmaaDoorPlanR
namespace Go.Proofs.YtapimpmpjighmaaDoor
open Go.RowKit
set_option maxRecDepth 100000

/-- What a right plan is. -/
structure PlanRight (p : PlanD) : Prop where
  posts : p.posts.length ≤ 4
  queues : p.queues.length ≤ 4
  binds : p.binds.length ≤ 10
  names : ∀ s ∈ postNames p ++ queueNames p, nameP s = true
  nodupPosts : (postNames p).Nodup
  nodupQueues : (queueNames p).Nodup
  kind : ∀ x ∈ p.posts, 1 ≤ x.kind ∧ x.kind ≤ 3
  queue : ∀ x ∈ p.queues, 1 ≤ x.limit ∧ x.limit ≤ 6 ∧ -1 ≤ x.dead ∧ x.dead < (p.posts.length : Int)
  bind : ∀ b ∈ p.binds, 0 ≤ b.src ∧ b.src < (p.posts.length : Int) ∧ 0 ≤ b.to ∧ b.to < (if b.toPost then (p.posts.length : Int) else (p.queues.length : Int))
  pat : ∀ b ∈ p.binds, splitErr isWild b.pattern = 0

theorem patErr_ok : ∀ {bs : List BindD}, patErr bs = 0 → ∀ b ∈ bs, splitErr isWild b.pattern = 0
  | [], _, b, hb => by cases hb
  | x :: r, h, b, hb => by
    unfold patErr at h
    by_cases hx : splitErr isWild x.pattern = 0
    · rw [if_pos hx] at h
      rcases List.mem_cons.1 hb with rfl | hb
      · exact hx
      · exact patErr_ok h b hb
    · rw [if_neg hx] at h
      exact absurd h hx

theorem checkP_right {p : PlanD} (h : checkP p = 0) : PlanRight p := by
  unfold checkP at h
  split at h
  · cases h
  rename_i h1
  split at h
  · cases h
  rename_i h2
  split at h
  · cases h
  rename_i h3
  split at h
  · cases h
  rename_i h4
  split at h
  · cases h
  rename_i h5
  split at h
  · cases h
  rename_i h6
  simp only [Bool.or_eq_true, not_or, Bool.not_eq_true, dup, Bool.not_eq_false', decide_eq_true_eq] at h3
  simp only [Bool.not_eq_true, List.any_eq_false] at h2 h4 h5 h6
  refine ⟨by omega, by omega, by omega, fun s hs => ?_, h3.1, h3.2, fun x hx => ?_, fun x hx => ?_, fun b hb => ?_, patErr_ok h⟩
  · have := h2 s hs; simpa using this
  · have := h4 x hx; simp [kindP] at this; omega
  · have := h5 x hx; simp [queueP] at this; omega
  · have h' : bindP p.posts.length p.queues.length b = true := by
      have := h6 b hb
      cases hq : bindP p.posts.length p.queues.length b
      · rw [hq] at this; cases this
      · rfl
    have this := h'
    simp only [bindP, Bool.and_eq_true, decide_eq_true_eq] at this
    exact ⟨this.1.1.1, this.1.1.2, this.1.2, this.2⟩

theorem splitErr_size {p : List UInt8 → Bool} {s : ByteArray} (h : splitErr p s = 0) : s.size ≤ 24 := by
  unfold splitErr at h
  split at h
  · cases h
  · omega
theorem plan_boxed {p : PlanD} {a1 a2 a3 : Option Addr} {lo : Nat} {w : World} (hp : PlanAt w lo w.heap.size a1 a2 a3 p) (o : Obj) : PlanAt (w.alloc o) 0 (w.alloc o).heap.size a1 a2 a3 p :=
  (hp.below ((Below.refl _ w).alloc (Nat.le_refl _) o) (Nat.le_refl _)).wider (Nat.zero_le _) (by simp)
def Boxed (w W0 : World) (p : PlanD) (a1 a2 a3 : Option Addr) (c1 c2 c3 : Nat) : Prop :=
  ∀ W, Below W0.heap.size W0 W → PlanAt W 0 W0.heap.size a1 a2 a3 p ∧ (W.cell? ⟨w.heap.size, 0, none⟩ = some (.slice a1 p.posts.length c1) ∧ W.cell? ⟨w.heap.size, 1, none⟩ = some (.slice a2 p.queues.length c2) ∧ W.cell? ⟨w.heap.size, 2, none⟩ = some (.slice a3 p.binds.length c3)) ∧ Below w.heap.size w W

theorem boxed_new {p : PlanD} {a1 a2 a3 : Option Addr} {lo : Nat} {w : World} (hp : PlanAt w lo w.heap.size a1 a2 a3 p) (c1 c2 c3 : Nat) (t : TypeId) :
    Boxed w (w.alloc (.cells #[.slice a1 p.posts.length c1, .slice a2 p.queues.length c2, .slice a3 p.binds.length c3] t)) p a1 a2 a3 c1 c2 c3 := fun W hW => by
  have hbk := (Bk.new w t #[.slice a1 p.posts.length c1, .slice a2 p.queues.length c2, .slice a3 p.binds.length c3]).below hW (by simp)
  refine ⟨(plan_boxed hp _).below hW (Nat.le_refl _), ⟨?_, ?_, ?_⟩, ((Below.refl _ w).alloc (Nat.le_refl _) _).trans (hW.mono (by simp))⟩
  · have := hbk.cell 0; simpa using this
  · have := hbk.cell 1; simpa using this
  · have := hbk.cell 2; simpa using this

end Go.Proofs.YtapimpmpjighmaaDoor
