/-
  Walks of package plan: bind and the functions that Check hands out.
-/
import Derived.Test.YtapimpmpjighmaaDoorPlanB
namespace Go.Proofs.YtapimpmpjighmaaDoor
open Go.RowKit
set_option maxRecDepth 100000

/-- Plain: is a queue's row amiss, is a bind's? -/
def kindP (x : PostD) : Bool := decide (x.kind < 1) || decide (3 < x.kind)
def queueP (n : Nat) (x : QueueD) : Bool := decide (x.limit < 1) || decide (6 < x.limit) || decide (x.dead < -1) || decide ((n : Int) ≤ x.dead)
def bindP (posts queues : Nat) (b : BindD) : Bool := decide (0 ≤ b.src) && decide (b.src < (posts : Int)) && decide (0 ≤ b.to) && decide (b.to < (if b.toPost then (posts : Int) else (queues : Int)))

set_option maxHeartbeats 400000 in
theorem check1_any (x : PostD) (w : World) : Calls Tryd.prog 79 #[.agg (vPost x).toArray] w fun e W' => e = .returned (.string x.name) ∧ Below w.heap.size w W' := by
  unfold vPost
  go_enter Tryd.func79, Tryd.ntmps79
  go_wp2
  go_ret
  exact ⟨rfl, (Below.refl _ _).alloc (Nat.le_refl _) _⟩
set_option maxHeartbeats 400000 in
theorem check2_any (x : QueueD) (w : World) : Calls Tryd.prog 81 #[.agg (vQueue x).toArray] w fun e W' => e = .returned (.string x.name) ∧ Below w.heap.size w W' := by
  unfold vQueue
  go_enter Tryd.func81, Tryd.ntmps81
  go_wp2
  go_ret
  exact ⟨rfl, (Below.refl _ _).alloc (Nat.le_refl _) _⟩
set_option maxHeartbeats 400000 in
theorem check3_any (s : ByteArray) (w : World) : Calls Tryd.prog 84 #[.string s] w fun e W' => e = .returned (.bool (!nameP s)) ∧ Below w.heap.size w W' := by
  go_enter Tryd.func84, Tryd.ntmps84
  go_wp2_with fail
  refine (Name_any s _).mono ?_
  rintro e w1 ⟨rfl, hb⟩
  go_wp2_with fail
  go_ret
  exact ⟨rfl, hb⟩
set_option maxHeartbeats 400000 in
theorem check4_any (x : PostD) (w : World) : Calls Tryd.prog 88 #[.agg (vPost x).toArray] w fun e W' => e = .returned (.bool (kindP x)) ∧ Below w.heap.size w W' := by
  unfold vPost
  go_enter Tryd.func88, Tryd.ntmps88
  go_wp2
  all_goals go_ret
  all_goals refine ⟨?_, (Below.refl _ _).alloc (Nat.le_refl _) _⟩
  all_goals (refine congrArg (fun b => Ending.returned (Value.bool b)) ?_; rw [Bool.eq_iff_iff]; simp [kindP] <;> omega)
set_option maxHeartbeats 1000000 in
theorem check5_any (x : QueueD) (g : Nat) (a : Option Addr) (n c : Nat) (w : World) (_hn : n ≤ 4194304) (hg : w.cell? ⟨g, 0, none⟩ = some (.slice a n c)) :
    Calls Tryd.prog 90 #[.agg (vQueue x).toArray, .pointer (some ⟨g, 0, none⟩)] w fun e W' => e = .returned (.bool (queueP n x)) ∧ Below w.heap.size w W' := by
  have hlt := lt_of_cell hg
  have hg' : ∀ o, (w.alloc o).cell? ⟨g, 0, none⟩ = some (.slice a n c) := fun o => (((Below.refl w.heap.size w).alloc (Nat.le_refl _) o).cell (p := ⟨g, 0, none⟩) hlt).trans hg
  unfold vQueue
  go_enter Tryd.func90, Tryd.ntmps90
  go_wp2
  all_goals go_ret
  all_goals refine ⟨?_, (Below.refl _ _).alloc (Nat.le_refl _) _⟩
  all_goals (refine congrArg (fun b => Ending.returned (Value.bool b)) ?_; simp [queueP] <;> omega)
set_option maxHeartbeats 1000000 in
theorem bind_any (x : BindD) (a1 a2 a3 : Option Addr) (n1 n2 n3 c1 c2 c3 : Nat) (w : World) (_hn : n1 ≤ 4194304) (_hn2 : n2 ≤ 4194304) :
    Calls Tryd.prog 93 #[.agg #[.slice a1 n1 c1, .slice a2 n2 c2, .slice a3 n3 c3], .agg (vBind x).toArray] w fun e W' => e = .returned (.bool (bindP n1 n2 x)) ∧ Below w.heap.size w W' := by
  obtain ⟨src, tp, dst, pat⟩ := x
  unfold vBind
  go_enter Tryd.func93, Tryd.ntmps93
  cases tp
  all_goals go_wp2
  all_goals go_ret
  all_goals refine ⟨?_, ((Below.refl _ _).alloc (Nat.le_refl _) _).alloc (by simp) _⟩
  all_goals (refine congrArg (fun b => Ending.returned (Value.bool b)) ?_; simp [bindP] <;> omega)
set_option maxHeartbeats 1000000 in
theorem check6_any (x : BindD) (g : Nat) (a1 a2 a3 : Option Addr) (n1 n2 n3 c1 c2 c3 : Nat) (w : World) (hn : n1 ≤ 4194304) (hn2 : n2 ≤ 4194304)
    (h0 : w.cell? ⟨g, 0, none⟩ = some (.slice a1 n1 c1)) (h1 : w.cell? ⟨g, 1, none⟩ = some (.slice a2 n2 c2)) (h2 : w.cell? ⟨g, 2, none⟩ = some (.slice a3 n3 c3)) :
    Calls Tryd.prog 92 #[.agg (vBind x).toArray, .pointer (some ⟨g, 0, none⟩)] w fun e W' => e = .returned (.bool (!bindP n1 n2 x)) ∧ Below w.heap.size w W' := by
  have hlt := lt_of_cell h0
  have hal : ∀ o j, (w.alloc o).cell? ⟨g, j, none⟩ = w.cell? ⟨g, j, none⟩ := fun o j => ((Below.refl w.heap.size w).alloc (Nat.le_refl _) o).cell (p := ⟨g, j, none⟩) hlt
  have h0' : ∀ o, (w.alloc o).cell? ⟨g, 0, none⟩ = some (.slice a1 n1 c1) := fun o => (hal o 0).trans h0
  have h1' : ∀ o, (w.alloc o).cell? ⟨g, 1, none⟩ = some (.slice a2 n2 c2) := fun o => (hal o 1).trans h1
  have h2' : ∀ o, (w.alloc o).cell? ⟨g, 2, none⟩ = some (.slice a3 n3 c3) := fun o => (hal o 2).trans h2
  clear hal h0 h1 h2
  have HB := fun W => Lib.hid (bind_any x a1 a2 a3 n1 n2 n3 c1 c2 c3 W hn hn2)
  generalize hb : bindP n1 n2 x = bp at *
  obtain ⟨src, tp, dst, pat⟩ := x
  unfold vBind at *
  clear hb
  go_enter Tryd.func92, Tryd.ntmps92
  go_wp2_with fail
  refine (HB _).out.mono ?_
  rintro e w1 ⟨rfl, hb⟩
  go_wp2_with fail
  go_ret
  exact ⟨rfl, ((Below.refl _ _).alloc (Nat.le_refl _) _).trans (hb.mono (by simp))⟩
end Go.Proofs.YtapimpmpjighmaaDoor
