/-
  A plan and a state that a call has boxed.
-/
import Derived.Test.YtbdikenloklhaaaDoorStateQ
import Derived.Test.YtbdikenloklhaaaDoorPlanFB
import Derived.Test.YtbdikenloklhaaaDoorOpenC
namespace Go.Proofs.YtbdikenloklhaaaDoor
open Go.RowKit
set_option maxRecDepth 100000

/-- A plan and a state that a call has boxed, and the variable of its result. -/
structure CkIn (w : World) (p : PlanD) (s : StateD) (p1 p2 p3 a1 a2 a3 : Option Addr) (q1 q2 q3 c1 c2 c3 : Nat) (rows : List RowD) (W : World) : Prop where
  plan : W.cell? ⟨w.heap.size, 0, none⟩ = some (.slice p1 p.posts.length q1) ∧ W.cell? ⟨w.heap.size, 1, none⟩ = some (.slice p2 p.queues.length q2) ∧ W.cell? ⟨w.heap.size, 2, none⟩ = some (.slice p3 p.binds.length q3)
  state : W.cell? ⟨w.heap.size + 1, 0, none⟩ = some (.slice a1 s.ready.length c1) ∧ W.cell? ⟨w.heap.size + 1, 1, none⟩ = some (.slice a2 s.outs.length c2) ∧ W.cell? ⟨w.heap.size + 1, 2, none⟩ = some (.slice a3 s.takers.length c3) ∧
    W.cell? ⟨w.heap.size + 1, 3, none⟩ = some (.int .i64 s.nextSeq) ∧ W.cell? ⟨w.heap.size + 1, 4, none⟩ = some (.int .i64 s.nextTag) ∧ W.cell? ⟨w.heap.size + 1, 5, none⟩ = some (.int .i64 s.came) ∧ W.cell? ⟨w.heap.size + 1, 6, none⟩ = some (.int .i64 s.acked) ∧ W.cell? ⟨w.heap.size + 1, 7, none⟩ = some (.int .i64 s.dropped)
  below : Below w.heap.size w W
  env : Env W
  planAt : PlanAt W 0 W.heap.size p1 p2 p3 p
  stateAt : StateAt W 0 W.heap.size a1 a2 a3 rows s

theorem two_boxes {w : World} {p : PlanD} {s : StateD} {p1 p2 p3 a1 a2 a3 : Option Addr} {rows : List RowD} (q1 q2 q3 c1 c2 c3 : Nat) (hE : Env w) (hp : PlanAt w 0 w.heap.size p1 p2 p3 p) (hs : StateAt w 0 w.heap.size a1 a2 a3 rows s) (t1 t2 : TypeId) (W : World)
    (hW : Below ((w.alloc (.cells #[.slice p1 p.posts.length q1, .slice p2 p.queues.length q2, .slice p3 p.binds.length q3] t1)).alloc (.cells (vState s a1 a2 a3 c1 c2 c3) t2)).heap.size ((w.alloc (.cells #[.slice p1 p.posts.length q1, .slice p2 p.queues.length q2, .slice p3 p.binds.length q3] t1)).alloc (.cells (vState s a1 a2 a3 c1 c2 c3) t2)) W) :
    CkIn w p s p1 p2 p3 a1 a2 a3 q1 q2 q3 c1 c2 c3 rows W := by
  generalize hA : w.alloc (.cells #[.slice p1 p.posts.length q1, .slice p2 p.queues.length q2, .slice p3 p.binds.length q3] t1) = wA at hW
  have hsA : wA.heap.size = w.heap.size + 1 := by rw [← hA]; simp
  have kA : Bk wA w.heap.size t1 #[.slice p1 p.posts.length q1, .slice p2 p.queues.length q2, .slice p3 p.binds.length q3] := by rw [← hA]; exact Bk.new _ _ _
  have bA : Below w.heap.size w wA := by rw [← hA]; exact (Below.refl _ _).alloc (Nat.le_refl _) _
  have kB := Bk.new wA t2 (vState s a1 a2 a3 c1 c2 c3)
  have bB : Below wA.heap.size wA (wA.alloc (.cells (vState s a1 a2 a3 c1 c2 c3) t2)) := (Below.refl _ _).alloc (Nat.le_refl _) _
  have hsB : (wA.alloc (.cells (vState s a1 a2 a3 c1 c2 c3) t2)).heap.size = wA.heap.size + 1 := by simp
  have bW := bB.trans (hW.mono bB.size)
  have k1 := kA.below bW (by omega)
  have k2 := kB.below hW (by omega)
  rw [hsA] at k2
  have bw : Below w.heap.size w W := bA.trans (bW.mono (by omega))
  refine ⟨⟨?_, ?_, ?_⟩, ⟨k2.cell 0, k2.cell 1, k2.cell 2, k2.cell 3, k2.cell 4, k2.cell 5, k2.cell 6, k2.cell 7⟩, bw, below_env bw hE, (hp.below bw (Nat.le_refl _)).wider (Nat.le_refl _) bw.size, (hs.below bw (Nat.le_refl _)).wider (Nat.le_refl _) bw.size⟩
  · have := k1.cell 0; simpa using this
  · have := k1.cell 1; simpa using this
  · have := k1.cell 2; simpa using this

theorem taker_cells {wr : World} {b o k : Nat} {x : TakerD} (hc : ∀ j u, (vTaker x)[j]? = some u → wr.cell? ⟨b, o + k * 2 + j, none⟩ = some u) :
    wr.cell? ⟨b, o + k * 2, none⟩ = some (.int .i64 x.queue) ∧ wr.cell? ⟨b, o + k * 2 + 1, none⟩ = some (.int .i64 x.atOnce) := ⟨hc 0 _ rfl, hc 1 _ rfl⟩
theorem kb_alloc {Wr W : World} {D : Prop} (h : D ∧ Below Wr.heap.size Wr W) (o : Obj) : Below Wr.heap.size Wr (W.alloc o) := h.2.alloc h.2.size o

end Go.Proofs.YtbdikenloklhaaaDoor
