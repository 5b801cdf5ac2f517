/-
  wire.Read's deferred closure; what the reading of a plan promises.
-/
import Derived.Test.YtapimpmpjighmaaDoorWireC
import Derived.Test.YtapimpmpjighmaaDoorPlanH
import Derived.Recover
import Derived.Test.YtapimpmpjighmaaDoorOpenB
namespace Go.Proofs.YtapimpmpjighmaaDoor
open Go.RowKit
set_option maxRecDepth 100000

def zeroP : PlanD := ⟨[], [], []⟩
def planS (s : ByteArray) : Option (PlanD × ByteArray) := (listS postS s).bind fun x => (listS queueS x.2).bind fun y => (listS bindS y.2).bind fun z => some (⟨x.1, y.1, z.1⟩, z.2)
/-- What Read answers: the error, the plan. -/
def readE (s : ByteArray) : Int := if 4096 < s.size then 2 else match planS s with | some (p, r) => if r.size = 0 ∧ checkP p = 0 then 0 else 1 | none => 1
def readP (s : ByteArray) : PlanD := if 4096 < s.size then zeroP else match planS s with | some (p, r) => if r.size = 0 ∧ checkP p = 0 then p else zeroP | none => zeroP

/-- What Read promises. -/
def RdPost (s : ByteArray) (w : World) (e : Ending) (w' : World) : Prop :=
  ∃ a1 a2 a3 c1 c2 c3, e = .returned (.tuple #[planV (readP s) a1 a2 a3 c1 c2 c3, .int .i64 (readE s)]) ∧ PlanAt w' w.heap.size w'.heap.size a1 a2 a3 (readP s) ∧ PlanSmall (readP s) ∧ Below w.heap.size w w'

def rdDefer (B : Nat) : List Deferred := [{ target := .fn (.func 43) #[.pointer (some ⟨B, 0, none⟩), .pointer (some ⟨B + 1, 0, none⟩)], args := #[] }]

set_option maxHeartbeats 1000000 in
theorem rd_catch (B : Nat) (w : World) (v0 v1 v2 v3 : Value) (hp : Bk w B 26 #[v0, v1, v2]) (he : Bk w (B + 1) 27 #[v3]) :
    CallsD Tryd.prog 43 #[.pointer (some ⟨B, 0, none⟩), .pointer (some ⟨B + 1, 0, none⟩)] (.panicking [brokenE]) w fun en u' w' => en = .returned (.tuple #[]) ∧ u' = .panicking [{ brokenE with recovered := true }] ∧
      Bk w' B 26 #[.slice none 0 0, .slice none 0 0, .slice none 0 0] ∧ Bk w' (B + 1) 27 #[.int .i64 1] ∧ Below B w w' := by
  have k0 : w.cell? ⟨B, 0, none⟩ = some v0 := hp.cell 0
  have k1 : w.cell? ⟨B, 1, none⟩ = some v1 := hp.cell 1
  have k2 : w.cell? ⟨B, 2, none⟩ = some v2 := hp.cell 2
  have k3 : w.cell? ⟨B + 1, 0, none⟩ = some v3 := he.cell 0
  have f0 := hp.frozen 0; have f1 := hp.frozen 1; have f2 := hp.frozen 2; have f3 := he.frozen 0
  unfold brokenE
  refine callsD_of_wpS Tryd.func43 rfl fun c₀ cs hu => ?_
  apply wpS_seq
  apply wpS_region
  simp [wpOpsS, go_sem, recoverD, hu, Tryd.ntmps43, Exit.thenS]
  refine wpS_of_wp ?_
  change Code.wp _ _ _ (⟨#[.pointer (some ⟨B, 0, none⟩), .pointer (some ⟨B + 1, 0, none⟩), .iface 102 (.agg #[]), .bool true, undef], []⟩ : Act) _
  go_wp2_with fail
  refine ⟨rfl, _, rfl, _, results_none rfl _ _ _, rfl, rfl, ?_, ?_, ?_⟩
  · have := (((hp.set_ 0 (.slice none 0 0)).set_ 1 (.slice none 0 0)).set_ 2 (.slice none 0 0)).far (p := ⟨B + 1, 0, none⟩) (by show B ≠ B + 1; omega) (.int .i64 1)
    simpa using this
  · have := (((he.far (p := ⟨B, 0, none⟩) (by show B + 1 ≠ B; omega) (.slice none 0 0)).far (p := ⟨B, 1, none⟩) (by show B + 1 ≠ B; omega) (.slice none 0 0)).far (p := ⟨B, 2, none⟩) (by show B + 1 ≠ B; omega) (.slice none 0 0)).set_ 0 (.int .i64 1)
    simpa using this
  · exact ((((Below.refl B w).setCell (p := ⟨B, 0, none⟩) (Nat.le_refl _) _).setCell (p := ⟨B, 1, none⟩) (Nat.le_refl _) _).setCell (p := ⟨B, 2, none⟩) (Nat.le_refl _) _).setCell (p := ⟨B + 1, 0, none⟩) (by show B ≤ B + 1; omega) _

set_option maxHeartbeats 1000000 in
theorem rd_idle (B : Nat) (w : World) :
    CallsD Tryd.prog 43 #[.pointer (some ⟨B, 0, none⟩), .pointer (some ⟨B + 1, 0, none⟩)] .returning w fun en u' w' => en = .returned (.tuple #[]) ∧ u' = .returning ∧ w' = w := by
  refine callsD_of_wpS Tryd.func43 rfl fun c₀ cs hu => ?_
  apply wpS_seq
  apply wpS_region
  simp [wpOpsS, go_sem, recoverD, hu, Tryd.ntmps43, Exit.thenS]
  refine wpS_of_wp ?_
  change Code.wp _ _ _ (⟨#[.pointer (some ⟨B, 0, none⟩), .pointer (some ⟨B + 1, 0, none⟩), .nilIface, .bool false, undef], []⟩ : Act) _
  go_wp2_with fail
  refine ⟨rfl, .returning, ?_, _, results_none rfl _ _ _, rfl, rfl, rfl⟩
  cases c₀
  simp_all

/-- The body throws: the plan is none, the error is 1. -/
theorem rd_dies {s : ByteArray} {w W : World} {a : Act} {B : Nat} {v0 v1 v2 v3 : Value} (hd : a.defers = rdDefer B) (ht2 : a.tmps[2]? = some (.pointer (some ⟨B, 0, none⟩))) (ht3 : a.tmps[3]? = some (.pointer (some ⟨B + 1, 0, none⟩))) (hB : w.heap.size ≤ B)
    (hp : Bk W B 26 #[v0, v1, v2]) (he : Bk W (B + 1) 27 #[v3]) (hb : Below w.heap.size w W) (hn : readE s = 1 ∧ readP s = zeroP) :
    bodyPostD Tryd.prog Tryd.f14 (RdPost s w) (.panic [brokenE]) a W := by
  show Leaves Tryd.prog Tryd.f14 a.tmps (RdPost s w) a.defers (.panicking [brokenE]) W
  rw [hd]
  refine leaves_cons (f := 43) (args := #[.pointer (some ⟨B, 0, none⟩), .pointer (some ⟨B + 1, 0, none⟩)]) (by simp) (by simp [go_sem]) ?_
  refine (rd_catch B W v0 v1 v2 v3 hp he).mono ?_
  rintro e u' w'' ⟨rfl, rfl, hp2, he2, hb2⟩
  have k0 : w''.cell? ⟨B, 0, none⟩ = some (.slice none 0 0) := hp2.cell 0
  have k1 : w''.cell? ⟨B, 1, none⟩ = some (.slice none 0 0) := hp2.cell 1
  have k2 : w''.cell? ⟨B, 2, none⟩ = some (.slice none 0 0) := hp2.cell 2
  have k3 : w''.cell? ⟨B + 1, 0, none⟩ = some (.int .i64 1) := he2.cell 0
  show Leaves Tryd.prog Tryd.f14 a.tmps (RdPost s w) [] .returning _
  refine ⟨.tuple #[planV zeroP none none none 0 0 0, .int .i64 1], ?_, none, none, none, 0, 0, 0, by rw [hn.1, hn.2], by rw [hn.2]; exact ⟨Sl.nil _ _ _ _, Sl.nil _ _ _ _, Sl.nil _ _ _ _⟩, by rw [hn.2]; exact ⟨by decide, by decide, by decide, by simp [zeroP], by simp [zeroP], by simp [zeroP]⟩, hb.trans (hb2.mono hB)⟩
  simp [results, Tryd.results14, ht2, ht3, go_sem, k0, k1, k2, k3, planV, zeroP]
/-- The body returns: what lies in the results' variables. -/
theorem rd_ends {s : ByteArray} {w W : World} {a : Act} {B : Nat} {p : PlanD} {n : Int} {a1 a2 a3 : Option Addr} {c1 c2 c3 : Nat} (hd : a.defers = rdDefer B) (ht2 : a.tmps[2]? = some (.pointer (some ⟨B, 0, none⟩))) (ht3 : a.tmps[3]? = some (.pointer (some ⟨B + 1, 0, none⟩)))
    (hp : Bk W B 26 #[.slice a1 p.posts.length c1, .slice a2 p.queues.length c2, .slice a3 p.binds.length c3]) (he : Bk W (B + 1) 27 #[.int .i64 n]) (hb : Below w.heap.size w W) (hn : readE s = n ∧ readP s = p) (hat : PlanAt W w.heap.size W.heap.size a1 a2 a3 p) (hs : PlanSmall p) :
    bodyPostD Tryd.prog Tryd.f14 (RdPost s w) .ret a W := by
  show Leaves Tryd.prog Tryd.f14 a.tmps (RdPost s w) a.defers .returning W
  rw [hd]
  refine leaves_cons (f := 43) (args := #[.pointer (some ⟨B, 0, none⟩), .pointer (some ⟨B + 1, 0, none⟩)]) (by simp) (by simp [go_sem]) ?_
  refine (rd_idle B W).mono ?_
  rintro e u' w'' ⟨rfl, rfl, rfl⟩
  have k0 := hp.cell 0; have k1 := hp.cell 1; have k2 := hp.cell 2; have k3 := he.cell 0
  simp only [List.getElem?_toArray, List.getElem?_cons_zero, List.getElem?_cons_succ] at k0 k1 k2 k3
  show Leaves Tryd.prog Tryd.f14 a.tmps (RdPost s w) [] .returning _
  refine ⟨.tuple #[planV p a1 a2 a3 c1 c2 c3, .int .i64 n], ?_, a1, a2, a3, c1, c2, c3, by rw [hn.1, hn.2], by rw [hn.2]; exact hat, by rw [hn.2]; exact hs, hb⟩
  simp [results, Tryd.results14, ht2, ht3, go_sem, k0, k1, k2, k3, planV]

end Go.Proofs.YtapimpmpjighmaaDoor
