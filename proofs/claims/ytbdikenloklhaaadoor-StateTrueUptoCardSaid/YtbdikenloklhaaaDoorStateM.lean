/-
  The laws' states: the one that is begun, the busy one and three that are wrong. No program in sight.
  Walks of state.Begin and the reference's BeginOf.
  Walk of the law's busy state.
-/
import Derived.Test.YtbdikenloklhaaaDoorStateP
import Derived.Test.YtbdikenloklhaaaDoorStateQ
import Derived.Test.YtbdikenloklhaaaDoorLinesK
import Derived.Test.YtbdikenloklhaaaDoorOpenC
import Derived.Test.YtbdikenloklhaaaDoorStateS
namespace Go.Proofs.YtbdikenloklhaaaDoor
open Go.RowKit
set_option maxRecDepth 100000

/-- The state that is begun of a plan. -/
def begunS (p : PlanD) : StateD := ⟨List.replicate p.queues.length [], [], [], 0, 0, 0, 0, 0⟩
/-- Nothing at all. -/
def zeroS : StateD := ⟨[], [], [], 0, 0, 0, 0, 0⟩
def beginOf (p : PlanD) : StateD := if checkP p = 0 then begunS p else zeroS

def bThree : ByteArray := ⟨#[116, 104, 114, 101, 101]⟩
def busyS : StateD := ⟨[[letterP 2 bTwo, letterP 3 bThree], [], []], [⟨5, 1, 0, letterP 1 bOne⟩], [⟨-1, 1⟩, ⟨0, 2⟩], 4, 6, 4, 1, 0⟩
def busyX : StateD := { busyS with acked := 2 }
def busyY : StateD := { busyS with outs := [⟨5, 1, 0, letterP 2 bOne⟩] }
def busyZ : StateD := { busyS with takers := [⟨-1, 1⟩, ⟨1, 2⟩] }
theorem f3 : itemFine (letterP 3 bThree) = true := letter_fine (by decide) (by decide) (by decide)
theorem f21 : itemFine (letterP 2 bOne) = true := letter_fine (by decide) (by decide) (by decide)
theorem busy_line : lineFine [letterP 2 bTwo, letterP 3 bThree] = true := by
  simp [lineFine, lineFrom, f2, f3]
  simp [letterP]
theorem busy_formed : Formed officeP busyS where
  len := rfl
  nextSeq := by decide
  nextTag := by decide
  came := by decide
  acked := by decide
  dropped := by decide
  line := by
    intro l hl
    simp only [busyS, List.mem_cons, List.not_mem_nil, or_false] at hl
    rcases hl with rfl | rfl | rfl
    · exact busy_line
    · rfl
    · rfl
  taker := by
    intro t ht
    simp only [busyS, List.mem_cons, List.not_mem_nil, or_false] at ht
    rcases ht with rfl | rfl <;> decide
  out := by
    intro x hx
    simp only [busyS, List.mem_singleton] at hx
    subst hx
    simp [outB, busyS, f1]
  order := List.pairwise_singleton _ _
  nodup := by simp [seqsS, seqsR, seqsO, busyS, letterP]
  below := by simp [seqsS, seqsR, seqsO, busyS, letterP]
theorem busyX_formed : Formed officeP busyX := { busy_formed with acked := by decide }
theorem busy_ranged : (limitB officeP busyS && heldB busyS) = true := by decide
theorem busyX_ranged : (limitB officeP busyX && heldB busyX) = true := by decide
theorem busy_right : stateErr officeP busyS = 0 := stateErr_ok office_right (by decide) busy_formed busy_ranged (by decide)
theorem busyX_sum : stateErr officeP busyX = 10 := stateErr_sum office_right (by decide) busyX_formed busyX_ranged (by decide)
theorem busyY_form : stateErr officeP busyY = 1 := stateErr_form office_right (by decide) fun h => by
  have := h.nodup
  simp [seqsS, seqsR, seqsO, busyY, busyS, letterP] at this
theorem busyZ_form : stateErr officeP busyZ = 1 := stateErr_form office_right (by decide) fun h => by
  have := h.out ⟨5, 1, 0, letterP 1 bOne⟩ (by simp [busyZ, busyS])
  simp [outB, busyZ, busyS] at this
theorem begun_seqs (p : PlanD) : seqsS (begunS p) = [] := by
  unfold seqsS seqsR seqsO begunS
  simp only [List.map_nil, List.append_nil, List.flatMap_eq_nil_iff]
  intro r hr
  rw [List.eq_of_mem_replicate hr]
  rfl
theorem begun_formed (p : PlanD) : Formed p (begunS p) where
  len := by simp [begunS]
  nextSeq := by rfl
  nextTag := by rfl
  came := by rfl
  acked := by rfl
  dropped := by rfl
  line := by
    intro l hl
    rw [List.eq_of_mem_replicate hl]
    rfl
  taker := by simp [begunS]
  out := by simp [begunS]
  order := by simp [begunS]
  nodup := by rw [begun_seqs]; exact List.nodup_nil
  below := by rw [begun_seqs]; simp
theorem office_begun : stateErr officeP (begunS officeP) = 0 := stateErr_ok office_right (by decide) (begun_formed _) (by decide) (by decide)
theorem busy_small : StateSmall busyS := by
  refine ⟨by decide, by decide, by decide, ?_, ?_, by decide⟩
  · intro l hl
    simp only [busyS, List.mem_cons, List.not_mem_nil, or_false] at hl
    rcases hl with rfl | rfl | rfl
    · exact ⟨by decide, by simp [s2, letter_small (n := 3) (b := bThree) (by decide) (by decide) (by decide)]⟩
    · exact ⟨by decide, by simp⟩
    · exact ⟨by decide, by simp⟩
  · intro x hx
    simp only [busyS, List.mem_singleton] at hx
    subst hx
    exact s1
theorem busyX_small : StateSmall busyX := { busy_small with }
theorem busyZ_small : StateSmall busyZ := { busy_small with takers := by decide }
theorem busyY_small : StateSmall busyY := { busy_small with
  outs := by decide
  out := by
    intro x hx
    simp only [busyY, List.mem_singleton] at hx
    subst hx
    exact letter_small (by decide) (by decide) (by decide) }
theorem begun_small {p : PlanD} (h : PlanSmall p) : StateSmall (begunS p) := by
  refine ⟨by simp [begunS, h.queues], by simp [begunS], by simp [begunS], ?_, by simp [begunS], by simp [begunS]⟩
  intro l hl
  rw [List.eq_of_mem_replicate hl]
  exact ⟨by simp, by simp⟩

end Go.Proofs.YtbdikenloklhaaaDoor

namespace Go.Proofs.YtbdikenloklhaaaDoor
open Go.RowKit
set_option maxRecDepth 100000

theorem infoRow : (Tryd.prog.info? 43).map (fun i => (i.zero, i.size, i.bytes)) = some (some (.slice none 0 0), 1, 24) := by kernel_rfl
theorem make_rows (n : Nat) (hn : n ≤ 4294967296) (w : World) : (Instr.makeSlice 56 (.int .i64 n) (.int .i64 n)).run Tryd.prog w = .ok (.slice (some ⟨w.heap.size, 0, none⟩) n n) (w.alloc (.cells (List.replicate n (.slice none 0 0)).toArray 43)) :=
  run_make1 (P := Tryd.prog) Tryd.underlying56 infoRow rfl n n rfl (by omega) hn w

def zeroCells : Array Value := #[.slice none 0 0, .slice none 0 0, .slice none 0 0, .int .i64 0, .int .i64 0, .int .i64 0, .int .i64 0, .int .i64 0]
def begunRows (p : PlanD) : List RowD := List.replicate p.queues.length ⟨none, 0, []⟩
theorem begunRows_flat (p : PlanD) : (begunRows p).flatMap vRow = List.replicate p.queues.length (.slice none 0 0) := by
  unfold begunRows
  induction p.queues.length with
  | zero => rfl
  | succ n ih => rw [List.replicate_succ, List.flatMap_cons, ih, List.replicate_succ]; rfl
theorem begun_at {p : PlanD} {w : World} {lo hi : Nat} {a : Option Addr} (h : Sl w lo hi a (List.replicate p.queues.length (.slice none 0 0))) : StateAt w lo hi a none none (begunRows p) (begunS p) where
  same := by simp [begunRows, begunS]
  ready := by rw [begunRows_flat]; exact h
  row := by
    intro r hr
    rw [List.eq_of_mem_replicate hr]
    exact ⟨Sl.nil _ _ _ _, Nat.le_refl _⟩
  outs := Sl.nil _ _ _ _
  takers := Sl.nil _ _ _ _
theorem zero_at (w : World) (lo hi : Nat) : StateAt w lo hi none none none [] zeroS where
  same := rfl
  ready := Sl.nil _ _ _ _
  row := by intro r hr; cases hr
  outs := Sl.nil _ _ _ _
  takers := Sl.nil _ _ _ _

theorem zero_cells {w : World} {g : Nat} {t : TypeId} {v0 v1 v2 v3 v4 v5 v6 v7 : Value} (h : Bk w g t #[v0, v1, v2, v3, v4, v5, v6, v7]) :
    w.cell? ⟨g, 0, none⟩ = some v0 ∧ w.cell? ⟨g, 1, none⟩ = some v1 ∧ w.cell? ⟨g, 2, none⟩ = some v2 ∧ w.cell? ⟨g, 3, none⟩ = some v3 ∧ w.cell? ⟨g, 4, none⟩ = some v4 ∧ w.cell? ⟨g, 5, none⟩ = some v5 ∧ w.cell? ⟨g, 6, none⟩ = some v6 ∧ w.cell? ⟨g, 7, none⟩ = some v7 ∧
      w.frozen? ⟨g, 0, none⟩ = false ∧ w.frozen? ⟨g, 1, none⟩ = false ∧ w.frozen? ⟨g, 2, none⟩ = false ∧ w.frozen? ⟨g, 3, none⟩ = false ∧ w.frozen? ⟨g, 4, none⟩ = false ∧ w.frozen? ⟨g, 5, none⟩ = false ∧ w.frozen? ⟨g, 6, none⟩ = false ∧ w.frozen? ⟨g, 7, none⟩ = false ∧ g < w.heap.size :=
  ⟨h.cell 0, h.cell 1, h.cell 2, h.cell 3, h.cell 4, h.cell 5, h.cell 6, h.cell 7, h.frozen 0, h.frozen 1, h.frozen 2, h.frozen 3, h.frozen 4, h.frozen 5, h.frozen 6, h.frozen 7, h.lt⟩

theorem below_set8 {w W : World} {B g : Nat} (h : Below B w W) (hg : B ≤ g) (v0 v1 v2 v3 v4 v5 v6 v7 : Value) : Below B w ((((((((W.setCell ⟨g, 0, none⟩ v0).setCell ⟨g, 1, none⟩ v1).setCell ⟨g, 2, none⟩ v2).setCell ⟨g, 3, none⟩ v3).setCell ⟨g, 4, none⟩ v4).setCell ⟨g, 5, none⟩ v5).setCell ⟨g, 6, none⟩ v6).setCell ⟨g, 7, none⟩ v7) :=
  (((((((h.setCell hg _).setCell hg _).setCell hg _).setCell hg _).setCell hg _).setCell hg _).setCell hg _).setCell hg _
theorem far_set8 {W : World} {g k : Nat} {t : TypeId} {cs : Array Value} (h : Bk W k t cs) (hg : k ≠ g) (v0 v1 v2 v3 v4 v5 v6 v7 : Value) : Bk ((((((((W.setCell ⟨g, 0, none⟩ v0).setCell ⟨g, 1, none⟩ v1).setCell ⟨g, 2, none⟩ v2).setCell ⟨g, 3, none⟩ v3).setCell ⟨g, 4, none⟩ v4).setCell ⟨g, 5, none⟩ v5).setCell ⟨g, 6, none⟩ v6).setCell ⟨g, 7, none⟩ v7) k t cs :=
  (((((((h.far hg _).far hg _).far hg _).far hg _).far hg _).far hg _).far hg _).far hg _

set_option maxHeartbeats 1000000 in
theorem Begin_any (p : PlanD) (p1 p2 p3 : Option Addr) (q1 q2 q3 : Nat) (w : World) (hE : Env w) (hp : PlanAt w 0 w.heap.size p1 p2 p3 p) (hps : PlanSmall p) :
    Calls Tryd.prog 34 #[planV p p1 p2 p3 q1 q2 q3] w fun e w' => ∃ a c rows, e = .returned (.tuple #[stateV (beginOf p) a none none c 0 0, .int .i64 (checkP p)]) ∧ StateAt w' w.heap.size w'.heap.size a none none rows (beginOf p) ∧ Below w.heap.size w w' := by
  have hql := hps.queues
  have HS := Lib.hid hps; clear hps
  have hbx : ∀ W, Below ((w.alloc (.cells #[.slice p1 p.posts.length q1, .slice p2 p.queues.length q2, .slice p3 p.binds.length q3] 26)).alloc (.cells zeroCells 60)).heap.size ((w.alloc (.cells #[.slice p1 p.posts.length q1, .slice p2 p.queues.length q2, .slice p3 p.binds.length q3] 26)).alloc (.cells zeroCells 60)) W →
      PlanAt W 0 W.heap.size p1 p2 p3 p ∧ (W.cell? ⟨w.heap.size, 0, none⟩ = some (.slice p1 p.posts.length q1) ∧ W.cell? ⟨w.heap.size, 1, none⟩ = some (.slice p2 p.queues.length q2) ∧ W.cell? ⟨w.heap.size, 2, none⟩ = some (.slice p3 p.binds.length q3)) ∧ Bk W (w.heap.size + 1) 60 zeroCells ∧ Below w.heap.size w W := fun W hW => by
    have h := boxed_new hp q1 q2 q3 26 W (((Below.refl _ _).alloc (Nat.le_refl _) _).trans (hW.mono (by simp)))
    exact ⟨h.1.wider (Nat.le_refl _) (by have := hW.size; simp at this ⊢; omega), h.2.1, (Bk.new_at _ _ _ (by simp)).below hW (by simp), h.2.2⟩
  unfold zeroCells at hbx
  unfold planV
  have HV := Lib.hid hE; clear hE hp
  go_enter Tryd.func34, Tryd.ntmps34
  obtain ⟨_, ⟨m20, m21, m22⟩, _, _⟩ := hbx _ (Below.refl _ _)
  have HBX := Lib.hid hbx; clear hbx
  go_wp2_with fail
  generalize ((w.alloc (.cells #[.slice p1 p.posts.length q1, .slice p2 p.queues.length q2, .slice p3 p.binds.length q3] 26)).alloc (.cells #[.slice none 0 0, .slice none 0 0, .slice none 0 0, .int .i64 0, .int .i64 0, .int .i64 0, .int .i64 0, .int .i64 0] 60)) = W0 at *
  refine (Check_any p p1 p2 p3 q1 q2 q3 0 W0 (below_env (HBX.out W0 (Below.refl _ _)).2.2.2 HV.out) ((HBX.out W0 (Below.refl _ _)).1) HS.out).mono ?_
  rintro e W1 ⟨rfl, hB1⟩
  have HB1 := Lib.hid hB1; clear hB1 m20 m21 m22
  obtain ⟨_, ⟨m20, m21, m22⟩, hbk, hbelow⟩ := HBX.out _ HB1.out
  by_cases hc : checkP p = 0
  · have b1 : (checkP p != 0) = false := by simp [hc]
    have HC : Hid (checkP p = 0) := hc
    have HR : Hid (beginOf p = begunS p) := (by simp [beginOf, hc] : beginOf p = begunS p)
    have hmk := make_rows p.queues.length (by omega)
    clear hc
    obtain ⟨k0, k1, k2, k3, k4, k5, k6, k7, f0, f1, f2, f3, f4, f5, f6, f7, hlt⟩ := zero_cells hbk
    go_wp2_with fail
    refine bodyPost_ret (v := .tuple #[stateV (begunS p) (some ⟨W1.heap.size, 0, none⟩) none none p.queues.length 0 0, .int .i64 0]) (by simp [results, Tryd.results34, go_sem, stateV, vState, begunS, k0, k1, k2, k3, k4, k5, k6, k7, hlt]) rfl
      ⟨some ⟨W1.heap.size, 0, none⟩, p.queues.length, begunRows p, by rw [HR.out, HC.out], ?_, ?_⟩
    · rw [HR.out]
      refine begun_at (Sl.of_bk (cs := (List.replicate p.queues.length (Value.slice none 0 0)).toArray) (t := 43) ?_ hbelow.size (by simp [World.setCell]) (by simp))
      rw [List.toArray_replicate]
      exact Bk.new_at _ _ _ (by simp [World.setCell])
    · exact (below_set8 hbelow (by omega) _ _ _ _ _ _ _ _).alloc (by simpa [World.setCell] using hbelow.size) _
  · have b1 : (checkP p != 0) = true := by simp [hc]
    have HR : Hid (beginOf p = zeroS) := (by simp [beginOf, hc] : beginOf p = zeroS)
    obtain ⟨k0, k1, k2, k3, k4, k5, k6, k7, f0, f1, f2, f3, f4, f5, f6, f7, hlt⟩ := zero_cells hbk
    clear hc
    go_wp2_with fail
    refine bodyPost_ret (v := .tuple #[stateV zeroS none none none 0 0 0, .int .i64 (checkP p)]) (by simp [results, Tryd.results34, go_sem, stateV, vState, zeroS, k0, k1, k2, k3, k4, k5, k6, k7, hlt]) rfl
      ⟨none, 0, [], by rw [HR.out], by rw [HR.out]; exact zero_at _ _ _, below_set8 hbelow (by omega) _ _ _ _ _ _ _ _⟩

set_option maxHeartbeats 1000000 in
theorem BeginOf_any (p : PlanD) (p1 p2 p3 : Option Addr) (q1 q2 q3 : Nat) (w : World) (hp : PlanAt w 0 w.heap.size p1 p2 p3 p) (hps : PlanSmall p) :
    Calls Tryd.prog 35 #[planV p p1 p2 p3 q1 q2 q3] w fun e w' => ∃ a c rows, e = .returned (stateV (begunS p) a none none c 0 0) ∧ StateAt w' w.heap.size w'.heap.size a none none rows (begunS p) ∧ Below w.heap.size w w' := by
  have hql := hps.queues
  have hbx := boxed_new hp q1 q2 q3 26
  have hmk := make_rows p.queues.length (by omega)
  unfold planV
  clear hp hps
  go_enter Tryd.func35, Tryd.ntmps35
  obtain ⟨m20, m21, m22⟩ := (hbx _ (Below.refl _ _)).2.1
  have HBX := Lib.hid hbx; clear hbx
  go_wp2_with fail
  have hb2 := (HBX.out _ (Below.refl _ _)).2.2
  refine bodyPost_ret (v := stateV (begunS p) (some ⟨w.heap.size + 1 + 1, 0, none⟩) none none p.queues.length 0 0) (by simp [results, Tryd.results35, go_sem, stateV, vState, begunS]) rfl
    ⟨some ⟨w.heap.size + 1 + 1, 0, none⟩, p.queues.length, begunRows p, rfl, ?_, ?_⟩
  · refine begun_at (Sl.of_bk (cs := (List.replicate p.queues.length (Value.slice none 0 0)).toArray) (t := 43) ?_ (by omega) (by simp) (by simp))
    have := Bk.new_at ((w.alloc (.cells #[.slice p1 p.posts.length q1, .slice p2 p.queues.length q2, .slice p3 p.binds.length q3] 26)).alloc (.cells #[.slice (some ⟨w.heap.size + 1 + 1, 0, none⟩) p.queues.length p.queues.length, .slice none 0 0, .slice none 0 0, .int .i64 0, .int .i64 0, .int .i64 0, .int .i64 0, .int .i64 0] 60)) 43 (List.replicate p.queues.length (Value.slice none 0 0)).toArray (g := w.heap.size + 1 + 1) (by simp)
    simpa using this
  · exact (hb2.alloc hb2.size _).alloc (by simp; omega) _

end Go.Proofs.YtbdikenloklhaaaDoor

namespace Go.Proofs.YtbdikenloklhaaaDoor
open Go.RowKit
set_option maxRecDepth 100000

def busyItems : Array Value := #[.int .i64 2, .string ⟨#[120, 46, 121]⟩, .string bTwo, .bool false, .int .i64 0, .int .i64 3, .string ⟨#[120, 46, 121]⟩, .string bThree, .bool false, .int .i64 0]
def busyRows (g0 : Nat) : Array Value := #[.slice (some ⟨g0, 0, none⟩) 2 2, .slice none 0 0, .slice none 0 0]
def busyOuts : Array Value := #[.int .i64 5, .int .i64 1, .int .i64 0, .int .i64 1, .string ⟨#[120, 46, 121]⟩, .string bOne, .bool false, .int .i64 0]
def busyTakers : Array Value := #[.int .i64 (-1), .int .i64 1, .int .i64 0, .int .i64 2]
def busyRowD (g0 : Nat) : List RowD := [⟨some ⟨g0, 0, none⟩, 2, [letterP 2 bTwo, letterP 3 bThree]⟩, ⟨none, 0, []⟩, ⟨none, 0, []⟩]

/-- The busy state in four new blocks. -/
structure BusyAt (w : World) (lo g0 g1 g2 g3 : Nat) : Prop where
  items : Bk w g0 45 busyItems
  rows : Bk w g1 43 (busyRows g0)
  outs : Bk w g2 132 busyOuts
  takers : Bk w g3 72 busyTakers
  low : lo ≤ g0 ∧ lo ≤ g1 ∧ lo ≤ g2 ∧ lo ≤ g3
  apart : g0 ≠ g1 ∧ g0 ≠ g2 ∧ g0 ≠ g3 ∧ g1 ≠ g2 ∧ g1 ≠ g3 ∧ g2 ≠ g3
theorem BusyAt.below {w w' : World} {lo g0 g1 g2 g3 : Nat} (h : BusyAt w lo g0 g1 g2 g3) (hb : Below w.heap.size w w') : BusyAt w' lo g0 g1 g2 g3 :=
  ⟨h.items.below hb h.items.lt, h.rows.below hb h.rows.lt, h.outs.below hb h.outs.lt, h.takers.below hb h.takers.lt, h.low, h.apart⟩
/-- A state whose rows are the busy one's. -/
theorem rows_at {w : World} {g0 g1 g2 g3 : Nat} {o t : Array Value} {s : StateD} (hi : Bk w g0 45 busyItems) (hr : Bk w g1 43 (busyRows g0)) (ho : Bk w g2 132 o) (ht : Bk w g3 72 t)
    (h1 : s.ready = busyS.ready) (h2 : s.outs.flatMap vOut = o.toList) (h3 : s.takers.flatMap vTaker = t.toList) : StateAt w 0 w.heap.size (some ⟨g1, 0, none⟩) (some ⟨g2, 0, none⟩) (some ⟨g3, 0, none⟩) (busyRowD g0) s where
  same := by rw [h1]; rfl
  ready := Sl.of_bk hr (Nat.zero_le _) hr.lt rfl
  row := by
    intro r h
    simp only [busyRowD, List.mem_cons, List.not_mem_nil, or_false] at h
    rcases h with rfl | rfl | rfl
    · exact ⟨Sl.of_bk hi (Nat.zero_le _) hi.lt rfl, Nat.le_refl _⟩
    · exact ⟨Sl.nil _ _ _ _, Nat.le_refl _⟩
    · exact ⟨Sl.nil _ _ _ _, Nat.le_refl _⟩
  outs := Sl.of_bk ho (Nat.zero_le _) ho.lt h2
  takers := Sl.of_bk ht (Nat.zero_le _) ht.lt h3
theorem BusyAt.state {w : World} {lo g0 g1 g2 g3 : Nat} (h : BusyAt w lo g0 g1 g2 g3) : StateAt w 0 w.heap.size (some ⟨g1, 0, none⟩) (some ⟨g2, 0, none⟩) (some ⟨g3, 0, none⟩) (busyRowD g0) busyS :=
  rows_at h.items h.rows h.outs h.takers rfl rfl rfl
def busyV (g1 g2 g3 : Nat) : Value := .agg #[.slice (some ⟨g1, 0, none⟩) 3 3, .slice (some ⟨g2, 0, none⟩) 1 1, .slice (some ⟨g3, 0, none⟩) 2 2, .int .i64 4, .int .i64 6, .int .i64 4, .int .i64 1, .int .i64 0]

set_option maxHeartbeats 1000000 in
theorem busy_any (w : World) : Calls Tryd.prog 89 #[] w fun e w' => ∃ g0 g1 g2 g3, e = .returned (busyV g1 g2 g3) ∧ BusyAt w' w.heap.size g0 g1 g2 g3 ∧ Below w.heap.size w w' := by
  go_enter Tryd.func89, Tryd.ntmps89
  go_wp2_with fail
  have hbR : ∀ W, Below (w.alloc (.cells zeroCells 60)).heap.size (w.alloc (.cells zeroCells 60)) W → Bk W w.heap.size 60 zeroCells ∧ Below w.heap.size w W ∧ w.heap.size < W.heap.size := fun W hW =>
    ⟨(Bk.new _ _ _).below hW (by simp), ((Below.refl _ _).alloc (Nat.le_refl _) _).trans (hW.mono (by simp)), by have := hW.size; simp at this; omega⟩
  unfold zeroCells at hbR
  generalize w.alloc (.cells #[.slice none 0 0, .slice none 0 0, .slice none 0 0, .int .i64 0, .int .i64 0, .int .i64 0, .int .i64 0, .int .i64 0] 60) = W0 at *
  have HBR := Lib.hid hbR; clear hbR
  refine (letter_lit 2 _ W0).mono ?_
  rintro e w1 ⟨rfl, hb1⟩
  have HB1 := Lib.hid hb1; clear hb1
  go_wp2_with fail
  refine (letter_lit 3 _ w1).mono ?_
  rintro e w2 ⟨rfl, hb2⟩
  have HB2 := Lib.hid (HB1.out.trans (hb2.mono HB1.out.size)); clear hb2 HB1
  go_wp2_with fail
  obtain ⟨W3, hW3⟩ : ∃ W3, (w2.alloc (.cells #[.int .i64 2, .string ⟨#[120, 46, 121]⟩, .string ⟨#[116, 119, 111]⟩, .bool false, .int .i64 0, .int .i64 3, .string ⟨#[120, 46, 121]⟩, .string ⟨#[116, 104, 114, 101, 101]⟩, .bool false, .int .i64 0] 45)).alloc (.cells #[.slice (some ⟨w2.heap.size, 0, none⟩) 2 2, .slice none 0 0, .slice none 0 0] 43) = W3 := ⟨_, rfl⟩
  have hz3 : W3.heap.size = w2.heap.size + 2 := by rw [← hW3]; simp
  have k0 : Bk W3 w2.heap.size 45 busyItems := by rw [← hW3]; exact (Bk.new _ _ _).alloc _
  have k1 : Bk W3 (w2.heap.size + 1) 43 (busyRows w2.heap.size) := by rw [← hW3]; exact Bk.new_at _ _ _ (by simp)
  have hb3 : Below W0.heap.size W0 W3 := by rw [← hW3]; exact (HB2.out.alloc HB2.out.size _).alloc (by have := HB2.out.size; simp; omega) _
  rw [hW3]
  have K0 := Lib.hid k0; have K1 := Lib.hid k1; have HB3 := Lib.hid hb3; have HZ3 := Lib.hid hz3
  have HZ2 := Lib.hid HB2.out.size
  clear k0 k1 hb3 hz3 hW3 HB2
  refine (letter_lit 1 _ W3).mono ?_
  rintro e w4 ⟨rfl, hb4⟩
  have K0' := Lib.hid (K0.out.below hb4 K0.out.lt); have K1' := Lib.hid (K1.out.below hb4 K1.out.lt)
  have HZ4 := Lib.hid hb4.size
  have HB4 := Lib.hid (HB3.out.trans (hb4.mono HB3.out.size)); clear hb4 HB3 K0 K1
  obtain ⟨hbk, hbelow, _⟩ := HBR.out _ HB4.out
  obtain ⟨c0, c1, c2, c3, c4, c5, c6, c7, f0, f1, f2, f3, f4, f5, f6, f7, hlt⟩ := zero_cells hbk
  go_wp2_with fail
  have hz2 := HZ2.out; have hz3 := HZ3.out; have hz4 := HZ4.out
  have hw0 := (HBR.out W0 (Below.refl _ _)).2.2
  refine bodyPost_ret (v := busyV (w2.heap.size + 1) w4.heap.size (w4.heap.size + 1)) (by simp [results, Tryd.results89, go_sem, busyV, c0, c1, c2, c3, c4, c5, c6, c7, hlt]) rfl
    ⟨w2.heap.size, w2.heap.size + 1, w4.heap.size, w4.heap.size + 1, rfl, ⟨?_, ?_, ?_, ?_, ⟨by omega, by omega, by omega, by omega⟩, by omega, by omega, by omega, by omega, by omega, by omega⟩, ?_⟩
  · exact ((far_set8 K0'.out (by omega) _ _ _ _ _ _ _ _).alloc _).alloc _
  · exact ((far_set8 K1'.out (by omega) _ _ _ _ _ _ _ _).alloc _).alloc _
  · exact (Bk.new_at _ _ _ (by simp [World.setCell])).alloc _
  · exact Bk.new_at _ _ _ (by simp [World.setCell])
  · exact ((below_set8 hbelow (Nat.le_refl _) _ _ _ _ _ _ _ _).alloc (by simpa [World.setCell] using hbelow.size) _).alloc (by have := hbelow.size; simp [World.setCell]; omega) _

end Go.Proofs.YtbdikenloklhaaaDoor
