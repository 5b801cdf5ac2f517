/-
  The law StateTrue answers true.
-/
import Derived.Test.YtbdikenloklhaaaDoorStateO
import Derived.Test.YtbdikenloklhaaaDoorStateH
namespace Go.Proofs.YtbdikenloklhaaaDoor
open Go.RowKit
set_option maxRecDepth 100000

/-- How many outs are with a taker of a number below k. -/
def heldTo (l : List OutD) (k : Int) : Nat := l.countP fun x => decide (x.taker < k)
theorem heldTo_step (l : List OutD) (k : Int) : heldTo l (k + 1) = heldTo l k + l.countP fun x => decide (x.taker = k) := by
  unfold heldTo
  induction l with
  | nil => rfl
  | cons x r ih =>
    simp only [List.countP_cons, ih]
    by_cases h1 : x.taker < k
    · have h2 : x.taker < k + 1 := by omega
      have h3 : ¬ x.taker = k := by omega
      simp only [h1, h2, h3, decide_true, decide_false, if_true, Bool.false_eq_true, if_false]; omega
    · by_cases h3 : x.taker = k
      · have h2 : x.taker < k + 1 := by omega
        simp only [h1, h2, h3, decide_true, decide_false, if_true, Bool.false_eq_true, if_false]
        have h4 : k < k + 1 := by omega
        have h5 : ¬ k < k := by omega
        simp only [h4, h5, decide_true, decide_false, if_true, Bool.false_eq_true, if_false]; omega
      · have h2 : ¬ x.taker < k + 1 := by omega
        simp only [h1, h2, h3, decide_false, Bool.false_eq_true, if_false]; omega
theorem heldTo_le (l : List OutD) (k : Int) : heldTo l k ≤ l.length := List.countP_le_length
theorem right_out {p : PlanD} {s : StateD} (h : Right p s) {x : OutD} (hx : x ∈ s.outs) : 0 ≤ x.taker ∧ x.taker < (s.takers.length : Int) ∧ ∀ t, s.takers[x.taker.toNat]? = some t → 0 ≤ t.queue := by
  have := h.out x hx
  unfold outB at this
  simp only [Bool.and_eq_true, decide_eq_true_eq] at this
  refine ⟨this.1.1.1.2, this.1.1.2, fun t ht => ?_⟩
  have h2 := this.1.2
  rw [ht] at h2
  simp only [Bool.and_eq_true, decide_eq_true_eq] at h2
  exact h2.1
theorem heldTo_zero {p : PlanD} {s : StateD} (h : Right p s) : heldTo s.outs 0 = 0 := by
  unfold heldTo
  rw [List.countP_eq_zero]
  intro x hx
  have := (right_out h hx).1
  simp; omega
theorem heldTo_all {p : PlanD} {s : StateD} (h : Right p s) : heldTo s.outs s.takers.length = s.outs.length := by
  unfold heldTo
  rw [List.countP_eq_length]
  intro x hx
  have := (right_out h hx).2.1
  simp; omega
theorem gone_none {p : PlanD} {s : StateD} (h : Right p s) {k : Nat} (hk : k < s.takers.length) (hq : s.takers[k].queue = -1) : heldS s k = 0 := by
  unfold heldS
  rw [List.countP_eq_zero]
  intro x hx
  simp only [decide_eq_true_eq]
  intro e
  have := (right_out h hx).2.2 s.takers[k] (by rw [e]; exact List.getElem?_eq_getElem hk)
  omega

def STRel1 (s : StateD) (W0 : World) (n i : Value) (wr : World) : Prop :=
  ∃ j : Nat, j ≤ s.ready.length ∧ i = .int .i64 j ∧ n = .int .i64 (lyK s j : Nat) ∧ Below W0.heap.size W0 wr
def STRel2 (s : StateD) (W0 : World) (n i : Value) (wr : World) : Prop :=
  ∃ j : Nat, j ≤ s.takers.length ∧ i = .int .i64 j ∧ n = .int .i64 (heldTo s.outs j : Nat) ∧ Below W0.heap.size W0 wr

set_option maxHeartbeats 4000000 in
theorem stateTrue_go (p : PlanD) (s : StateD) (p1 p2 p3 a1 a2 a3 : Option Addr) (q1 q2 q3 c1 c2 c3 : Nat) (rows : List RowD) (w : World) (hE : Env w) (hp : PlanAt w 0 w.heap.size p1 p2 p3 p) (hps : PlanSmall p) (hs : StateAt w 0 w.heap.size a1 a2 a3 rows s) (hss : StateSmall s) (hsi : StateInts s) :
    Calls Tryd.prog 12 #[planV p p1 p2 p3 q1 q2 q3, stateV s a1 a2 a3 c1 c2 c3] w fun e w' => e = .returned (.bool true) ∧ Below w.heap.size w w' := by
  have hbx := two_boxes q1 q2 q3 c1 c2 c3 hE hp hs 26 60
  unfold vState at hbx
  unfold stateV planV vState
  have HBX := Lib.hid hbx
  have HPS := Lib.hid hps
  have HSS := Lib.hid hss
  have HSI := Lib.hid hsi
  clear hbx hE hp hs hps hss hsi
  go_enter Tryd.func12, Tryd.ntmps12
  obtain ⟨⟨m0, m1, m2⟩, ⟨n0, n1, n2, n3, n4, n5, n6, n7⟩, _, _, _, _⟩ := HBX.out _ (Below.refl _ _)
  go_wp2_with fail
  clear m0 m1 m2 n0 n1 n2 n3 n4 n5 n6 n7
  generalize ((w.alloc (.cells #[.slice p1 p.posts.length q1, .slice p2 p.queues.length q2, .slice p3 p.binds.length q3] 26)).alloc (.cells #[Value.slice a1 s.ready.length c1, Value.slice a2 s.outs.length c2, Value.slice a3 s.takers.length c3, Value.int IntKind.i64 s.nextSeq, Value.int IntKind.i64 s.nextTag, Value.int IntKind.i64 s.came, Value.int IntKind.i64 s.acked, Value.int IntKind.i64 s.dropped] 60)) = W0 at *
  refine (SCheck_any p s p1 p2 p3 a1 a2 a3 q1 q2 q3 c1 c2 c3 rows W0 (HBX.out _ (Below.refl _ _)).env (HBX.out _ (Below.refl _ _)).planAt HPS.out (HBX.out _ (Below.refl _ _)).stateAt HSS.out HSI.out).mono ?_
  rintro e W1 ⟨rfl, hb1⟩
  have HB1 := Lib.hid hb1
  clear hb1
  by_cases hc : stateErr p s = 0
  · have HR := Lib.hid (right_iff.1 hc)
    have HC := Lib.hid hc
    rw [hc]
    clear hc
    go_wp2_with fail
    go_loopw [5, 7] (fun n i wr => STRel1 s W0 n i wr) (fun _ i _ => s.ready.length - (intOf i).toNat)
    case atStart => exact ⟨0, by omega, rfl, rfl, HB1.out⟩
    case round =>
      clear HB1
      obtain ⟨j, hj, rfl, rfl, hB⟩ := hrel
      have HB := Lib.hid hB
      have hrd := HSS.out.ready
      have hly4 : lyingS s ≤ 1048576 := HSS.out.lying
      have hly2 := lyK_le s j
      obtain ⟨⟨m0, m1, m2⟩, ⟨n0, n1, n2, n3, n4, n5, n6, n7⟩, _, _, _, hsat⟩ := HBX.out _ hB
      by_cases hjl : j < s.ready.length
      · have hrl : rows.length = s.ready.length := by rw [← hsat.same, List.length_map]
        have hltr : j < rows.length := by omega
        obtain ⟨b, o, ha, _, hb, hc⟩ := sl_elem vRow_len (by decide) hsat.ready hltr
        have e0 : wr.cell? ⟨b, o + j, none⟩ = some (.slice rows[j].at_ rows[j].items.length rows[j].cap) := by have := hc 0 _ rfl; simpa using this
        have hit : s.ready[j] = rows[j].items := by simp [← hsat.same]
        have hly1 := lyK_step hjl
        have hly3 := lyK_le s (j + 1)
        rw [hit] at hly1
        clear hc hsat hB hit
        generalize rows[j] = r at *
        obtain ⟨ra, rc, ri⟩ := r
        dsimp only at e0 hly1
        have HLY := Lib.hid hly1
        have hlr : ri.length ≤ 1048576 := by omega
        clear hly1
        subst ha
        go_wp2_with fail
        exact ⟨⟨j + 1, hjl, by go_num, by rw [HLY.out]; go_num, HB.out⟩, by simp [intOf]; omega⟩
      · obtain rfl : j = s.ready.length := by omega
        clear hB hsat
        go_wp2_with fail
        clear m0 m1 m2 n0 n1 n2 n3 n4 n5 n6 n7
        go_loopw [6, 8, 9, 10] (fun n i _ _ wr => STRel2 s W0 n i wr) (fun _ i _ _ _ => s.takers.length - (intOf i).toNat)
        case atStart => exact ⟨0, by omega, rfl, by rw [show ((0 : Nat) : Int) = 0 from rfl, heldTo_zero HR.out]; rfl, HB.out⟩
        case round =>
          clear HB
          obtain ⟨j, hj, rfl, rfl, hB⟩ := hrel
          have HB := Lib.hid hB
          have htl := HSS.out.takers
          have hol := HSS.out.outs
          have hle1 := heldTo_le s.outs j
          obtain ⟨⟨m0, m1, m2⟩, ⟨n0, n1, n2, n3, n4, n5, n6, n7⟩, _, _, _, _⟩ := HBX.out _ hB
          by_cases hjl : j < s.takers.length
          · have hst : heldTo s.outs ((j + 1 : Nat) : Int) = heldTo s.outs j + heldS s j := by
              rw [show (((j + 1 : Nat)) : Int) = (j : Int) + 1 by omega, heldTo_step]; rfl
            have hle2 := heldTo_le s.outs ((j + 1 : Nat) : Int)
            have hhr := held_right (t := j) HC.out (by omega) (by omega)
            have hn1 := HR.out.held j _ (List.getElem?_eq_getElem hjl)
            have hn2 := gone_none HR.out hjl
            have HST := Lib.hid hst
            clear hB
            go_wp2_with fail
            refine (Held_any p s j p1 p2 p3 a1 a2 a3 q1 q2 q3 c1 c2 c3 rows wr (HBX.out _ HB.out).env (HBX.out _ HB.out).planAt HPS.out (HBX.out _ HB.out).stateAt HSS.out HSI.out).mono ?_
            rw [hhr.1, hhr.2]
            rintro e W2 ⟨rfl, hb2⟩
            have HB2 := Lib.hid (HB.out.trans (hb2.mono HB.out.size))
            clear hb2 hhr m0 m1 m2 n0 n1 n2 n3 n4 n5 n6 n7
            obtain ⟨_, ⟨n0, n1, n2, n3, n4, n5, n6, n7⟩, _, _, _, hsat⟩ := HBX.out _ HB2.out
            obtain ⟨b, o, ha, _, hb, hcc⟩ := sl_elem vTaker_len (by decide) hsat.takers hjl
            obtain ⟨e0, e1⟩ := taker_cells (wr := W2) (b := b) (o := o) (k := j) (x := s.takers[j]) fun q u hu => hcc q u hu
            clear hcc hsat
            generalize s.takers[j] = t at *
            generalize heldS s j = hn at *
            subst ha
            have hk1 : decide (t.atOnce < (hn : Int)) = false := by simp; omega
            by_cases hq : t.queue = -1
            · have h0 := hn2 hq
              subst h0
              have hqb : (t.queue == -1) = true := by simp [hq]
              clear hq hn2
              go_wp2_with fail
              exact ⟨⟨j + 1, hjl, by go_num, by rw [HST.out]; go_num, HB2.out⟩, by simp [intOf]; omega⟩
            · have hqb : (t.queue == -1) = false := by simp [hq]
              clear hq hn2
              go_wp2_with fail
              exact ⟨⟨j + 1, hjl, by go_num, by rw [HST.out]; go_num, HB2.out⟩, by simp [intOf]; omega⟩
          · obtain rfl : j = s.takers.length := by omega
            have hall := heldTo_all HR.out
            rw [hall] at *
            clear hB
            go_wp2_with fail
            clear m0 m1 m2 n0 n1 n2 n3 n4 n5 n6 n7
            refine (stateBegun_any _ (HBX.out _ HB.out).env).mono ?_
            rintro e W3 ⟨rfl, hb3⟩
            have HB3 := Lib.hid (HB.out.trans (hb3.mono HB.out.size))
            clear hb3
            obtain ⟨_, ⟨n0, n1, n2, n3, n4, n5, n6, n7⟩, _, _, _, _⟩ := HBX.out _ HB3.out
            have hak := HR.out.acked
            have hdk := HR.out.dropped
            unfold countB at hak hdk
            simp only [Bool.and_eq_true, decide_eq_true_eq] at hak hdk
            have hsum := HR.out.sum
            rw [← lyK_all s] at hsum hly4
            generalize lyK s s.ready.length = ly at *
            have HSUM := Lib.hid hsum
            clear hsum
            have hw1 : wrap64 ((ly : Int) + (s.outs.length : Int)) = (ly : Int) + (s.outs.length : Int) := w64 (by omega) (by omega)
            have hw2 : wrap64 ((ly : Int) + (s.outs.length : Int) + s.acked) = (ly : Int) + (s.outs.length : Int) + s.acked := w64 (by omega) (by omega)
            have hw3 : wrap64 ((ly : Int) + (s.outs.length : Int) + s.acked + s.dropped) = (ly : Int) + (s.outs.length : Int) + s.acked + s.dropped := w64 (by omega) (by omega)
            have hcm : (s.came == (ly : Int) + (s.outs.length : Int) + s.acked + s.dropped) = true := by rw [HSUM.out]; simp
            go_wp2_with fail
            go_ret
            exact ⟨rfl, (HBX.out _ HB3.out).below⟩
  · have b1 : (stateErr p s != 0) = true := by simp [hc]
    clear hc
    go_wp2_with fail
    refine (stateBegun_any _ (HBX.out _ HB1.out).env).mono ?_
    rintro e W3 ⟨rfl, hb3⟩
    have HB3 := Lib.hid (HB1.out.trans (hb3.mono HB1.out.size))
    clear hb3
    go_wp2_with fail
    go_ret
    exact ⟨rfl, (HBX.out _ HB3.out).below⟩

theorem stateTrue_any (p : PlanD) (p1 p2 p3 : Option Addr) (q1 q2 q3 : Nat) (s : StateD) (a1 a2 a3 : Option Addr) (c1 c2 c3 : Nat) (rows : List RowD) (w : World) (hp : PlanAt w 0 w.heap.size p1 p2 p3 p) (hps : PlanSmall p) (_ : PlanInts p) (hs : StateAt w 0 w.heap.size a1 a2 a3 rows s) (hss : StateSmall s) (hsi : StateInts s)
    (_ : s.ready.length ≤ c1 ∧ s.outs.length ≤ c2 ∧ s.takers.length ≤ c3) (hE : Env w) : Calls Tryd.prog 12 #[planV p p1 p2 p3 q1 q2 q3, stateV s a1 a2 a3 c1 c2 c3] w fun e w' => e = .returned (.bool true) ∧ Below w.heap.size w w' :=
  stateTrue_go p s p1 p2 p3 a1 a2 a3 q1 q2 q3 c1 c2 c3 rows w hE hp hps hs hss hsi

end Go.Proofs.YtbdikenloklhaaaDoor
