/-
  Walk of state.Held.
  What the law's begin of states needs: Begin, Held and Check at the office.
-/
import Derived.Test.YtbdikenloklhaaaDoorStateD
import Derived.Test.YtbdikenloklhaaaDoorStateM
namespace Go.Proofs.YtbdikenloklhaaaDoor
open Go.RowKit
set_option maxRecDepth 100000

def heldErr (p : PlanD) (s : StateD) (t : Int) : Int := if stateErr p s ≠ 0 then stateErr p s else if t < 0 ∨ (s.takers.length : Int) ≤ t then 5 else 0
def heldOut (p : PlanD) (s : StateD) (t : Int) : Nat := if heldErr p s t = 0 then heldS s t else 0
theorem held_wrong {p : PlanD} {s : StateD} {t : Int} (h : stateErr p s ≠ 0) : heldErr p s t = stateErr p s ∧ heldOut p s t = 0 := by
  have : heldErr p s t = stateErr p s := by simp [heldErr, h]
  exact ⟨this, by simp [heldOut, this, h]⟩
theorem held_none {p : PlanD} {s : StateD} {t : Int} (h : stateErr p s = 0) (ht : t < 0 ∨ (s.takers.length : Int) ≤ t) : heldErr p s t = 5 ∧ heldOut p s t = 0 := by
  have : heldErr p s t = 5 := by simp [heldErr, h, ht]
  exact ⟨this, by simp [heldOut, this]⟩
theorem held_right {p : PlanD} {s : StateD} {t : Int} (h : stateErr p s = 0) (h0 : 0 ≤ t) (h1 : t < (s.takers.length : Int)) : heldErr p s t = 0 ∧ heldOut p s t = heldS s t := by
  have : heldErr p s t = 0 := by
    unfold heldErr
    rw [if_neg (by simp [h]), if_neg (by omega)]
  exact ⟨this, by simp [heldOut, this]⟩

set_option maxHeartbeats 2000000 in
theorem Held_any (p : PlanD) (s : StateD) (t : Int) (p1 p2 p3 a1 a2 a3 : Option Addr) (q1 q2 q3 c1 c2 c3 : Nat) (rows : List RowD) (w : World) (hE : Env w) (hp : PlanAt w 0 w.heap.size p1 p2 p3 p) (hps : PlanSmall p) (hs : StateAt w 0 w.heap.size a1 a2 a3 rows s) (hss : StateSmall s) (hsi : StateInts s) :
    Calls Tryd.prog 40 #[planV p p1 p2 p3 q1 q2 q3, stateV s a1 a2 a3 c1 c2 c3, .int .i64 t] w fun e w' => e = .returned (.tuple #[.int .i64 (heldOut p s t), .int .i64 (heldErr p s t)]) ∧ Below w.heap.size w w' := by
  have hbx := two_boxes q1 q2 q3 c1 c2 c3 hE hp hs 26 60
  unfold vState at hbx
  unfold stateV planV vState
  have HBX := Lib.hid hbx
  have HPS := Lib.hid hps
  have HSS := Lib.hid hss
  have HSI := Lib.hid hsi
  clear hbx hE hp hs hps hss hsi
  go_enter Tryd.func40, Tryd.ntmps40
  obtain ⟨⟨m0, m1, m2⟩, ⟨n0, n1, n2, n3, n4, n5, n6, n7⟩, _, _, _, _⟩ := HBX.out _ (Below.refl _ _)
  go_wp2_with fail
  clear m0 m1 m2 n0 n1 n2 n3 n4 n5 n6 n7
  generalize ((w.alloc (.cells #[.slice p1 p.posts.length q1, .slice p2 p.queues.length q2, .slice p3 p.binds.length q3] 26)).alloc (.cells #[Value.slice a1 s.ready.length c1, Value.slice a2 s.outs.length c2, Value.slice a3 s.takers.length c3, Value.int IntKind.i64 s.nextSeq, Value.int IntKind.i64 s.nextTag, Value.int IntKind.i64 s.came, Value.int IntKind.i64 s.acked, Value.int IntKind.i64 s.dropped] 60)) = W0 at *
  refine (SCheck_any p s p1 p2 p3 a1 a2 a3 q1 q2 q3 c1 c2 c3 rows W0 (HBX.out _ (Below.refl _ _)).env (HBX.out _ (Below.refl _ _)).planAt HPS.out (HBX.out _ (Below.refl _ _)).stateAt HSS.out HSI.out).mono ?_
  rintro e W1 ⟨rfl, hb1⟩
  have HB1 := Lib.hid hb1
  obtain ⟨_, ⟨n0, n1, n2, n3, n4, n5, n6, n7⟩, _, _, _, _⟩ := HBX.out _ hb1
  clear hb1
  by_cases hc : stateErr p s = 0
  · have b1 : (stateErr p s != 0) = false := by simp [hc]
    by_cases hn0 : t < 0
    · have HR := Lib.hid (held_none hc (.inl hn0))
      clear hc
      go_wp2_with fail
      go_ret2
      exact ⟨by rw [HR.out.1, HR.out.2]; rfl, (HBX.out _ HB1.out).below⟩
    · by_cases hn1 : (s.takers.length : Int) ≤ t
      · have HR := Lib.hid (held_none hc (.inr hn1))
        clear hc
        go_wp2_with fail
        go_ret2
        exact ⟨by rw [HR.out.1, HR.out.2]; rfl, (HBX.out _ HB1.out).below⟩
      · have HR := Lib.hid (held_right hc (t := t) (by omega) (by omega))
        clear hc
        go_wp2_with fail
        refine (Of_any s a1 a2 a3 c1 c2 c3 t 0 W1 (HBX.out _ HB1.out).stateAt.outs HSS.out.outs).mono ?_
        rintro e W2 ⟨rfl, hb2⟩
        have HB2 := Lib.hid (HB1.out.trans (hb2.mono HB1.out.size))
        clear hb2
        go_wp2_with fail
        go_ret2
        exact ⟨by rw [HR.out.1, HR.out.2]; rfl, (HBX.out _ HB2.out).below⟩
  · have b1 : (stateErr p s != 0) = true := by simp [hc]
    have HR := Lib.hid (held_wrong (t := t) hc)
    clear hc
    go_wp2_with fail
    go_ret2
    exact ⟨by rw [HR.out.1, HR.out.2]; rfl, (HBX.out _ HB1.out).below⟩

end Go.Proofs.YtbdikenloklhaaaDoor

namespace Go.Proofs.YtbdikenloklhaaaDoor
open Go.RowKit
set_option maxRecDepth 100000

instance (n : Int) : Decidable (i64 n) := inferInstanceAs (Decidable (_ ∧ _))
theorem busy_ints : StateInts busyS := by
  refine ⟨by decide, by decide, by decide, by decide, by decide, ?_, ?_⟩
  · intro x hx
    simp only [busyS, List.mem_cons, List.not_mem_nil, or_false] at hx
    rcases hx with rfl | rfl <;> decide
  · intro x hx
    simp only [busyS, List.mem_singleton] at hx
    subst hx
    exact ⟨by decide, by decide, by decide⟩
theorem busyX_ints : StateInts busyX := { busy_ints with acked := by decide }
theorem busyY_ints : StateInts busyY := { busy_ints with
  out := by
    intro x hx
    simp only [busyY, List.mem_singleton] at hx
    subst hx
    exact ⟨by decide, by decide, by decide⟩ }
theorem busyZ_ints : StateInts busyZ := { busy_ints with
  taker := by
    intro x hx
    simp only [busyZ, List.mem_cons, List.not_mem_nil, or_false] at hx
    rcases hx with rfl | rfl <;> decide }
theorem i64_zero : i64 0 := by decide
theorem begun_ints (p : PlanD) : StateInts (begunS p) := by
  refine ⟨i64_zero, i64_zero, i64_zero, i64_zero, i64_zero, ?_, ?_⟩
  · intro x hx; cases hx
  · intro x hx; cases hx

/-- The office in three blocks that are there. -/
structure OfficeIn (w : World) (b1 b2 b3 : Nat) : Prop where
  at_ : OfficeAt w b1 b2 b3
  lt : b1 < w.heap.size ∧ b2 < w.heap.size ∧ b3 < w.heap.size
theorem OfficeIn.plan {w : World} {b1 b2 b3 : Nat} (h : OfficeIn w b1 b2 b3) : PlanAt w 0 w.heap.size (some ⟨b1, 0, none⟩) (some ⟨b2, 0, none⟩) (some ⟨b3, 0, none⟩) officeP :=
  h.at_.plan ⟨Nat.zero_le _, h.lt.1⟩ ⟨Nat.zero_le _, h.lt.2.1⟩ ⟨Nat.zero_le _, h.lt.2.2⟩
theorem OfficeIn.below {w w' : World} {b1 b2 b3 : Nat} (h : OfficeIn w b1 b2 b3) (hb : Below w.heap.size w w') : OfficeIn w' b1 b2 b3 :=
  ⟨h.at_.below hb h.lt.1 h.lt.2.1 h.lt.2.2, by have := hb.size; have := h.lt; omega⟩
theorem office_in (w : World) : Calls Tryd.prog 42 #[] w fun e w' => ∃ b1 b2 b3, e = .returned (officeV b1 b2 b3) ∧ OfficeIn w' b1 b2 b3 ∧ Below w.heap.size w w' := by
  refine (office_any w).mono ?_
  rintro e w' ⟨rfl, h, hz, hb⟩
  exact ⟨_, _, _, rfl, ⟨h, by omega, by omega, by omega⟩, hb⟩

def begunV (a : Option Addr) (c : Nat) : Array Value := #[.slice a 3 c, .slice none 0 0, .slice none 0 0, .int .i64 0, .int .i64 0, .int .i64 0, .int .i64 0, .int .i64 0]
theorem begin_office (b1 b2 b3 : Nat) (w : World) (hE : Env w) (h : OfficeIn w b1 b2 b3) : Calls Tryd.prog 34 #[officeV b1 b2 b3] w fun e w' => ∃ a c rows, e = .returned (.tuple #[.agg (begunV a c), .int .i64 0]) ∧ StateAt w' 0 w'.heap.size a none none rows (begunS officeP) ∧ Below w.heap.size w w' := by
  refine (Begin_any officeP _ _ _ 3 3 5 w hE h.plan office_small).mono ?_
  rintro e w' ⟨a, c, rows, rfl, hs, hb⟩
  have hq : beginOf officeP = begunS officeP := by simp [beginOf, office_right]
  rw [hq] at hs
  refine ⟨a, c, rows, by rw [hq, office_right]; rfl, hs.wider (Nat.zero_le _) (Nat.le_refl _), hb⟩

theorem check_office (s : StateD) (n : Int) (hn : stateErr officeP s = n) (hss : StateSmall s) (hsi : StateInts s) (b1 b2 b3 : Nat) (a1 a2 a3 : Option Addr) (c1 c2 c3 : Nat) (rows : List RowD) (w : World) (hE : Env w) (ho : OfficeIn w b1 b2 b3) (hs : StateAt w 0 w.heap.size a1 a2 a3 rows s) :
    Calls Tryd.prog 37 #[officeV b1 b2 b3, stateV s a1 a2 a3 c1 c2 c3] w fun e w' => e = .returned (.int .i64 n) ∧ Below w.heap.size w w' := by
  have := SCheck_any officeP s _ _ _ a1 a2 a3 3 3 5 c1 c2 c3 rows w hE ho.plan office_small hs hss hsi
  unfold CkPost at this
  rw [hn] at this
  exact this
theorem held_office (t k n : Int) (hk : (heldOut officeP busyS t : Int) = k ∧ heldErr officeP busyS t = n) (b1 b2 b3 lo g0 g1 g2 g3 : Nat) (w : World) (hE : Env w) (ho : OfficeIn w b1 b2 b3) (hs : BusyAt w lo g0 g1 g2 g3) :
    Calls Tryd.prog 40 #[officeV b1 b2 b3, busyV g1 g2 g3, .int .i64 t] w fun e w' => e = .returned (.tuple #[.int .i64 k, .int .i64 n]) ∧ Below w.heap.size w w' := by
  have := Held_any officeP busyS t _ _ _ _ _ _ 3 3 5 3 1 2 (busyRowD g0) w hE ho.plan office_small hs.state busy_small busy_ints
  rw [hk.1, hk.2] at this
  exact this
theorem held_one : (heldOut officeP busyS 1 : Int) = 1 ∧ heldErr officeP busyS 1 = 0 := by
  have := held_right (t := 1) busy_right (by decide) (by decide)
  exact ⟨by rw [this.2]; decide, this.1⟩
theorem held_two : (heldOut officeP busyS 2 : Int) = 0 ∧ heldErr officeP busyS 2 = 5 := by
  have := held_none (t := 2) busy_right (.inr (by decide))
  exact ⟨by rw [this.2]; rfl, this.1⟩

end Go.Proofs.YtbdikenloklhaaaDoor
