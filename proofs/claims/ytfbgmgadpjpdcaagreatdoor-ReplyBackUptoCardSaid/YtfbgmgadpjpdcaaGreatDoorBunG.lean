/-
  Walks of the reference: HeldOf; Held. Walk of the reference's CheckState.
  Two Outs, two takers, two states: are they the same? Walk of the reference's SameStates.
  Walk of state.Held. What the law's begin of states needs: Begin, Held and Check at the office.
-/
import Derived.Test.YtfbgmgadpjpdcaaGreatDoorBunA
import Derived.Test.YtfbgmgadpjpdcaaGreatDoorBunF
import Derived.Test.YtfbgmgadpjpdcaaGreatDoorStateE
import Derived.Test.YtfbgmgadpjpdcaaGreatDoorBunD
import Derived.Deep.RegionHeld3
import Derived.Deep.QuietTactic
import Derived.BigQuiet
import Derived.Deep.CutRange
import Derived.Test.YtfbgmgadpjpdcaaGreatDoorBunE
import Derived.IntWalk
import Derived.Test.YtfbgmgadpjpdcaaGreatDoorStateD
set_option linter.unusedSimpArgs false
set_option linter.unusedVariables false
namespace Go.Proofs.YtfbgmgadpjpdcaaGreatDoor
open Go.RowKit
set_option maxRecDepth 100000

end Go.Proofs.YtfbgmgadpjpdcaaGreatDoor

namespace Go.Proofs.YtfbgmgadpjpdcaaGreatDoor
open Go.RowKit
set_option maxRecDepth 100000

end Go.Proofs.YtfbgmgadpjpdcaaGreatDoor

namespace Go.Proofs.YtfbgmgadpjpdcaaGreatDoor
open Go.RowKit
set_option maxRecDepth 100000

end Go.Proofs.YtfbgmgadpjpdcaaGreatDoor

namespace Go.Proofs.YtfbgmgadpjpdcaaGreatDoor
open Go.RowKit
set_option maxRecDepth 100000

end Go.Proofs.YtfbgmgadpjpdcaaGreatDoor

namespace Go.Proofs.YtfbgmgadpjpdcaaGreatDoor
open Go.RowKit
set_option maxRecDepth 100000

def heldErr (p : PlanD) (s : StateD) (t : Int) : Int := if stateErr p s ≠ 0 then stateErr p s else if t < 0 ∨ (s.takers.length : Int) ≤ t then 5 else 0
def heldOut (p : PlanD) (s : StateD) (t : Int) : Nat := if heldErr p s t = 0 then heldS s t else 0
theorem held_wrong {p : PlanD} {s : StateD} {t : Int} (h : stateErr p s ≠ 0) : heldErr p s t = stateErr p s ∧ heldOut p s t = 0 := by
  have : heldErr p s t = stateErr p s := by simp [heldErr, h]
  exact ⟨this, by simp [heldOut, this, h]⟩
theorem held_none {p : PlanD} {s : StateD} {t : Int} (h : stateErr p s = 0) (ht : t < 0 ∨ (s.takers.length : Int) ≤ t) : heldErr p s t = 5 ∧ heldOut p s t = 0 := by
  have : heldErr p s t = 5 := by simp [heldErr, h, ht]
  exact ⟨this, by simp [heldOut, this]⟩
theorem held_right {p : PlanD} {s : StateD} {t : Int} (h : stateErr p s = 0) (h0 : 0 ≤ t) (h1 : t < (s.takers.length : Int)) : heldErr p s t = 0 ∧ heldOut p s t = heldS s t := by
  have : heldErr p s t = 0 := by
    unfold heldErr
    rw [if_neg (by simp [h]), if_neg (by omega)]
  exact ⟨this, by simp [heldOut, this]⟩

set_option maxHeartbeats 2000000 in
theorem Held_any (p : PlanD) (s : StateD) (t : Int) (p1 p2 p3 a1 a2 a3 : Option Addr) (q1 q2 q3 c1 c2 c3 : Nat) (rows : List RowD) (w : World) (hE : Env w) (hp : PlanAt w 0 w.heap.size p1 p2 p3 p) (hps : PlanSmall p) (hs : StateAt w 0 w.heap.size a1 a2 a3 rows s) (hss : StateSmall s) (hsi : StateInts s) :
    Calls Tryz.prog 32 #[planV p p1 p2 p3 q1 q2 q3, stateV s a1 a2 a3 c1 c2 c3, .int .i64 t] w fun e w' => e = .returned (.tuple #[.int .i64 (heldOut p s t), .int .i64 (heldErr p s t)]) ∧ Below w.heap.size w w' := by
  have hbx := two_boxes q1 q2 q3 c1 c2 c3 hE hp hs 26 31
  unfold vState at hbx
  unfold stateV planV vState
  have HBX := Lib.hid hbx
  have HPS := Lib.hid hps
  have HSS := Lib.hid hss
  have HSI := Lib.hid hsi
  clear hbx hE hp hs hps hss hsi
  go_enter Tryz.func32, Tryz.ntmps32
  obtain ⟨⟨m0, m1, m2⟩, ⟨n0, n1, n2, n3, n4, n5, n6, n7⟩, _, _, _, _⟩ := HBX.out _ (Below.refl _ _)
  go_wp2_with fail
  clear m0 m1 m2 n0 n1 n2 n3 n4 n5 n6 n7
  generalize ((w.alloc (.cells #[.slice p1 p.posts.length q1, .slice p2 p.queues.length q2, .slice p3 p.binds.length q3] 26)).alloc (.cells #[Value.slice a1 s.ready.length c1, Value.slice a2 s.outs.length c2, Value.slice a3 s.takers.length c3, Value.int IntKind.i64 s.nextSeq, Value.int IntKind.i64 s.nextTag, Value.int IntKind.i64 s.came, Value.int IntKind.i64 s.acked, Value.int IntKind.i64 s.dropped] 31)) = W0 at *
  refine (SCheck_any p s p1 p2 p3 a1 a2 a3 q1 q2 q3 c1 c2 c3 rows W0 (HBX.out _ (Below.refl _ _)).env (HBX.out _ (Below.refl _ _)).planAt HPS.out (HBX.out _ (Below.refl _ _)).stateAt HSS.out HSI.out).mono ?_
  rintro e W1 ⟨rfl, hb1⟩
  have HB1 := Lib.hid hb1
  obtain ⟨_, ⟨n0, n1, n2, n3, n4, n5, n6, n7⟩, _, _, _, _⟩ := HBX.out _ hb1
  clear hb1
  by_cases hc : stateErr p s = 0
  · have b1 : (stateErr p s != 0) = false := by simp [hc]
    by_cases hn0 : t < 0
    · have HR := Lib.hid (held_none hc (.inl hn0))
      clear hc
      go_wp2_with fail
      go_ret2
      exact ⟨by rw [HR.out.1, HR.out.2]; rfl, (HBX.out _ HB1.out).below⟩
    · by_cases hn1 : (s.takers.length : Int) ≤ t
      · have HR := Lib.hid (held_none hc (.inr hn1))
        clear hc
        go_wp2_with fail
        go_ret2
        exact ⟨by rw [HR.out.1, HR.out.2]; rfl, (HBX.out _ HB1.out).below⟩
      · have HR := Lib.hid (held_right hc (t := t) (by omega) (by omega))
        clear hc
        go_wp2_with fail
        refine (Of_any s a1 a2 a3 c1 c2 c3 t 0 W1 (HBX.out _ HB1.out).stateAt.outs HSS.out.outs).mono ?_
        rintro e W2 ⟨rfl, hb2⟩
        have HB2 := Lib.hid (HB1.out.trans (hb2.mono HB1.out.size))
        clear hb2
        go_wp2_with fail
        go_ret2
        exact ⟨by rw [HR.out.1, HR.out.2]; rfl, (HBX.out _ HB2.out).below⟩
  · have b1 : (stateErr p s != 0) = true := by simp [hc]
    have HR := Lib.hid (held_wrong (t := t) hc)
    clear hc
    go_wp2_with fail
    go_ret2
    exact ⟨by rw [HR.out.1, HR.out.2]; rfl, (HBX.out _ HB1.out).below⟩

end Go.Proofs.YtfbgmgadpjpdcaaGreatDoor

namespace Go.Proofs.YtfbgmgadpjpdcaaGreatDoor
open Go.RowKit
set_option maxRecDepth 100000

instance (n : Int) : Decidable (i64 n) := inferInstanceAs (Decidable (_ ∧ _))
theorem busy_ints : StateInts busyS := by
  refine ⟨by decide, by decide, by decide, by decide, by decide, ?_, ?_⟩
  · intro x hx
    simp only [busyS, List.mem_cons, List.not_mem_nil, or_false] at hx
    rcases hx with rfl | rfl <;> decide
  · intro x hx
    simp only [busyS, List.mem_singleton] at hx
    subst hx
    exact ⟨by decide, by decide, by decide⟩
end Go.Proofs.YtfbgmgadpjpdcaaGreatDoor
