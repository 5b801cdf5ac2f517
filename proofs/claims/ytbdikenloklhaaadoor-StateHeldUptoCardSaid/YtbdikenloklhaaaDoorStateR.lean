/-
  The law StateHeld answers true.
-/
import Derived.Test.YtbdikenloklhaaaDoorStateO
import Derived.Test.YtbdikenloklhaaaDoorStateH
namespace Go.Proofs.YtbdikenloklhaaaDoor
open Go.RowKit
set_option maxRecDepth 100000

set_option maxHeartbeats 4000000 in
theorem stateHeld_go (p : PlanD) (s : StateD) (t : Int) (p1 p2 p3 a1 a2 a3 : Option Addr) (q1 q2 q3 c1 c2 c3 : Nat) (rows : List RowD) (w : World) (hE : Env w) (hp : PlanAt w 0 w.heap.size p1 p2 p3 p) (hps : PlanSmall p) (hs : StateAt w 0 w.heap.size a1 a2 a3 rows s) (hss : StateSmall s) (hsi : StateInts s) :
    Calls Tryd.prog 11 #[planV p p1 p2 p3 q1 q2 q3, stateV s a1 a2 a3 c1 c2 c3, .int .i64 t] w fun e w' => e = .returned (.bool true) ∧ Below w.heap.size w w' := by
  have hbx := two_boxes q1 q2 q3 c1 c2 c3 hE hp hs 26 60
  unfold vState at hbx
  unfold stateV planV vState
  have HBX := Lib.hid hbx
  have HPS := Lib.hid hps
  have HSS := Lib.hid hss
  have HSI := Lib.hid hsi
  clear hbx hE hp hs hps hss hsi
  go_enter Tryd.func11, Tryd.ntmps11
  obtain ⟨⟨m0, m1, m2⟩, ⟨n0, n1, n2, n3, n4, n5, n6, n7⟩, _, _, _, _⟩ := HBX.out _ (Below.refl _ _)
  go_wp2_with fail
  clear m0 m1 m2 n0 n1 n2 n3 n4 n5 n6 n7
  generalize ((w.alloc (.cells #[.slice p1 p.posts.length q1, .slice p2 p.queues.length q2, .slice p3 p.binds.length q3] 26)).alloc (.cells #[Value.slice a1 s.ready.length c1, Value.slice a2 s.outs.length c2, Value.slice a3 s.takers.length c3, Value.int IntKind.i64 s.nextSeq, Value.int IntKind.i64 s.nextTag, Value.int IntKind.i64 s.came, Value.int IntKind.i64 s.acked, Value.int IntKind.i64 s.dropped] 60)) = W0 at *
  refine (Held_any p s t p1 p2 p3 a1 a2 a3 q1 q2 q3 c1 c2 c3 rows W0 (HBX.out _ (Below.refl _ _)).env (HBX.out _ (Below.refl _ _)).planAt HPS.out (HBX.out _ (Below.refl _ _)).stateAt HSS.out HSI.out).mono ?_
  rintro e W1 ⟨rfl, hb1⟩
  have HB1 := Lib.hid hb1
  obtain ⟨⟨m0, m1, m2⟩, ⟨n0, n1, n2, n3, n4, n5, n6, n7⟩, _, _, _, _⟩ := HBX.out _ hb1
  clear hb1
  go_wp2_with fail
  refine (CheckState_any p s p1 p2 p3 a1 a2 a3 q1 q2 q3 c1 c2 c3 rows W1 (HBX.out _ HB1.out).env (HBX.out _ HB1.out).planAt HPS.out (HBX.out _ HB1.out).stateAt HSS.out HSI.out).mono ?_
  rintro e W2 ⟨rfl, hb2⟩
  have HB2 := Lib.hid (HB1.out.trans (hb2.mono HB1.out.size))
  clear hb2 m0 m1 m2 n0 n1 n2 n3 n4 n5 n6 n7
  obtain ⟨_, ⟨n0, n1, n2, n3, n4, n5, n6, n7⟩, _, _, _, _⟩ := HBX.out _ HB2.out
  by_cases hc : stateErr p s = 0
  · by_cases hn0 : t < 0
    · have hR := held_none hc (.inl hn0)
      obtain ⟨he, ho⟩ := hR
      rw [he, ho, hc]
      clear he ho hc
      go_wp2_with fail
      refine (stateBegun_any _ (HBX.out _ HB2.out).env).mono ?_
      rintro e W3 ⟨rfl, hb3⟩
      have HB3 := Lib.hid (HB2.out.trans (hb3.mono HB2.out.size))
      clear hb3
      go_wp2_with fail
      go_ret
      exact ⟨rfl, (HBX.out _ HB3.out).below⟩
    · by_cases hn1 : (s.takers.length : Int) ≤ t
      · have hR := held_none hc (.inr hn1)
        obtain ⟨he, ho⟩ := hR
        rw [he, ho, hc]
        clear he ho hc
        go_wp2_with fail
        refine (stateBegun_any _ (HBX.out _ HB2.out).env).mono ?_
        rintro e W3 ⟨rfl, hb3⟩
        have HB3 := Lib.hid (HB2.out.trans (hb3.mono HB2.out.size))
        clear hb3
        go_wp2_with fail
        go_ret
        exact ⟨rfl, (HBX.out _ HB3.out).below⟩
      · have hR := held_right hc (t := t) (by omega) (by omega)
        obtain ⟨he, ho⟩ := hR
        rw [he, ho, hc]
        clear he ho hc
        generalize hk : heldS s t = k
        have HK := Lib.hid hk; clear hk
        go_wp2_with fail
        refine (HeldOf_any s a1 a2 a3 c1 c2 c3 t 0 W2 (HBX.out _ HB2.out).stateAt.outs HSS.out.outs).mono ?_
        rw [HK.out]
        rintro e W3 ⟨rfl, hb3⟩
        have HB3 := Lib.hid (HB2.out.trans (hb3.mono HB2.out.size))
        clear hb3
        go_wp2_with fail
        refine (stateBegun_any _ (HBX.out _ HB3.out).env).mono ?_
        rintro e W4 ⟨rfl, hb4⟩
        have HB4 := Lib.hid (HB3.out.trans (hb4.mono HB3.out.size))
        clear hb4
        go_wp2_with fail
        go_ret
        exact ⟨rfl, (HBX.out _ HB4.out).below⟩
  · have hR := held_wrong (t := t) hc
    obtain ⟨he, ho⟩ := hR
    rw [he, ho]
    generalize stateErr p s = n at *
    have b1 : (n == 0) = false := by simp [hc]
    clear he ho hc
    go_wp2_with fail
    refine (stateBegun_any _ (HBX.out _ HB2.out).env).mono ?_
    rintro e W3 ⟨rfl, hb3⟩
    have HB3 := Lib.hid (HB2.out.trans (hb3.mono HB2.out.size))
    clear hb3
    go_wp2_with fail
    go_ret
    exact ⟨rfl, (HBX.out _ HB3.out).below⟩

theorem stateHeld_any (p : PlanD) (p1 p2 p3 : Option Addr) (q1 q2 q3 : Nat) (s : StateD) (a1 a2 a3 : Option Addr) (c1 c2 c3 : Nat) (rows : List RowD) (t : Int) (w : World) (hp : PlanAt w 0 w.heap.size p1 p2 p3 p) (hps : PlanSmall p) (_ : PlanInts p) (hs : StateAt w 0 w.heap.size a1 a2 a3 rows s) (hss : StateSmall s) (hsi : StateInts s)
    (_ : s.ready.length ≤ c1 ∧ s.outs.length ≤ c2 ∧ s.takers.length ≤ c3) (_ : -9223372036854775808 ≤ t ∧ t ≤ 9223372036854775807) (hE : Env w) : Calls Tryd.prog 11 #[planV p p1 p2 p3 q1 q2 q3, stateV s a1 a2 a3 c1 c2 c3, .int .i64 t] w fun e w' => e = .returned (.bool true) ∧ Below w.heap.size w w' :=
  stateHeld_go p s t p1 p2 p3 a1 a2 a3 q1 q2 q3 c1 c2 c3 rows w hE hp hps hs hss hsi

end Go.Proofs.YtbdikenloklhaaaDoor
