/-
  The law ReplyLeaves answers true.
-/
import Derived.Test.YtaanpcjkflhomaaGreatDoorReplyN
import Derived.Test.YtaanpcjkflhomaaGreatDoorBunCD
set_option linter.unusedSimpArgs false
set_option linter.unusedVariables false
namespace Go.Proofs.YtaanpcjkflhomaaGreatDoor
open Go Go.RowKit
set_option maxRecDepth 100000
set_option maxHeartbeats 4000000 in
theorem replyLeaves_go (p : PlanD) (s : StateD) (t0 : Int) (p1 p2 p3 a1 a2 a3 : Option Addr) (q1 q2 q3 c1 c2 c3 : Nat) (rows : List RowD) (w : World) (hE : Env w) (hp : PlanAt w 0 w.heap.size p1 p2 p3 p) (hps : PlanSmall p) (hs : StateAt w 0 w.heap.size a1 a2 a3 rows s) (hss : StateSmall s) (hsi : StateInts s) (ht0 : -9223372036854775808 ≤ t0 ∧ t0 ≤ 9223372036854775807) :
  Calls Tryz.prog 4 #[planV p p1 p2 p3 q1 q2 q3, stateV s a1 a2 a3 c1 c2 c3, .int .i64 t0] w fun e w' => e = .returned (.bool true) ∧ Below w.heap.size w w' := by
 have hbx := two_boxes q1 q2 q3 c1 c2 c3 hE hp hs 26 31
 unfold vState at hbx
 unfold stateV planV vState
 have HBX := Lib.hid hbx
 have HPS := Lib.hid hps
 have HSS := Lib.hid hss
 have HSI := Lib.hid hsi
 clear hbx hE hp hs hps hss hsi
 go_enter Tryz.func4, Tryz.ntmps4
 obtain ⟨⟨m0, m1, m2⟩, ⟨n0, n1, n2, n3, n4, n5, n6, n7⟩, _, _, _, _⟩ := HBX.out _ (Below.refl _ _)
 go_wp2_with fail
 clear m0 m1 m2 n0 n1 n2 n3 n4 n5 n6 n7
 generalize ((w.alloc (.cells #[.slice p1 p.posts.length q1, .slice p2 p.queues.length q2, .slice p3 p.binds.length q3] 26)).alloc (.cells #[Value.slice a1 s.ready.length c1, Value.slice a2 s.outs.length c2, Value.slice a3 s.takers.length c3, Value.int IntKind.i64 s.nextSeq, Value.int IntKind.i64 s.nextTag, Value.int IntKind.i64 s.came, Value.int IntKind.i64 s.acked, Value.int IntKind.i64 s.dropped] 31)) = W0 at *
 have HC1 : Hid (∀ W, Below W0.heap.size W0 W → Calls Tryz.prog 21 #[.agg #[.slice p1 p.posts.length q1, .slice p2 p.queues.length q2, .slice p3 p.binds.length q3], .agg #[.slice a1 s.ready.length c1, .slice a2 s.outs.length c2, .slice a3 s.takers.length c3, .int .i64 s.nextSeq, .int .i64 s.nextTag, .int .i64 s.came, .int .i64 s.acked, .int .i64 s.dropped], .int .i64 t0] W (StPost (leaveS p s t0) (leaveErr p s t0) W)) := fun W hW =>
  Leave_any p s t0 p1 p2 p3 a1 a2 a3 q1 q2 q3 c1 c2 c3 rows W (HBX.out _ hW).env (HBX.out _ hW).planAt HPS.out (HBX.out _ hW).stateAt HSS.out HSI.out
 have HC2 : Hid (∀ W, Below W0.heap.size W0 W → Calls Tryz.prog 22 #[.agg #[.slice p1 p.posts.length q1, .slice p2 p.queues.length q2, .slice p3 p.binds.length q3], .agg #[.slice a1 s.ready.length c1, .slice a2 s.outs.length c2, .slice a3 s.takers.length c3, .int .i64 s.nextSeq, .int .i64 s.nextTag, .int .i64 s.came, .int .i64 s.acked, .int .i64 s.dropped], .int .i64 t0] W (StPostC (leaveS p s t0) (leaveErr p s t0) W)) := fun W hW =>
  LeaveOf_any p s t0 ht0 p1 p2 p3 a1 a2 a3 q1 q2 q3 c1 c2 c3 rows W (HBX.out _ hW).env (HBX.out _ hW).planAt HPS.out (HBX.out _ hW).stateAt HSS.out HSI.out
 have HJ : Hid (StateSmall (leaveS p s t0)) := Lib.hid (leave_small p s t0).1
 generalize leaveS p s t0 = X at *
 generalize leaveErr p s t0 = er at *
 obtain ⟨⟨m0, m1, m2⟩, ⟨n0, n1, n2, n3, n4, n5, n6, n7⟩, _, _, _, _⟩ := HBX.out _ (Below.refl _ _)
 go_wp2_with fail
 refine (HC1.out _ (Below.refl _ _)).mono ?_
 rintro e w1 ⟨x1, x2, x3, xc1, xc2, xc3, rx, rfl, hs, hb⟩
 unfold stateV vState
 clear m0 m1 m2 n0 n1 n2 n3 n4 n5 n6 n7
 go_upto_region 2 with fail
 obtain ⟨WX, hW1⟩ : ∃ WX, w1.alloc (.cells #[.slice x1 X.ready.length xc1, .slice x2 X.outs.length xc2, .slice x3 X.takers.length xc3, .int .i64 X.nextSeq, .int .i64 X.nextTag, .int .i64 X.came, .int .i64 X.acked, .int .i64 X.dropped] 31) = WX := ⟨_, rfl⟩
 have HWX := Lib.hid (box_since (x := X) xc1 xc2 xc3 hs hb hW1)
 rw [hW1]
 clear hW1
 clear hs hb
 obtain ⟨⟨m0, m1, m2⟩, ⟨n0, n1, n2, n3, n4, n5, n6, n7⟩, _, _, _, _⟩ := HBX.out _ (HWX.out _ (Below.refl _ _)).2
 go_wp2_with fail
 refine (HC2.out _ (HWX.out _ (Below.refl _ _)).2).mono ?_
 rintro e w2 ⟨y1, y2, y3, yc1, yc2, yc3, ry, rfl, hs, hb⟩
 have hs := hs.stateAt.1
 unfold stateV vState
 clear m0 m1 m2 n0 n1 n2 n3 n4 n5 n6 n7
 go_upto_region 3 with fail
 obtain ⟨WY, hW1⟩ : ∃ WY, w2.alloc (.cells #[.slice y1 X.ready.length yc1, .slice y2 X.outs.length yc2, .slice y3 X.takers.length yc3, .int .i64 X.nextSeq, .int .i64 X.nextTag, .int .i64 X.came, .int .i64 X.acked, .int .i64 X.dropped] 31) = WY := ⟨_, rfl⟩
 have HWY := Lib.hid (box_since (x := X) yc1 yc2 yc3 hs hb hW1)
 rw [hW1]
 clear hW1
 clear hs hb
 go_wp2_with fail
 refine (replyBegun_any _ (HBX.out _ (HWX.out _ (HWY.out _ (Below.refl _ _)).2).2).env).mono ?_
 rintro e w5 ⟨rfl, hb5⟩
 have HB5 := Lib.hid hb5
 clear hb5
 have HX5 := Lib.hid (HWY.out _ HB5.out)
 have HZ5 := Lib.hid (HWX.out _ HX5.out.2)
 obtain ⟨n0, n1, n2, n3, n4, n5, n6, n7⟩ := HZ5.out.1.cells
 obtain ⟨k0, k1, k2, k3, k4, k5, k6, k7⟩ := HX5.out.1.cells
 go_wp2_with fail
 refine (SameStates_any X X x1 x2 x3 y1 y2 y3 xc1 xc2 xc3 yc1 yc2 yc3 rx ry w5 HZ5.out.1.at_ HJ.out HX5.out.1.at_ HJ.out).mono ?_
 rw [stateEq_refl]
 rintro e w7 ⟨rfl, hb7⟩
 have HB7 := Lib.hid (HB5.out.trans (hb7.mono HB5.out.size))
 clear hb7
 go_wp2_with fail
 go_ret
 exact ⟨rfl, (HBX.out _ (HWX.out _ (HWY.out _ HB7.out).2).2).below⟩
theorem replyLeaves_any (p : PlanD) (p1 p2 p3 : Option Addr) (q1 q2 q3 : Nat) (s : StateD) (a1 a2 a3 : Option Addr) (c1 c2 c3 : Nat) (rows : List RowD) (t0 : Int) (w : World) (hp : PlanAt w 0 w.heap.size p1 p2 p3 p) (hps : PlanSmall p) (_ : PlanInts p) (hs : StateAt w 0 w.heap.size a1 a2 a3 rows s) (hss : StateSmall s) (hsi : StateInts s)
  (_ : s.ready.length ≤ c1 ∧ s.outs.length ≤ c2 ∧ s.takers.length ≤ c3) (ht0 : -9223372036854775808 ≤ t0 ∧ t0 ≤ 9223372036854775807) (hE : Env w) :
  Calls Tryz.prog 4 #[planV p p1 p2 p3 q1 q2 q3, stateV s a1 a2 a3 c1 c2 c3, .int .i64 t0] w fun e w' => e = .returned (.bool true) ∧ Below w.heap.size w w' :=
 replyLeaves_go p s t0 p1 p2 p3 a1 a2 a3 q1 q2 q3 c1 c2 c3 rows w hE hp hps hs hss hsi ht0
end Go.Proofs.YtaanpcjkflhomaaGreatDoor
