/-
  The law ReplyTells answers true.
-/
import Derived.Test.YtaanpcjkflhomaaGreatDoorReplyM
import Derived.Test.YtaanpcjkflhomaaGreatDoorBunCB
set_option linter.unusedSimpArgs false
set_option linter.unusedVariables false
namespace Go.Proofs.YtaanpcjkflhomaaGreatDoor
open Go Go.RowKit
set_option maxRecDepth 100000
theorem ack_small (p : PlanD) (s : StateD) (t : Int) : StateSmall (ackS p s t) ∧ StateInts (ackS p s t) := by
 by_cases h : ackErr p s t = 0
 ·obtain ⟨h1, k, h2⟩ := ack_ok.1 h
  have := (ack_done h1 h2).2.2
  exact ⟨this.small, this.ints⟩
 ·unfold ackS
  rw [if_neg h]
  exact ⟨zero_small, zero_ints⟩
theorem reject_small (p : PlanD) (s : StateD) (t : Int) (b : Bool) : StateSmall (rejectS p s t b) ∧ StateInts (rejectS p s t b) := by
 by_cases h : rejectErr p s t = 0
 ·obtain ⟨h1, ⟨k, h2⟩, h3⟩ := reject_ok.1 h
  have := (reject_done h1 h2 h3 b).2.2.right
  exact ⟨this.small, this.ints⟩
 ·unfold rejectS
  rw [if_neg h]
  exact ⟨zero_small, zero_ints⟩
theorem leave_small (p : PlanD) (s : StateD) (t : Int) : StateSmall (leaveS p s t) ∧ StateInts (leaveS p s t) := by
 by_cases h : leaveErr p s t = 0
 ·have := (leave_left h).right
  exact ⟨this.small, this.ints⟩
 ·unfold leaveS
  rw [if_neg h]
  exact ⟨zero_small, zero_ints⟩
set_option maxHeartbeats 4000000 in
theorem replyTells_go (p : PlanD) (s : StateD) (tag : Int) (back : Bool) (p1 p2 p3 a1 a2 a3 : Option Addr) (q1 q2 q3 c1 c2 c3 : Nat) (rows : List RowD) (w : World) (hE : Env w) (hp : PlanAt w 0 w.heap.size p1 p2 p3 p) (hps : PlanSmall p) (hs : StateAt w 0 w.heap.size a1 a2 a3 rows s) (hss : StateSmall s) (hsi : StateInts s) (hcap : s.outs.length ≤ c2) :
  Calls Tryz.prog 3 #[planV p p1 p2 p3 q1 q2 q3, stateV s a1 a2 a3 c1 c2 c3, .int .i64 tag, .bool back] w fun e w' => e = .returned (.bool true) ∧ Below w.heap.size w w' := by
 have hbx := two_boxes q1 q2 q3 c1 c2 c3 hE hp hs 26 31
 unfold vState at hbx
 unfold stateV planV vState
 have HBX := Lib.hid hbx
 have HPS := Lib.hid hps
 have HSS := Lib.hid hss
 have HSI := Lib.hid hsi
 clear hbx hE hp hs hps hss hsi
 go_enter Tryz.func3, Tryz.ntmps3
 obtain ⟨⟨m0, m1, m2⟩, ⟨n0, n1, n2, n3, n4, n5, n6, n7⟩, _, _, _, _⟩ := HBX.out _ (Below.refl _ _)
 go_wp2_with fail
 clear m0 m1 m2 n0 n1 n2 n3 n4 n5 n6 n7
 generalize ((w.alloc (.cells #[.slice p1 p.posts.length q1, .slice p2 p.queues.length q2, .slice p3 p.binds.length q3] 26)).alloc (.cells #[Value.slice a1 s.ready.length c1, Value.slice a2 s.outs.length c2, Value.slice a3 s.takers.length c3, Value.int IntKind.i64 s.nextSeq, Value.int IntKind.i64 s.nextTag, Value.int IntKind.i64 s.came, Value.int IntKind.i64 s.acked, Value.int IntKind.i64 s.dropped] 31)) = W0 at *
 have HC1 : Hid (∀ W, Below W0.heap.size W0 W → Calls Tryz.prog 15 #[.agg #[.slice p1 p.posts.length q1, .slice p2 p.queues.length q2, .slice p3 p.binds.length q3], .agg #[.slice a1 s.ready.length c1, .slice a2 s.outs.length c2, .slice a3 s.takers.length c3, .int .i64 s.nextSeq, .int .i64 s.nextTag, .int .i64 s.came, .int .i64 s.acked, .int .i64 s.dropped], .int .i64 tag] W (StPost (ackS p s tag) (ackErr p s tag) W)) := fun W hW =>
  Ack_any p s tag p1 p2 p3 a1 a2 a3 q1 q2 q3 c1 c2 c3 rows W (HBX.out _ hW).env (HBX.out _ hW).planAt HPS.out (HBX.out _ hW).stateAt HSS.out HSI.out
 have HC2 : Hid (∀ W, Below W0.heap.size W0 W → Calls Tryz.prog 16 #[.agg #[.slice p1 p.posts.length q1, .slice p2 p.queues.length q2, .slice p3 p.binds.length q3], .agg #[.slice a1 s.ready.length c1, .slice a2 s.outs.length c2, .slice a3 s.takers.length c3, .int .i64 s.nextSeq, .int .i64 s.nextTag, .int .i64 s.came, .int .i64 s.acked, .int .i64 s.dropped], .int .i64 tag, .bool back] W (StPost (rejectS p s tag back) (rejectErr p s tag) W)) := fun W hW =>
  Reject_any p s tag back p1 p2 p3 a1 a2 a3 q1 q2 q3 c1 c2 c3 rows W (HBX.out _ hW).env (HBX.out _ hW).planAt HPS.out (HBX.out _ hW).stateAt HSS.out HSI.out
 have HC3 : Hid (∀ W, Below W0.heap.size W0 W → Calls Tryz.prog 17 #[.agg #[.slice p1 p.posts.length q1, .slice p2 p.queues.length q2, .slice p3 p.binds.length q3], .agg #[.slice a1 s.ready.length c1, .slice a2 s.outs.length c2, .slice a3 s.takers.length c3, .int .i64 s.nextSeq, .int .i64 s.nextTag, .int .i64 s.came, .int .i64 s.acked, .int .i64 s.dropped], .int .i64 tag] W (StPostC (ackS p s tag) (ackErr p s tag) W)) := fun W hW =>
  AckOf_any p s tag p1 p2 p3 a1 a2 a3 q1 q2 q3 c1 c2 c3 rows W (HBX.out _ hW).env (HBX.out _ hW).planAt HPS.out (HBX.out _ hW).stateAt HSS.out HSI.out hcap
 have HC4 : Hid (∀ W, Below W0.heap.size W0 W → Calls Tryz.prog 18 #[.agg #[.slice p1 p.posts.length q1, .slice p2 p.queues.length q2, .slice p3 p.binds.length q3], .agg #[.slice a1 s.ready.length c1, .slice a2 s.outs.length c2, .slice a3 s.takers.length c3, .int .i64 s.nextSeq, .int .i64 s.nextTag, .int .i64 s.came, .int .i64 s.acked, .int .i64 s.dropped], .int .i64 tag, .bool back] W (StPostC (rejectS p s tag back) (rejectErr p s tag) W)) := fun W hW =>
  RejectOf_any p s tag back p1 p2 p3 a1 a2 a3 q1 q2 q3 c1 c2 c3 rows W (HBX.out _ hW).env (HBX.out _ hW).planAt HPS.out (HBX.out _ hW).stateAt HSS.out HSI.out hcap
 have HJ : Hid (StateSmall (ackS p s tag) ∧ StateSmall (rejectS p s tag back)) := Lib.hid ⟨(ack_small p s tag).1, (reject_small p s tag back).1⟩
 clear hcap
 generalize ackS p s tag = X at *
 generalize rejectS p s tag back = Y at *
 generalize ackErr p s tag = er at *
 generalize rejectErr p s tag = es at *
 obtain ⟨⟨m0, m1, m2⟩, ⟨n0, n1, n2, n3, n4, n5, n6, n7⟩, _, _, _, _⟩ := HBX.out _ (Below.refl _ _)
 go_wp2_with fail
 refine (HC1.out _ (Below.refl _ _)).mono ?_
 rintro e w1 ⟨x1, x2, x3, xc1, xc2, xc3, rx, rfl, hs, hb⟩
 unfold stateV vState
 clear m0 m1 m2 n0 n1 n2 n3 n4 n5 n6 n7
 go_upto_region 2 with fail
 obtain ⟨WX, hW1⟩ : ∃ WX, w1.alloc (.cells #[.slice x1 X.ready.length xc1, .slice x2 X.outs.length xc2, .slice x3 X.takers.length xc3, .int .i64 X.nextSeq, .int .i64 X.nextTag, .int .i64 X.came, .int .i64 X.acked, .int .i64 X.dropped] 31) = WX := ⟨_, rfl⟩
 have HWX := Lib.hid (box_since (x := X) xc1 xc2 xc3 hs hb hW1)
 rw [hW1]
 clear hW1
 clear hs hb
 obtain ⟨⟨m0, m1, m2⟩, ⟨n0, n1, n2, n3, n4, n5, n6, n7⟩, _, _, _, _⟩ := HBX.out _ (HWX.out _ (Below.refl _ _)).2
 go_wp2_with fail
 refine (HC2.out _ (HWX.out _ (Below.refl _ _)).2).mono ?_
 rintro e w2 ⟨y1, y2, y3, yc1, yc2, yc3, ry, rfl, hs, hb⟩
 unfold stateV vState
 clear m0 m1 m2 n0 n1 n2 n3 n4 n5 n6 n7
 go_upto_region 3 with fail
 obtain ⟨WY, hW1⟩ : ∃ WY, w2.alloc (.cells #[.slice y1 Y.ready.length yc1, .slice y2 Y.outs.length yc2, .slice y3 Y.takers.length yc3, .int .i64 Y.nextSeq, .int .i64 Y.nextTag, .int .i64 Y.came, .int .i64 Y.acked, .int .i64 Y.dropped] 31) = WY := ⟨_, rfl⟩
 have HWY := Lib.hid (box_since (x := Y) yc1 yc2 yc3 hs hb hW1)
 rw [hW1]
 clear hW1
 clear hs hb
 obtain ⟨⟨m0, m1, m2⟩, ⟨n0, n1, n2, n3, n4, n5, n6, n7⟩, _, _, _, _⟩ := HBX.out _ (HWX.out _ (HWY.out _ (Below.refl _ _)).2).2
 go_wp2_with fail
 refine (HC3.out _ (HWX.out _ (HWY.out _ (Below.refl _ _)).2).2).mono ?_
 rintro e w3 ⟨u1, u2, u3, uc1, uc2, uc3, ru, rfl, hs, hb⟩
 have hs := hs.stateAt.1
 unfold stateV vState
 clear m0 m1 m2 n0 n1 n2 n3 n4 n5 n6 n7
 go_upto_region 4 with fail
 obtain ⟨WU, hW1⟩ : ∃ WU, w3.alloc (.cells #[.slice u1 X.ready.length uc1, .slice u2 X.outs.length uc2, .slice u3 X.takers.length uc3, .int .i64 X.nextSeq, .int .i64 X.nextTag, .int .i64 X.came, .int .i64 X.acked, .int .i64 X.dropped] 31) = WU := ⟨_, rfl⟩
 have HWU := Lib.hid (box_since (x := X) uc1 uc2 uc3 hs hb hW1)
 rw [hW1]
 clear hW1
 clear hs hb
 obtain ⟨⟨m0, m1, m2⟩, ⟨n0, n1, n2, n3, n4, n5, n6, n7⟩, _, _, _, _⟩ := HBX.out _ (HWX.out _ (HWY.out _ (HWU.out _ (Below.refl _ _)).2).2).2
 go_wp2_with fail
 refine (HC4.out _ (HWX.out _ (HWY.out _ (HWU.out _ (Below.refl _ _)).2).2).2).mono ?_
 rintro e w4 ⟨v1, v2, v3, vc1, vc2, vc3, rv, rfl, hs, hb⟩
 have hs := hs.stateAt.1
 unfold stateV vState
 clear m0 m1 m2 n0 n1 n2 n3 n4 n5 n6 n7
 go_upto_region 5 with fail
 obtain ⟨WV, hW1⟩ : ∃ WV, w4.alloc (.cells #[.slice v1 Y.ready.length vc1, .slice v2 Y.outs.length vc2, .slice v3 Y.takers.length vc3, .int .i64 Y.nextSeq, .int .i64 Y.nextTag, .int .i64 Y.came, .int .i64 Y.acked, .int .i64 Y.dropped] 31) = WV := ⟨_, rfl⟩
 have HWV := Lib.hid (box_since (x := Y) vc1 vc2 vc3 hs hb hW1)
 rw [hW1]
 clear hW1
 clear hs hb
 go_wp2_with fail
 refine (replyBegun_any _ (HBX.out _ (HWX.out _ (HWY.out _ (HWU.out _ (HWV.out _ (Below.refl _ _)).2).2).2).2).env).mono ?_
 rintro e w5 ⟨rfl, hb5⟩
 have HB5 := Lib.hid hb5
 clear hb5
 have HU5 := Lib.hid (HWV.out _ HB5.out)
 have HY5 := Lib.hid (HWU.out _ HU5.out.2)
 have HX5 := Lib.hid (HWY.out _ HY5.out.2)
 have HZ5 := Lib.hid (HWX.out _ HX5.out.2)
 obtain ⟨n0, n1, n2, n3, n4, n5, n6, n7⟩ := HZ5.out.1.cells
 obtain ⟨k0, k1, k2, k3, k4, k5, k6, k7⟩ := HY5.out.1.cells
 go_wp2_with fail
 refine (SameStates_any X X x1 x2 x3 u1 u2 u3 xc1 xc2 xc3 uc1 uc2 uc3 rx ru w5 HZ5.out.1.at_ HJ.out.1 HY5.out.1.at_ HJ.out.1).mono ?_
 rw [stateEq_refl]
 rintro e w6 ⟨rfl, hb6⟩
 have HB6 := Lib.hid (HB5.out.trans (hb6.mono HB5.out.size))
 clear hb6 n0 n1 n2 n3 n4 n5 n6 n7 k0 k1 k2 k3 k4 k5 k6 k7 HU5 HY5 HX5 HZ5
 have HU5 := Lib.hid (HWV.out _ HB6.out)
 have HY5 := Lib.hid (HWU.out _ HU5.out.2)
 have HX5 := Lib.hid (HWY.out _ HY5.out.2)
 have HZ5 := Lib.hid (HWX.out _ HX5.out.2)
 obtain ⟨n0, n1, n2, n3, n4, n5, n6, n7⟩ := HX5.out.1.cells
 obtain ⟨k0, k1, k2, k3, k4, k5, k6, k7⟩ := HU5.out.1.cells
 go_wp2_with fail
 refine (SameStates_any Y Y y1 y2 y3 v1 v2 v3 yc1 yc2 yc3 vc1 vc2 vc3 ry rv w6 HX5.out.1.at_ HJ.out.2 HU5.out.1.at_ HJ.out.2).mono ?_
 rw [stateEq_refl]
 rintro e w7 ⟨rfl, hb7⟩
 have HB7 := Lib.hid (HB6.out.trans (hb7.mono HB6.out.size))
 clear hb7
 go_wp2_with fail
 go_ret
 exact ⟨rfl, (HBX.out _ (HWX.out _ (HWY.out _ (HWU.out _ (HWV.out _ HB7.out).2).2).2).2).below⟩
theorem replyTells_any (p : PlanD) (p1 p2 p3 : Option Addr) (q1 q2 q3 : Nat) (s : StateD) (a1 a2 a3 : Option Addr) (c1 c2 c3 : Nat) (rows : List RowD) (tag : Int) (back : Bool) (w : World) (hp : PlanAt w 0 w.heap.size p1 p2 p3 p) (hps : PlanSmall p) (_ : PlanInts p) (hs : StateAt w 0 w.heap.size a1 a2 a3 rows s) (hss : StateSmall s) (hsi : StateInts s)
  (hcaps : s.ready.length ≤ c1 ∧ s.outs.length ≤ c2 ∧ s.takers.length ≤ c3) (_ : -9223372036854775808 ≤ tag ∧ tag ≤ 9223372036854775807) (hE : Env w) :
  Calls Tryz.prog 3 #[planV p p1 p2 p3 q1 q2 q3, stateV s a1 a2 a3 c1 c2 c3, .int .i64 tag, .bool back] w fun e w' => e = .returned (.bool true) ∧ Below w.heap.size w w' :=
 replyTells_go p s tag back p1 p2 p3 a1 a2 a3 q1 q2 q3 c1 c2 c3 rows w hE hp hps hs hss hsi hcaps.2.1
end Go.Proofs.YtaanpcjkflhomaaGreatDoor
