/-
  The law ReplyTrue answers true.
-/
import Derived.Test.YtfbgmgadpjpdcaaGreatDoorReplyN
import Derived.Test.YtfbgmgadpjpdcaaGreatDoorBunG
set_option linter.unusedSimpArgs false
set_option linter.unusedVariables false
namespace Go.Proofs.YtfbgmgadpjpdcaaGreatDoor
open Go Go.RowKit
set_option maxRecDepth 100000

theorem left_facts {p : PlanD} {s : StateD} {t : Int} (h : leaveErr p s t = 0) : stateErr p (leaveS p s t) = 0 ∧ heldErr p (leaveS p s t) t = 0 ∧ heldOut p (leaveS p s t) t = 0 ∧ heldErr p s t = 0 ∧ ((leaveS p s t).outs.length : Int) = (s.outs.length : Int) - (heldOut p s t : Int) := by
  obtain ⟨hR, hn, _⟩ := leave_ok h
  have hl := leave_left h
  unfold noTaker at hn
  have h1 := held_right (right_iff.2 hR) (t := t) (by omega) (by omega)
  have h2 := held_right (right_iff.2 hl.right) (t := t) (by omega) (by rw [hl.takers]; omega)
  refine ⟨right_iff.2 hl.right, h2.1, by rw [h2.2, hl.held], h1.1, ?_⟩
  rw [h1.2, hl.outs]
  have := filter_len s.outs t
  unfold heldS
  omega
set_option maxHeartbeats 16000000 in
theorem replyTrue_go (p : PlanD) (s : StateD) (tag : Int) (back : Bool) (t0 : Int) (p1 p2 p3 a1 a2 a3 : Option Addr) (q1 q2 q3 c1 c2 c3 : Nat) (rows : List RowD) (w : World) (hE : Env w) (hp : PlanAt w 0 w.heap.size p1 p2 p3 p) (hps : PlanSmall p) (hs : StateAt w 0 w.heap.size a1 a2 a3 rows s) (hss : StateSmall s) (hsi : StateInts s) :
    Calls Tryz.prog 9 #[planV p p1 p2 p3 q1 q2 q3, stateV s a1 a2 a3 c1 c2 c3, .int .i64 tag, .bool back, .int .i64 t0] w fun e w' => e = .returned (.bool true) ∧ Below w.heap.size w w' := by
  have hbx := two_boxes q1 q2 q3 c1 c2 c3 hE hp hs 26 31
  unfold vState at hbx
  unfold stateV planV vState
  have HBX := Lib.hid hbx
  have HPS := Lib.hid hps
  have HSS := Lib.hid hss
  have HSI := Lib.hid hsi
  clear hbx hE hp hs hps hss hsi
  go_enter Tryz.func9, Tryz.ntmps9
  obtain ⟨⟨m0, m1, m2⟩, ⟨n0, n1, n2, n3, n4, n5, n6, n7⟩, _, _, _, _⟩ := HBX.out _ (Below.refl _ _)
  go_wp2_with fail
  clear m0 m1 m2 n0 n1 n2 n3 n4 n5 n6 n7
  generalize ((w.alloc (.cells #[.slice p1 p.posts.length q1, .slice p2 p.queues.length q2, .slice p3 p.binds.length q3] 26)).alloc (.cells #[Value.slice a1 s.ready.length c1, Value.slice a2 s.outs.length c2, Value.slice a3 s.takers.length c3, Value.int IntKind.i64 s.nextSeq, Value.int IntKind.i64 s.nextTag, Value.int IntKind.i64 s.came, Value.int IntKind.i64 s.acked, Value.int IntKind.i64 s.dropped] 31)) = W0 at *
  have HC1 : Hid (∀ W, Below W0.heap.size W0 W → Calls Tryz.prog 25 #[.agg #[.slice p1 p.posts.length q1, .slice p2 p.queues.length q2, .slice p3 p.binds.length q3], .agg #[.slice a1 s.ready.length c1, .slice a2 s.outs.length c2, .slice a3 s.takers.length c3, .int .i64 s.nextSeq, .int .i64 s.nextTag, .int .i64 s.came, .int .i64 s.acked, .int .i64 s.dropped], .int .i64 tag] W (StPost (ackS p s tag) (ackErr p s tag) W)) := fun W hW =>
    Ack_any p s tag p1 p2 p3 a1 a2 a3 q1 q2 q3 c1 c2 c3 rows W (HBX.out _ hW).env (HBX.out _ hW).planAt HPS.out (HBX.out _ hW).stateAt HSS.out HSI.out
  have HC2 : Hid (∀ W, Below W0.heap.size W0 W → Calls Tryz.prog 26 #[.agg #[.slice p1 p.posts.length q1, .slice p2 p.queues.length q2, .slice p3 p.binds.length q3], .agg #[.slice a1 s.ready.length c1, .slice a2 s.outs.length c2, .slice a3 s.takers.length c3, .int .i64 s.nextSeq, .int .i64 s.nextTag, .int .i64 s.came, .int .i64 s.acked, .int .i64 s.dropped], .int .i64 tag, .bool back] W (StPost (rejectS p s tag back) (rejectErr p s tag) W)) := fun W hW =>
    Reject_any p s tag back p1 p2 p3 a1 a2 a3 q1 q2 q3 c1 c2 c3 rows W (HBX.out _ hW).env (HBX.out _ hW).planAt HPS.out (HBX.out _ hW).stateAt HSS.out HSI.out
  have HC3 : Hid (∀ W, Below W0.heap.size W0 W → Calls Tryz.prog 30 #[.agg #[.slice p1 p.posts.length q1, .slice p2 p.queues.length q2, .slice p3 p.binds.length q3], .agg #[.slice a1 s.ready.length c1, .slice a2 s.outs.length c2, .slice a3 s.takers.length c3, .int .i64 s.nextSeq, .int .i64 s.nextTag, .int .i64 s.came, .int .i64 s.acked, .int .i64 s.dropped], .int .i64 t0] W (StPost (leaveS p s t0) (leaveErr p s t0) W)) := fun W hW =>
    Leave_any p s t0 p1 p2 p3 a1 a2 a3 q1 q2 q3 c1 c2 c3 rows W (HBX.out _ hW).env (HBX.out _ hW).planAt HPS.out (HBX.out _ hW).stateAt HSS.out HSI.out
  have HC4 : Hid (∀ W, Below W0.heap.size W0 W → Calls Tryz.prog 32 #[.agg #[.slice p1 p.posts.length q1, .slice p2 p.queues.length q2, .slice p3 p.binds.length q3], .agg #[.slice a1 s.ready.length c1, .slice a2 s.outs.length c2, .slice a3 s.takers.length c3, .int .i64 s.nextSeq, .int .i64 s.nextTag, .int .i64 s.came, .int .i64 s.acked, .int .i64 s.dropped], .int .i64 t0] W (fun e w' => e = .returned (.tuple #[.int .i64 (heldOut p s t0), .int .i64 (heldErr p s t0)]) ∧ Below W.heap.size W w')) := fun W hW =>
    Held_any p s t0 p1 p2 p3 a1 a2 a3 q1 q2 q3 c1 c2 c3 rows W (HBX.out _ hW).env (HBX.out _ hW).planAt HPS.out (HBX.out _ hW).stateAt HSS.out HSI.out
  have HSMx : Hid (StateSmall (ackS p s tag) ∧ StateInts (ackS p s tag)) := Lib.hid (ack_small p s tag)
  have HSMy : Hid (StateSmall (rejectS p s tag back) ∧ StateInts (rejectS p s tag back)) := Lib.hid (reject_small p s tag back)
  have HSMz : Hid (StateSmall (leaveS p s t0) ∧ StateInts (leaveS p s t0)) := Lib.hid (leave_small p s t0)
  have HFA : Hid (ackErr p s tag = 0 → stateErr p (ackS p s tag) = 0 ∧ ackErr p (ackS p s tag) tag = 5 ∧ ((ackS p s tag).outs.length : Int) = (s.outs.length : Int) - 1 ∧ (ackS p s tag).acked = s.acked + 1 ∧ (ackS p s tag).came = s.came) := Lib.hid fun h => by
    obtain ⟨hR, k, hk⟩ := ack_ok.1 h
    obtain ⟨_, hS, hR2⟩ := ack_done hR hk
    have ho : (ackS p s tag).outs = s.outs.eraseIdx k := by rw [hS]; rfl
    obtain ⟨hkl, _⟩ := outK_some hk
    refine ⟨right_iff.2 hR2, ?_, ?_, by rw [hS], by rw [hS]; rfl⟩
    · unfold ackErr
      rw [if_neg (by rw [right_iff.2 hR2]; decide), if_pos (out_gone hR hk ho)]
    · rw [ho, List.length_eraseIdx_of_lt hkl]; omega
  have HFB : Hid (rejectErr p s tag = 0 → ackErr p s tag = 0 ∧ stateErr p (rejectS p s tag back) = 0 ∧ rejectErr p (rejectS p s tag back) tag = 5 ∧ ((rejectS p s tag back).outs.length : Int) = (s.outs.length : Int) - 1 ∧ (rejectS p s tag back).acked = s.acked) := Lib.hid fun h => by
    obtain ⟨hR, ⟨k, hk⟩, hs⟩ := reject_ok.1 h
    obtain ⟨_, _, r⟩ := reject_done hR hk hs back
    obtain ⟨hkl, _⟩ := outK_some hk
    refine ⟨ack_ok.2 ⟨hR, k, hk⟩, right_iff.2 r.right, ?_, ?_, r.acked⟩
    · unfold rejectErr
      rw [if_neg (by rw [right_iff.2 r.right]; decide), if_pos (out_gone hR hk r.outs)]
    · rw [r.outs, List.length_eraseIdx_of_lt hkl]; omega
  have HFC : Hid (leaveErr p s t0 = 0 → stateErr p (leaveS p s t0) = 0 ∧ heldErr p (leaveS p s t0) t0 = 0 ∧ heldOut p (leaveS p s t0) t0 = 0 ∧ heldErr p s t0 = 0 ∧ ((leaveS p s t0).outs.length : Int) = (s.outs.length : Int) - (heldOut p s t0 : Int)) := Lib.hid fun h => left_facts h
  generalize ackS p s tag = X at *
  generalize rejectS p s tag back = Y at *
  generalize leaveS p s t0 = Z at *
  have HL : Hid (∀ W, Below W0.heap.size W0 W → Below W0.heap.size W0 W) := Lib.hid fun W h => h
  obtain ⟨⟨m0, m1, m2⟩, ⟨n0, n1, n2, n3, n4, n5, n6, n7⟩, _, _, _, _⟩ := HBX.out _ (HL.out _ (Below.refl _ _))
  go_wp2_with fail
  refine (HC1.out _ (Below.refl _ _)).mono ?_
  rintro e w1 ⟨x1, x2, x3, xc1, xc2, xc3, rx, rfl, hs, hb⟩
  unfold stateV vState
  clear m0 m1 m2 n0 n1 n2 n3 n4 n5 n6 n7
  go_upto_region 2 with fail
  obtain ⟨WX, hW1⟩ : ∃ ww, w1.alloc (.cells #[.slice x1 X.ready.length xc1, .slice x2 X.outs.length xc2, .slice x3 X.takers.length xc3, .int .i64 X.nextSeq, .int .i64 X.nextTag, .int .i64 X.came, .int .i64 X.acked, .int .i64 X.dropped] 31) = ww := ⟨_, rfl⟩
  have HNx := Lib.hid (box_since (x := X) xc1 xc2 xc3 hs hb hW1)
  rw [hW1]
  clear hW1 hs hb
  have HL : Hid (∀ W, Below WX.heap.size WX W → Below W0.heap.size W0 W) := Lib.hid fun W h => HL.out _ (HNx.out _ h).2
  have HXx : Hid (∀ W, Below WX.heap.size WX W → BoxS W _ X x1 x2 x3 xc1 xc2 xc3 rx) := Lib.hid fun W h => (HNx.out _ h).1
  obtain ⟨⟨m0, m1, m2⟩, ⟨n0, n1, n2, n3, n4, n5, n6, n7⟩, _, _, _, _⟩ := HBX.out _ (HL.out _ (Below.refl _ _))
  go_wp2_with fail
  refine (HC2.out _ (HL.out _ (Below.refl _ _))).mono ?_
  rintro e w2 ⟨y1, y2, y3, yc1, yc2, yc3, ry, rfl, hs, hb⟩
  unfold stateV vState
  clear m0 m1 m2 n0 n1 n2 n3 n4 n5 n6 n7
  go_upto_region 3 with fail
  obtain ⟨WY, hW1⟩ : ∃ ww, w2.alloc (.cells #[.slice y1 Y.ready.length yc1, .slice y2 Y.outs.length yc2, .slice y3 Y.takers.length yc3, .int .i64 Y.nextSeq, .int .i64 Y.nextTag, .int .i64 Y.came, .int .i64 Y.acked, .int .i64 Y.dropped] 31) = ww := ⟨_, rfl⟩
  have HNy := Lib.hid (box_since (x := Y) yc1 yc2 yc3 hs hb hW1)
  rw [hW1]
  clear hW1 hs hb
  have HL : Hid (∀ W, Below WY.heap.size WY W → Below W0.heap.size W0 W) := Lib.hid fun W h => HL.out _ (HNy.out _ h).2
  have HXx : Hid (∀ W, Below WY.heap.size WY W → BoxS W _ X x1 x2 x3 xc1 xc2 xc3 rx) := Lib.hid fun W h => HXx.out _ (HNy.out _ h).2
  have HXy : Hid (∀ W, Below WY.heap.size WY W → BoxS W _ Y y1 y2 y3 yc1 yc2 yc3 ry) := Lib.hid fun W h => (HNy.out _ h).1
  have HSMx := HSMx
  by_cases he : ackErr p s tag = 0
  · have be : (ackErr p s tag == 0) = true := by simp [he]
    obtain ⟨f1, f2, f3, f4, f5⟩ := HFA.out he
    have HE1 := Lib.hid f1
    have HE2 := Lib.hid f2
    have hw1 : IntKind.i64.wrap ((s.outs.length : Int) - 1) = (s.outs.length : Int) - 1 := IntWalk.i64_in _ (by have := HSS.out.outs; omega)
    have hw2 : IntKind.i64.wrap (s.acked + 1) = s.acked + 1 := IntWalk.i64_in _ (by have := HSMx.out.2.acked; unfold i64 at this; rw [f4] at this; omega)
    have c1' : ((X.outs.length : Int) != (s.outs.length : Int) - 1) = false := by rw [f3]; simp
    have c2' : (X.acked != s.acked + 1) = false := by rw [f4]; simp
    have c3' : (X.came != s.came) = false := by rw [f5]; simp
    clear f1 f2 f3 f4 f5
    obtain ⟨⟨m0, m1, m2⟩, ⟨n0, n1, n2, n3, n4, n5, n6, n7⟩, _, _, _, _⟩ := HBX.out _ (HL.out _ (Below.refl _ _))
    obtain ⟨k0, k1, k2, k3, k4, k5, k6, k7⟩ := (HXx.out _ (Below.refl _ _)).cells
    go_wp2_with fail
    refine (Ack_any p X tag p1 p2 p3 x1 x2 x3 q1 q2 q3 xc1 xc2 xc3 rx WY (HBX.out _ (HL.out _ (Below.refl _ _))).env (HBX.out _ (HL.out _ (Below.refl _ _))).planAt HPS.out (HXx.out _ (Below.refl _ _)).at_ HSMx.out.1 HSMx.out.2).mono ?_
    rintro e w3 ⟨u1, u2, u3, uc1, uc2, uc3, ru, rfl, hs, hb⟩
    rw [HE2.out]
    clear m0 m1 m2 n0 n1 n2 n3 n4 n5 n6 n7 k0 k1 k2 k3 k4 k5 k6 k7
    unfold stateV vState
    generalize ackS p X tag = U at *
    go_upto_region 5 with fail
    obtain ⟨WU, hW1⟩ : ∃ ww, w3.alloc (.cells #[.slice u1 U.ready.length uc1, .slice u2 U.outs.length uc2, .slice u3 U.takers.length uc3, .int .i64 U.nextSeq, .int .i64 U.nextTag, .int .i64 U.came, .int .i64 U.acked, .int .i64 U.dropped] 31) = ww := ⟨_, rfl⟩
    have HNu := Lib.hid (box_since (x := U) uc1 uc2 uc3 hs hb hW1)
    rw [hW1]
    clear hW1 hs hb
    have HL : Hid (∀ W, Below WU.heap.size WU W → Below W0.heap.size W0 W) := Lib.hid fun W h => HL.out _ (HNu.out _ h).2
    have HXx : Hid (∀ W, Below WU.heap.size WU W → BoxS W _ X x1 x2 x3 xc1 xc2 xc3 rx) := Lib.hid fun W h => HXx.out _ (HNu.out _ h).2
    have HXy : Hid (∀ W, Below WU.heap.size WU W → BoxS W _ Y y1 y2 y3 yc1 yc2 yc3 ry) := Lib.hid fun W h => HXy.out _ (HNu.out _ h).2
    obtain ⟨⟨m0, m1, m2⟩, ⟨n0, n1, n2, n3, n4, n5, n6, n7⟩, _, _, _, _⟩ := HBX.out _ (HL.out _ (Below.refl _ _))
    obtain ⟨k0, k1, k2, k3, k4, k5, k6, k7⟩ := (HXx.out _ (Below.refl _ _)).cells
    go_wp2_with fail
    refine (SCheck_any p X  p1 p2 p3 x1 x2 x3 q1 q2 q3 xc1 xc2 xc3 rx WU (HBX.out _ (HL.out _ (Below.refl _ _))).env (HBX.out _ (HL.out _ (Below.refl _ _))).planAt HPS.out (HXx.out _ (Below.refl _ _)).at_ HSMx.out.1 HSMx.out.2).mono ?_
    rintro e w4 ⟨rfl, hb4⟩
    rw [HE1.out]
    have HB4 := Lib.hid hb4
    clear hb4 m0 m1 m2 n0 n1 n2 n3 n4 n5 n6 n7 k0 k1 k2 k3 k4 k5 k6 k7
    obtain ⟨⟨m0, m1, m2⟩, ⟨n0, n1, n2, n3, n4, n5, n6, n7⟩, _, _, _, _⟩ := HBX.out _ (HL.out _ HB4.out)
    obtain ⟨k0, k1, k2, k3, k4, k5, k6, k7⟩ := (HXx.out _ HB4.out).cells
    by_cases hf : rejectErr p s tag = 0
    · have bf : (rejectErr p s tag == 0) = true := by simp [hf]
      obtain ⟨f0, f1, f2, f3, f4⟩ := HFB.out hf
      have HG1 := Lib.hid f1
      have HG2 := Lib.hid f2
      have d1' : ((Y.outs.length : Int) != (s.outs.length : Int) - 1) = false := by rw [f3]; simp
      have d2' : (Y.acked != s.acked) = false := by rw [f4]; simp
      clear f0 f1 f2 f3 f4
      clear hf he
      have HB4 := HB4
      go_upto_region 8 with fail
      clear m0 m1 m2 n0 n1 n2 n3 n4 n5 n6 n7 k0 k1 k2 k3 k4 k5 k6 k7
      obtain ⟨⟨m0, m1, m2⟩, ⟨n0, n1, n2, n3, n4, n5, n6, n7⟩, _, _, _, _⟩ := HBX.out _ (HL.out _ HB4.out)
      obtain ⟨k0, k1, k2, k3, k4, k5, k6, k7⟩ := (HXy.out _ HB4.out).cells
      go_wp2_with fail
      refine (Reject_any p Y tag back p1 p2 p3 y1 y2 y3 q1 q2 q3 yc1 yc2 yc3 ry w4 (HBX.out _ (HL.out _ HB4.out)).env (HBX.out _ (HL.out _ HB4.out)).planAt HPS.out (HXy.out _ HB4.out).at_ HSMy.out.1 HSMy.out.2).mono ?_
      rintro e w3 ⟨v1, v2, v3, vc1, vc2, vc3, rv, rfl, hs, hb⟩
      have hb := HB4.out.trans (hb.mono HB4.out.size)
      rw [HG2.out]
      clear m0 m1 m2 n0 n1 n2 n3 n4 n5 n6 n7 k0 k1 k2 k3 k4 k5 k6 k7
      unfold stateV vState
      generalize rejectS p Y tag back = V at *
      go_upto_region 9 with fail
      obtain ⟨WV, hW1⟩ : ∃ ww, w3.alloc (.cells #[.slice v1 V.ready.length vc1, .slice v2 V.outs.length vc2, .slice v3 V.takers.length vc3, .int .i64 V.nextSeq, .int .i64 V.nextTag, .int .i64 V.came, .int .i64 V.acked, .int .i64 V.dropped] 31) = ww := ⟨_, rfl⟩
      have HNv := Lib.hid (box_since (x := V) vc1 vc2 vc3 hs hb hW1)
      rw [hW1]
      clear hW1 hs hb
      have HL : Hid (∀ W, Below WV.heap.size WV W → Below W0.heap.size W0 W) := Lib.hid fun W h => HL.out _ (HNv.out _ h).2
      have HXy : Hid (∀ W, Below WV.heap.size WV W → BoxS W _ Y y1 y2 y3 yc1 yc2 yc3 ry) := Lib.hid fun W h => HXy.out _ (HNv.out _ h).2
      obtain ⟨⟨m0, m1, m2⟩, ⟨n0, n1, n2, n3, n4, n5, n6, n7⟩, _, _, _, _⟩ := HBX.out _ (HL.out _ (Below.refl _ _))
      obtain ⟨k0, k1, k2, k3, k4, k5, k6, k7⟩ := (HXy.out _ (Below.refl _ _)).cells
      go_wp2_with fail
      refine (SCheck_any p Y  p1 p2 p3 y1 y2 y3 q1 q2 q3 yc1 yc2 yc3 ry WV (HBX.out _ (HL.out _ (Below.refl _ _))).env (HBX.out _ (HL.out _ (Below.refl _ _))).planAt HPS.out (HXy.out _ (Below.refl _ _)).at_ HSMy.out.1 HSMy.out.2).mono ?_
      rintro e w5 ⟨rfl, hb5⟩
      rw [HG1.out]
      have HB5 := Lib.hid hb5
      clear hb5 m0 m1 m2 n0 n1 n2 n3 n4 n5 n6 n7 k0 k1 k2 k3 k4 k5 k6 k7
      obtain ⟨⟨m0, m1, m2⟩, ⟨n0, n1, n2, n3, n4, n5, n6, n7⟩, _, _, _, _⟩ := HBX.out _ (HL.out _ HB5.out)
      obtain ⟨k0, k1, k2, k3, k4, k5, k6, k7⟩ := (HXy.out _ HB5.out).cells
      go_upto_region 11 with fail
      clear k0 k1 k2 k3 k4 k5 k6 k7
      clear m0 m1 m2 n0 n1 n2 n3 n4 n5 n6 n7
      obtain ⟨⟨m0, m1, m2⟩, ⟨n0, n1, n2, n3, n4, n5, n6, n7⟩, _, _, _, _⟩ := HBX.out _ (HL.out _ HB5.out)
      go_wp2_with fail
      refine (HC3.out _ (HL.out _ HB5.out)).mono ?_
      rintro e w5 ⟨z1, z2, z3, zc1, zc2, zc3, rz, rfl, hs, hb⟩
      have hb := (show Below WV.heap.size WV _ from HB5.out).trans (hb.mono (show Below WV.heap.size WV _ from HB5.out).size)
      unfold stateV vState
      clear m0 m1 m2 n0 n1 n2 n3 n4 n5 n6 n7
      go_upto_region 12 with fail
      obtain ⟨WZ, hW1⟩ : ∃ ww, w5.alloc (.cells #[.slice z1 Z.ready.length zc1, .slice z2 Z.outs.length zc2, .slice z3 Z.takers.length zc3, .int .i64 Z.nextSeq, .int .i64 Z.nextTag, .int .i64 Z.came, .int .i64 Z.acked, .int .i64 Z.dropped] 31) = ww := ⟨_, rfl⟩
      have HNz := Lib.hid (box_since (x := Z) zc1 zc2 zc3 hs hb hW1)
      rw [hW1]
      clear hW1 hs hb
      have HL : Hid (∀ W, Below WZ.heap.size WZ W → Below W0.heap.size W0 W) := Lib.hid fun W h => HL.out _ (HNz.out _ h).2
      have HXz : Hid (∀ W, Below WZ.heap.size WZ W → BoxS W _ Z z1 z2 z3 zc1 zc2 zc3 rz) := Lib.hid fun W h => (HNz.out _ h).1
      by_cases hh : leaveErr p s t0 = 0
      · have bh : (leaveErr p s t0 != 0) = false := by simp [hh]
        obtain ⟨f1, f2, f3, f4, f5⟩ := HFC.out hh
        have HE1 := Lib.hid f1
        have HE2 := Lib.hid (And.intro f2 f3)
        have HE3 := Lib.hid f4
        have hzl : (Z.outs.length : Int) = (s.outs.length : Int) - (heldOut p s t0 : Int) := f5
        have hzb : ((Z.outs.length : Int) == (s.outs.length : Int) - (heldOut p s t0 : Int)) = true := by rw [f5]; simp
        have hwz : IntKind.i64.wrap ((s.outs.length : Int) - (heldOut p s t0 : Int)) = (s.outs.length : Int) - (heldOut p s t0 : Int) := IntWalk.i64_in _ (by rw [← f5]; have := HSMz.out.1.outs; omega)
        clear hh f1 f2 f3 f4 f5 hzl
        obtain ⟨⟨m0, m1, m2⟩, ⟨n0, n1, n2, n3, n4, n5, n6, n7⟩, _, _, _, _⟩ := HBX.out _ (HL.out _ (Below.refl _ _))
        obtain ⟨k0, k1, k2, k3, k4, k5, k6, k7⟩ := (HXz.out _ (Below.refl _ _)).cells
        go_wp2_with fail
        refine (Held_any p Z t0 p1 p2 p3 z1 z2 z3 q1 q2 q3 zc1 zc2 zc3 rz WZ (HBX.out _ (HL.out _ (Below.refl _ _))).env (HBX.out _ (HL.out _ (Below.refl _ _))).planAt HPS.out (HXz.out _ (Below.refl _ _)).at_ HSMz.out.1 HSMz.out.2).mono ?_
        rintro e w6 ⟨rfl, hb6⟩
        rw [HE2.out.1, HE2.out.2]
        have HB6 := Lib.hid hb6
        clear hb6 m0 m1 m2 n0 n1 n2 n3 n4 n5 n6 n7 k0 k1 k2 k3 k4 k5 k6 k7
        obtain ⟨⟨m0, m1, m2⟩, ⟨n0, n1, n2, n3, n4, n5, n6, n7⟩, _, _, _, _⟩ := HBX.out _ (HL.out _ HB6.out)
        go_wp2_with fail
        refine (HC4.out _ (HL.out _ HB6.out)).mono ?_
        rintro e w7 ⟨rfl, hb7⟩
        rw [HE3.out]
        have HB7 := Lib.hid (HB6.out.trans (hb7.mono HB6.out.size))
        generalize heldOut p s t0 = hn at *
        clear hb7 m0 m1 m2 n0 n1 n2 n3 n4 n5 n6 n7
        go_wp2_with fail
        refine (replyBegun_any _ (HBX.out _ (HL.out _ HB7.out)).env).mono ?_
        rintro e w8 ⟨rfl, hb8⟩
        have HB8 := Lib.hid (HB7.out.trans (hb8.mono HB7.out.size))
        clear hb8
        obtain ⟨⟨m0, m1, m2⟩, ⟨n0, n1, n2, n3, n4, n5, n6, n7⟩, _, _, _, _⟩ := HBX.out _ (HL.out _ HB8.out)
        obtain ⟨k0, k1, k2, k3, k4, k5, k6, k7⟩ := (HXz.out _ HB8.out).cells
        go_wp2_with fail
        refine (SCheck_any p Z  p1 p2 p3 z1 z2 z3 q1 q2 q3 zc1 zc2 zc3 rz w8 (HBX.out _ (HL.out _ HB8.out)).env (HBX.out _ (HL.out _ HB8.out)).planAt HPS.out (HXz.out _ HB8.out).at_ HSMz.out.1 HSMz.out.2).mono ?_
        rintro e w9 ⟨rfl, hb9⟩
        rw [HE1.out]
        have HB9 := Lib.hid (HB8.out.trans (hb9.mono HB8.out.size))
        clear hb9 m0 m1 m2 n0 n1 n2 n3 n4 n5 n6 n7 k0 k1 k2 k3 k4 k5 k6 k7
        obtain ⟨⟨m0, m1, m2⟩, ⟨n0, n1, n2, n3, n4, n5, n6, n7⟩, _, _, _, _⟩ := HBX.out _ (HL.out _ HB9.out)
        obtain ⟨k0, k1, k2, k3, k4, k5, k6, k7⟩ := (HXz.out _ HB9.out).cells
        go_wp2_with fail
        go_ret
        exact ⟨rfl, (HBX.out _ (HL.out _ HB9.out)).below⟩
      · have bh : (leaveErr p s t0 != 0) = true := by simp [hh]
        clear hh
        go_wp2_with fail
        refine (replyBegun_any _ (HBX.out _ (HL.out _ (Below.refl _ _))).env).mono ?_
        rintro e w8 ⟨rfl, hb8⟩
        have HB8 := Lib.hid hb8
        clear hb8
        go_wp2_with fail
        go_ret
        exact ⟨rfl, (HBX.out _ (HL.out _ HB8.out)).below⟩
    · have bf : (rejectErr p s tag == 0) = false := by simp [hf]
      clear hf he
      go_upto_region 11 with fail
      clear k0 k1 k2 k3 k4 k5 k6 k7
      clear m0 m1 m2 n0 n1 n2 n3 n4 n5 n6 n7
      obtain ⟨⟨m0, m1, m2⟩, ⟨n0, n1, n2, n3, n4, n5, n6, n7⟩, _, _, _, _⟩ := HBX.out _ (HL.out _ HB4.out)
      go_wp2_with fail
      refine (HC3.out _ (HL.out _ HB4.out)).mono ?_
      rintro e w5 ⟨z1, z2, z3, zc1, zc2, zc3, rz, rfl, hs, hb⟩
      have hb := (show Below WU.heap.size WU _ from HB4.out).trans (hb.mono (show Below WU.heap.size WU _ from HB4.out).size)
      unfold stateV vState
      clear m0 m1 m2 n0 n1 n2 n3 n4 n5 n6 n7
      go_upto_region 12 with fail
      obtain ⟨WZ, hW1⟩ : ∃ ww, w5.alloc (.cells #[.slice z1 Z.ready.length zc1, .slice z2 Z.outs.length zc2, .slice z3 Z.takers.length zc3, .int .i64 Z.nextSeq, .int .i64 Z.nextTag, .int .i64 Z.came, .int .i64 Z.acked, .int .i64 Z.dropped] 31) = ww := ⟨_, rfl⟩
      have HNz := Lib.hid (box_since (x := Z) zc1 zc2 zc3 hs hb hW1)
      rw [hW1]
      clear hW1 hs hb
      have HL : Hid (∀ W, Below WZ.heap.size WZ W → Below W0.heap.size W0 W) := Lib.hid fun W h => HL.out _ (HNz.out _ h).2
      have HXz : Hid (∀ W, Below WZ.heap.size WZ W → BoxS W _ Z z1 z2 z3 zc1 zc2 zc3 rz) := Lib.hid fun W h => (HNz.out _ h).1
      by_cases hh : leaveErr p s t0 = 0
      · have bh : (leaveErr p s t0 != 0) = false := by simp [hh]
        obtain ⟨f1, f2, f3, f4, f5⟩ := HFC.out hh
        have HE1 := Lib.hid f1
        have HE2 := Lib.hid (And.intro f2 f3)
        have HE3 := Lib.hid f4
        have hzl : (Z.outs.length : Int) = (s.outs.length : Int) - (heldOut p s t0 : Int) := f5
        have hzb : ((Z.outs.length : Int) == (s.outs.length : Int) - (heldOut p s t0 : Int)) = true := by rw [f5]; simp
        have hwz : IntKind.i64.wrap ((s.outs.length : Int) - (heldOut p s t0 : Int)) = (s.outs.length : Int) - (heldOut p s t0 : Int) := IntWalk.i64_in _ (by rw [← f5]; have := HSMz.out.1.outs; omega)
        clear hh f1 f2 f3 f4 f5 hzl
        obtain ⟨⟨m0, m1, m2⟩, ⟨n0, n1, n2, n3, n4, n5, n6, n7⟩, _, _, _, _⟩ := HBX.out _ (HL.out _ (Below.refl _ _))
        obtain ⟨k0, k1, k2, k3, k4, k5, k6, k7⟩ := (HXz.out _ (Below.refl _ _)).cells
        go_wp2_with fail
        refine (Held_any p Z t0 p1 p2 p3 z1 z2 z3 q1 q2 q3 zc1 zc2 zc3 rz WZ (HBX.out _ (HL.out _ (Below.refl _ _))).env (HBX.out _ (HL.out _ (Below.refl _ _))).planAt HPS.out (HXz.out _ (Below.refl _ _)).at_ HSMz.out.1 HSMz.out.2).mono ?_
        rintro e w6 ⟨rfl, hb6⟩
        rw [HE2.out.1, HE2.out.2]
        have HB6 := Lib.hid hb6
        clear hb6 m0 m1 m2 n0 n1 n2 n3 n4 n5 n6 n7 k0 k1 k2 k3 k4 k5 k6 k7
        obtain ⟨⟨m0, m1, m2⟩, ⟨n0, n1, n2, n3, n4, n5, n6, n7⟩, _, _, _, _⟩ := HBX.out _ (HL.out _ HB6.out)
        go_wp2_with fail
        refine (HC4.out _ (HL.out _ HB6.out)).mono ?_
        rintro e w7 ⟨rfl, hb7⟩
        rw [HE3.out]
        have HB7 := Lib.hid (HB6.out.trans (hb7.mono HB6.out.size))
        generalize heldOut p s t0 = hn at *
        clear hb7 m0 m1 m2 n0 n1 n2 n3 n4 n5 n6 n7
        go_wp2_with fail
        refine (replyBegun_any _ (HBX.out _ (HL.out _ HB7.out)).env).mono ?_
        rintro e w8 ⟨rfl, hb8⟩
        have HB8 := Lib.hid (HB7.out.trans (hb8.mono HB7.out.size))
        clear hb8
        obtain ⟨⟨m0, m1, m2⟩, ⟨n0, n1, n2, n3, n4, n5, n6, n7⟩, _, _, _, _⟩ := HBX.out _ (HL.out _ HB8.out)
        obtain ⟨k0, k1, k2, k3, k4, k5, k6, k7⟩ := (HXz.out _ HB8.out).cells
        go_wp2_with fail
        refine (SCheck_any p Z  p1 p2 p3 z1 z2 z3 q1 q2 q3 zc1 zc2 zc3 rz w8 (HBX.out _ (HL.out _ HB8.out)).env (HBX.out _ (HL.out _ HB8.out)).planAt HPS.out (HXz.out _ HB8.out).at_ HSMz.out.1 HSMz.out.2).mono ?_
        rintro e w9 ⟨rfl, hb9⟩
        rw [HE1.out]
        have HB9 := Lib.hid (HB8.out.trans (hb9.mono HB8.out.size))
        clear hb9 m0 m1 m2 n0 n1 n2 n3 n4 n5 n6 n7 k0 k1 k2 k3 k4 k5 k6 k7
        obtain ⟨⟨m0, m1, m2⟩, ⟨n0, n1, n2, n3, n4, n5, n6, n7⟩, _, _, _, _⟩ := HBX.out _ (HL.out _ HB9.out)
        obtain ⟨k0, k1, k2, k3, k4, k5, k6, k7⟩ := (HXz.out _ HB9.out).cells
        go_wp2_with fail
        go_ret
        exact ⟨rfl, (HBX.out _ (HL.out _ HB9.out)).below⟩
      · have bh : (leaveErr p s t0 != 0) = true := by simp [hh]
        clear hh
        go_wp2_with fail
        refine (replyBegun_any _ (HBX.out _ (HL.out _ (Below.refl _ _))).env).mono ?_
        rintro e w8 ⟨rfl, hb8⟩
        have HB8 := Lib.hid hb8
        clear hb8
        go_wp2_with fail
        go_ret
        exact ⟨rfl, (HBX.out _ (HL.out _ HB8.out)).below⟩
  · have be : (ackErr p s tag == 0) = false := by simp [he]
    have bf : (rejectErr p s tag == 0) = false := by simp; exact fun h => he (HFB.out h).1
    clear he
    obtain ⟨⟨m0, m1, m2⟩, ⟨n0, n1, n2, n3, n4, n5, n6, n7⟩, _, _, _, _⟩ := HBX.out _ (HL.out _ (Below.refl _ _))
    go_upto_region 11 with fail
    clear m0 m1 m2 n0 n1 n2 n3 n4 n5 n6 n7
    obtain ⟨⟨m0, m1, m2⟩, ⟨n0, n1, n2, n3, n4, n5, n6, n7⟩, _, _, _, _⟩ := HBX.out _ (HL.out _ (Below.refl _ _))
    go_wp2_with fail
    refine (HC3.out _ (HL.out _ (Below.refl _ _))).mono ?_
    rintro e w5 ⟨z1, z2, z3, zc1, zc2, zc3, rz, rfl, hs, hb⟩
    have hb := (show Below WY.heap.size WY _ from (Below.refl _ _)).trans (hb.mono (show Below WY.heap.size WY _ from (Below.refl _ _)).size)
    unfold stateV vState
    clear m0 m1 m2 n0 n1 n2 n3 n4 n5 n6 n7
    go_upto_region 12 with fail
    obtain ⟨WZ, hW1⟩ : ∃ ww, w5.alloc (.cells #[.slice z1 Z.ready.length zc1, .slice z2 Z.outs.length zc2, .slice z3 Z.takers.length zc3, .int .i64 Z.nextSeq, .int .i64 Z.nextTag, .int .i64 Z.came, .int .i64 Z.acked, .int .i64 Z.dropped] 31) = ww := ⟨_, rfl⟩
    have HNz := Lib.hid (box_since (x := Z) zc1 zc2 zc3 hs hb hW1)
    rw [hW1]
    clear hW1 hs hb
    have HL : Hid (∀ W, Below WZ.heap.size WZ W → Below W0.heap.size W0 W) := Lib.hid fun W h => HL.out _ (HNz.out _ h).2
    have HXz : Hid (∀ W, Below WZ.heap.size WZ W → BoxS W _ Z z1 z2 z3 zc1 zc2 zc3 rz) := Lib.hid fun W h => (HNz.out _ h).1
    by_cases hh : leaveErr p s t0 = 0
    · have bh : (leaveErr p s t0 != 0) = false := by simp [hh]
      obtain ⟨f1, f2, f3, f4, f5⟩ := HFC.out hh
      have HE1 := Lib.hid f1
      have HE2 := Lib.hid (And.intro f2 f3)
      have HE3 := Lib.hid f4
      have hzl : (Z.outs.length : Int) = (s.outs.length : Int) - (heldOut p s t0 : Int) := f5
      have hzb : ((Z.outs.length : Int) == (s.outs.length : Int) - (heldOut p s t0 : Int)) = true := by rw [f5]; simp
      have hwz : IntKind.i64.wrap ((s.outs.length : Int) - (heldOut p s t0 : Int)) = (s.outs.length : Int) - (heldOut p s t0 : Int) := IntWalk.i64_in _ (by rw [← f5]; have := HSMz.out.1.outs; omega)
      clear hh f1 f2 f3 f4 f5 hzl
      obtain ⟨⟨m0, m1, m2⟩, ⟨n0, n1, n2, n3, n4, n5, n6, n7⟩, _, _, _, _⟩ := HBX.out _ (HL.out _ (Below.refl _ _))
      obtain ⟨k0, k1, k2, k3, k4, k5, k6, k7⟩ := (HXz.out _ (Below.refl _ _)).cells
      go_wp2_with fail
      refine (Held_any p Z t0 p1 p2 p3 z1 z2 z3 q1 q2 q3 zc1 zc2 zc3 rz WZ (HBX.out _ (HL.out _ (Below.refl _ _))).env (HBX.out _ (HL.out _ (Below.refl _ _))).planAt HPS.out (HXz.out _ (Below.refl _ _)).at_ HSMz.out.1 HSMz.out.2).mono ?_
      rintro e w6 ⟨rfl, hb6⟩
      rw [HE2.out.1, HE2.out.2]
      have HB6 := Lib.hid hb6
      clear hb6 m0 m1 m2 n0 n1 n2 n3 n4 n5 n6 n7 k0 k1 k2 k3 k4 k5 k6 k7
      obtain ⟨⟨m0, m1, m2⟩, ⟨n0, n1, n2, n3, n4, n5, n6, n7⟩, _, _, _, _⟩ := HBX.out _ (HL.out _ HB6.out)
      go_wp2_with fail
      refine (HC4.out _ (HL.out _ HB6.out)).mono ?_
      rintro e w7 ⟨rfl, hb7⟩
      rw [HE3.out]
      have HB7 := Lib.hid (HB6.out.trans (hb7.mono HB6.out.size))
      generalize heldOut p s t0 = hn at *
      clear hb7 m0 m1 m2 n0 n1 n2 n3 n4 n5 n6 n7
      go_wp2_with fail
      refine (replyBegun_any _ (HBX.out _ (HL.out _ HB7.out)).env).mono ?_
      rintro e w8 ⟨rfl, hb8⟩
      have HB8 := Lib.hid (HB7.out.trans (hb8.mono HB7.out.size))
      clear hb8
      obtain ⟨⟨m0, m1, m2⟩, ⟨n0, n1, n2, n3, n4, n5, n6, n7⟩, _, _, _, _⟩ := HBX.out _ (HL.out _ HB8.out)
      obtain ⟨k0, k1, k2, k3, k4, k5, k6, k7⟩ := (HXz.out _ HB8.out).cells
      go_wp2_with fail
      refine (SCheck_any p Z  p1 p2 p3 z1 z2 z3 q1 q2 q3 zc1 zc2 zc3 rz w8 (HBX.out _ (HL.out _ HB8.out)).env (HBX.out _ (HL.out _ HB8.out)).planAt HPS.out (HXz.out _ HB8.out).at_ HSMz.out.1 HSMz.out.2).mono ?_
      rintro e w9 ⟨rfl, hb9⟩
      rw [HE1.out]
      have HB9 := Lib.hid (HB8.out.trans (hb9.mono HB8.out.size))
      clear hb9 m0 m1 m2 n0 n1 n2 n3 n4 n5 n6 n7 k0 k1 k2 k3 k4 k5 k6 k7
      obtain ⟨⟨m0, m1, m2⟩, ⟨n0, n1, n2, n3, n4, n5, n6, n7⟩, _, _, _, _⟩ := HBX.out _ (HL.out _ HB9.out)
      obtain ⟨k0, k1, k2, k3, k4, k5, k6, k7⟩ := (HXz.out _ HB9.out).cells
      go_wp2_with fail
      go_ret
      exact ⟨rfl, (HBX.out _ (HL.out _ HB9.out)).below⟩
    · have bh : (leaveErr p s t0 != 0) = true := by simp [hh]
      clear hh
      go_wp2_with fail
      refine (replyBegun_any _ (HBX.out _ (HL.out _ (Below.refl _ _))).env).mono ?_
      rintro e w8 ⟨rfl, hb8⟩
      have HB8 := Lib.hid hb8
      clear hb8
      go_wp2_with fail
      go_ret
      exact ⟨rfl, (HBX.out _ (HL.out _ HB8.out)).below⟩

theorem replyTrue_any (p : PlanD) (p1 p2 p3 : Option Addr) (q1 q2 q3 : Nat) (s : StateD) (a1 a2 a3 : Option Addr) (c1 c2 c3 : Nat) (rows : List RowD) (tag : Int) (back : Bool) (t0 : Int) (w : World) (hp : PlanAt w 0 w.heap.size p1 p2 p3 p) (hps : PlanSmall p) (_ : PlanInts p) (hs : StateAt w 0 w.heap.size a1 a2 a3 rows s) (hss : StateSmall s) (hsi : StateInts s)
    (_ : s.ready.length ≤ c1 ∧ s.outs.length ≤ c2 ∧ s.takers.length ≤ c3) (_ : -9223372036854775808 ≤ tag ∧ tag ≤ 9223372036854775807) (_ : -9223372036854775808 ≤ t0 ∧ t0 ≤ 9223372036854775807) (hE : Env w) :
    Calls Tryz.prog 9 #[planV p p1 p2 p3 q1 q2 q3, stateV s a1 a2 a3 c1 c2 c3, .int .i64 tag, .bool back, .int .i64 t0] w fun e w' => e = .returned (.bool true) ∧ Below w.heap.size w w' :=
  replyTrue_go p s tag back t0 p1 p2 p3 a1 a2 a3 q1 q2 q3 c1 c2 c3 rows w hE hp hps hs hss hsi

end Go.Proofs.YtfbgmgadpjpdcaaGreatDoor
