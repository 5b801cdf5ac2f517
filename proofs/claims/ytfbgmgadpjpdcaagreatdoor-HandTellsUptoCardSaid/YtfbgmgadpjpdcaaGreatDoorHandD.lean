/-
  The law HandTells answers true.
-/
import Derived.Test.YtfbgmgadpjpdcaaGreatDoorHandC
import Derived.Test.YtfbgmgadpjpdcaaGreatDoorBunBB
set_option linter.unusedSimpArgs false
set_option linter.unusedVariables false
namespace Go.Proofs.YtfbgmgadpjpdcaaGreatDoor
open Go Go.RowKit
set_option maxRecDepth 100000

theorem publish_small (p : PlanD) (s : StateD) (x : Int) (key body : ByteArray) : StateSmall (publishS p s x key body) ∧ StateInts (publishS p s x key body) := by
  unfold publishS
  split
  · exact arrive_small _ _ _
  · exact ⟨zero_small, zero_ints⟩
set_option maxHeartbeats 4000000 in
theorem handTells_go (p : PlanD) (s : StateD) (x : Int) (key body : ByteArray) (p1 p2 p3 a1 a2 a3 : Option Addr) (q1 q2 q3 c1 c2 c3 : Nat) (rows : List RowD) (w : World) (hE : Env w) (hp : PlanAt w 0 w.heap.size p1 p2 p3 p) (hps : PlanSmall p) (hs : StateAt w 0 w.heap.size a1 a2 a3 rows s) (hss : StateSmall s) (hsi : StateInts s) (hx : -9223372036854775808 ≤ x ∧ x ≤ 9223372036854775807) (hkey : key.size ≤ 1048576) (hbody : body.size ≤ 1048576) :
    Calls Tryz.prog 5 #[planV p p1 p2 p3 q1 q2 q3, stateV s a1 a2 a3 c1 c2 c3, .int .i64 x, .string key, .string body] w fun e w' => e = .returned (.bool true) ∧ Below w.heap.size w w' := by
  have hbx := two_boxes q1 q2 q3 c1 c2 c3 hE hp hs 26 31
  unfold vState at hbx
  unfold stateV planV vState
  have HBX := Lib.hid hbx
  have HPS := Lib.hid hps
  have HSS := Lib.hid hss
  have HSI := Lib.hid hsi
  clear hbx hE hp hs hps hss hsi
  go_enter Tryz.func5, Tryz.ntmps5
  obtain ⟨⟨m0, m1, m2⟩, ⟨n0, n1, n2, n3, n4, n5, n6, n7⟩, _, _, _, _⟩ := HBX.out _ (Below.refl _ _)
  go_wp2_with fail
  clear m0 m1 m2 n0 n1 n2 n3 n4 n5 n6 n7
  generalize ((w.alloc (.cells #[.slice p1 p.posts.length q1, .slice p2 p.queues.length q2, .slice p3 p.binds.length q3] 26)).alloc (.cells #[Value.slice a1 s.ready.length c1, Value.slice a2 s.outs.length c2, Value.slice a3 s.takers.length c3, Value.int IntKind.i64 s.nextSeq, Value.int IntKind.i64 s.nextTag, Value.int IntKind.i64 s.came, Value.int IntKind.i64 s.acked, Value.int IntKind.i64 s.dropped] 31)) = W0 at *
  have HC1 : Hid (∀ W, Below W0.heap.size W0 W → Calls Tryz.prog 21 #[.agg #[.slice p1 p.posts.length q1, .slice p2 p.queues.length q2, .slice p3 p.binds.length q3], .agg #[.slice a1 s.ready.length c1, .slice a2 s.outs.length c2, .slice a3 s.takers.length c3, .int .i64 s.nextSeq, .int .i64 s.nextTag, .int .i64 s.came, .int .i64 s.acked, .int .i64 s.dropped], .int .i64 x, .string key, .string body] W (ArPost (publishS p s x key body) (publishN p s x key body) (publishErr p s x key body) W)) := fun W hW =>
    Publish_any p s x key body p1 p2 p3 a1 a2 a3 q1 q2 q3 c1 c2 c3 rows W (HBX.out _ hW).env (HBX.out _ hW).planAt HPS.out (HBX.out _ hW).stateAt HSS.out HSI.out hkey hbody hx
  have HC2 : Hid (∀ W, Below W0.heap.size W0 W → Calls Tryz.prog 22 #[.agg #[.slice p1 p.posts.length q1, .slice p2 p.queues.length q2, .slice p3 p.binds.length q3], .agg #[.slice a1 s.ready.length c1, .slice a2 s.outs.length c2, .slice a3 s.takers.length c3, .int .i64 s.nextSeq, .int .i64 s.nextTag, .int .i64 s.came, .int .i64 s.acked, .int .i64 s.dropped], .int .i64 x, .string key, .string body] W (ArPost (publishS p s x key body) (publishN p s x key body) (publishErr p s x key body) W)) := fun W hW =>
    PublishOf_any p s x key body p1 p2 p3 a1 a2 a3 q1 q2 q3 c1 c2 c3 rows W (HBX.out _ hW).env (HBX.out _ hW).planAt HPS.out (HBX.out _ hW).stateAt HSS.out HSI.out hkey hbody hx
  have HJ : Hid (StateSmall (publishS p s x key body)) := (publish_small p s x key body).1
  generalize publishS p s x key body = X at *
  generalize publishN p s x key body = n at *
  generalize publishErr p s x key body = er at *
  refine (HC1.out _ (Below.refl _ _)).mono ?_
  rintro e w1 ⟨x1, x2, x3, xc1, xc2, xc3, rx, rfl, hs1, hb1⟩
  unfold stateV vState
  obtain ⟨⟨m0, m1, m2⟩, ⟨n0, n1, n2, n3, n4, n5, n6, n7⟩, _, _, _, _⟩ := HBX.out _ hb1
  go_upto_region 2 with fail
  obtain ⟨W1, hW1⟩ : ∃ W1, w1.alloc (.cells #[.slice x1 X.ready.length xc1, .slice x2 X.outs.length xc2, .slice x3 X.takers.length xc3, .int .i64 X.nextSeq, .int .i64 X.nextTag, .int .i64 X.came, .int .i64 X.acked, .int .i64 X.dropped] 31) = W1 := ⟨_, rfl⟩
  have HX := Lib.hid (box_since (x := X) xc1 xc2 xc3 hs1 hb1 hW1)
  rw [hW1]
  clear hW1
  clear hs1 hb1 m0 m1 m2 n0 n1 n2 n3 n4 n5 n6 n7
  obtain ⟨⟨m0, m1, m2⟩, ⟨n0, n1, n2, n3, n4, n5, n6, n7⟩, _, _, _, _⟩ := HBX.out _ (HX.out _ (Below.refl _ _)).2
  go_wp2_with fail
  refine (HC2.out _ (HX.out _ (Below.refl _ _)).2).mono ?_
  rintro e w2 ⟨y1, y2, y3, yc1, yc2, yc3, ry, rfl, hs2, hb2⟩
  unfold stateV vState
  clear m0 m1 m2 n0 n1 n2 n3 n4 n5 n6 n7
  go_upto_region 3 with fail
  obtain ⟨W2, hW1⟩ : ∃ W2, w2.alloc (.cells #[.slice y1 X.ready.length yc1, .slice y2 X.outs.length yc2, .slice y3 X.takers.length yc3, .int .i64 X.nextSeq, .int .i64 X.nextTag, .int .i64 X.came, .int .i64 X.acked, .int .i64 X.dropped] 31) = W2 := ⟨_, rfl⟩
  have HY := Lib.hid (box_since (x := X) yc1 yc2 yc3 hs2 hb2 hW1)
  rw [hW1]
  clear hW1
  clear hs2 hb2
  go_wp2_with fail
  refine (handBegun_any _ (HBX.out _ (HX.out _ (HY.out _ (Below.refl _ _)).2).2).env).mono ?_
  rintro e w3 ⟨rfl, hb3⟩
  have HB3 := Lib.hid hb3
  clear hb3
  obtain ⟨n0, n1, n2, n3, n4, n5, n6, n7⟩ := (HX.out _ (HY.out _ HB3.out).2).1.cells
  obtain ⟨k0, k1, k2, k3, k4, k5, k6, k7⟩ := (HY.out _ HB3.out).1.cells
  go_wp2_with fail
  refine (SameStates_any X X x1 x2 x3 y1 y2 y3 xc1 xc2 xc3 yc1 yc2 yc3 rx ry w3 (HX.out _ (HY.out _ HB3.out).2).1.at_ HJ.out (HY.out _ HB3.out).1.at_ HJ.out).mono ?_
  rw [stateEq_refl]
  rintro e w4 ⟨rfl, hb4⟩
  have HB4 := Lib.hid (HB3.out.trans (hb4.mono HB3.out.size))
  clear hb4
  go_wp2_with fail
  go_ret
  exact ⟨rfl, (HBX.out _ (HX.out _ (HY.out _ HB4.out).2).2).below⟩

theorem handTells_any (p : PlanD) (p1 p2 p3 : Option Addr) (q1 q2 q3 : Nat) (s : StateD) (a1 a2 a3 : Option Addr) (c1 c2 c3 : Nat) (rows : List RowD) (x : Int) (key body : ByteArray) (w : World) (hp : PlanAt w 0 w.heap.size p1 p2 p3 p) (hps : PlanSmall p) (_ : PlanInts p) (hs : StateAt w 0 w.heap.size a1 a2 a3 rows s) (hss : StateSmall s) (hsi : StateInts s)
    (_ : s.ready.length ≤ c1 ∧ s.outs.length ≤ c2 ∧ s.takers.length ≤ c3) (hx : -9223372036854775808 ≤ x ∧ x ≤ 9223372036854775807) (hkey : key.size ≤ 1048576) (hbody : body.size ≤ 1048576) (hE : Env w) :
    Calls Tryz.prog 5 #[planV p p1 p2 p3 q1 q2 q3, stateV s a1 a2 a3 c1 c2 c3, .int .i64 x, .string key, .string body] w fun e w' => e = .returned (.bool true) ∧ Below w.heap.size w w' :=
  handTells_go p s x key body p1 p2 p3 a1 a2 a3 q1 q2 q3 c1 c2 c3 rows w hE hp hps hs hss hsi hx hkey hbody

end Go.Proofs.YtfbgmgadpjpdcaaGreatDoor
