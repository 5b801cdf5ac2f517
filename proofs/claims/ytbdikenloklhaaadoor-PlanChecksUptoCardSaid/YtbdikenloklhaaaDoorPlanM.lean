/-
  PlanChecks and PlanFits answer true at every plan whose texts and rows are of at most 2^20.
-/
import Derived.Test.YtbdikenloklhaaaDoorPlanL
import Derived.Test.YtbdikenloklhaaaDoorOpenB
namespace Go.Proofs.YtbdikenloklhaaaDoor
open Go.RowKit
set_option maxRecDepth 100000

set_option maxHeartbeats 2000000 in
theorem planFits_any (p : PlanD) (a1 a2 a3 : Option Addr) (c1 c2 c3 : Nat) (n : Int) (key : ByteArray) (w : World) (hp : PlanAt w 0 w.heap.size a1 a2 a3 p) (hs : PlanSmall p) (_hi : PlanInts p) (_hn : -9223372036854775808 ≤ n ∧ n ≤ 9223372036854775807) (hk : key.size ≤ 1048576) (hE : Env w) :
    Calls Tryd.prog 4 #[planV p a1 a2 a3 c1 c2 c3, .int .i64 n, .string key] w fun e w' => e = .returned (.bool true) ∧ Below w.heap.size w w' := by
  have HS := Lib.hid hs; clear hs
  have HE := Lib.hid hE; clear hE
  have hbx := boxed_new hp c1 c2 c3 26
  unfold planV
  clear hp
  go_enter Tryd.func4, Tryd.ntmps4
  obtain ⟨m0, m1, m2⟩ := (hbx _ (Below.refl _ _)).2.1
  have HBX := Lib.hid hbx; clear hbx
  go_wp2_with fail
  generalize w.alloc (.cells #[Value.slice a1 p.posts.length c1, Value.slice a2 p.queues.length c2, Value.slice a3 p.binds.length c3] 26) = W0 at *
  refine (Fits_any p n key a1 a2 a3 c1 c2 c3 0 W0 (below_env (HBX.out W0 (Below.refl _ _)).2.2 HE.out) ((HBX.out W0 (Below.refl _ _)).1) HS.out hk).mono ?_
  rintro e W1 ⟨rfl, hB1⟩
  have HB1 := Lib.hid hB1; clear hB1 m0 m1 m2
  obtain ⟨m0, m1, m2⟩ := (HBX.out _ HB1.out).2.1
  go_wp2_with fail
  refine (FitsOf_any p n key a1 a2 a3 c1 c2 c3 0 W1 (((HBX.out _ HB1.out).1).wider (Nat.le_refl _) HB1.out.size) HS.out hk).mono ?_
  rintro e W2 ⟨rfl, hB2⟩
  have HB2 := Lib.hid (HB1.out.trans (hB2.mono HB1.out.size)); clear hB2 HB1 m0 m1 m2
  go_wp2_with fail
  refine (planBegun_any W2 (below_env (HBX.out _ HB2.out).2.2 HE.out)).mono ?_
  rintro e W3 ⟨rfl, hB3⟩
  have HB3 := Lib.hid (HB2.out.trans (hB3.mono HB2.out.size)); clear hB3 HB2
  go_wp2_with fail
  go_ret
  exact ⟨rfl, (HBX.out _ HB3.out).2.2⟩

theorem boxed_env {w W0 W : World} {p : PlanD} {a1 a2 a3 : Option Addr} {c1 c2 c3 : Nat} (h : Boxed w W0 p a1 a2 a3 c1 c2 c3) (hE : Env w) {C : Prop} (hW : C ∧ Below W0.heap.size W0 W) : Env W := below_env (h W hW.2).2.2 hE
theorem boxed_plan {w W0 W : World} {p : PlanD} {a1 a2 a3 : Option Addr} {c1 c2 c3 : Nat} (h : Boxed w W0 p a1 a2 a3 c1 c2 c3) {C : Prop} (hW : C ∧ Below W0.heap.size W0 W) : PlanAt W 0 W.heap.size a1 a2 a3 p := (h W hW.2).1.wider (Nat.le_refl _) hW.2.size
theorem since_step {W0 W W' : World} {C : Prop} (hW : C ∧ Below W0.heap.size W0 W) (hb : Below W.heap.size W W') : Below W0.heap.size W0 W' := hW.2.trans (hb.mono hW.2.size)
theorem boxed_keep {w W0 W : World} {p : PlanD} {a1 a2 a3 : Option Addr} {c1 c2 c3 : Nat} (h : Boxed w W0 p a1 a2 a3 c1 c2 c3) (hW : Below W0.heap.size W0 W) :
    (W.cell? ⟨w.heap.size, 0, none⟩ = some (.slice a1 p.posts.length c1) ∧ W.cell? ⟨w.heap.size, 1, none⟩ = some (.slice a2 p.queues.length c2) ∧ W.cell? ⟨w.heap.size, 2, none⟩ = some (.slice a3 p.binds.length c3)) ∧ Below W0.heap.size W0 W := ⟨(h W hW).2.1, hW⟩

set_option maxHeartbeats 4000000 in
theorem planChecks_any (p : PlanD) (a1 a2 a3 : Option Addr) (c1 c2 c3 : Nat) (s : ByteArray) (w : World) (hp : PlanAt w 0 w.heap.size a1 a2 a3 p) (hs : PlanSmall p) (_hi : PlanInts p) (hk : s.size ≤ 1048576) (hE : Env w) :
    Calls Tryd.prog 3 #[planV p a1 a2 a3 c1 c2 c3, .string s] w fun e w' => e = .returned (.bool true) ∧ Below w.heap.size w w' := by
  have HS := Lib.hid hs; clear hs
  have HE := Lib.hid hE; clear hE
  have hbx := boxed_new hp c1 c2 c3 26
  unfold planV
  clear hp
  have hks : s.size < 4294967281 := by omega
  go_enter Tryd.func3, Tryd.ntmps3
  have HBX := Lib.hid hbx; clear hbx
  go_wp2_with fail
  generalize w.alloc (.cells #[Value.slice a1 p.posts.length c1, Value.slice a2 p.queues.length c2, Value.slice a3 p.binds.length c3] 26) = W0 at *
  go_region_held3 (fun W => (W.cell? ⟨w.heap.size, 0, none⟩ = some (.slice a1 p.posts.length c1) ∧ W.cell? ⟨w.heap.size, 1, none⟩ = some (.slice a2 p.queues.length c2) ∧ W.cell? ⟨w.heap.size, 2, none⟩ = some (.slice a3 p.binds.length c3)) ∧ Below W0.heap.size W0 W)
    (first | exact boxed_keep HBX.out (by assumption) | exact boxed_keep HBX.out (Below.refl _ _).drew)
    (first
      | (go_at_call 13; refine (planBegun_any _ (boxed_env HBX.out HE.out (by assumption))).mono ?_; rintro e w1 ⟨rfl, hb⟩; have hb1 := since_step (by assumption) hb; clear hb)
      | (go_at_call 14; refine (Check_any p a1 a2 a3 c1 c2 c3 0 _ (boxed_env HBX.out HE.out (by assumption)) (boxed_plan HBX.out (by assumption)) HS.out).mono ?_; rintro e w2 ⟨rfl, hb⟩; have hb2 := since_step (by assumption) hb; clear hb)
      | (go_at_call 15; refine (CheckPlan_any p a1 a2 a3 c1 c2 c3 0 _ (boxed_plan HBX.out (by assumption)) HS.out).mono ?_; rintro e w3 ⟨rfl, hb⟩; have hb3 := since_step (by assumption) hb; clear hb)
      | (go_at_call 16; refine (Name_any s _).mono ?_; rintro e w4 ⟨rfl, hb⟩; have hb4 := since_step (by assumption) hb; clear hb)
      | (go_at_call 17; refine (IsName_any s hks _).mono ?_; rintro e w5 ⟨rfl, rfl⟩))
  all_goals go_wp2
  all_goals go_ret
  all_goals exact ⟨by simp, (HBX.out _ (by assumption)).2.2⟩

end Go.Proofs.YtbdikenloklhaaaDoor
