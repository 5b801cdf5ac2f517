/-
  The laws WireWrites and WireBack answer true.
-/
import Derived.Test.YtapimpmpjighmaaDoorWireK
import Derived.Test.YtapimpmpjighmaaDoorWireM
namespace Go.Proofs.YtapimpmpjighmaaDoor
open Go.RowKit
set_option maxRecDepth 100000

/-- A plan in a box that is made now: it stays, and so do the facts of the world ahead. -/
structure PBoxed (w W : World) (g : Nat) (p : PlanD) (a1 a2 a3 : Option Addr) (c1 c2 c3 : Nat) : Prop where
  m0 : W.cell? ⟨g, 0, none⟩ = some (.slice a1 p.posts.length c1)
  m1 : W.cell? ⟨g, 1, none⟩ = some (.slice a2 p.queues.length c2)
  m2 : W.cell? ⟨g, 2, none⟩ = some (.slice a3 p.binds.length c3)
  planAt : PlanAt W 0 W.heap.size a1 a2 a3 p
  env : Env W
  below : Below w.heap.size w W
/-- From w on, at X: all that lies in X stays. -/
theorem pboxed_new {w X : World} {p : PlanD} {a1 a2 a3 : Option Addr} {lo : Nat} (hE : Env w) (hB : Below w.heap.size w X) (hp : PlanAt X lo X.heap.size a1 a2 a3 p) (c1 c2 c3 : Nat) (t : TypeId) :
    ∀ W, Below (X.alloc (.cells #[.slice a1 p.posts.length c1, .slice a2 p.queues.length c2, .slice a3 p.binds.length c3] t)).heap.size (X.alloc (.cells #[.slice a1 p.posts.length c1, .slice a2 p.queues.length c2, .slice a3 p.binds.length c3] t)) W → PBoxed w W X.heap.size p a1 a2 a3 c1 c2 c3 := by
  intro W hW
  have k := Bk.new X t #[.slice a1 p.posts.length c1, .slice a2 p.queues.length c2, .slice a3 p.binds.length c3]
  have b : Below X.heap.size X (X.alloc (.cells #[.slice a1 p.posts.length c1, .slice a2 p.queues.length c2, .slice a3 p.binds.length c3] t)) := (Below.refl _ _).alloc (Nat.le_refl _) _
  generalize X.alloc (.cells #[.slice a1 p.posts.length c1, .slice a2 p.queues.length c2, .slice a3 p.binds.length c3] t) = Y at *
  have b2 := b.trans (hW.mono b.size)
  have k2 := k.below hW k.lt
  have b3 := hB.trans (b2.mono hB.size)
  exact ⟨k2.cell 0, k2.cell 1, k2.cell 2, (hp.below b2 (Nat.le_refl _)).wider (Nat.zero_le _) b2.size, below_env b3 hE, b3⟩
theorem zero_plan (w : World) (lo hi : Nat) : PlanAt w lo hi none none none zeroP := ⟨.inl rfl, .inl rfl, .inl rfl⟩
theorem zero_plan_small : PlanSmall zeroP := small_of (by decide) (by decide) (by decide) (by decide) (by decide) (by decide)

set_option maxHeartbeats 4000000 in
theorem wireBack_go (p : PlanD) (s : ByteArray) (p1 p2 p3 : Option Addr) (q1 q2 q3 : Nat) (w : World) (hE : Env w) (hp : PlanAt w 0 w.heap.size p1 p2 p3 p) (hps : PlanSmall p) :
    Calls Tryd.prog 4 #[planV p p1 p2 p3 q1 q2 q3, .string s] w fun e w' => e = .returned (.bool true) ∧ Below w.heap.size w w' := by
  have hbx := pboxed_new hE (Below.refl _ _) hp q1 q2 q3 26
  unfold planV
  have HBX := Lib.hid hbx
  have HPS := Lib.hid hps
  have HE := Lib.hid hE
  clear hbx hE hp hps
  go_enter Tryd.func4, Tryd.ntmps4
  obtain ⟨m0, m1, m2, _, _, _⟩ := HBX.out _ (Below.refl _ _)
  go_wp2_with fail
  clear m0 m1 m2
  generalize (w.alloc (.cells #[.slice p1 p.posts.length q1, .slice p2 p.queues.length q2, .slice p3 p.binds.length q3] 26)) = W0 at *
  refine (Write_any p p1 p2 p3 q1 q2 q3 W0 (HBX.out _ (Below.refl _ _)).env (HBX.out _ (Below.refl _ _)).planAt HPS.out).mono ?_
  rintro e W1 ⟨rfl, hb1⟩
  have HB1 := Lib.hid (HBX.out _ hb1).below
  have HZ1 := Lib.hid hb1
  clear hb1
  by_cases hc : checkP p = 0
  · obtain ⟨hr1, hr2⟩ := read_write hc
    have hw : writeP p = writeS p := by unfold writeP; rw [if_pos hc]
    rw [hc, hw]
    clear hw hc
    generalize writeS p = t at *
    have HR2 := Lib.hid hr2
    clear hr2
    go_wp2_with fail
    refine (Read_any t W1 (below_env HB1.out HE.out)).mono ?_
    rintro e W2 ⟨a1, a2, a3, c1, c2, c3, rfl, hp2, hs2, hb2⟩
    rw [HR2.out] at hp2 ⊢
    rw [hr1]
    clear hs2 hr1
    have HB2 := Lib.hid (HB1.out.trans (hb2.mono HB1.out.size))
    have hbz := pboxed_new HE.out HB2.out hp2 c1 c2 c3 26
    have hz2 : Below W0.heap.size W0 (W2.alloc (.cells #[.slice a1 p.posts.length c1, .slice a2 p.queues.length c2, .slice a3 p.binds.length c3] 26)) := (HZ1.out.trans (hb2.mono HZ1.out.size)).alloc (HZ1.out.trans (hb2.mono HZ1.out.size)).size _
    obtain ⟨m0, m1, m2, _, _, _⟩ := HBX.out _ hz2
    obtain ⟨n0, n1, n2, _, _, _⟩ := hbz _ (Below.refl _ _)
    have HBZ := Lib.hid hbz
    have HZ2 := Lib.hid hz2
    clear hbz hz2 hb2 hp2
    unfold planV
    go_wp2_with fail
    clear m0 m1 m2 n0 n1 n2
    generalize (W2.alloc (.cells #[.slice a1 p.posts.length c1, .slice a2 p.queues.length c2, .slice a3 p.binds.length c3] 26)) = W3 at *
    refine (SamePlans_any p p a1 a2 a3 p1 p2 p3 c1 c2 c3 q1 q2 q3 W3 (HBZ.out _ (Below.refl _ _)).planAt HPS.out (HBX.out _ HZ2.out).planAt HPS.out).mono ?_
    rw [planEq_refl]
    rintro e W4 ⟨rfl, hb4⟩
    have HB4 := Lib.hid (HBZ.out _ hb4).below
    clear hb4
    go_wp2_with fail
    refine (Read_any s W4 (below_env HB4.out HE.out)).mono ?_
    rintro e W5 ⟨d1, d2, d3, f1, f2, f3, rfl, hp5, hs5, hb5⟩
    have HB5 := Lib.hid (HB4.out.trans (hb5.mono HB4.out.size))
    clear hb5
    by_cases hg : readE s = 0
    · obtain ⟨hw1, hw2⟩ := write_read hg
      rw [hg]
      clear hg
      generalize readP s = y at *
      have hby := pboxed_new HE.out HB5.out hp5 f1 f2 f3 26
      have HBY := Lib.hid hby
      have HS5 := Lib.hid hs5
      clear hby hp5 hs5
      unfold planV
      obtain ⟨n0, n1, n2, _, _, _⟩ := HBY.out _ (Below.refl _ _)
      have hwy : writeP y = s := by unfold writeP; rw [if_pos hw1, hw2]
      have HW1 := Lib.hid hw1
      have HWY := Lib.hid hwy
      clear hw1 hw2 hwy
      go_wp2_with fail
      clear n0 n1 n2
      generalize (W5.alloc (.cells #[.slice d1 y.posts.length f1, .slice d2 y.queues.length f2, .slice d3 y.binds.length f3] 26)) = W6 at *
      refine (Write_any y d1 d2 d3 f1 f2 f3 W6 (HBY.out _ (Below.refl _ _)).env (HBY.out _ (Below.refl _ _)).planAt HS5.out).mono ?_
      rintro e W7 ⟨rfl, hb7⟩
      have HB7 := Lib.hid (HBY.out _ hb7).below
      clear hb7
      rw [HW1.out, HWY.out]
      go_wp2_with fail
      refine (wireBegun_any _ (below_env HB7.out HE.out)).mono ?_
      rintro e W8 ⟨rfl, hb8⟩
      have HB8 := Lib.hid (HB7.out.trans (hb8.mono HB7.out.size))
      clear hb8
      go_wp2_with fail
      go_ret
      exact ⟨rfl, HB8.out⟩
    · have b1 : (readE s != 0) = true := by simp [hg]
      clear hg hp5 hs5
      unfold planV
      go_wp2_with fail
      refine (wireBegun_any _ ?henv).mono ?_
      case henv => exact below_env (HB5.out.alloc HB5.out.size _) HE.out
      rintro e W8 ⟨rfl, hb8⟩
      have HB8 := Lib.hid ((HB5.out.alloc HB5.out.size _).trans (hb8.mono (HB5.out.alloc HB5.out.size _).size))
      clear hb8
      go_wp2_with fail
      go_ret
      exact ⟨rfl, HB8.out⟩
  · have hw : writeP p = ⟨#[]⟩ := by unfold writeP; rw [if_neg hc]
    have b0 : (checkP p == 0) = false := by simp [hc]
    rw [hw]
    clear hw hc
    go_wp2_with fail
    refine (Read_any s W1 (below_env HB1.out HE.out)).mono ?_
    rintro e W5 ⟨d1, d2, d3, f1, f2, f3, rfl, hp5, hs5, hb5⟩
    have HB5 := Lib.hid (HB1.out.trans (hb5.mono HB1.out.size))
    clear hb5
    by_cases hg : readE s = 0
    · obtain ⟨hw1, hw2⟩ := write_read hg
      rw [hg]
      clear hg
      generalize readP s = y at *
      have hby := pboxed_new HE.out HB5.out hp5 f1 f2 f3 26
      have HBY := Lib.hid hby
      have HS5 := Lib.hid hs5
      clear hby hp5 hs5
      unfold planV
      obtain ⟨n0, n1, n2, _, _, _⟩ := HBY.out _ (Below.refl _ _)
      have hwy : writeP y = s := by unfold writeP; rw [if_pos hw1, hw2]
      have HW1 := Lib.hid hw1
      have HWY := Lib.hid hwy
      clear hw1 hw2 hwy
      go_wp2_with fail
      clear n0 n1 n2
      generalize (W5.alloc (.cells #[.slice d1 y.posts.length f1, .slice d2 y.queues.length f2, .slice d3 y.binds.length f3] 26)) = W6 at *
      refine (Write_any y d1 d2 d3 f1 f2 f3 W6 (HBY.out _ (Below.refl _ _)).env (HBY.out _ (Below.refl _ _)).planAt HS5.out).mono ?_
      rintro e W7 ⟨rfl, hb7⟩
      have HB7 := Lib.hid (HBY.out _ hb7).below
      clear hb7
      rw [HW1.out, HWY.out]
      go_wp2_with fail
      refine (wireBegun_any _ (below_env HB7.out HE.out)).mono ?_
      rintro e W8 ⟨rfl, hb8⟩
      have HB8 := Lib.hid (HB7.out.trans (hb8.mono HB7.out.size))
      clear hb8
      go_wp2_with fail
      go_ret
      exact ⟨rfl, HB8.out⟩
    · have b1 : (readE s != 0) = true := by simp [hg]
      clear hg hp5 hs5
      unfold planV
      go_wp2_with fail
      refine (wireBegun_any _ ?henv).mono ?_
      case henv => exact below_env (HB5.out.alloc HB5.out.size _) HE.out
      rintro e W8 ⟨rfl, hb8⟩
      have HB8 := Lib.hid ((HB5.out.alloc HB5.out.size _).trans (hb8.mono (HB5.out.alloc HB5.out.size _).size))
      clear hb8
      go_wp2_with fail
      go_ret
      exact ⟨rfl, HB8.out⟩

theorem wireBack_any (p : PlanD) (p1 p2 p3 : Option Addr) (q1 q2 q3 : Nat) (s : ByteArray) (w : World) (hp : PlanAt w 0 w.heap.size p1 p2 p3 p) (hps : PlanSmall p) (_ : PlanInts p) (_ : s.size ≤ 1048576) (hE : Env w) :
    Calls Tryd.prog 4 #[planV p p1 p2 p3 q1 q2 q3, .string s] w fun e w' => e = .returned (.bool true) ∧ Below w.heap.size w w' :=
  wireBack_go p s p1 p2 p3 q1 q2 q3 w hE hp hps

set_option maxHeartbeats 4000000 in
theorem wireWrites_go (p : PlanD) (s : ByteArray) (p1 p2 p3 : Option Addr) (q1 q2 q3 : Nat) (w : World) (hE : Env w) (hp : PlanAt w 0 w.heap.size p1 p2 p3 p) (hps : PlanSmall p) (hs : s.size ≤ 1048576) :
    Calls Tryd.prog 3 #[planV p p1 p2 p3 q1 q2 q3, .string s] w fun e w' => e = .returned (.bool true) ∧ Below w.heap.size w w' := by
  have hbx := pboxed_new hE (Below.refl _ _) hp q1 q2 q3 26
  unfold planV
  have HBX := Lib.hid hbx
  have HPS := Lib.hid hps
  have HE := Lib.hid hE
  clear hbx hE hp hps
  go_enter Tryd.func3, Tryd.ntmps3
  obtain ⟨m0, m1, m2, _, _, _⟩ := HBX.out _ (Below.refl _ _)
  go_wp2_with fail
  clear m0 m1 m2
  generalize (w.alloc (.cells #[.slice p1 p.posts.length q1, .slice p2 p.queues.length q2, .slice p3 p.binds.length q3] 26)) = W0 at *
  refine (Write_any p p1 p2 p3 q1 q2 q3 W0 (HBX.out _ (Below.refl _ _)).env (HBX.out _ (Below.refl _ _)).planAt HPS.out).mono ?_
  rintro e W1 ⟨rfl, hb1⟩
  have HB1 := Lib.hid hb1
  clear hb1
  obtain ⟨m0, m1, m2, _, _, _⟩ := HBX.out _ HB1.out
  go_wp2_with fail
  clear m0 m1 m2
  refine (CheckPlan_any p p1 p2 p3 q1 q2 q3 0 W1 (HBX.out _ HB1.out).planAt HPS.out).mono ?_
  rintro e W2 ⟨rfl, hb2⟩
  have HB2 := Lib.hid (HB1.out.trans (hb2.mono HB1.out.size))
  clear hb2
  obtain ⟨m0, m1, m2, _, _, _⟩ := HBX.out _ HB2.out
  by_cases hc : checkP p = 0
  · have hw : writeP p = writeS p := by unfold writeP; rw [if_pos hc]
    rw [hc, hw]
    have HC := Lib.hid hc
    clear hw hc
    go_wp2_with fail
    clear m0 m1 m2
    refine (PlanBytes_any p p1 p2 p3 q1 q2 q3 W2 (HBX.out _ HB2.out).planAt HPS.out HC.out).mono ?_
    rintro e W3 ⟨rfl, hb3⟩
    have HB3 := Lib.hid (HBX.out _ (HB2.out.trans (hb3.mono HB2.out.size))).below
    clear hb3
    generalize writeS p = t at *
    go_wp2_with fail
    refine (Read_any s W3 (below_env HB3.out HE.out)).mono ?_
    rintro e W5 ⟨d1, d2, d3, f1, f2, f3, rfl, hp5, hs5, hb5⟩
    have HB5 := Lib.hid (HB3.out.trans (hb5.mono HB3.out.size))
    clear hb5
    have hby := pboxed_new HE.out HB5.out hp5 f1 f2 f3 26
    have HBY := Lib.hid hby
    have HS5 := Lib.hid hs5
    clear hby hp5 hs5
    by_cases h4 : 4096 < s.size
    · have hq : readP s = zeroP := by rw [readP_eq, if_pos h4]
      have he : readE s = 2 := by rw [readE_eq, if_pos h4]
      rw [hq, he]
      rw [hq] at HBY HS5
      clear hq he
      have b4 : decide ((4096 : Int) < (s.size : Int)) = true := by simp; omega
      unfold planV
      go_wp2_with fail
      generalize (W5.alloc (.cells #[.slice d1 zeroP.posts.length f1, .slice d2 zeroP.queues.length f2, .slice d3 zeroP.binds.length f3] 26)) = W6 at *
      refine (wireBegun_any _ (HBY.out _ (Below.refl _ _)).env).mono ?_
      rintro e W8 ⟨rfl, hb8⟩
      have HB8 := Lib.hid hb8
      clear hb8
      obtain ⟨n0, n1, n2, _, _, _⟩ := HBY.out _ HB8.out
      go_wp2_with fail
      have hsp := SamePlans_any zeroP zeroP d1 d2 d3 none none none f1 f2 f3 0 0 0 W8 (HBY.out _ HB8.out).planAt zero_plan_small (zero_plan _ _ _) zero_plan_small
      rw [planEq_refl] at hsp
      refine hsp.mono ?_
      rintro e W9 ⟨rfl, hb9⟩
      have HB9 := Lib.hid (HBY.out _ (HB8.out.trans (hb9.mono HB8.out.size))).below
      clear hb9 hsp
      go_wp2_with fail
      go_ret
      exact ⟨rfl, HB9.out⟩
    · have b4 : decide ((4096 : Int) < (s.size : Int)) = false := by simp; omega
      generalize hrq : readP s = x at *
      generalize hre : readE s = n at *
      rw [readP_eq, if_neg h4] at hrq
      rw [readE_eq, if_neg h4] at hre
      have HRQ := Lib.hid hrq
      have HRE := Lib.hid hre
      clear h4 hrq hre
      unfold planV
      go_wp2_with fail
      generalize (W5.alloc (.cells #[.slice d1 x.posts.length f1, .slice d2 x.queues.length f2, .slice d3 x.binds.length f3] 26)) = W6 at *
      refine (PlanFrom_walk PlanBytes_any s W6).mono ?_
      rintro e W7 ⟨k1, k2, k3, l1, l2, l3, q, rfl, hq, hp7, hs7, hb7⟩
      have hqx : q = x := hq.trans HRQ.out
      subst hqx
      have HB7 := Lib.hid hb7
      have hbv := pboxed_new HE.out (HBY.out _ hb7).below hp7 l1 l2 l3 26
      have HBV := Lib.hid hbv
      clear hbv hp7 hs7 hb7 hq
      unfold planV
      by_cases hd : checkP (planE s) = 0 ∧ writeS (planE s) = s
      · have hn : n = 0 := by rw [← HRE.out, if_pos hd]
        subst hn
        have hdd : decide (checkP (planE s) = 0 ∧ writeS (planE s) = s) = true := decide_eq_true hd
        rw [hdd]
        clear hd hdd HRE HRQ
        go_wp2_with fail
        have hW8 := HB7.out.alloc HB7.out.size (.cells #[.slice k1 q.posts.length l1, .slice k2 q.queues.length l2, .slice k3 q.binds.length l3] 26)
        have HW8 := Lib.hid hW8
        clear hW8
        generalize (W7.alloc (.cells #[.slice k1 q.posts.length l1, .slice k2 q.queues.length l2, .slice k3 q.binds.length l3] 26)) = W8 at *
        refine (wireBegun_any _ (HBV.out _ (Below.refl _ _)).env).mono ?_
        rintro e W9 ⟨rfl, hb9⟩
        have HB9 := Lib.hid hb9
        have HB92 := Lib.hid (HW8.out.trans (hb9.mono HW8.out.size))
        clear hb9
        obtain ⟨n0, n1, n2, _, _, _⟩ := HBY.out _ HB92.out
        obtain ⟨m0, m1, m2, _, _, _⟩ := HBV.out _ HB9.out
        go_wp2_with fail
        have hsp := SamePlans_any q q d1 d2 d3 k1 k2 k3 f1 f2 f3 l1 l2 l3 W9 (HBY.out _ HB92.out).planAt HS5.out (HBV.out _ HB9.out).planAt HS5.out
        rw [planEq_refl] at hsp
        refine hsp.mono ?_
        rintro e Wx ⟨rfl, hbx⟩
        have HBx := Lib.hid (HBV.out _ (HB9.out.trans (hbx.mono HB9.out.size))).below
        clear hbx hsp
        go_wp2_with fail
        go_ret
        exact ⟨rfl, HBx.out⟩
      · have hn : n = 1 := by rw [← HRE.out, if_neg hd]
        subst hn
        have hdd : decide (checkP (planE s) = 0 ∧ writeS (planE s) = s) = false := decide_eq_false hd
        rw [hdd]
        clear hd hdd HRE HRQ
        go_wp2_with fail
        have hW8 := HB7.out.alloc HB7.out.size (.cells #[.slice k1 q.posts.length l1, .slice k2 q.queues.length l2, .slice k3 q.binds.length l3] 26)
        have HW8 := Lib.hid hW8
        clear hW8
        generalize (W7.alloc (.cells #[.slice k1 q.posts.length l1, .slice k2 q.queues.length l2, .slice k3 q.binds.length l3] 26)) = W8 at *
        refine (wireBegun_any _ (HBV.out _ (Below.refl _ _)).env).mono ?_
        rintro e W9 ⟨rfl, hb9⟩
        have HB9 := Lib.hid hb9
        have HB92 := Lib.hid (HW8.out.trans (hb9.mono HW8.out.size))
        clear hb9
        obtain ⟨n0, n1, n2, _, _, _⟩ := HBY.out _ HB92.out
        obtain ⟨m0, m1, m2, _, _, _⟩ := HBV.out _ HB9.out
        go_wp2_with fail
        have hsp := SamePlans_any q q d1 d2 d3 k1 k2 k3 f1 f2 f3 l1 l2 l3 W9 (HBY.out _ HB92.out).planAt HS5.out (HBV.out _ HB9.out).planAt HS5.out
        rw [planEq_refl] at hsp
        refine hsp.mono ?_
        rintro e Wx ⟨rfl, hbx⟩
        have HBx := Lib.hid (HBV.out _ (HB9.out.trans (hbx.mono HB9.out.size))).below
        clear hbx hsp
        go_wp2_with fail
        go_ret
        exact ⟨rfl, HBx.out⟩
  · have hw : writeP p = ⟨#[]⟩ := by unfold writeP; rw [if_neg hc]
    have b0 : (checkP p == 0) = false := by simp [hc]
    rw [hw]
    clear hw hc
    generalize checkP p = cc at *
    obtain ⟨W3, hW3⟩ : ∃ W3, W2 = W3 := ⟨_, rfl⟩
    subst hW3
    have HB3 := Lib.hid (HBX.out _ HB2.out).below
    clear m0 m1 m2
    go_wp2_with fail
    refine (Read_any s W2 (below_env HB3.out HE.out)).mono ?_
    rintro e W5 ⟨d1, d2, d3, f1, f2, f3, rfl, hp5, hs5, hb5⟩
    have HB5 := Lib.hid (HB3.out.trans (hb5.mono HB3.out.size))
    clear hb5
    have hby := pboxed_new HE.out HB5.out hp5 f1 f2 f3 26
    have HBY := Lib.hid hby
    have HS5 := Lib.hid hs5
    clear hby hp5 hs5
    by_cases h4 : 4096 < s.size
    · have hq : readP s = zeroP := by rw [readP_eq, if_pos h4]
      have he : readE s = 2 := by rw [readE_eq, if_pos h4]
      rw [hq, he]
      rw [hq] at HBY HS5
      clear hq he
      have b4 : decide ((4096 : Int) < (s.size : Int)) = true := by simp; omega
      unfold planV
      go_wp2_with fail
      generalize (W5.alloc (.cells #[.slice d1 zeroP.posts.length f1, .slice d2 zeroP.queues.length f2, .slice d3 zeroP.binds.length f3] 26)) = W6 at *
      refine (wireBegun_any _ (HBY.out _ (Below.refl _ _)).env).mono ?_
      rintro e W8 ⟨rfl, hb8⟩
      have HB8 := Lib.hid hb8
      clear hb8
      obtain ⟨n0, n1, n2, _, _, _⟩ := HBY.out _ HB8.out
      go_wp2_with fail
      have hsp := SamePlans_any zeroP zeroP d1 d2 d3 none none none f1 f2 f3 0 0 0 W8 (HBY.out _ HB8.out).planAt zero_plan_small (zero_plan _ _ _) zero_plan_small
      rw [planEq_refl] at hsp
      refine hsp.mono ?_
      rintro e W9 ⟨rfl, hb9⟩
      have HB9 := Lib.hid (HBY.out _ (HB8.out.trans (hb9.mono HB8.out.size))).below
      clear hb9 hsp
      go_wp2_with fail
      go_ret
      exact ⟨rfl, HB9.out⟩
    · have b4 : decide ((4096 : Int) < (s.size : Int)) = false := by simp; omega
      generalize hrq : readP s = x at *
      generalize hre : readE s = n at *
      rw [readP_eq, if_neg h4] at hrq
      rw [readE_eq, if_neg h4] at hre
      have HRQ := Lib.hid hrq
      have HRE := Lib.hid hre
      clear h4 hrq hre
      unfold planV
      go_wp2_with fail
      generalize (W5.alloc (.cells #[.slice d1 x.posts.length f1, .slice d2 x.queues.length f2, .slice d3 x.binds.length f3] 26)) = W6 at *
      refine (PlanFrom_walk PlanBytes_any s W6).mono ?_
      rintro e W7 ⟨k1, k2, k3, l1, l2, l3, q, rfl, hq, hp7, hs7, hb7⟩
      have hqx : q = x := hq.trans HRQ.out
      subst hqx
      have HB7 := Lib.hid hb7
      have hbv := pboxed_new HE.out (HBY.out _ hb7).below hp7 l1 l2 l3 26
      have HBV := Lib.hid hbv
      clear hbv hp7 hs7 hb7 hq
      unfold planV
      by_cases hd : checkP (planE s) = 0 ∧ writeS (planE s) = s
      · have hn : n = 0 := by rw [← HRE.out, if_pos hd]
        subst hn
        have hdd : decide (checkP (planE s) = 0 ∧ writeS (planE s) = s) = true := decide_eq_true hd
        rw [hdd]
        clear hd hdd HRE HRQ
        go_wp2_with fail
        have hW8 := HB7.out.alloc HB7.out.size (.cells #[.slice k1 q.posts.length l1, .slice k2 q.queues.length l2, .slice k3 q.binds.length l3] 26)
        have HW8 := Lib.hid hW8
        clear hW8
        generalize (W7.alloc (.cells #[.slice k1 q.posts.length l1, .slice k2 q.queues.length l2, .slice k3 q.binds.length l3] 26)) = W8 at *
        refine (wireBegun_any _ (HBV.out _ (Below.refl _ _)).env).mono ?_
        rintro e W9 ⟨rfl, hb9⟩
        have HB9 := Lib.hid hb9
        have HB92 := Lib.hid (HW8.out.trans (hb9.mono HW8.out.size))
        clear hb9
        obtain ⟨n0, n1, n2, _, _, _⟩ := HBY.out _ HB92.out
        obtain ⟨m0, m1, m2, _, _, _⟩ := HBV.out _ HB9.out
        go_wp2_with fail
        have hsp := SamePlans_any q q d1 d2 d3 k1 k2 k3 f1 f2 f3 l1 l2 l3 W9 (HBY.out _ HB92.out).planAt HS5.out (HBV.out _ HB9.out).planAt HS5.out
        rw [planEq_refl] at hsp
        refine hsp.mono ?_
        rintro e Wx ⟨rfl, hbx⟩
        have HBx := Lib.hid (HBV.out _ (HB9.out.trans (hbx.mono HB9.out.size))).below
        clear hbx hsp
        go_wp2_with fail
        go_ret
        exact ⟨rfl, HBx.out⟩
      · have hn : n = 1 := by rw [← HRE.out, if_neg hd]
        subst hn
        have hdd : decide (checkP (planE s) = 0 ∧ writeS (planE s) = s) = false := decide_eq_false hd
        rw [hdd]
        clear hd hdd HRE HRQ
        go_wp2_with fail
        have hW8 := HB7.out.alloc HB7.out.size (.cells #[.slice k1 q.posts.length l1, .slice k2 q.queues.length l2, .slice k3 q.binds.length l3] 26)
        have HW8 := Lib.hid hW8
        clear hW8
        generalize (W7.alloc (.cells #[.slice k1 q.posts.length l1, .slice k2 q.queues.length l2, .slice k3 q.binds.length l3] 26)) = W8 at *
        refine (wireBegun_any _ (HBV.out _ (Below.refl _ _)).env).mono ?_
        rintro e W9 ⟨rfl, hb9⟩
        have HB9 := Lib.hid hb9
        have HB92 := Lib.hid (HW8.out.trans (hb9.mono HW8.out.size))
        clear hb9
        obtain ⟨n0, n1, n2, _, _, _⟩ := HBY.out _ HB92.out
        obtain ⟨m0, m1, m2, _, _, _⟩ := HBV.out _ HB9.out
        go_wp2_with fail
        have hsp := SamePlans_any q q d1 d2 d3 k1 k2 k3 f1 f2 f3 l1 l2 l3 W9 (HBY.out _ HB92.out).planAt HS5.out (HBV.out _ HB9.out).planAt HS5.out
        rw [planEq_refl] at hsp
        refine hsp.mono ?_
        rintro e Wx ⟨rfl, hbx⟩
        have HBx := Lib.hid (HBV.out _ (HB9.out.trans (hbx.mono HB9.out.size))).below
        clear hbx hsp
        go_wp2_with fail
        go_ret
        exact ⟨rfl, HBx.out⟩

theorem wireWrites_any (p : PlanD) (p1 p2 p3 : Option Addr) (q1 q2 q3 : Nat) (s : ByteArray) (w : World) (hp : PlanAt w 0 w.heap.size p1 p2 p3 p) (hps : PlanSmall p) (_ : PlanInts p) (hs : s.size ≤ 1048576) (hE : Env w) :
    Calls Tryd.prog 3 #[planV p p1 p2 p3 q1 q2 q3, .string s] w fun e w' => e = .returned (.bool true) ∧ Below w.heap.size w w' :=
  wireWrites_go p s p1 p2 p3 q1 q2 q3 w hE hp hps hs

end Go.Proofs.YtapimpmpjighmaaDoor
