/-
  The law StateChecks answers true.
-/
import Derived.Test.YtbdikenloklhaaaDoorStateO
import Derived.Test.YtbdikenloklhaaaDoorStateH
import Derived.Test.YtbdikenloklhaaaDoorStateL
namespace Go.Proofs.YtbdikenloklhaaaDoor
open Go.RowKit
set_option maxRecDepth 100000

theorem Sl.far {w : World} {lo hi : Nat} {a : Option Addr} {us : List Value} (h : Sl w lo hi a us) {p : Addr} (hp : p.block < lo) (v : Value) : Sl (w.setCell p v) lo hi a us := by
  rcases h with h | ⟨b, o, rfl, h1, h2, hc⟩
  · exact .inl h
  · refine .inr ⟨b, o, rfl, h1, h2, fun j u hu => ?_⟩
    have he := Below.heap_setCell w p v b (by omega)
    have := hc j u hu
    simp only [World.cell?] at this ⊢
    rw [he]
    exact this
theorem StateAt.far {w : World} {lo hi : Nat} {a1 a2 a3 : Option Addr} {rows : List RowD} {s : StateD} (h : StateAt w lo hi a1 a2 a3 rows s) {p : Addr} (hp : p.block < lo) (v : Value) : StateAt (w.setCell p v) lo hi a1 a2 a3 rows s :=
  ⟨h.same, h.ready.far hp v, fun r hr => ⟨(h.row r hr).1.far hp v, (h.row r hr).2⟩, h.outs.far hp v, h.takers.far hp v⟩
theorem set8_at {W : World} {g lo hi : Nat} {a1 a2 a3 : Option Addr} {rows : List RowD} {s : StateD} (h : StateAt W lo hi a1 a2 a3 rows s) (hg : g < lo) (v0 v1 v2 v3 v4 v5 v6 v7 : Value) : StateAt ((((((((W.setCell ⟨g, 0, none⟩ v0).setCell ⟨g, 1, none⟩ v1).setCell ⟨g, 2, none⟩ v2).setCell ⟨g, 3, none⟩ v3).setCell ⟨g, 4, none⟩ v4).setCell ⟨g, 5, none⟩ v5).setCell ⟨g, 6, none⟩ v6).setCell ⟨g, 7, none⟩ v7) lo hi a1 a2 a3 rows s :=
  (((((((h.far hg _).far hg _).far hg _).far hg _).far hg _).far hg _).far hg _).far hg _
theorem set8_bk {W : World} {g : Nat} {t : TypeId} {o0 o1 o2 o3 o4 o5 o6 o7 : Value} (h : Bk W g t #[o0, o1, o2, o3, o4, o5, o6, o7]) (v0 v1 v2 v3 v4 v5 v6 v7 : Value) :
    Bk ((((((((W.setCell ⟨g, 0, none⟩ v0).setCell ⟨g, 1, none⟩ v1).setCell ⟨g, 2, none⟩ v2).setCell ⟨g, 3, none⟩ v3).setCell ⟨g, 4, none⟩ v4).setCell ⟨g, 5, none⟩ v5).setCell ⟨g, 6, none⟩ v6).setCell ⟨g, 7, none⟩ v7) g t #[v0, v1, v2, v3, v4, v5, v6, v7] := by
  have := (((((((h.set_ 0 v0).set_ 1 v1).set_ 2 v2).set_ 3 v3).set_ 4 v4).set_ 5 v5).set_ 6 v6).set_ 7 v7
  simpa using this

set_option maxHeartbeats 8000000 in
theorem stateChecks_go (p : PlanD) (s : StateD) (p1 p2 p3 a1 a2 a3 : Option Addr) (q1 q2 q3 c1 c2 c3 : Nat) (rows : List RowD) (w : World) (hE : Env w) (hp : PlanAt w 0 w.heap.size p1 p2 p3 p) (hps : PlanSmall p) (hs : StateAt w 0 w.heap.size a1 a2 a3 rows s) (hss : StateSmall s) (hsi : StateInts s) :
    Calls Tryd.prog 10 #[planV p p1 p2 p3 q1 q2 q3, stateV s a1 a2 a3 c1 c2 c3] w fun e w' => e = .returned (.bool true) ∧ Below w.heap.size w w' := by
  have hbx := two_boxes q1 q2 q3 c1 c2 c3 hE hp hs 26 60
  unfold vState at hbx
  unfold stateV planV vState
  have HBX := Lib.hid hbx
  have HPS := Lib.hid hps
  have HSS := Lib.hid hss
  have HSI := Lib.hid hsi
  clear hbx hE hp hs hps hss hsi
  go_enter Tryd.func10, Tryd.ntmps10
  obtain ⟨⟨m0, m1, m2⟩, ⟨n0, n1, n2, n3, n4, n5, n6, n7⟩, _, _, _, _⟩ := HBX.out _ (Below.refl _ _)
  go_wp2_with fail
  clear m0 m1 m2 n0 n1 n2 n3 n4 n5 n6 n7
  generalize ((w.alloc (.cells #[.slice p1 p.posts.length q1, .slice p2 p.queues.length q2, .slice p3 p.binds.length q3] 26)).alloc (.cells #[Value.slice a1 s.ready.length c1, Value.slice a2 s.outs.length c2, Value.slice a3 s.takers.length c3, Value.int IntKind.i64 s.nextSeq, Value.int IntKind.i64 s.nextTag, Value.int IntKind.i64 s.came, Value.int IntKind.i64 s.acked, Value.int IntKind.i64 s.dropped] 60)) = W0 at *
  refine (Begin_any p p1 p2 p3 q1 q2 q3 W0 (HBX.out _ (Below.refl _ _)).env (HBX.out _ (Below.refl _ _)).planAt HPS.out).mono ?_
  rintro e W1 ⟨a, c, rb, rfl, hs1, hb1⟩
  have HS1 := Lib.hid (hs1.wider (Nat.zero_le _) (Nat.le_refl _))
  have HB1 := Lib.hid hb1
  clear hs1 hb1
  have HSB : Hid (StateSmall (beginOf p)) := by
    refine (?_ : StateSmall (beginOf p))
    unfold beginOf
    split
    · exact begun_small HPS.out
    · exact ⟨by decide, by decide, by decide, (by intro l hl; cases hl), (by intro x hx; cases hx), by decide⟩
  have HBO : Hid (checkP p = 0 → beginOf p = begunS p) := fun h => by unfold beginOf; rw [if_pos h]
  have HZO : Hid (checkP p ≠ 0 → beginOf p = zeroS) := fun h => by unfold beginOf; rw [if_neg h]
  generalize beginOf p = sb at *
  unfold stateV vState
  obtain ⟨⟨m0, m1, m2⟩, ⟨n0, n1, n2, n3, n4, n5, n6, n7⟩, _, _, _, _⟩ := HBX.out _ HB1.out
  have hz0 := World.block_lt_of_cell? W1 _ m0
  have hz1 := World.block_lt_of_cell? W1 _ n0
  go_wp2_with fail
  clear m0 m1 m2 n0 n1 n2 n3 n4 n5 n6 n7
  obtain ⟨W2, hW2⟩ : ∃ W2, W1.alloc (.cells #[.slice a sb.ready.length c, .slice none sb.outs.length 0, .slice none sb.takers.length 0, .int .i64 sb.nextSeq, .int .i64 sb.nextTag, .int .i64 sb.came, .int .i64 sb.acked, .int .i64 sb.dropped] 60) = W2 := ⟨_, rfl⟩
  have h2 : ∀ W, Below W2.heap.size W2 W → Bk W W1.heap.size 60 #[.slice a sb.ready.length c, .slice none sb.outs.length 0, .slice none sb.takers.length 0, .int .i64 sb.nextSeq, .int .i64 sb.nextTag, .int .i64 sb.came, .int .i64 sb.acked, .int .i64 sb.dropped] ∧ StateAt W 0 W.heap.size a none none rb sb ∧ Below W0.heap.size W0 W := fun W hW => by
    have k : Bk W2 W1.heap.size 60 #[.slice a sb.ready.length c, .slice none sb.outs.length 0, .slice none sb.takers.length 0, .int .i64 sb.nextSeq, .int .i64 sb.nextTag, .int .i64 sb.came, .int .i64 sb.acked, .int .i64 sb.dropped] := by rw [← hW2]; exact Bk.new _ _ _
    have hz : W2.heap.size = W1.heap.size + 1 := by rw [← hW2]; simp
    have b : Below W1.heap.size W1 W2 := by rw [← hW2]; exact (Below.refl _ _).alloc (Nat.le_refl _) _
    have b2 := b.trans (hW.mono b.size)
    exact ⟨k.below hW (by omega), (HS1.out.below b2 (Nat.le_refl _)).wider (Nat.le_refl _) b2.size, HB1.out.trans (b2.mono HB1.out.size)⟩
  rw [hW2]
  have H2 := Lib.hid h2
  clear h2 hW2 HS1 HB1
  refine (CheckPlan_any p p1 p2 p3 q1 q2 q3 0 W2 (HBX.out _ (H2.out _ (Below.refl _ _)).2.2).planAt HPS.out).mono ?_
  rintro e W3 ⟨rfl, hb3⟩
  have HB3 := Lib.hid hb3; clear hb3
  obtain ⟨⟨m0, m1, m2⟩, ⟨n0, n1, n2, n3, n4, n5, n6, n7⟩, _, _, _, _⟩ := HBX.out _ (H2.out _ HB3.out).2.2
  have hz3 := World.block_lt_of_cell? W3 _ m0
  have hz4 := World.block_lt_of_cell? W3 _ n0
  have h4 : ∀ W, Below (W3.alloc (.cells zeroCells 60)).heap.size (W3.alloc (.cells zeroCells 60)) W → Bk W W3.heap.size 60 zeroCells ∧ Below W2.heap.size W2 W ∧ W2.heap.size ≤ W3.heap.size ∧ W3.heap.size < W.heap.size := fun W hW =>
    ⟨(Bk.new _ _ _).below hW (by simp), HB3.out.trans (((Below.refl _ _).alloc (Nat.le_refl _) _).trans (hW.mono (by simp)) |>.mono HB3.out.size), HB3.out.size, by have := hW.size; simp at this; omega⟩
  unfold zeroCells at h4
  have H4 := Lib.hid h4
  clear h4
  by_cases hc : checkP p = 0
  · have HC := Lib.hid hc
    have hb := HBO.out hc
    subst hb
    have b0 : (checkP p == 0) = true := by simp [hc]
    clear HBO HZO hc
    go_wp2_with fail
    clear m0 m1 m2 n0 n1 n2 n3 n4 n5 n6 n7
    generalize W3.alloc (.cells #[.slice none 0 0, .slice none 0 0, .slice none 0 0, .int .i64 0, .int .i64 0, .int .i64 0, .int .i64 0, .int .i64 0] 60) = W4 at *
    refine (BeginOf_any p p1 p2 p3 q1 q2 q3 W4 (HBX.out _ (H2.out _ (H4.out _ (Below.refl _ _)).2.1).2.2).planAt HPS.out).mono ?_
    rintro e W5 ⟨d, c', rd, rfl, hs5, hb5⟩
    have HS5 := Lib.hid hs5
    have HB5 := Lib.hid hb5
    clear hs5 hb5
    generalize begunS p = sb at *
    unfold stateV vState
    obtain ⟨k0, k1, k2, k3, k4, k5, k6, k7, f0, f1, f2, f3, f4, f5, f6, f7, hlt⟩ := zero_cells (H4.out _ HB5.out).1
    obtain ⟨W6, hW6⟩ : ∃ W6, ((((((((W5.setCell ⟨W3.heap.size, 0, none⟩ (.slice d sb.ready.length c')).setCell ⟨W3.heap.size, 1, none⟩ (.slice none sb.outs.length 0)).setCell ⟨W3.heap.size, 2, none⟩ (.slice none sb.takers.length 0)).setCell ⟨W3.heap.size, 3, none⟩ (.int .i64 sb.nextSeq)).setCell ⟨W3.heap.size, 4, none⟩ (.int .i64 sb.nextTag)).setCell ⟨W3.heap.size, 5, none⟩ (.int .i64 sb.came)).setCell ⟨W3.heap.size, 6, none⟩ (.int .i64 sb.acked)).setCell ⟨W3.heap.size, 7, none⟩ (.int .i64 sb.dropped)) = W6 := ⟨_, rfl⟩
    have h6 : ∀ W, Below W6.heap.size W6 W → CkIn w p s p1 p2 p3 a1 a2 a3 q1 q2 q3 c1 c2 c3 rows W ∧ Bk W W1.heap.size 60 #[.slice a sb.ready.length c, .slice none sb.outs.length 0, .slice none sb.takers.length 0, .int .i64 sb.nextSeq, .int .i64 sb.nextTag, .int .i64 sb.came, .int .i64 sb.acked, .int .i64 sb.dropped] ∧ StateAt W 0 W.heap.size a none none rb sb ∧ Bk W W3.heap.size 60 #[.slice d sb.ready.length c', .slice none sb.outs.length 0, .slice none sb.takers.length 0, .int .i64 sb.nextSeq, .int .i64 sb.nextTag, .int .i64 sb.came, .int .i64 sb.acked, .int .i64 sb.dropped] ∧ StateAt W 0 W.heap.size d none none rd sb := fun W hW => by
      obtain ⟨x1, x2, x3, x4⟩ := H4.out _ HB5.out
      have k6 : Bk W6 W3.heap.size 60 #[.slice d sb.ready.length c', .slice none sb.outs.length 0, .slice none sb.takers.length 0, .int .i64 sb.nextSeq, .int .i64 sb.nextTag, .int .i64 sb.came, .int .i64 sb.acked, .int .i64 sb.dropped] := by rw [← hW6]; exact set8_bk x1 _ _ _ _ _ _ _ _
      have hz : W6.heap.size = W5.heap.size := by rw [← hW6]; simp [World.setCell]
      have b26 : Below W2.heap.size W2 W6 := by rw [← hW6]; exact below_set8 x2 x3 _ _ _ _ _ _ _ _
      have b26' := b26.trans (hW.mono b26.size)
      have b4 := HB5.out.size
      have sl : StateAt W6 0 W5.heap.size d none none rd sb := by
        rw [← hW6]
        exact (set8_at HS5.out ((H4.out _ (Below.refl _ _)).2.2.2) _ _ _ _ _ _ _ _).wider (Nat.zero_le _) (Nat.le_refl _)
      obtain ⟨y1, y2, y3⟩ := H2.out _ b26'
      exact ⟨HBX.out _ y3, y1, y2, k6.below hW (by omega), (sl.below hW (by omega)).wider (Nat.le_refl _) (by have := hW.size; omega)⟩
    have HALL := Lib.hid h6
    clear h6
    have HK : Hid (∀ W, Below W6.heap.size W6 W → (((W.cell? ⟨w.heap.size, 0, none⟩ = some (.slice p1 p.posts.length q1) ∧ W.cell? ⟨w.heap.size, 1, none⟩ = some (.slice p2 p.queues.length q2) ∧ W.cell? ⟨w.heap.size, 2, none⟩ = some (.slice p3 p.binds.length q3)) ∧ (W.cell? ⟨w.heap.size + 1, 0, none⟩ = some (.slice a1 s.ready.length c1) ∧ W.cell? ⟨w.heap.size + 1, 1, none⟩ = some (.slice a2 s.outs.length c2) ∧ W.cell? ⟨w.heap.size + 1, 2, none⟩ = some (.slice a3 s.takers.length c3) ∧ W.cell? ⟨w.heap.size + 1, 3, none⟩ = some (.int .i64 s.nextSeq) ∧ W.cell? ⟨w.heap.size + 1, 4, none⟩ = some (.int .i64 s.nextTag) ∧ W.cell? ⟨w.heap.size + 1, 5, none⟩ = some (.int .i64 s.came) ∧ W.cell? ⟨w.heap.size + 1, 6, none⟩ = some (.int .i64 s.acked) ∧ W.cell? ⟨w.heap.size + 1, 7, none⟩ = some (.int .i64 s.dropped))) ∧ (W.cell? ⟨W1.heap.size, 0, none⟩ = some (.slice a sb.ready.length c) ∧ W.cell? ⟨W1.heap.size, 1, none⟩ = some (.slice none sb.outs.length 0) ∧ W.cell? ⟨W1.heap.size, 2, none⟩ = some (.slice none sb.takers.length 0) ∧ W.cell? ⟨W1.heap.size, 3, none⟩ = some (.int .i64 sb.nextSeq) ∧ W.cell? ⟨W1.heap.size, 4, none⟩ = some (.int .i64 sb.nextTag) ∧ W.cell? ⟨W1.heap.size, 5, none⟩ = some (.int .i64 sb.came) ∧ W.cell? ⟨W1.heap.size, 6, none⟩ = some (.int .i64 sb.acked) ∧ W.cell? ⟨W1.heap.size, 7, none⟩ = some (.int .i64 sb.dropped)) ∧ (W.cell? ⟨W3.heap.size, 0, none⟩ = some (.slice d sb.ready.length c') ∧ W.cell? ⟨W3.heap.size, 1, none⟩ = some (.slice none sb.outs.length 0) ∧ W.cell? ⟨W3.heap.size, 2, none⟩ = some (.slice none sb.takers.length 0) ∧ W.cell? ⟨W3.heap.size, 3, none⟩ = some (.int .i64 sb.nextSeq) ∧ W.cell? ⟨W3.heap.size, 4, none⟩ = some (.int .i64 sb.nextTag) ∧ W.cell? ⟨W3.heap.size, 5, none⟩ = some (.int .i64 sb.came) ∧ W.cell? ⟨W3.heap.size, 6, none⟩ = some (.int .i64 sb.acked) ∧ W.cell? ⟨W3.heap.size, 7, none⟩ = some (.int .i64 sb.dropped))) ∧ Below W6.heap.size W6 W) := fun W hW => by
      obtain ⟨h1, h5, _, h8, _⟩ := HALL.out W hW
      exact ⟨⟨⟨⟨h1.plan.1, h1.plan.2.1, h1.plan.2.2⟩, h1.state⟩, ⟨h5.cell 0, h5.cell 1, h5.cell 2, h5.cell 3, h5.cell 4, h5.cell 5, h5.cell 6, h5.cell 7⟩, h8.cell 0, h8.cell 1, h8.cell 2, h8.cell 3, h8.cell 4, h8.cell 5, h8.cell 6, h8.cell 7⟩, hW⟩
    have HB1 : Hid (∀ W, (∃ C : Prop, C ∧ Below W6.heap.size W6 W) → Calls Tryd.prog 36 #[] W fun e w' => e = .returned (.bool true) ∧ Below W.heap.size W w') := fun W ⟨_, hW⟩ => stateBegun_any W (HALL.out W hW.2).1.env
    have HCK : Hid (∀ W, Below W6.heap.size W6 W → Calls Tryd.prog 37 #[.agg #[.slice p1 p.posts.length q1, .slice p2 p.queues.length q2, .slice p3 p.binds.length q3], .agg #[.slice a1 s.ready.length c1, .slice a2 s.outs.length c2, .slice a3 s.takers.length c3, .int .i64 s.nextSeq, .int .i64 s.nextTag, .int .i64 s.came, .int .i64 s.acked, .int .i64 s.dropped]] W fun e w' => e = .returned (.int .i64 (stateErr p s)) ∧ Below W.heap.size W w') := fun W hW => by
      have h := (HALL.out W hW).1
      exact SCheck_any p s p1 p2 p3 a1 a2 a3 q1 q2 q3 c1 c2 c3 rows W h.env h.planAt HPS.out h.stateAt HSS.out HSI.out
    have HCS : Hid (∀ W, Below W6.heap.size W6 W → Calls Tryd.prog 38 #[.agg #[.slice p1 p.posts.length q1, .slice p2 p.queues.length q2, .slice p3 p.binds.length q3], .agg #[.slice a1 s.ready.length c1, .slice a2 s.outs.length c2, .slice a3 s.takers.length c3, .int .i64 s.nextSeq, .int .i64 s.nextTag, .int .i64 s.came, .int .i64 s.acked, .int .i64 s.dropped]] W fun e w' => e = .returned (.int .i64 (stateErr p s)) ∧ Below W.heap.size W w') := fun W hW => by
      have h := (HALL.out W hW).1
      exact CheckState_any p s p1 p2 p3 a1 a2 a3 q1 q2 q3 c1 c2 c3 rows W h.env h.planAt HPS.out h.stateAt HSS.out HSI.out
    have HSAME : Hid (∀ W, Below W6.heap.size W6 W → Calls Tryd.prog 39 #[.agg #[.slice a sb.ready.length c, .slice none sb.outs.length 0, .slice none sb.takers.length 0, .int .i64 sb.nextSeq, .int .i64 sb.nextTag, .int .i64 sb.came, .int .i64 sb.acked, .int .i64 sb.dropped], .agg #[.slice d sb.ready.length c', .slice none sb.outs.length 0, .slice none sb.takers.length 0, .int .i64 sb.nextSeq, .int .i64 sb.nextTag, .int .i64 sb.came, .int .i64 sb.acked, .int .i64 sb.dropped]] W fun e w' => e = .returned (.bool true) ∧ Below W.heap.size W w') := fun W hW => by
      obtain ⟨_, _, h5, _, h8⟩ := HALL.out W hW
      have := SameStates_any sb sb _ none none _ none none c 0 0 c' 0 0 _ _ W h5 HSB.out h8 HSB.out
      rw [stateEq_refl] at this
      exact this
    go_upto_region 6 with fail
    try rw [hW6]
    clear k0 k1 k2 k3 k4 k5 k6 k7 f0 f1 f2 f3 f4 f5 f6 f7 hlt hW6 H2 H4 HS5 HB5
    refine wp_region_held_drew (S := (fun W => (((W.cell? ⟨w.heap.size, 0, none⟩ = some (.slice p1 p.posts.length q1) ∧ W.cell? ⟨w.heap.size, 1, none⟩ = some (.slice p2 p.queues.length q2) ∧ W.cell? ⟨w.heap.size, 2, none⟩ = some (.slice p3 p.binds.length q3)) ∧ (W.cell? ⟨w.heap.size + 1, 0, none⟩ = some (.slice a1 s.ready.length c1) ∧ W.cell? ⟨w.heap.size + 1, 1, none⟩ = some (.slice a2 s.outs.length c2) ∧ W.cell? ⟨w.heap.size + 1, 2, none⟩ = some (.slice a3 s.takers.length c3) ∧ W.cell? ⟨w.heap.size + 1, 3, none⟩ = some (.int .i64 s.nextSeq) ∧ W.cell? ⟨w.heap.size + 1, 4, none⟩ = some (.int .i64 s.nextTag) ∧ W.cell? ⟨w.heap.size + 1, 5, none⟩ = some (.int .i64 s.came) ∧ W.cell? ⟨w.heap.size + 1, 6, none⟩ = some (.int .i64 s.acked) ∧ W.cell? ⟨w.heap.size + 1, 7, none⟩ = some (.int .i64 s.dropped))) ∧ (W.cell? ⟨W1.heap.size, 0, none⟩ = some (.slice a sb.ready.length c) ∧ W.cell? ⟨W1.heap.size, 1, none⟩ = some (.slice none sb.outs.length 0) ∧ W.cell? ⟨W1.heap.size, 2, none⟩ = some (.slice none sb.takers.length 0) ∧ W.cell? ⟨W1.heap.size, 3, none⟩ = some (.int .i64 sb.nextSeq) ∧ W.cell? ⟨W1.heap.size, 4, none⟩ = some (.int .i64 sb.nextTag) ∧ W.cell? ⟨W1.heap.size, 5, none⟩ = some (.int .i64 sb.came) ∧ W.cell? ⟨W1.heap.size, 6, none⟩ = some (.int .i64 sb.acked) ∧ W.cell? ⟨W1.heap.size, 7, none⟩ = some (.int .i64 sb.dropped)) ∧ (W.cell? ⟨W3.heap.size, 0, none⟩ = some (.slice d sb.ready.length c') ∧ W.cell? ⟨W3.heap.size, 1, none⟩ = some (.slice none sb.outs.length 0) ∧ W.cell? ⟨W3.heap.size, 2, none⟩ = some (.slice none sb.takers.length 0) ∧ W.cell? ⟨W3.heap.size, 3, none⟩ = some (.int .i64 sb.nextSeq) ∧ W.cell? ⟨W3.heap.size, 4, none⟩ = some (.int .i64 sb.nextTag) ∧ W.cell? ⟨W3.heap.size, 5, none⟩ = some (.int .i64 sb.came) ∧ W.cell? ⟨W3.heap.size, 6, none⟩ = some (.int .i64 sb.acked) ∧ W.cell? ⟨W3.heap.size, 7, none⟩ = some (.int .i64 sb.dropped))) ∧ Below W6.heap.size W6 W)) (by kernel_rfl) (by first | assumption | exact HK.out _ (Below.refl _ _).drew | exact HK.out _ (kb_alloc (by assumption) _) | exact HK.out _ (by assumption)) (fun hHeld => ?_)
    first
      | refine wpAnyH_take (i := 0) rfl (by kernel_rfl) (by kernel_rfl) (by kernel_rfl) (fun _ _ _ h => h) (Or.inr ⟨by rfl, rfl⟩) (by assumption) ?_
      | (refine wpAnyH_ready (rs := [0]) (by kernel_rfl) (by simp) ?_; refine AllReadyH.cons rfl (fun K hK => ?_) AllReadyH.nil; go_simp; (first | (go_at_call 36; have hfn := HB1.out _ ⟨_, by assumption⟩; with_reducible refine hfn.mono ?_; clear hfn; rintro e wo ⟨rfl, hbo⟩; have hbo2 := since_stepC (by assumption) hbo) | (go_at_call 37; with_reducible refine (HCK.out _ hbo2).mono ?_; rintro e wk ⟨rfl, hbk⟩; have hbo2 := hbo2.trans (hbk.mono hbo2.size)) | (go_at_call 38; with_reducible refine (HCS.out _ hbo2).mono ?_; rintro e wk ⟨rfl, hbk⟩; have hbo2 := hbo2.trans (hbk.mono hbo2.size)) | (go_at_call 39; with_reducible refine (HSAME.out _ hbo2).mono ?_; rintro e wk ⟨rfl, hbk⟩; have hbo2 := hbo2.trans (hbk.mono hbo2.size))); refine hK.out _ _ (by first | assumption | exact HK.out _ (Below.refl _ _).drew | exact HK.out _ (kb_alloc (by assumption) _) | exact HK.out _ (by assumption)) (fun hHeld => ?_); clear hK K)
      | fail "call 0"
    try simp only [Act.put, List.setIfInBounds_toArray, List.set_cons_zero, List.set_cons_succ, List.getElem_toArray, List.getElem_cons_zero]
    first | (refine wpAnyH_take (i := 1) (v := ?_) rfl (by kernel_rfl) (by kernel_rfl) (by kernel_rfl) (fun _ _ _ h => h) (Or.inl ⟨by rfl, ?_⟩) (by assumption) ?_; rotate_left; focus (intro w hSw; (try dsimp only at hSw); go_simp; (all_goals with_reducible rfl); done)) | (refine wpAnyH_take (i := 1) rfl (by kernel_rfl) (by kernel_rfl) (by kernel_rfl) (fun _ _ _ h => h) (Or.inr ⟨by rfl, rfl⟩) (by assumption) ?_) | fail "op 1"
    try simp only [Act.put, List.setIfInBounds_toArray, List.set_cons_zero, List.set_cons_succ, List.getElem_toArray, List.getElem_cons_zero, List.getElem_cons_succ]
    first | (refine wpAnyH_take (i := 2) (v := ?_) rfl (by kernel_rfl) (by kernel_rfl) (by kernel_rfl) (fun _ _ _ h => h) (Or.inl ⟨by rfl, ?_⟩) (by assumption) ?_; rotate_left; focus (intro w hSw; (try dsimp only at hSw); go_simp; (all_goals with_reducible rfl); done)) | (refine wpAnyH_take (i := 2) rfl (by kernel_rfl) (by kernel_rfl) (by kernel_rfl) (fun _ _ _ h => h) (Or.inr ⟨by rfl, rfl⟩) (by assumption) ?_) | fail "op 2"
    try simp only [Act.put, List.setIfInBounds_toArray, List.set_cons_zero, List.set_cons_succ, List.getElem_toArray, List.getElem_cons_zero, List.getElem_cons_succ]
    first | (refine wpAnyH_take (i := 3) (v := ?_) rfl (by kernel_rfl) (by kernel_rfl) (by kernel_rfl) (fun _ _ _ h => h) (Or.inl ⟨by rfl, ?_⟩) (by assumption) ?_; rotate_left; focus (intro w hSw; (try dsimp only at hSw); go_simp; (all_goals with_reducible rfl); done)) | (refine wpAnyH_take (i := 3) rfl (by kernel_rfl) (by kernel_rfl) (by kernel_rfl) (fun _ _ _ h => h) (Or.inr ⟨by rfl, rfl⟩) (by assumption) ?_) | fail "op 3"
    try simp only [Act.put, List.setIfInBounds_toArray, List.set_cons_zero, List.set_cons_succ, List.getElem_toArray, List.getElem_cons_zero, List.getElem_cons_succ]
    first | (refine wpAnyH_take (i := 5) (v := ?_) rfl (by kernel_rfl) (by kernel_rfl) (by kernel_rfl) (fun _ _ _ h => h) (Or.inl ⟨by rfl, ?_⟩) (by assumption) ?_; rotate_left; focus (intro w hSw; (try dsimp only at hSw); go_simp; (all_goals with_reducible rfl); done)) | (refine wpAnyH_take (i := 5) rfl (by kernel_rfl) (by kernel_rfl) (by kernel_rfl) (fun _ _ _ h => h) (Or.inr ⟨by rfl, rfl⟩) (by assumption) ?_) | fail "op 5"
    try simp only [Act.put, List.setIfInBounds_toArray, List.set_cons_zero, List.set_cons_succ, List.getElem_toArray, List.getElem_cons_zero, List.getElem_cons_succ]
    first | (refine wpAnyH_take (i := 6) (v := ?_) rfl (by kernel_rfl) (by kernel_rfl) (by kernel_rfl) (fun _ _ _ h => h) (Or.inl ⟨by rfl, ?_⟩) (by assumption) ?_; rotate_left; focus (intro w hSw; (try dsimp only at hSw); go_simp; (all_goals with_reducible rfl); done)) | (refine wpAnyH_take (i := 6) rfl (by kernel_rfl) (by kernel_rfl) (by kernel_rfl) (fun _ _ _ h => h) (Or.inr ⟨by rfl, rfl⟩) (by assumption) ?_) | fail "op 6"
    try simp only [Act.put, List.setIfInBounds_toArray, List.set_cons_zero, List.set_cons_succ, List.getElem_toArray, List.getElem_cons_zero, List.getElem_cons_succ]
    first
      | refine wpAnyH_take (i := 4) rfl (by kernel_rfl) (by kernel_rfl) (by kernel_rfl) (fun _ _ _ h => h) (Or.inr ⟨by rfl, rfl⟩) (by assumption) ?_
      | (refine wpAnyH_ready (rs := [4]) (by kernel_rfl) (by simp) ?_; refine AllReadyH.cons rfl (fun K hK => ?_) AllReadyH.nil; go_simp; (first | (go_at_call 36; have hfn := HB1.out _ ⟨_, by assumption⟩; with_reducible refine hfn.mono ?_; clear hfn; rintro e wo ⟨rfl, hbo⟩; have hbo2 := since_stepC (by assumption) hbo) | (go_at_call 37; with_reducible refine (HCK.out _ hbo2).mono ?_; rintro e wk ⟨rfl, hbk⟩; have hbo2 := hbo2.trans (hbk.mono hbo2.size)) | (go_at_call 38; with_reducible refine (HCS.out _ hbo2).mono ?_; rintro e wk ⟨rfl, hbk⟩; have hbo2 := hbo2.trans (hbk.mono hbo2.size)) | (go_at_call 39; with_reducible refine (HSAME.out _ hbo2).mono ?_; rintro e wk ⟨rfl, hbk⟩; have hbo2 := hbo2.trans (hbk.mono hbo2.size))); refine hK.out _ _ (by first | assumption | exact HK.out _ (Below.refl _ _).drew | exact HK.out _ (kb_alloc (by assumption) _) | exact HK.out _ (by assumption)) (fun hHeld => ?_); clear hK K)
      | fail "call 4"
    try simp only [Act.put, List.setIfInBounds_toArray, List.set_cons_zero, List.set_cons_succ, List.getElem_toArray, List.getElem_cons_zero, List.getElem_cons_succ]
    first
      | refine wpAnyH_take (i := 7) rfl (by kernel_rfl) (by kernel_rfl) (by kernel_rfl) (fun _ _ _ h => h) (Or.inr ⟨by rfl, rfl⟩) (by assumption) ?_
      | (refine wpAnyH_ready (rs := [7]) (by kernel_rfl) (by simp) ?_; refine AllReadyH.cons rfl (fun K hK => ?_) AllReadyH.nil; go_simp; (first | (go_at_call 36; have hfn := HB1.out _ ⟨_, by assumption⟩; with_reducible refine hfn.mono ?_; clear hfn; rintro e wo ⟨rfl, hbo⟩; have hbo2 := since_stepC (by assumption) hbo) | (go_at_call 37; with_reducible refine (HCK.out _ hbo2).mono ?_; rintro e wk ⟨rfl, hbk⟩; have hbo2 := hbo2.trans (hbk.mono hbo2.size)) | (go_at_call 38; with_reducible refine (HCS.out _ hbo2).mono ?_; rintro e wk ⟨rfl, hbk⟩; have hbo2 := hbo2.trans (hbk.mono hbo2.size)) | (go_at_call 39; with_reducible refine (HSAME.out _ hbo2).mono ?_; rintro e wk ⟨rfl, hbk⟩; have hbo2 := hbo2.trans (hbk.mono hbo2.size))); refine hK.out _ _ (by first | assumption | exact HK.out _ (Below.refl _ _).drew | exact HK.out _ (kb_alloc (by assumption) _) | exact HK.out _ (by assumption)) (fun hHeld => ?_); clear hK K)
      | fail "call 7"
    try simp only [Act.put, List.setIfInBounds_toArray, List.set_cons_zero, List.set_cons_succ, List.getElem_toArray, List.getElem_cons_zero, List.getElem_cons_succ]
    first | (refine wpAnyH_take (i := 8) (v := ?_) rfl (by kernel_rfl) (by kernel_rfl) (by kernel_rfl) (fun _ _ _ h => h) (Or.inl ⟨by rfl, ?_⟩) (by assumption) ?_; rotate_left; focus (intro w hSw; (try dsimp only at hSw); go_simp; (all_goals with_reducible rfl); done)) | (refine wpAnyH_take (i := 8) rfl (by kernel_rfl) (by kernel_rfl) (by kernel_rfl) (fun _ _ _ h => h) (Or.inr ⟨by rfl, rfl⟩) (by assumption) ?_) | fail "op 8"
    try simp only [Act.put, List.setIfInBounds_toArray, List.set_cons_zero, List.set_cons_succ, List.getElem_toArray, List.getElem_cons_zero, List.getElem_cons_succ]
    first | (refine wpAnyH_take (i := 9) (v := ?_) rfl (by kernel_rfl) (by kernel_rfl) (by kernel_rfl) (fun _ _ _ h => h) (Or.inl ⟨by rfl, ?_⟩) (by assumption) ?_; rotate_left; focus (intro w hSw; (try dsimp only at hSw); go_simp; (all_goals with_reducible rfl); done)) | (refine wpAnyH_take (i := 9) rfl (by kernel_rfl) (by kernel_rfl) (by kernel_rfl) (fun _ _ _ h => h) (Or.inr ⟨by rfl, rfl⟩) (by assumption) ?_) | fail "op 9"
    try simp only [Act.put, List.setIfInBounds_toArray, List.set_cons_zero, List.set_cons_succ, List.getElem_toArray, List.getElem_cons_zero, List.getElem_cons_succ]
    first | (refine wpAnyH_take (i := 10) (v := ?_) rfl (by kernel_rfl) (by kernel_rfl) (by kernel_rfl) (fun _ _ _ h => h) (Or.inl ⟨by rfl, ?_⟩) (by assumption) ?_; rotate_left; focus (intro w hSw; (try dsimp only at hSw); go_simp; (all_goals with_reducible rfl); done)) | (refine wpAnyH_take (i := 10) rfl (by kernel_rfl) (by kernel_rfl) (by kernel_rfl) (fun _ _ _ h => h) (Or.inr ⟨by rfl, rfl⟩) (by assumption) ?_) | fail "op 10"
    try simp only [Act.put, List.setIfInBounds_toArray, List.set_cons_zero, List.set_cons_succ, List.getElem_toArray, List.getElem_cons_zero, List.getElem_cons_succ]
    first | (refine wpAnyH_take (i := 11) (v := ?_) rfl (by kernel_rfl) (by kernel_rfl) (by kernel_rfl) (fun _ _ _ h => h) (Or.inl ⟨by rfl, ?_⟩) (by assumption) ?_; rotate_left; focus (intro w hSw; (try dsimp only at hSw); go_simp; (all_goals with_reducible rfl); done)) | (refine wpAnyH_take (i := 11) rfl (by kernel_rfl) (by kernel_rfl) (by kernel_rfl) (fun _ _ _ h => h) (Or.inr ⟨by rfl, rfl⟩) (by assumption) ?_) | fail "op 11"
    try simp only [Act.put, List.setIfInBounds_toArray, List.set_cons_zero, List.set_cons_succ, List.getElem_toArray, List.getElem_cons_zero, List.getElem_cons_succ]
    first | (refine wpAnyH_take (i := 12) (v := ?_) rfl (by kernel_rfl) (by kernel_rfl) (by kernel_rfl) (fun _ _ _ h => h) (Or.inl ⟨by rfl, ?_⟩) (by assumption) ?_; rotate_left; focus (intro w hSw; (try dsimp only at hSw); go_simp; (all_goals with_reducible rfl); done)) | (refine wpAnyH_take (i := 12) rfl (by kernel_rfl) (by kernel_rfl) (by kernel_rfl) (fun _ _ _ h => h) (Or.inr ⟨by rfl, rfl⟩) (by assumption) ?_) | fail "op 12"
    try simp only [Act.put, List.setIfInBounds_toArray, List.set_cons_zero, List.set_cons_succ, List.getElem_toArray, List.getElem_cons_zero, List.getElem_cons_succ]
    first | (refine wpAnyH_take (i := 13) (v := ?_) rfl (by kernel_rfl) (by kernel_rfl) (by kernel_rfl) (fun _ _ _ h => h) (Or.inl ⟨by rfl, ?_⟩) (by assumption) ?_; rotate_left; focus (intro w hSw; (try dsimp only at hSw); go_simp; (all_goals with_reducible rfl); done)) | (refine wpAnyH_take (i := 13) rfl (by kernel_rfl) (by kernel_rfl) (by kernel_rfl) (fun _ _ _ h => h) (Or.inr ⟨by rfl, rfl⟩) (by assumption) ?_) | fail "op 13"
    try simp only [Act.put, List.setIfInBounds_toArray, List.set_cons_zero, List.set_cons_succ, List.getElem_toArray, List.getElem_cons_zero, List.getElem_cons_succ]
    first | (refine wpAnyH_take (i := 14) (v := ?_) rfl (by kernel_rfl) (by kernel_rfl) (by kernel_rfl) (fun _ _ _ h => h) (Or.inl ⟨by rfl, ?_⟩) (by assumption) ?_; rotate_left; focus (intro w hSw; (try dsimp only at hSw); go_simp; (all_goals with_reducible rfl); done)) | (refine wpAnyH_take (i := 14) rfl (by kernel_rfl) (by kernel_rfl) (by kernel_rfl) (fun _ _ _ h => h) (Or.inr ⟨by rfl, rfl⟩) (by assumption) ?_) | fail "op 14"
    try simp only [Act.put, List.setIfInBounds_toArray, List.set_cons_zero, List.set_cons_succ, List.getElem_toArray, List.getElem_cons_zero, List.getElem_cons_succ]
    first | (refine wpAnyH_take (i := 15) (v := ?_) rfl (by kernel_rfl) (by kernel_rfl) (by kernel_rfl) (fun _ _ _ h => h) (Or.inl ⟨by rfl, ?_⟩) (by assumption) ?_; rotate_left; focus (intro w hSw; (try dsimp only at hSw); go_simp; (all_goals with_reducible rfl); done)) | (refine wpAnyH_take (i := 15) rfl (by kernel_rfl) (by kernel_rfl) (by kernel_rfl) (fun _ _ _ h => h) (Or.inr ⟨by rfl, rfl⟩) (by assumption) ?_) | fail "op 15"
    try simp only [Act.put, List.setIfInBounds_toArray, List.set_cons_zero, List.set_cons_succ, List.getElem_toArray, List.getElem_cons_zero, List.getElem_cons_succ]
    first | (refine wpAnyH_take (i := 16) (v := ?_) rfl (by kernel_rfl) (by kernel_rfl) (by kernel_rfl) (fun _ _ _ h => h) (Or.inl ⟨by rfl, ?_⟩) (by assumption) ?_; rotate_left; focus (intro w hSw; (try dsimp only at hSw); go_simp; (all_goals with_reducible rfl); done)) | (refine wpAnyH_take (i := 16) rfl (by kernel_rfl) (by kernel_rfl) (by kernel_rfl) (fun _ _ _ h => h) (Or.inr ⟨by rfl, rfl⟩) (by assumption) ?_) | fail "op 16"
    try simp only [Act.put, List.setIfInBounds_toArray, List.set_cons_zero, List.set_cons_succ, List.getElem_toArray, List.getElem_cons_zero, List.getElem_cons_succ]
    first | (refine wpAnyH_take (i := 17) (v := ?_) rfl (by kernel_rfl) (by kernel_rfl) (by kernel_rfl) (fun _ _ _ h => h) (Or.inl ⟨by rfl, ?_⟩) (by assumption) ?_; rotate_left; focus (intro w hSw; (try dsimp only at hSw); go_simp; (all_goals with_reducible rfl); done)) | (refine wpAnyH_take (i := 17) rfl (by kernel_rfl) (by kernel_rfl) (by kernel_rfl) (fun _ _ _ h => h) (Or.inr ⟨by rfl, rfl⟩) (by assumption) ?_) | fail "op 17"
    try simp only [Act.put, List.setIfInBounds_toArray, List.set_cons_zero, List.set_cons_succ, List.getElem_toArray, List.getElem_cons_zero, List.getElem_cons_succ]
    first
      | refine wpAnyH_take (i := 18) rfl (by kernel_rfl) (by kernel_rfl) (by kernel_rfl) (fun _ _ _ h => h) (Or.inr ⟨by rfl, rfl⟩) (by assumption) ?_
      | (refine wpAnyH_ready (rs := [18]) (by kernel_rfl) (by simp) ?_; refine AllReadyH.cons rfl (fun K hK => ?_) AllReadyH.nil; go_simp; (first | (go_at_call 36; have hfn := HB1.out _ ⟨_, by assumption⟩; with_reducible refine hfn.mono ?_; clear hfn; rintro e wo ⟨rfl, hbo⟩; have hbo2 := since_stepC (by assumption) hbo) | (go_at_call 37; with_reducible refine (HCK.out _ hbo2).mono ?_; rintro e wk ⟨rfl, hbk⟩; have hbo2 := hbo2.trans (hbk.mono hbo2.size)) | (go_at_call 38; with_reducible refine (HCS.out _ hbo2).mono ?_; rintro e wk ⟨rfl, hbk⟩; have hbo2 := hbo2.trans (hbk.mono hbo2.size)) | (go_at_call 39; with_reducible refine (HSAME.out _ hbo2).mono ?_; rintro e wk ⟨rfl, hbk⟩; have hbo2 := hbo2.trans (hbk.mono hbo2.size))); refine hK.out _ _ (by first | assumption | exact HK.out _ (Below.refl _ _).drew | exact HK.out _ (kb_alloc (by assumption) _) | exact HK.out _ (by assumption)) (fun hHeld => ?_); clear hK K)
      | fail "call 18"
    try simp only [Act.put, List.setIfInBounds_toArray, List.set_cons_zero, List.set_cons_succ, List.getElem_toArray, List.getElem_cons_zero, List.getElem_cons_succ]
    first | (refine wpAnyH_take (i := 19) (v := ?_) rfl (by kernel_rfl) (by kernel_rfl) (by kernel_rfl) (fun _ _ _ h => h) (Or.inl ⟨by rfl, ?_⟩) (by assumption) ?_; rotate_left; focus (intro w hSw; (try dsimp only at hSw); go_simp; (all_goals with_reducible rfl); done)) | (refine wpAnyH_take (i := 19) rfl (by kernel_rfl) (by kernel_rfl) (by kernel_rfl) (fun _ _ _ h => h) (Or.inr ⟨by rfl, rfl⟩) (by assumption) ?_) | fail "op 19"
    try simp only [Act.put, List.setIfInBounds_toArray, List.set_cons_zero, List.set_cons_succ, List.getElem_toArray, List.getElem_cons_zero, List.getElem_cons_succ]
    first | (refine wpAnyH_take (i := 20) (v := ?_) rfl (by kernel_rfl) (by kernel_rfl) (by kernel_rfl) (fun _ _ _ h => h) (Or.inl ⟨by rfl, ?_⟩) (by assumption) ?_; rotate_left; focus (intro w hSw; (try dsimp only at hSw); go_simp; (all_goals with_reducible rfl); done)) | (refine wpAnyH_take (i := 20) rfl (by kernel_rfl) (by kernel_rfl) (by kernel_rfl) (fun _ _ _ h => h) (Or.inr ⟨by rfl, rfl⟩) (by assumption) ?_) | fail "op 20"
    try simp only [Act.put, List.setIfInBounds_toArray, List.set_cons_zero, List.set_cons_succ, List.getElem_toArray, List.getElem_cons_zero, List.getElem_cons_succ]
    refine wpAnyH_done (by kernel_rfl) ?_ _
    go_wp2_with fail
    go_ret
    exact ⟨by simp, (HALL.out _ hbo2).1.below⟩
  · have hb := HZO.out hc
    subst hb
    have b0 : (checkP p == 0) = false := by simp [hc]
    clear HBO HZO hc
    obtain ⟨W6, hW6⟩ : ∃ W6, W3.alloc (.cells #[.slice none 0 0, .slice none 0 0, .slice none 0 0, .int .i64 0, .int .i64 0, .int .i64 0, .int .i64 0, .int .i64 0] 60) = W6 := ⟨_, rfl⟩
    rw [hW6] at H4
    have h6 : ∀ W, Below W6.heap.size W6 W → CkIn w p s p1 p2 p3 a1 a2 a3 q1 q2 q3 c1 c2 c3 rows W ∧ Bk W W1.heap.size 60 #[.slice a zeroS.ready.length c, .slice none zeroS.outs.length 0, .slice none zeroS.takers.length 0, .int .i64 zeroS.nextSeq, .int .i64 zeroS.nextTag, .int .i64 zeroS.came, .int .i64 zeroS.acked, .int .i64 zeroS.dropped] ∧ StateAt W 0 W.heap.size a none none rb zeroS ∧ Bk W W3.heap.size 60 #[.slice none 0 0, .slice none 0 0, .slice none 0 0, .int .i64 0, .int .i64 0, .int .i64 0, .int .i64 0, .int .i64 0] ∧ StateAt W 0 W.heap.size none none none [] zeroS := fun W hW => by
      obtain ⟨x1, x2, x3, x4⟩ := H4.out _ hW
      obtain ⟨y1, y2, y3⟩ := H2.out _ x2
      exact ⟨HBX.out _ y3, y1, y2, x1, zero_at _ _ _⟩
    have HALL := Lib.hid h6
    clear h6
    have HK : Hid (∀ W, Below W6.heap.size W6 W → (((W.cell? ⟨w.heap.size, 0, none⟩ = some (.slice p1 p.posts.length q1) ∧ W.cell? ⟨w.heap.size, 1, none⟩ = some (.slice p2 p.queues.length q2) ∧ W.cell? ⟨w.heap.size, 2, none⟩ = some (.slice p3 p.binds.length q3)) ∧ (W.cell? ⟨w.heap.size + 1, 0, none⟩ = some (.slice a1 s.ready.length c1) ∧ W.cell? ⟨w.heap.size + 1, 1, none⟩ = some (.slice a2 s.outs.length c2) ∧ W.cell? ⟨w.heap.size + 1, 2, none⟩ = some (.slice a3 s.takers.length c3) ∧ W.cell? ⟨w.heap.size + 1, 3, none⟩ = some (.int .i64 s.nextSeq) ∧ W.cell? ⟨w.heap.size + 1, 4, none⟩ = some (.int .i64 s.nextTag) ∧ W.cell? ⟨w.heap.size + 1, 5, none⟩ = some (.int .i64 s.came) ∧ W.cell? ⟨w.heap.size + 1, 6, none⟩ = some (.int .i64 s.acked) ∧ W.cell? ⟨w.heap.size + 1, 7, none⟩ = some (.int .i64 s.dropped))) ∧ (W.cell? ⟨W1.heap.size, 0, none⟩ = some (.slice a zeroS.ready.length c) ∧ W.cell? ⟨W1.heap.size, 1, none⟩ = some (.slice none zeroS.outs.length 0) ∧ W.cell? ⟨W1.heap.size, 2, none⟩ = some (.slice none zeroS.takers.length 0) ∧ W.cell? ⟨W1.heap.size, 3, none⟩ = some (.int .i64 zeroS.nextSeq) ∧ W.cell? ⟨W1.heap.size, 4, none⟩ = some (.int .i64 zeroS.nextTag) ∧ W.cell? ⟨W1.heap.size, 5, none⟩ = some (.int .i64 zeroS.came) ∧ W.cell? ⟨W1.heap.size, 6, none⟩ = some (.int .i64 zeroS.acked) ∧ W.cell? ⟨W1.heap.size, 7, none⟩ = some (.int .i64 zeroS.dropped)) ∧ (W.cell? ⟨W3.heap.size, 0, none⟩ = some (.slice none 0 0) ∧ W.cell? ⟨W3.heap.size, 1, none⟩ = some (.slice none 0 0) ∧ W.cell? ⟨W3.heap.size, 2, none⟩ = some (.slice none 0 0) ∧ W.cell? ⟨W3.heap.size, 3, none⟩ = some (.int .i64 0) ∧ W.cell? ⟨W3.heap.size, 4, none⟩ = some (.int .i64 0) ∧ W.cell? ⟨W3.heap.size, 5, none⟩ = some (.int .i64 0) ∧ W.cell? ⟨W3.heap.size, 6, none⟩ = some (.int .i64 0) ∧ W.cell? ⟨W3.heap.size, 7, none⟩ = some (.int .i64 0))) ∧ Below W6.heap.size W6 W) := fun W hW => by
      obtain ⟨h1, h5, _, h8, _⟩ := HALL.out W hW
      exact ⟨⟨⟨⟨h1.plan.1, h1.plan.2.1, h1.plan.2.2⟩, h1.state⟩, ⟨h5.cell 0, h5.cell 1, h5.cell 2, h5.cell 3, h5.cell 4, h5.cell 5, h5.cell 6, h5.cell 7⟩, h8.cell 0, h8.cell 1, h8.cell 2, h8.cell 3, h8.cell 4, h8.cell 5, h8.cell 6, h8.cell 7⟩, hW⟩
    have HB1 : Hid (∀ W, (∃ C : Prop, C ∧ Below W6.heap.size W6 W) → Calls Tryd.prog 36 #[] W fun e w' => e = .returned (.bool true) ∧ Below W.heap.size W w') := fun W ⟨_, hW⟩ => stateBegun_any W (HALL.out W hW.2).1.env
    have HCK : Hid (∀ W, Below W6.heap.size W6 W → Calls Tryd.prog 37 #[.agg #[.slice p1 p.posts.length q1, .slice p2 p.queues.length q2, .slice p3 p.binds.length q3], .agg #[.slice a1 s.ready.length c1, .slice a2 s.outs.length c2, .slice a3 s.takers.length c3, .int .i64 s.nextSeq, .int .i64 s.nextTag, .int .i64 s.came, .int .i64 s.acked, .int .i64 s.dropped]] W fun e w' => e = .returned (.int .i64 (stateErr p s)) ∧ Below W.heap.size W w') := fun W hW => by
      have h := (HALL.out W hW).1
      exact SCheck_any p s p1 p2 p3 a1 a2 a3 q1 q2 q3 c1 c2 c3 rows W h.env h.planAt HPS.out h.stateAt HSS.out HSI.out
    have HCS : Hid (∀ W, Below W6.heap.size W6 W → Calls Tryd.prog 38 #[.agg #[.slice p1 p.posts.length q1, .slice p2 p.queues.length q2, .slice p3 p.binds.length q3], .agg #[.slice a1 s.ready.length c1, .slice a2 s.outs.length c2, .slice a3 s.takers.length c3, .int .i64 s.nextSeq, .int .i64 s.nextTag, .int .i64 s.came, .int .i64 s.acked, .int .i64 s.dropped]] W fun e w' => e = .returned (.int .i64 (stateErr p s)) ∧ Below W.heap.size W w') := fun W hW => by
      have h := (HALL.out W hW).1
      exact CheckState_any p s p1 p2 p3 a1 a2 a3 q1 q2 q3 c1 c2 c3 rows W h.env h.planAt HPS.out h.stateAt HSS.out HSI.out
    have HSAME : Hid (∀ W, Below W6.heap.size W6 W → Calls Tryd.prog 39 #[.agg #[.slice a zeroS.ready.length c, .slice none zeroS.outs.length 0, .slice none zeroS.takers.length 0, .int .i64 zeroS.nextSeq, .int .i64 zeroS.nextTag, .int .i64 zeroS.came, .int .i64 zeroS.acked, .int .i64 zeroS.dropped], .agg #[.slice none 0 0, .slice none 0 0, .slice none 0 0, .int .i64 0, .int .i64 0, .int .i64 0, .int .i64 0, .int .i64 0]] W fun e w' => e = .returned (.bool true) ∧ Below W.heap.size W w') := fun W hW => by
      obtain ⟨_, _, h5, _, h8⟩ := HALL.out W hW
      have := SameStates_any zeroS zeroS _ none none _ none none c 0 0 0 0 0 _ _ W h5 HSB.out h8 HSB.out
      rw [stateEq_refl] at this
      exact this
    go_upto_region 6 with fail
    try rw [hW6]
    clear hW6 H2 H4
    refine wp_region_held_drew (S := (fun W => (((W.cell? ⟨w.heap.size, 0, none⟩ = some (.slice p1 p.posts.length q1) ∧ W.cell? ⟨w.heap.size, 1, none⟩ = some (.slice p2 p.queues.length q2) ∧ W.cell? ⟨w.heap.size, 2, none⟩ = some (.slice p3 p.binds.length q3)) ∧ (W.cell? ⟨w.heap.size + 1, 0, none⟩ = some (.slice a1 s.ready.length c1) ∧ W.cell? ⟨w.heap.size + 1, 1, none⟩ = some (.slice a2 s.outs.length c2) ∧ W.cell? ⟨w.heap.size + 1, 2, none⟩ = some (.slice a3 s.takers.length c3) ∧ W.cell? ⟨w.heap.size + 1, 3, none⟩ = some (.int .i64 s.nextSeq) ∧ W.cell? ⟨w.heap.size + 1, 4, none⟩ = some (.int .i64 s.nextTag) ∧ W.cell? ⟨w.heap.size + 1, 5, none⟩ = some (.int .i64 s.came) ∧ W.cell? ⟨w.heap.size + 1, 6, none⟩ = some (.int .i64 s.acked) ∧ W.cell? ⟨w.heap.size + 1, 7, none⟩ = some (.int .i64 s.dropped))) ∧ (W.cell? ⟨W1.heap.size, 0, none⟩ = some (.slice a zeroS.ready.length c) ∧ W.cell? ⟨W1.heap.size, 1, none⟩ = some (.slice none zeroS.outs.length 0) ∧ W.cell? ⟨W1.heap.size, 2, none⟩ = some (.slice none zeroS.takers.length 0) ∧ W.cell? ⟨W1.heap.size, 3, none⟩ = some (.int .i64 zeroS.nextSeq) ∧ W.cell? ⟨W1.heap.size, 4, none⟩ = some (.int .i64 zeroS.nextTag) ∧ W.cell? ⟨W1.heap.size, 5, none⟩ = some (.int .i64 zeroS.came) ∧ W.cell? ⟨W1.heap.size, 6, none⟩ = some (.int .i64 zeroS.acked) ∧ W.cell? ⟨W1.heap.size, 7, none⟩ = some (.int .i64 zeroS.dropped)) ∧ (W.cell? ⟨W3.heap.size, 0, none⟩ = some (.slice none 0 0) ∧ W.cell? ⟨W3.heap.size, 1, none⟩ = some (.slice none 0 0) ∧ W.cell? ⟨W3.heap.size, 2, none⟩ = some (.slice none 0 0) ∧ W.cell? ⟨W3.heap.size, 3, none⟩ = some (.int .i64 0) ∧ W.cell? ⟨W3.heap.size, 4, none⟩ = some (.int .i64 0) ∧ W.cell? ⟨W3.heap.size, 5, none⟩ = some (.int .i64 0) ∧ W.cell? ⟨W3.heap.size, 6, none⟩ = some (.int .i64 0) ∧ W.cell? ⟨W3.heap.size, 7, none⟩ = some (.int .i64 0))) ∧ Below W6.heap.size W6 W)) (by kernel_rfl) (by first | assumption | exact HK.out _ (Below.refl _ _).drew | exact HK.out _ (kb_alloc (by assumption) _) | exact HK.out _ (by assumption)) (fun hHeld => ?_)
    first
      | refine wpAnyH_take (i := 0) rfl (by kernel_rfl) (by kernel_rfl) (by kernel_rfl) (fun _ _ _ h => h) (Or.inr ⟨by rfl, rfl⟩) (by assumption) ?_
      | (refine wpAnyH_ready (rs := [0]) (by kernel_rfl) (by simp) ?_; refine AllReadyH.cons rfl (fun K hK => ?_) AllReadyH.nil; go_simp; (first | (go_at_call 36; have hfn := HB1.out _ ⟨_, by assumption⟩; with_reducible refine hfn.mono ?_; clear hfn; rintro e wo ⟨rfl, hbo⟩; have hbo2 := since_stepC (by assumption) hbo) | (go_at_call 37; with_reducible refine (HCK.out _ hbo2).mono ?_; rintro e wk ⟨rfl, hbk⟩; have hbo2 := hbo2.trans (hbk.mono hbo2.size)) | (go_at_call 38; with_reducible refine (HCS.out _ hbo2).mono ?_; rintro e wk ⟨rfl, hbk⟩; have hbo2 := hbo2.trans (hbk.mono hbo2.size)) | (go_at_call 39; with_reducible refine (HSAME.out _ hbo2).mono ?_; rintro e wk ⟨rfl, hbk⟩; have hbo2 := hbo2.trans (hbk.mono hbo2.size))); refine hK.out _ _ (by first | assumption | exact HK.out _ (Below.refl _ _).drew | exact HK.out _ (kb_alloc (by assumption) _) | exact HK.out _ (by assumption)) (fun hHeld => ?_); clear hK K)
      | fail "call 0"
    try simp only [Act.put, List.setIfInBounds_toArray, List.set_cons_zero, List.set_cons_succ, List.getElem_toArray, List.getElem_cons_zero]
    first | (refine wpAnyH_take (i := 1) (v := ?_) rfl (by kernel_rfl) (by kernel_rfl) (by kernel_rfl) (fun _ _ _ h => h) (Or.inl ⟨by rfl, ?_⟩) (by assumption) ?_; rotate_left; focus (intro w hSw; (try dsimp only at hSw); go_simp; (all_goals with_reducible rfl); done)) | (refine wpAnyH_take (i := 1) rfl (by kernel_rfl) (by kernel_rfl) (by kernel_rfl) (fun _ _ _ h => h) (Or.inr ⟨by rfl, rfl⟩) (by assumption) ?_) | fail "op 1"
    try simp only [Act.put, List.setIfInBounds_toArray, List.set_cons_zero, List.set_cons_succ, List.getElem_toArray, List.getElem_cons_zero, List.getElem_cons_succ]
    first | (refine wpAnyH_take (i := 2) (v := ?_) rfl (by kernel_rfl) (by kernel_rfl) (by kernel_rfl) (fun _ _ _ h => h) (Or.inl ⟨by rfl, ?_⟩) (by assumption) ?_; rotate_left; focus (intro w hSw; (try dsimp only at hSw); go_simp; (all_goals with_reducible rfl); done)) | (refine wpAnyH_take (i := 2) rfl (by kernel_rfl) (by kernel_rfl) (by kernel_rfl) (fun _ _ _ h => h) (Or.inr ⟨by rfl, rfl⟩) (by assumption) ?_) | fail "op 2"
    try simp only [Act.put, List.setIfInBounds_toArray, List.set_cons_zero, List.set_cons_succ, List.getElem_toArray, List.getElem_cons_zero, List.getElem_cons_succ]
    first | (refine wpAnyH_take (i := 3) (v := ?_) rfl (by kernel_rfl) (by kernel_rfl) (by kernel_rfl) (fun _ _ _ h => h) (Or.inl ⟨by rfl, ?_⟩) (by assumption) ?_; rotate_left; focus (intro w hSw; (try dsimp only at hSw); go_simp; (all_goals with_reducible rfl); done)) | (refine wpAnyH_take (i := 3) rfl (by kernel_rfl) (by kernel_rfl) (by kernel_rfl) (fun _ _ _ h => h) (Or.inr ⟨by rfl, rfl⟩) (by assumption) ?_) | fail "op 3"
    try simp only [Act.put, List.setIfInBounds_toArray, List.set_cons_zero, List.set_cons_succ, List.getElem_toArray, List.getElem_cons_zero, List.getElem_cons_succ]
    first | (refine wpAnyH_take (i := 5) (v := ?_) rfl (by kernel_rfl) (by kernel_rfl) (by kernel_rfl) (fun _ _ _ h => h) (Or.inl ⟨by rfl, ?_⟩) (by assumption) ?_; rotate_left; focus (intro w hSw; (try dsimp only at hSw); go_simp; (all_goals with_reducible rfl); done)) | (refine wpAnyH_take (i := 5) rfl (by kernel_rfl) (by kernel_rfl) (by kernel_rfl) (fun _ _ _ h => h) (Or.inr ⟨by rfl, rfl⟩) (by assumption) ?_) | fail "op 5"
    try simp only [Act.put, List.setIfInBounds_toArray, List.set_cons_zero, List.set_cons_succ, List.getElem_toArray, List.getElem_cons_zero, List.getElem_cons_succ]
    first | (refine wpAnyH_take (i := 6) (v := ?_) rfl (by kernel_rfl) (by kernel_rfl) (by kernel_rfl) (fun _ _ _ h => h) (Or.inl ⟨by rfl, ?_⟩) (by assumption) ?_; rotate_left; focus (intro w hSw; (try dsimp only at hSw); go_simp; (all_goals with_reducible rfl); done)) | (refine wpAnyH_take (i := 6) rfl (by kernel_rfl) (by kernel_rfl) (by kernel_rfl) (fun _ _ _ h => h) (Or.inr ⟨by rfl, rfl⟩) (by assumption) ?_) | fail "op 6"
    try simp only [Act.put, List.setIfInBounds_toArray, List.set_cons_zero, List.set_cons_succ, List.getElem_toArray, List.getElem_cons_zero, List.getElem_cons_succ]
    first
      | refine wpAnyH_take (i := 4) rfl (by kernel_rfl) (by kernel_rfl) (by kernel_rfl) (fun _ _ _ h => h) (Or.inr ⟨by rfl, rfl⟩) (by assumption) ?_
      | (refine wpAnyH_ready (rs := [4]) (by kernel_rfl) (by simp) ?_; refine AllReadyH.cons rfl (fun K hK => ?_) AllReadyH.nil; go_simp; (first | (go_at_call 36; have hfn := HB1.out _ ⟨_, by assumption⟩; with_reducible refine hfn.mono ?_; clear hfn; rintro e wo ⟨rfl, hbo⟩; have hbo2 := since_stepC (by assumption) hbo) | (go_at_call 37; with_reducible refine (HCK.out _ hbo2).mono ?_; rintro e wk ⟨rfl, hbk⟩; have hbo2 := hbo2.trans (hbk.mono hbo2.size)) | (go_at_call 38; with_reducible refine (HCS.out _ hbo2).mono ?_; rintro e wk ⟨rfl, hbk⟩; have hbo2 := hbo2.trans (hbk.mono hbo2.size)) | (go_at_call 39; with_reducible refine (HSAME.out _ hbo2).mono ?_; rintro e wk ⟨rfl, hbk⟩; have hbo2 := hbo2.trans (hbk.mono hbo2.size))); refine hK.out _ _ (by first | assumption | exact HK.out _ (Below.refl _ _).drew | exact HK.out _ (kb_alloc (by assumption) _) | exact HK.out _ (by assumption)) (fun hHeld => ?_); clear hK K)
      | fail "call 4"
    try simp only [Act.put, List.setIfInBounds_toArray, List.set_cons_zero, List.set_cons_succ, List.getElem_toArray, List.getElem_cons_zero, List.getElem_cons_succ]
    first
      | refine wpAnyH_take (i := 7) rfl (by kernel_rfl) (by kernel_rfl) (by kernel_rfl) (fun _ _ _ h => h) (Or.inr ⟨by rfl, rfl⟩) (by assumption) ?_
      | (refine wpAnyH_ready (rs := [7]) (by kernel_rfl) (by simp) ?_; refine AllReadyH.cons rfl (fun K hK => ?_) AllReadyH.nil; go_simp; (first | (go_at_call 36; have hfn := HB1.out _ ⟨_, by assumption⟩; with_reducible refine hfn.mono ?_; clear hfn; rintro e wo ⟨rfl, hbo⟩; have hbo2 := since_stepC (by assumption) hbo) | (go_at_call 37; with_reducible refine (HCK.out _ hbo2).mono ?_; rintro e wk ⟨rfl, hbk⟩; have hbo2 := hbo2.trans (hbk.mono hbo2.size)) | (go_at_call 38; with_reducible refine (HCS.out _ hbo2).mono ?_; rintro e wk ⟨rfl, hbk⟩; have hbo2 := hbo2.trans (hbk.mono hbo2.size)) | (go_at_call 39; with_reducible refine (HSAME.out _ hbo2).mono ?_; rintro e wk ⟨rfl, hbk⟩; have hbo2 := hbo2.trans (hbk.mono hbo2.size))); refine hK.out _ _ (by first | assumption | exact HK.out _ (Below.refl _ _).drew | exact HK.out _ (kb_alloc (by assumption) _) | exact HK.out _ (by assumption)) (fun hHeld => ?_); clear hK K)
      | fail "call 7"
    try simp only [Act.put, List.setIfInBounds_toArray, List.set_cons_zero, List.set_cons_succ, List.getElem_toArray, List.getElem_cons_zero, List.getElem_cons_succ]
    first | (refine wpAnyH_take (i := 8) (v := ?_) rfl (by kernel_rfl) (by kernel_rfl) (by kernel_rfl) (fun _ _ _ h => h) (Or.inl ⟨by rfl, ?_⟩) (by assumption) ?_; rotate_left; focus (intro w hSw; (try dsimp only at hSw); go_simp; (all_goals with_reducible rfl); done)) | (refine wpAnyH_take (i := 8) rfl (by kernel_rfl) (by kernel_rfl) (by kernel_rfl) (fun _ _ _ h => h) (Or.inr ⟨by rfl, rfl⟩) (by assumption) ?_) | fail "op 8"
    try simp only [Act.put, List.setIfInBounds_toArray, List.set_cons_zero, List.set_cons_succ, List.getElem_toArray, List.getElem_cons_zero, List.getElem_cons_succ]
    first | (refine wpAnyH_take (i := 9) (v := ?_) rfl (by kernel_rfl) (by kernel_rfl) (by kernel_rfl) (fun _ _ _ h => h) (Or.inl ⟨by rfl, ?_⟩) (by assumption) ?_; rotate_left; focus (intro w hSw; (try dsimp only at hSw); go_simp; (all_goals with_reducible rfl); done)) | (refine wpAnyH_take (i := 9) rfl (by kernel_rfl) (by kernel_rfl) (by kernel_rfl) (fun _ _ _ h => h) (Or.inr ⟨by rfl, rfl⟩) (by assumption) ?_) | fail "op 9"
    try simp only [Act.put, List.setIfInBounds_toArray, List.set_cons_zero, List.set_cons_succ, List.getElem_toArray, List.getElem_cons_zero, List.getElem_cons_succ]
    first | (refine wpAnyH_take (i := 10) (v := ?_) rfl (by kernel_rfl) (by kernel_rfl) (by kernel_rfl) (fun _ _ _ h => h) (Or.inl ⟨by rfl, ?_⟩) (by assumption) ?_; rotate_left; focus (intro w hSw; (try dsimp only at hSw); go_simp; (all_goals with_reducible rfl); done)) | (refine wpAnyH_take (i := 10) rfl (by kernel_rfl) (by kernel_rfl) (by kernel_rfl) (fun _ _ _ h => h) (Or.inr ⟨by rfl, rfl⟩) (by assumption) ?_) | fail "op 10"
    try simp only [Act.put, List.setIfInBounds_toArray, List.set_cons_zero, List.set_cons_succ, List.getElem_toArray, List.getElem_cons_zero, List.getElem_cons_succ]
    first | (refine wpAnyH_take (i := 11) (v := ?_) rfl (by kernel_rfl) (by kernel_rfl) (by kernel_rfl) (fun _ _ _ h => h) (Or.inl ⟨by rfl, ?_⟩) (by assumption) ?_; rotate_left; focus (intro w hSw; (try dsimp only at hSw); go_simp; (all_goals with_reducible rfl); done)) | (refine wpAnyH_take (i := 11) rfl (by kernel_rfl) (by kernel_rfl) (by kernel_rfl) (fun _ _ _ h => h) (Or.inr ⟨by rfl, rfl⟩) (by assumption) ?_) | fail "op 11"
    try simp only [Act.put, List.setIfInBounds_toArray, List.set_cons_zero, List.set_cons_succ, List.getElem_toArray, List.getElem_cons_zero, List.getElem_cons_succ]
    first | (refine wpAnyH_take (i := 12) (v := ?_) rfl (by kernel_rfl) (by kernel_rfl) (by kernel_rfl) (fun _ _ _ h => h) (Or.inl ⟨by rfl, ?_⟩) (by assumption) ?_; rotate_left; focus (intro w hSw; (try dsimp only at hSw); go_simp; (all_goals with_reducible rfl); done)) | (refine wpAnyH_take (i := 12) rfl (by kernel_rfl) (by kernel_rfl) (by kernel_rfl) (fun _ _ _ h => h) (Or.inr ⟨by rfl, rfl⟩) (by assumption) ?_) | fail "op 12"
    try simp only [Act.put, List.setIfInBounds_toArray, List.set_cons_zero, List.set_cons_succ, List.getElem_toArray, List.getElem_cons_zero, List.getElem_cons_succ]
    first | (refine wpAnyH_take (i := 13) (v := ?_) rfl (by kernel_rfl) (by kernel_rfl) (by kernel_rfl) (fun _ _ _ h => h) (Or.inl ⟨by rfl, ?_⟩) (by assumption) ?_; rotate_left; focus (intro w hSw; (try dsimp only at hSw); go_simp; (all_goals with_reducible rfl); done)) | (refine wpAnyH_take (i := 13) rfl (by kernel_rfl) (by kernel_rfl) (by kernel_rfl) (fun _ _ _ h => h) (Or.inr ⟨by rfl, rfl⟩) (by assumption) ?_) | fail "op 13"
    try simp only [Act.put, List.setIfInBounds_toArray, List.set_cons_zero, List.set_cons_succ, List.getElem_toArray, List.getElem_cons_zero, List.getElem_cons_succ]
    first | (refine wpAnyH_take (i := 14) (v := ?_) rfl (by kernel_rfl) (by kernel_rfl) (by kernel_rfl) (fun _ _ _ h => h) (Or.inl ⟨by rfl, ?_⟩) (by assumption) ?_; rotate_left; focus (intro w hSw; (try dsimp only at hSw); go_simp; (all_goals with_reducible rfl); done)) | (refine wpAnyH_take (i := 14) rfl (by kernel_rfl) (by kernel_rfl) (by kernel_rfl) (fun _ _ _ h => h) (Or.inr ⟨by rfl, rfl⟩) (by assumption) ?_) | fail "op 14"
    try simp only [Act.put, List.setIfInBounds_toArray, List.set_cons_zero, List.set_cons_succ, List.getElem_toArray, List.getElem_cons_zero, List.getElem_cons_succ]
    first | (refine wpAnyH_take (i := 15) (v := ?_) rfl (by kernel_rfl) (by kernel_rfl) (by kernel_rfl) (fun _ _ _ h => h) (Or.inl ⟨by rfl, ?_⟩) (by assumption) ?_; rotate_left; focus (intro w hSw; (try dsimp only at hSw); go_simp; (all_goals with_reducible rfl); done)) | (refine wpAnyH_take (i := 15) rfl (by kernel_rfl) (by kernel_rfl) (by kernel_rfl) (fun _ _ _ h => h) (Or.inr ⟨by rfl, rfl⟩) (by assumption) ?_) | fail "op 15"
    try simp only [Act.put, List.setIfInBounds_toArray, List.set_cons_zero, List.set_cons_succ, List.getElem_toArray, List.getElem_cons_zero, List.getElem_cons_succ]
    first | (refine wpAnyH_take (i := 16) (v := ?_) rfl (by kernel_rfl) (by kernel_rfl) (by kernel_rfl) (fun _ _ _ h => h) (Or.inl ⟨by rfl, ?_⟩) (by assumption) ?_; rotate_left; focus (intro w hSw; (try dsimp only at hSw); go_simp; (all_goals with_reducible rfl); done)) | (refine wpAnyH_take (i := 16) rfl (by kernel_rfl) (by kernel_rfl) (by kernel_rfl) (fun _ _ _ h => h) (Or.inr ⟨by rfl, rfl⟩) (by assumption) ?_) | fail "op 16"
    try simp only [Act.put, List.setIfInBounds_toArray, List.set_cons_zero, List.set_cons_succ, List.getElem_toArray, List.getElem_cons_zero, List.getElem_cons_succ]
    first | (refine wpAnyH_take (i := 17) (v := ?_) rfl (by kernel_rfl) (by kernel_rfl) (by kernel_rfl) (fun _ _ _ h => h) (Or.inl ⟨by rfl, ?_⟩) (by assumption) ?_; rotate_left; focus (intro w hSw; (try dsimp only at hSw); go_simp; (all_goals with_reducible rfl); done)) | (refine wpAnyH_take (i := 17) rfl (by kernel_rfl) (by kernel_rfl) (by kernel_rfl) (fun _ _ _ h => h) (Or.inr ⟨by rfl, rfl⟩) (by assumption) ?_) | fail "op 17"
    try simp only [Act.put, List.setIfInBounds_toArray, List.set_cons_zero, List.set_cons_succ, List.getElem_toArray, List.getElem_cons_zero, List.getElem_cons_succ]
    first
      | refine wpAnyH_take (i := 18) rfl (by kernel_rfl) (by kernel_rfl) (by kernel_rfl) (fun _ _ _ h => h) (Or.inr ⟨by rfl, rfl⟩) (by assumption) ?_
      | (refine wpAnyH_ready (rs := [18]) (by kernel_rfl) (by simp) ?_; refine AllReadyH.cons rfl (fun K hK => ?_) AllReadyH.nil; go_simp; (first | (go_at_call 36; have hfn := HB1.out _ ⟨_, by assumption⟩; with_reducible refine hfn.mono ?_; clear hfn; rintro e wo ⟨rfl, hbo⟩; have hbo2 := since_stepC (by assumption) hbo) | (go_at_call 37; with_reducible refine (HCK.out _ hbo2).mono ?_; rintro e wk ⟨rfl, hbk⟩; have hbo2 := hbo2.trans (hbk.mono hbo2.size)) | (go_at_call 38; with_reducible refine (HCS.out _ hbo2).mono ?_; rintro e wk ⟨rfl, hbk⟩; have hbo2 := hbo2.trans (hbk.mono hbo2.size)) | (go_at_call 39; with_reducible refine (HSAME.out _ hbo2).mono ?_; rintro e wk ⟨rfl, hbk⟩; have hbo2 := hbo2.trans (hbk.mono hbo2.size))); refine hK.out _ _ (by first | assumption | exact HK.out _ (Below.refl _ _).drew | exact HK.out _ (kb_alloc (by assumption) _) | exact HK.out _ (by assumption)) (fun hHeld => ?_); clear hK K)
      | fail "call 18"
    try simp only [Act.put, List.setIfInBounds_toArray, List.set_cons_zero, List.set_cons_succ, List.getElem_toArray, List.getElem_cons_zero, List.getElem_cons_succ]
    first | (refine wpAnyH_take (i := 19) (v := ?_) rfl (by kernel_rfl) (by kernel_rfl) (by kernel_rfl) (fun _ _ _ h => h) (Or.inl ⟨by rfl, ?_⟩) (by assumption) ?_; rotate_left; focus (intro w hSw; (try dsimp only at hSw); go_simp; (all_goals with_reducible rfl); done)) | (refine wpAnyH_take (i := 19) rfl (by kernel_rfl) (by kernel_rfl) (by kernel_rfl) (fun _ _ _ h => h) (Or.inr ⟨by rfl, rfl⟩) (by assumption) ?_) | fail "op 19"
    try simp only [Act.put, List.setIfInBounds_toArray, List.set_cons_zero, List.set_cons_succ, List.getElem_toArray, List.getElem_cons_zero, List.getElem_cons_succ]
    first | (refine wpAnyH_take (i := 20) (v := ?_) rfl (by kernel_rfl) (by kernel_rfl) (by kernel_rfl) (fun _ _ _ h => h) (Or.inl ⟨by rfl, ?_⟩) (by assumption) ?_; rotate_left; focus (intro w hSw; (try dsimp only at hSw); go_simp; (all_goals with_reducible rfl); done)) | (refine wpAnyH_take (i := 20) rfl (by kernel_rfl) (by kernel_rfl) (by kernel_rfl) (fun _ _ _ h => h) (Or.inr ⟨by rfl, rfl⟩) (by assumption) ?_) | fail "op 20"
    try simp only [Act.put, List.setIfInBounds_toArray, List.set_cons_zero, List.set_cons_succ, List.getElem_toArray, List.getElem_cons_zero, List.getElem_cons_succ]
    refine wpAnyH_done (by kernel_rfl) ?_ _
    go_wp2_with fail
    go_ret
    exact ⟨by simp, (HALL.out _ hbo2).1.below⟩

theorem stateChecks_any (p : PlanD) (p1 p2 p3 : Option Addr) (q1 q2 q3 : Nat) (s : StateD) (a1 a2 a3 : Option Addr) (c1 c2 c3 : Nat) (rows : List RowD) (w : World) (hp : PlanAt w 0 w.heap.size p1 p2 p3 p) (hps : PlanSmall p) (_ : PlanInts p) (hs : StateAt w 0 w.heap.size a1 a2 a3 rows s) (hss : StateSmall s) (hsi : StateInts s)
    (_ : s.ready.length ≤ c1 ∧ s.outs.length ≤ c2 ∧ s.takers.length ≤ c3) (hE : Env w) : Calls Tryd.prog 10 #[planV p p1 p2 p3 q1 q2 q3, stateV s a1 a2 a3 c1 c2 c3] w fun e w' => e = .returned (.bool true) ∧ Below w.heap.size w w' :=
  stateChecks_go p s p1 p2 p3 a1 a2 a3 q1 q2 q3 c1 c2 c3 rows w hE hp hps hs hss hsi

end Go.Proofs.YtbdikenloklhaaaDoor

