/-
  The plain law of fair takers: two letters that are delivered one behind the other go to two takers.
  The law TakersFair answers true.
-/
import Derived.Test.YtapimpmpjighmaaDoorBunI
import Derived.Test.YtapimpmpjighmaaDoorBunJ
import Derived.IntWalk
import Derived.Deep.CutRange
import Derived.Deep.RegionHeld3
set_option linter.unusedSimpArgs false
set_option linter.unusedVariables false
namespace Go.Proofs.YtapimpmpjighmaaDoor

theorem joinS_ok {p : PlanD} {s : StateD} {q m : Int} (h : joinErr p s q m = 0) : joinS p s q m = { s with takers := joinL s.takers ⟨q, m⟩ } := by unfold joinS; rw [if_pos h]
theorem joinN_ok {p : PlanD} {s : StateD} {q m : Int} (h : joinErr p s q m = 0) : joinN p s q m = joinI s.takers := by unfold joinN; rw [if_pos h]
theorem given_line {s : StateD} {q : Int} (hq : q.toNat < s.ready.length) (i : Int) : lineAt (givenS s q i) q = (lineAt s q).drop 1 := by
  unfold givenS
  rw [lineAt]
  simp only
  rw [List.getElem?_set_self hq]
  rfl
/-- Behind two joins and two deliveries. -/
theorem fair_law {p : PlanD} {s A B C D : StateD} {q m1 m2 : Int} (h1 : joinErr p s q m1 = 0) (hA : joinS p s q m1 = A) (h2 : joinErr p A q m2 = 0) (hB : joinS p A q m2 = B) (h3 : deliverErr p B q = 0) (hC : deliverS p B q = C) (h4 : deliverErr p C q = 0) (hD : deliverS p C q = D) :
    joinN p s q m1 ≠ joinN p A q m2 ∧ ∃ l o1 o2, D.outs = l ++ [o1, o2] ∧ o1.taker ≠ o2.taker ∧ o1.item.seq < o2.item.seq ∧ o1.tag < o2.tag := by
  obtain ⟨a1, b1, _⟩ := join_ok.1 h1
  obtain ⟨a2, b2, _⟩ := join_ok.1 h2
  obtain ⟨hR, hq0, hq1⟩ := ask_ok.1 a1
  have RA : Right p A := by have := join_right h1; rwa [hA] at this
  have RB : Right p B := by have := join_right h2; rwa [hB] at this
  have eA := joinS_ok h1
  have eB := joinS_ok h2
  rw [hA] at eA
  rw [hB] at eB
  have tA : A.takers = joinL s.takers ⟨q, m1⟩ := by rw [eA]
  have oA : A.outs = s.outs := by rw [eA]
  have tB : B.takers = joinL A.takers ⟨q, m2⟩ := by rw [eB]
  have oB : B.outs = A.outs := by rw [eB]
  have ai : A.takers[joinI s.takers]? = some ⟨q, m1⟩ := by rw [tA, joinL_at, if_pos rfl]
  have hij : joinI s.takers ≠ joinI A.takers := fun e => by
    have := joinI_gone (l := A.takers) (t := ⟨q, m1⟩) (by rw [← e]; exact ai)
    simp only at this
    omega
  have bj : B.takers[joinI A.takers]? = some ⟨q, m2⟩ := by rw [tB, joinL_at, if_pos rfl]
  have bi : B.takers[joinI s.takers]? = some ⟨q, m1⟩ := by rw [tB, joinL_at, if_neg hij]; exact ai
  have hi : heldS B (joinI s.takers) = 0 := by
    have := held_gone hR.toFormed (k := joinI s.takers) fun t ht => joinI_gone ht
    unfold heldS at this ⊢
    rw [oB, oA]; exact this
  have hj : heldS B (joinI A.takers) = 0 := by
    have := held_gone RA.toFormed (k := joinI A.takers) fun t ht => joinI_gone ht
    unfold heldS at this ⊢
    rw [oB]; exact this
  obtain ⟨i1, _, _, mn1, e1, RC⟩ := deliver_right h3
  rw [hC] at e1
  obtain ⟨i2, _, _, mn2, e2, _⟩ := deliver_right h4
  rw [hD] at e2
  have z1 : heldS B i1 ≤ 0 := by rw [← hi]; exact mn1 _ ⟨_, bi, rfl, by rw [hi]; show ((0 : Nat) : Int) < m1; omega⟩
  have hcg : ∀ k : Nat, heldS C k = heldS B k + if k = i1 then 1 else 0 := fun k => by rw [e1]; exact held_given B q i1 k
  have tC : C.takers = B.takers := by rw [e1]; rfl
  obtain ⟨k, hk1, hk2⟩ : ∃ k : Nat, k ≠ i1 ∧ Elig C q k ∧ heldS C k = 0 := by
    by_cases e : joinI s.takers = i1
    · have hne : joinI A.takers ≠ i1 := fun e' => hij (e.trans e'.symm)
      have hz : heldS C (joinI A.takers) = 0 := by rw [hcg, if_neg hne, hj]
      exact ⟨_, hne, ⟨_, by rw [tC]; exact bj, rfl, by rw [hz]; show ((0 : Nat) : Int) < m2; omega⟩, hz⟩
    · have hz : heldS C (joinI s.takers) = 0 := by rw [hcg, if_neg e, hi]
      exact ⟨_, e, ⟨_, by rw [tC]; exact bi, rfl, by rw [hz]; show ((0 : Nat) : Int) < m1; omega⟩, hz⟩
  have hne : i1 ≠ i2 := fun e => by
    have a := mn2 k hk2.1
    rw [hk2.2, ← e, hcg, if_pos rfl] at a
    omega
  obtain ⟨n3, _⟩ := deliver_ok.1 h3
  obtain ⟨n4, _⟩ := deliver_ok.1 h4
  obtain ⟨r, hl, hr⟩ := line_head n3
  obtain ⟨r', hl', hr'⟩ := line_head n4
  have hqB : q.toNat < B.ready.length := (List.getElem?_eq_some_iff.1 hr).1
  have hlc : lineAt C q = r := by
    rw [e1, given_line hqB, hl]; rfl
  rw [hlc] at hl'
  have hline := RB.line _ (List.mem_of_getElem? hr)
  rw [lineFine_iff, hl'] at hline
  have hseq : (headAt B q).seq < (headAt C q).seq := (List.pairwise_cons.1 hline.2).1 _ List.mem_cons_self
  refine ⟨by rw [joinN_ok h1, joinN_ok h2]; exact hij, B.outs, ⟨B.nextTag, i1, q, headAt B q⟩, ⟨C.nextTag, i2, q, headAt C q⟩, ?_, ?_, hseq, ?_⟩
  · rw [e2]
    unfold givenS
    simp only
    rw [e1]
    unfold givenS
    simp only [List.append_assoc, List.cons_append, List.nil_append]
  · show (i1 : Int) ≠ (i2 : Int)
    omega
  · show B.nextTag < C.nextTag
    rw [e1]
    show B.nextTag < B.nextTag + 1
    omega

/-- What is known of a state behind a delivery. -/
structure TrueFacts (p : PlanD) (s : StateD) (q : Int) (X : StateD) (t : Int) (k i : Nat) (x : ItemD) (rest : List ItemD) (tk : TakerD) : Prop where
  hq : q = (k : Int)
  right : Right p s
  rightX : Right p X
  row : s.ready[k]? = some (x :: rest)
  rowsX : X.ready = s.ready.set k rest
  outs : X.outs = s.outs ++ [⟨s.nextTag, (i : Int), (k : Int), x⟩]
  tag : t = s.nextTag
  takersX : X.takers = s.takers
  taker : s.takers[i]? = some tk
  queue : tk.queue = (k : Int)
  held : (heldS s i : Int) < tk.atOnce
  least : ∀ (j : Nat) (u : TakerD), s.takers[j]? = some u → u.queue = (k : Int) → (heldS s j : Int) < u.atOnce → heldS s i ≤ heldS s j
theorem true_facts {p : PlanD} {s : StateD} {q : Int} (h : deliverErr p s q = 0) : ∃ k i x rest tk, TrueFacts p s q (deliverS p s q) (deliverT p s q) k i x rest tk := by
  obtain ⟨h0, ht⟩ := deliver_ok.1 h
  obtain ⟨h1, _, _⟩ := next_ok.1 h0
  obtain ⟨hR, hq0, hq1⟩ := ask_ok.1 h1
  obtain ⟨i, hb, ⟨tk, e1, e2, e3⟩, hm, hS, hRX⟩ := deliver_right h
  obtain ⟨r, hl, hr⟩ := line_head h0
  have hq : q = ((q.toNat : Nat) : Int) := by omega
  refine ⟨q.toNat, i, headAt s q, r, tk, hq, hR, by rw [hS]; exact hRX, hr, ?_, ?_, ?_, by rw [hS]; rfl, e1, by rw [← hq]; exact e2, e3, fun j u h1 h2 h3 => hm j ⟨u, h1, by rw [h2, ← hq], h3⟩⟩
  · rw [hS]
    show s.ready.set q.toNat ((lineAt s q).drop 1) = _
    rw [hl]; rfl
  · rw [hS]
    show s.outs ++ [(⟨s.nextTag, (i : Int), q, headAt s q⟩ : OutD)] = _
    rw [← hq]
  · unfold deliverT
    rw [if_pos h]

end Go.Proofs.YtapimpmpjighmaaDoor

namespace Go.Proofs.YtapimpmpjighmaaDoor
open Go.RowKit
set_option maxRecDepth 100000

theorem out_at {w : World} {lo hi b o : Nat} {l : List OutD} (h : Sl w lo hi (some ⟨b, o, none⟩) (l.flatMap vOut)) {k : Nat} {x : OutD} (hk : l[k]? = some x) :
    w.cell? ⟨b, o + k * 8, none⟩ = some (.int .i64 x.tag) ∧ w.cell? ⟨b, o + k * 8 + 1, none⟩ = some (.int .i64 x.taker) ∧ w.cell? ⟨b, o + k * 8 + 2, none⟩ = some (.int .i64 x.queue) ∧ w.cell? ⟨b, o + k * 8 + 3, none⟩ = some (.int .i64 x.item.seq) ∧
      w.cell? ⟨b, o + k * 8 + 4, none⟩ = some (.string x.item.key) ∧ w.cell? ⟨b, o + k * 8 + 5, none⟩ = some (.string x.item.body) ∧ w.cell? ⟨b, o + k * 8 + 6, none⟩ = some (.bool x.item.again) ∧ w.cell? ⟨b, o + k * 8 + 7, none⟩ = some (.int .i64 x.item.deaths) := by
  obtain ⟨hl, rfl⟩ := List.getElem?_eq_some_iff.1 hk
  obtain ⟨b', o', e, _, _, hc⟩ := sl_elem vOut_len (by decide) h hl
  simp only [Option.some.injEq, Addr.mk.injEq] at e
  obtain ⟨rfl, rfl, _⟩ := e
  exact out_cells (wr := w) hc
theorem own_some {w : World} {lo hi : Nat} {a : Option Addr} {us : List Value} (h : Sl w lo hi a us) (hu : us ≠ []) : ∃ b o, a = some ⟨b, o, none⟩ ∧ b < hi := by
  rcases h with rfl | ⟨b, o, e, _, h2, _⟩
  · exact absurd rfl hu
  · exact ⟨b, o, e, h2⟩
/-- Two Outs in two boxes. -/
def TwoOuts (o1 o2 : OutD) (W4 : World) (x y : Value) (wx : World) : Prop :=
  ∃ gx gy, x = .pointer (some ⟨gx, 0, none⟩) ∧ y = .pointer (some ⟨gy, 0, none⟩) ∧ Bk wx gx 55 (vOut o1).toArray ∧ Bk wx gy 55 (vOut o2).toArray ∧ Below W4.heap.size W4 wx

theorem below_two (w : World) (o o' : Obj) : Below w.heap.size w ((w.alloc o).alloc o').drew := (((Below.refl _ _).alloc (Nat.le_refl _) _).alloc (by simp) _).drew
theorem two_outs (o1 o2 : OutD) (W4 : World) : TwoOuts o1 o2 W4 (.pointer (some ⟨W4.heap.size, 0, none⟩)) (.pointer (some ⟨W4.heap.size + 1, 0, none⟩)) ((W4.alloc (.cells (vOut o1).toArray 55)).alloc (.cells (vOut o2).toArray 55)).drew :=
  ⟨_, _, rfl, rfl, (Bk.new _ _ _).alloc _, Bk.new_at _ _ _ (by simp), below_two _ _ _⟩
theorem two_outs' (o1 o2 : OutD) (W4 : World) : TwoOuts o1 o2 W4 (.pointer (some ⟨W4.heap.size + 1, 0, none⟩)) (.pointer (some ⟨W4.heap.size, 0, none⟩)) ((W4.alloc (.cells (vOut o2).toArray 55)).alloc (.cells (vOut o1).toArray 55)).drew :=
  ⟨_, _, rfl, rfl, Bk.new_at _ _ _ (by simp), (Bk.new _ _ _).alloc _, below_two _ _ _⟩

set_option maxHeartbeats 8000000 in
theorem takersFair_go (p : PlanD) (s : StateD) (q m1 m2 : Int) (p1 p2 p3 a1 a2 a3 : Option Addr) (q1 q2 q3 c1 c2 c3 : Nat) (rows : List RowD) (w : World) (hE : Env w) (hp : PlanAt w 0 w.heap.size p1 p2 p3 p) (hps : PlanSmall p) (hs : StateAt w 0 w.heap.size a1 a2 a3 rows s) (hss : StateSmall s) (hsi : StateInts s) :
    Calls Tryd.prog 7 #[planV p p1 p2 p3 q1 q2 q3, stateV s a1 a2 a3 c1 c2 c3, .int .i64 q, .int .i64 m1, .int .i64 m2] w fun e w' => e = .returned (.bool true) ∧ Below w.heap.size w w' := by
  have hbx := two_boxes q1 q2 q3 c1 c2 c3 hE hp hs 26 43
  unfold vState at hbx
  unfold stateV planV vState
  have HBX := Lib.hid hbx
  have HPS := Lib.hid hps
  have HSS := Lib.hid hss
  have HSI := Lib.hid hsi
  clear hbx hE hp hs hps hss hsi
  go_enter Tryd.func7, Tryd.ntmps7
  obtain ⟨⟨m0, m1, m2⟩, ⟨n0, n1, n2, n3, n4, n5, n6, n7⟩, _, _, _, _⟩ := HBX.out _ (Below.refl _ _)
  go_wp2_with fail
  clear m0 m1 m2 n0 n1 n2 n3 n4 n5 n6 n7
  generalize ((w.alloc (.cells #[.slice p1 p.posts.length q1, .slice p2 p.queues.length q2, .slice p3 p.binds.length q3] 26)).alloc (.cells #[Value.slice a1 s.ready.length c1, Value.slice a2 s.outs.length c2, Value.slice a3 s.takers.length c3, Value.int IntKind.i64 s.nextSeq, Value.int IntKind.i64 s.nextTag, Value.int IntKind.i64 s.came, Value.int IntKind.i64 s.acked, Value.int IntKind.i64 s.dropped] 43)) = W0 at *
  have htl : 0 ≤ (1 : Int) := by decide
  obtain ⟨A, hA⟩ : ∃ A, joinS p s q m1 = A := ⟨_, rfl⟩
  obtain ⟨n1, hn1⟩ : ∃ n, joinN p s q m1 = n := ⟨_, rfl⟩
  obtain ⟨r1, hr1⟩ : ∃ r, joinErr p s q m1 = r := ⟨_, rfl⟩
  obtain ⟨B, hB⟩ : ∃ B, joinS p A q m2 = B := ⟨_, rfl⟩
  obtain ⟨n2, hn2⟩ : ∃ n, joinN p A q m2 = n := ⟨_, rfl⟩
  obtain ⟨r2, hr2⟩ : ∃ r, joinErr p A q m2 = r := ⟨_, rfl⟩
  obtain ⟨C, hC⟩ : ∃ C, deliverS p B q = C := ⟨_, rfl⟩
  obtain ⟨t3, ht3⟩ : ∃ t, deliverT p B q = t := ⟨_, rfl⟩
  obtain ⟨r3, hr3⟩ : ∃ r, deliverErr p B q = r := ⟨_, rfl⟩
  obtain ⟨D, hD⟩ : ∃ D, deliverS p C q = D := ⟨_, rfl⟩
  obtain ⟨t4, ht4⟩ : ∃ t, deliverT p C q = t := ⟨_, rfl⟩
  obtain ⟨r4, hr4⟩ : ∃ r, deliverErr p C q = r := ⟨_, rfl⟩
  have HSA : Hid (StateSmall A ∧ StateInts A) := by rw [← hA]; exact join_small p s q m1
  have HSB : Hid (StateSmall B ∧ StateInts B) := by rw [← hB]; exact join_small p A q m2
  have HSC : Hid (StateSmall C ∧ StateInts C) := by rw [← hC]; exact deliver_small p B q
  have HSD : Hid (StateSmall D) := by rw [← hD]; exact (deliver_small p C q).1
  have HF : Hid (r1 = 0 → r2 = 0 → r3 = 0 → r4 = 0 → n1 ≠ n2 ∧ ∃ l o1 o2, D.outs = l ++ [o1, o2] ∧ o1.taker ≠ o2.taker ∧ o1.item.seq < o2.item.seq ∧ o1.tag < o2.tag) := fun z1 z2 z3 z4 => by
    rw [← hn1, ← hn2]
    exact fair_law (hr1.trans z1) hA (hr2.trans z2) hB (hr3.trans z3) hC (hr4.trans z4) hD
  have HC1 : Hid (∀ W, Below W0.heap.size W0 W → Calls Tryd.prog 18 #[.agg #[.slice p1 p.posts.length q1, .slice p2 p.queues.length q2, .slice p3 p.binds.length q3], .agg #[.slice a1 s.ready.length c1, .slice a2 s.outs.length c2, .slice a3 s.takers.length c3, .int .i64 s.nextSeq, .int .i64 s.nextTag, .int .i64 s.came, .int .i64 s.acked, .int .i64 s.dropped], .int .i64 q, .int .i64 m1] W (TkPost A n1 r1 W)) := fun W hW => by
    have := Join_any p s q m1 p1 p2 p3 a1 a2 a3 q1 q2 q3 c1 c2 c3 rows W (HBX.out _ hW).env (HBX.out _ hW).planAt HPS.out (HBX.out _ hW).stateAt HSS.out HSI.out
    rw [hA, hn1, hr1] at this
    exact this
  have HC2 : Hid (∀ W x1 x2 x3 xc1 xc2 xc3 rx, Below W0.heap.size W0 W → StateAt W 0 W.heap.size x1 x2 x3 rx A → Calls Tryd.prog 18 #[.agg #[.slice p1 p.posts.length q1, .slice p2 p.queues.length q2, .slice p3 p.binds.length q3], .agg #[.slice x1 A.ready.length xc1, .slice x2 A.outs.length xc2, .slice x3 A.takers.length xc3, .int .i64 A.nextSeq, .int .i64 A.nextTag, .int .i64 A.came, .int .i64 A.acked, .int .i64 A.dropped], .int .i64 q, .int .i64 m2] W (TkPost B n2 r2 W)) := fun W x1 x2 x3 xc1 xc2 xc3 rx hW hs => by
    have := Join_any p A q m2 p1 p2 p3 x1 x2 x3 q1 q2 q3 xc1 xc2 xc3 rx W (HBX.out _ hW).env (HBX.out _ hW).planAt HPS.out hs HSA.out.1 HSA.out.2
    rw [hB, hn2, hr2] at this
    exact this
  have HC3 : Hid (∀ W y1 y2 y3 yc1 yc2 yc3 ry, Below W0.heap.size W0 W → StateAt W 0 W.heap.size y1 y2 y3 ry B → Calls Tryd.prog 23 #[.agg #[.slice p1 p.posts.length q1, .slice p2 p.queues.length q2, .slice p3 p.binds.length q3], .agg #[.slice y1 B.ready.length yc1, .slice y2 B.outs.length yc2, .slice y3 B.takers.length yc3, .int .i64 B.nextSeq, .int .i64 B.nextTag, .int .i64 B.came, .int .i64 B.acked, .int .i64 B.dropped], .int .i64 q] W (TkPost C t3 r3 W)) := fun W y1 y2 y3 yc1 yc2 yc3 ry hW hs => by
    have := Deliver_any p B q p1 p2 p3 y1 y2 y3 q1 q2 q3 yc1 yc2 yc3 ry W (HBX.out _ hW).env (HBX.out _ hW).planAt HPS.out hs HSB.out.1 HSB.out.2
    rw [hC, ht3, hr3] at this
    exact this
  have HC4 : Hid (∀ W z1 z2 z3 zc1 zc2 zc3 rz, Below W0.heap.size W0 W → StateAt W 0 W.heap.size z1 z2 z3 rz C → Calls Tryd.prog 23 #[.agg #[.slice p1 p.posts.length q1, .slice p2 p.queues.length q2, .slice p3 p.binds.length q3], .agg #[.slice z1 C.ready.length zc1, .slice z2 C.outs.length zc2, .slice z3 C.takers.length zc3, .int .i64 C.nextSeq, .int .i64 C.nextTag, .int .i64 C.came, .int .i64 C.acked, .int .i64 C.dropped], .int .i64 q] W (TkPost D t4 r4 W)) := fun W z1 z2 z3 zc1 zc2 zc3 rz hW hs => by
    have := Deliver_any p C q p1 p2 p3 z1 z2 z3 q1 q2 q3 zc1 zc2 zc3 rz W (HBX.out _ hW).env (HBX.out _ hW).planAt HPS.out hs HSC.out.1 HSC.out.2
    rw [hD, ht4, hr4] at this
    exact this
  clear htl hA hn1 hr1 hB hn2 hr2 hC ht3 hr3 hD ht4 hr4
  refine (HC1.out _ (Below.refl _ _)).mono ?_
  rintro e w1 ⟨x1, x2, x3, xc1, xc2, xc3, rx, rfl, hs1, hb1⟩
  unfold stateV vState
  obtain ⟨⟨m0, m1, m2⟩, ⟨n0, n1, n2, n3, n4, n5, n6, n7⟩, _, _, _, _⟩ := HBX.out _ hb1
  go_upto_region 2 with fail
  obtain ⟨W1, hW1⟩ : ∃ W1, w1.alloc (.cells #[.slice x1 A.ready.length xc1, .slice x2 A.outs.length xc2, .slice x3 A.takers.length xc3, .int .i64 A.nextSeq, .int .i64 A.nextTag, .int .i64 A.came, .int .i64 A.acked, .int .i64 A.dropped] 43) = W1 := ⟨_, rfl⟩
  have HX := Lib.hid (box_since (x := A) xc1 xc2 xc3 hs1 hb1 hW1)
  rw [hW1]
  clear hW1
  clear hs1 hb1 m0 m1 m2 n0 n1 n2 n3 n4 n5 n6 n7
  obtain ⟨⟨m0, m1', m2'⟩, _, _, _, _, _⟩ := HBX.out _ (HX.out _ (Below.refl _ _)).2
  obtain ⟨k0, k1, k2, k3, k4, k5, k6, k7⟩ := (HX.out _ (Below.refl _ _)).1.cells
  go_wp2_with fail
  refine (HC2.out _ _ _ _ _ _ _ _ (HX.out _ (Below.refl _ _)).2 (HX.out _ (Below.refl _ _)).1.at_).mono ?_
  rintro e w2 ⟨y1, y2, y3, yc1, yc2, yc3, ry, rfl, hs2, hb2⟩
  unfold stateV vState
  clear m0 m1' m2' k0 k1 k2 k3 k4 k5 k6 k7
  go_upto_region 3 with fail
  obtain ⟨W2, hW1⟩ : ∃ W2, w2.alloc (.cells #[.slice y1 B.ready.length yc1, .slice y2 B.outs.length yc2, .slice y3 B.takers.length yc3, .int .i64 B.nextSeq, .int .i64 B.nextTag, .int .i64 B.came, .int .i64 B.acked, .int .i64 B.dropped] 43) = W2 := ⟨_, rfl⟩
  have HY := Lib.hid (box_since (x := B) yc1 yc2 yc3 hs2 hb2 hW1)
  rw [hW1]
  clear hW1
  clear hs2 hb2
  obtain ⟨⟨m0, m1', m2'⟩, _, _, _, _, _⟩ := HBX.out _ (HX.out _ (HY.out _ (Below.refl _ _)).2).2
  obtain ⟨k0, k1, k2, k3, k4, k5, k6, k7⟩ := (HY.out _ (Below.refl _ _)).1.cells
  go_wp2_with fail
  refine (HC3.out _ _ _ _ _ _ _ _ (HX.out _ (HY.out _ (Below.refl _ _)).2).2 (HY.out _ (Below.refl _ _)).1.at_).mono ?_
  rintro e w3 ⟨z1, z2, z3, zc1, zc2, zc3, rz, rfl, hs3, hb3⟩
  unfold stateV vState
  clear m0 m1' m2' k0 k1 k2 k3 k4 k5 k6 k7
  go_upto_region 4 with fail
  obtain ⟨W3, hW1⟩ : ∃ W3, w3.alloc (.cells #[.slice z1 C.ready.length zc1, .slice z2 C.outs.length zc2, .slice z3 C.takers.length zc3, .int .i64 C.nextSeq, .int .i64 C.nextTag, .int .i64 C.came, .int .i64 C.acked, .int .i64 C.dropped] 43) = W3 := ⟨_, rfl⟩
  have HZ := Lib.hid (box_since (x := C) zc1 zc2 zc3 hs3 hb3 hW1)
  rw [hW1]
  clear hW1
  clear hs3 hb3
  obtain ⟨⟨m0, m1', m2'⟩, _, _, _, _, _⟩ := HBX.out _ (HX.out _ (HY.out _ (HZ.out _ (Below.refl _ _)).2).2).2
  obtain ⟨k0, k1, k2, k3, k4, k5, k6, k7⟩ := (HZ.out _ (Below.refl _ _)).1.cells
  go_wp2_with fail
  refine (HC4.out _ _ _ _ _ _ _ _ (HX.out _ (HY.out _ (HZ.out _ (Below.refl _ _)).2).2).2 (HZ.out _ (Below.refl _ _)).1.at_).mono ?_
  rintro e w4 ⟨u1, u2, u3, uc1, uc2, uc3, ru, rfl, hs4, hb4⟩
  unfold stateV vState
  clear m0 m1' m2' k0 k1 k2 k3 k4 k5 k6 k7
  go_upto_region 5 with fail
  obtain ⟨W4, hW1⟩ : ∃ W4, w4.alloc (.cells #[.slice u1 D.ready.length uc1, .slice u2 D.outs.length uc2, .slice u3 D.takers.length uc3, .int .i64 D.nextSeq, .int .i64 D.nextTag, .int .i64 D.came, .int .i64 D.acked, .int .i64 D.dropped] 43) = W4 := ⟨_, rfl⟩
  have HU := Lib.hid (box_since (x := D) uc1 uc2 uc3 hs4 hb4 hW1)
  rw [hW1]
  clear hW1
  clear hs4 hb4 HC1 HC2 HC3 HC4 HSA HSB HSC
  have HALL : Hid (∀ W, Below W4.heap.size W4 W → Env W ∧ Below w.heap.size w W) := fun W hW => by
    have h := HBX.out _ (HX.out _ (HY.out _ (HZ.out _ (HU.out _ hW).2).2).2).2
    exact ⟨h.env, h.below⟩
  clear HX HY HZ
  by_cases z : r1 = 0
  · subst z
    by_cases z : r2 = 0
    · subst z
      by_cases z : r3 = 0
      · subst z
        by_cases z : r4 = 0
        · subst z
          obtain ⟨hne, l, o1, o2, hDo, ht, hsq, htg⟩ := HF.out rfl rfl rfl rfl
          have hnb : ((n1 : Int) == (n2 : Int)) = false := beq_eq_false_iff_ne.2 (by omega)
          obtain ⟨m, hm⟩ : ∃ m, l.length = m := ⟨_, rfl⟩
          obtain ⟨n, hn⟩ : ∃ n, D.outs.length = n := ⟨_, rfl⟩
          have hnm : n = m + 2 := by rw [← hn, hDo, ← hm]; simp
          have ho1 : D.outs[m]? = some o1 := by rw [hDo, ← hm]; simp
          have ho2 : D.outs[m + 1]? = some o2 := by rw [hDo, ← hm]; simp
          obtain ⟨ob, oo, rfl, hob⟩ := own_some (HU.out _ (Below.refl _ _)).1.at_.outs (by rw [hDo]; simp [vOut])
          rw [hn]
          have hlim : n ≤ 1048576 := by rw [← hn]; exact HSD.out.outs
          have HK : Hid (∀ W, Below W4.heap.size W4 W → (W.cell? ⟨w4.heap.size, 1, none⟩ = some (.slice (some ⟨ob, oo, none⟩) n uc2) ∧ (W.cell? ⟨ob, oo + m * 8, none⟩ = some (.int .i64 o1.tag) ∧ W.cell? ⟨ob, oo + m * 8 + 1, none⟩ = some (.int .i64 o1.taker) ∧ W.cell? ⟨ob, oo + m * 8 + 2, none⟩ = some (.int .i64 o1.queue) ∧ W.cell? ⟨ob, oo + m * 8 + 3, none⟩ = some (.int .i64 o1.item.seq) ∧ W.cell? ⟨ob, oo + m * 8 + 4, none⟩ = some (.string o1.item.key) ∧ W.cell? ⟨ob, oo + m * 8 + 5, none⟩ = some (.string o1.item.body) ∧ W.cell? ⟨ob, oo + m * 8 + 6, none⟩ = some (.bool o1.item.again) ∧ W.cell? ⟨ob, oo + m * 8 + 7, none⟩ = some (.int .i64 o1.item.deaths)) ∧ (W.cell? ⟨ob, oo + (m + 1) * 8, none⟩ = some (.int .i64 o2.tag) ∧ W.cell? ⟨ob, oo + (m + 1) * 8 + 1, none⟩ = some (.int .i64 o2.taker) ∧ W.cell? ⟨ob, oo + (m + 1) * 8 + 2, none⟩ = some (.int .i64 o2.queue) ∧ W.cell? ⟨ob, oo + (m + 1) * 8 + 3, none⟩ = some (.int .i64 o2.item.seq) ∧ W.cell? ⟨ob, oo + (m + 1) * 8 + 4, none⟩ = some (.string o2.item.key) ∧ W.cell? ⟨ob, oo + (m + 1) * 8 + 5, none⟩ = some (.string o2.item.body) ∧ W.cell? ⟨ob, oo + (m + 1) * 8 + 6, none⟩ = some (.bool o2.item.again) ∧ W.cell? ⟨ob, oo + (m + 1) * 8 + 7, none⟩ = some (.int .i64 o2.item.deaths))) ∧ Below W4.heap.size W4 W) := fun W hW => by
            have h := (HU.out _ hW).1
            refine ⟨⟨?_, out_at h.at_.outs ho1, out_at h.at_.outs ho2⟩, hW⟩
            have := h.cells.2.1
            rw [hn] at this
            exact this
          have h1 : m + 2 ≤ n := by omega
          have h2 : n ≤ m + 2 := by omega
          have HT := Lib.hid (And.intro ht (And.intro hsq htg))
          clear hDo ht hsq htg hm hn hnm ho1 ho2 hne hob HSD HF
          obtain ⟨⟨d1, _, _⟩, _⟩ := HK.out _ (Below.refl _ _)
          go_upto_region 9 with fail
          clear d1
          have hw1 : IntKind.i64.wrap ((n : Int) - 2) = (m : Int) := by
            rw [show (n : Int) - 2 = (m : Int) by omega]
            exact IntWalk.i64_in _ (by omega)
          have hw2 : IntKind.i64.wrap ((n : Int) - 1) = (m : Int) + 1 := by
            rw [show (n : Int) - 1 = (m : Int) + 1 by omega]
            exact IntWalk.i64_in _ (by omega)
          have hi0 : (0 : Int) ≤ (m : Int) := by omega
          have hi1 : (m : Int) < (n : Int) := by omega
          have hi2 : (0 : Int) ≤ (m : Int) + 1 := by omega
          have hi3 : (m : Int) + 1 < (n : Int) := by omega
          have hi4 : ((m : Int) + 1).toNat = m + 1 := by omega
          go_cut [23, 24] from 83 to 98 (fun x y wx => TwoOuts o1 o2 W4 x y wx)
          case first =>
            refine wp_region_held_drew (S := (fun W => (W.cell? ⟨w4.heap.size, 1, none⟩ = some (.slice (some ⟨ob, oo, none⟩) n uc2) ∧ (W.cell? ⟨ob, oo + m * 8, none⟩ = some (.int .i64 o1.tag) ∧ W.cell? ⟨ob, oo + m * 8 + 1, none⟩ = some (.int .i64 o1.taker) ∧ W.cell? ⟨ob, oo + m * 8 + 2, none⟩ = some (.int .i64 o1.queue) ∧ W.cell? ⟨ob, oo + m * 8 + 3, none⟩ = some (.int .i64 o1.item.seq) ∧ W.cell? ⟨ob, oo + m * 8 + 4, none⟩ = some (.string o1.item.key) ∧ W.cell? ⟨ob, oo + m * 8 + 5, none⟩ = some (.string o1.item.body) ∧ W.cell? ⟨ob, oo + m * 8 + 6, none⟩ = some (.bool o1.item.again) ∧ W.cell? ⟨ob, oo + m * 8 + 7, none⟩ = some (.int .i64 o1.item.deaths)) ∧ (W.cell? ⟨ob, oo + (m + 1) * 8, none⟩ = some (.int .i64 o2.tag) ∧ W.cell? ⟨ob, oo + (m + 1) * 8 + 1, none⟩ = some (.int .i64 o2.taker) ∧ W.cell? ⟨ob, oo + (m + 1) * 8 + 2, none⟩ = some (.int .i64 o2.queue) ∧ W.cell? ⟨ob, oo + (m + 1) * 8 + 3, none⟩ = some (.int .i64 o2.item.seq) ∧ W.cell? ⟨ob, oo + (m + 1) * 8 + 4, none⟩ = some (.string o2.item.key) ∧ W.cell? ⟨ob, oo + (m + 1) * 8 + 5, none⟩ = some (.string o2.item.body) ∧ W.cell? ⟨ob, oo + (m + 1) * 8 + 6, none⟩ = some (.bool o2.item.again) ∧ W.cell? ⟨ob, oo + (m + 1) * 8 + 7, none⟩ = some (.int .i64 o2.item.deaths))) ∧ Below W4.heap.size W4 W)) (by kernel_rfl) (by first | exact HK.out _ (kb_alloc (by assumption) _) | exact HK.out _ (Below.refl _ _).drew) (fun hHeld => ?_)
            first | (refine wpAnyH_take (i := 0) (v := ?_) rfl (by kernel_rfl) (by kernel_rfl) (by kernel_rfl) (fun _ _ _ h => h) (Or.inl ⟨by rfl, ?_⟩) (by assumption) ?_; rotate_left; focus (intro w hSw; (try dsimp only at hSw); go_simp; (all_goals with_reducible rfl); done)) | fail "op 0"
            try simp only [Act.put, List.setIfInBounds_toArray, List.set_cons_zero, List.set_cons_succ, List.getElem_toArray, List.getElem_cons_zero]
            first | (refine wpAnyH_take (i := 1) (v := ?_) rfl (by kernel_rfl) (by kernel_rfl) (by kernel_rfl) (fun _ _ _ h => h) (Or.inl ⟨by rfl, ?_⟩) (by assumption) ?_; rotate_left; focus (intro w hSw; (try dsimp only at hSw); go_simp; (all_goals with_reducible rfl); done)) | fail "op 1"
            try simp only [Act.put, List.setIfInBounds_toArray, List.set_cons_zero, List.set_cons_succ, List.getElem_toArray, List.getElem_cons_zero, List.getElem_cons_succ]
            first | (refine wpAnyH_take (i := 2) (v := ?_) rfl (by kernel_rfl) (by kernel_rfl) (by kernel_rfl) (fun _ _ _ h => h) (Or.inl ⟨by rfl, ?_⟩) (by assumption) ?_; rotate_left; focus (intro w hSw; (try dsimp only at hSw); go_simp; (all_goals with_reducible rfl); done)) | fail "op 2"
            try simp only [Act.put, List.setIfInBounds_toArray, List.set_cons_zero, List.set_cons_succ, List.getElem_toArray, List.getElem_cons_zero, List.getElem_cons_succ]
            first | (refine wpAnyH_take (i := 3) (v := ?_) rfl (by kernel_rfl) (by kernel_rfl) (by kernel_rfl) (fun _ _ _ h => h) (Or.inl ⟨by rfl, ?_⟩) (by assumption) ?_; rotate_left; focus (intro w hSw; (try dsimp only at hSw); go_simp; (all_goals with_reducible rfl); done)) | fail "op 3"
            try simp only [Act.put, List.setIfInBounds_toArray, List.set_cons_zero, List.set_cons_succ, List.getElem_toArray, List.getElem_cons_zero, List.getElem_cons_succ]
            first | (refine wpAnyH_take (i := 4) (v := ?_) rfl (by kernel_rfl) (by kernel_rfl) (by kernel_rfl) (fun _ _ _ h => h) (Or.inl ⟨by rfl, ?_⟩) (by assumption) ?_; rotate_left; focus (intro w hSw; (try dsimp only at hSw); go_simp; (all_goals with_reducible rfl); done)) | fail "op 4"
            try simp only [Act.put, List.setIfInBounds_toArray, List.set_cons_zero, List.set_cons_succ, List.getElem_toArray, List.getElem_cons_zero, List.getElem_cons_succ]
            first | (refine wpAnyH_take (i := 5) (v := ?_) rfl (by kernel_rfl) (by kernel_rfl) (by kernel_rfl) (fun _ _ _ h => h) (Or.inl ⟨by rfl, ?_⟩) (by assumption) ?_; rotate_left; focus (intro w hSw; (try dsimp only at hSw); go_simp; (all_goals with_reducible rfl); done)) | fail "op 5"
            try simp only [Act.put, List.setIfInBounds_toArray, List.set_cons_zero, List.set_cons_succ, List.getElem_toArray, List.getElem_cons_zero, List.getElem_cons_succ]
            first | (refine wpAnyH_take (i := 6) (v := ?_) rfl (by kernel_rfl) (by kernel_rfl) (by kernel_rfl) (fun _ _ _ h => h) (Or.inl ⟨by rfl, ?_⟩) (by assumption) ?_; rotate_left; focus (intro w hSw; (try dsimp only at hSw); go_simp; (all_goals with_reducible rfl); done)) | fail "op 6"
            try simp only [Act.put, List.setIfInBounds_toArray, List.set_cons_zero, List.set_cons_succ, List.getElem_toArray, List.getElem_cons_zero, List.getElem_cons_succ]
            first | (refine wpAnyH_take (i := 7) (v := ?_) rfl (by kernel_rfl) (by kernel_rfl) (by kernel_rfl) (fun _ _ _ h => h) (Or.inl ⟨by rfl, ?_⟩) (by assumption) ?_; rotate_left; focus (intro w hSw; (try dsimp only at hSw); go_simp; (all_goals with_reducible rfl); done)) | fail "op 7"
            try simp only [Act.put, List.setIfInBounds_toArray, List.set_cons_zero, List.set_cons_succ, List.getElem_toArray, List.getElem_cons_zero, List.getElem_cons_succ]
            first | (refine wpAnyH_take (i := 8) (v := ?_) rfl (by kernel_rfl) (by kernel_rfl) (by kernel_rfl) (fun _ _ _ h => h) (Or.inl ⟨by rfl, ?_⟩) (by assumption) ?_; rotate_left; focus (intro w hSw; (try dsimp only at hSw); go_simp; (all_goals with_reducible rfl); done)) | fail "op 8"
            try simp only [Act.put, List.setIfInBounds_toArray, List.set_cons_zero, List.set_cons_succ, List.getElem_toArray, List.getElem_cons_zero, List.getElem_cons_succ]
            first | (refine wpAnyH_take (i := 9) (v := ?_) rfl (by kernel_rfl) (by kernel_rfl) (by kernel_rfl) (fun _ _ _ h => h) (Or.inl ⟨by rfl, ?_⟩) (by assumption) ?_; rotate_left; focus (intro w hSw; (try dsimp only at hSw); go_simp; (all_goals with_reducible rfl); done)) | fail "op 9"
            try simp only [Act.put, List.setIfInBounds_toArray, List.set_cons_zero, List.set_cons_succ, List.getElem_toArray, List.getElem_cons_zero, List.getElem_cons_succ]
            first | (refine wpAnyH_take (i := 10) (v := ?_) rfl (by kernel_rfl) (by kernel_rfl) (by kernel_rfl) (fun _ _ _ h => h) (Or.inl ⟨by rfl, ?_⟩) (by assumption) ?_; rotate_left; focus (intro w hSw; (try dsimp only at hSw); go_simp; (all_goals with_reducible rfl); done)) | fail "op 10"
            try simp only [Act.put, List.setIfInBounds_toArray, List.set_cons_zero, List.set_cons_succ, List.getElem_toArray, List.getElem_cons_zero, List.getElem_cons_succ]
            first | (refine wpAnyH_take (i := 11) (v := ?_) rfl (by kernel_rfl) (by kernel_rfl) (by kernel_rfl) (fun _ _ _ h => h) (Or.inl ⟨by rfl, ?_⟩) (by assumption) ?_; rotate_left; focus (intro w hSw; (try dsimp only at hSw); go_simp; (all_goals with_reducible rfl); done)) | fail "op 11"
            try simp only [Act.put, List.setIfInBounds_toArray, List.set_cons_zero, List.set_cons_succ, List.getElem_toArray, List.getElem_cons_zero, List.getElem_cons_succ]
            first | (refine wpAnyH_take (i := 12) (v := ?_) rfl (by kernel_rfl) (by kernel_rfl) (by kernel_rfl) (fun _ _ _ h => h) (Or.inl ⟨by rfl, ?_⟩) (by assumption) ?_; rotate_left; focus (intro w hSw; (try dsimp only at hSw); go_simp; (all_goals with_reducible rfl); done)) | fail "op 12"
            try simp only [Act.put, List.setIfInBounds_toArray, List.set_cons_zero, List.set_cons_succ, List.getElem_toArray, List.getElem_cons_zero, List.getElem_cons_succ]
            first | (refine wpAnyH_take (i := 13) (v := ?_) rfl (by kernel_rfl) (by kernel_rfl) (by kernel_rfl) (fun _ _ _ h => h) (Or.inl ⟨by rfl, ?_⟩) (by assumption) ?_; rotate_left; focus (intro w hSw; (try dsimp only at hSw); go_simp; (all_goals with_reducible rfl); done)) | fail "op 13"
            try simp only [Act.put, List.setIfInBounds_toArray, List.set_cons_zero, List.set_cons_succ, List.getElem_toArray, List.getElem_cons_zero, List.getElem_cons_succ]
            first | (refine wpAnyH_take (i := 14) (v := ?_) rfl (by kernel_rfl) (by kernel_rfl) (by kernel_rfl) (fun _ _ _ h => h) (Or.inl ⟨by rfl, ?_⟩) (by assumption) ?_; rotate_left; focus (intro w hSw; (try dsimp only at hSw); go_simp; (all_goals with_reducible rfl); done)) | fail "op 14"
            try simp only [Act.put, List.setIfInBounds_toArray, List.set_cons_zero, List.set_cons_succ, List.getElem_toArray, List.getElem_cons_zero, List.getElem_cons_succ]
            first | (refine wpAnyH_take (i := 15) (v := ?_) rfl (by kernel_rfl) (by kernel_rfl) (by kernel_rfl) (fun _ _ _ h => h) (Or.inl ⟨by rfl, ?_⟩) (by assumption) ?_; rotate_left; focus (intro w hSw; (try dsimp only at hSw); go_simp; (all_goals with_reducible rfl); done)) | fail "op 15"
            try simp only [Act.put, List.setIfInBounds_toArray, List.set_cons_zero, List.set_cons_succ, List.getElem_toArray, List.getElem_cons_zero, List.getElem_cons_succ]
            refine wpAnyH_ready (rs := [16, 17]) (by kernel_rfl) (by simp) ?_
            refine AllReadyH.cons rfl (fun K hK => ?_) (AllReadyH.cons rfl (fun K hK => ?_) AllReadyH.nil)
            · go_simp
              refine hK.out _ _ (by first | exact HK.out _ (kb_alloc (by assumption) _) | exact HK.out _ (Below.refl _ _).drew) (fun hHeld => ?_)
              clear hK K
              try simp only [Act.put, List.setIfInBounds_toArray, List.set_cons_zero, List.set_cons_succ, List.getElem_toArray, List.getElem_cons_zero, List.getElem_cons_succ]
              refine wpAnyH_ready (rs := [17]) (by kernel_rfl) (by simp) ?_
              refine AllReadyH.cons rfl (fun K hK => ?_) AllReadyH.nil
              go_simp
              refine hK.out _ _ (by first | exact HK.out _ (kb_alloc (by assumption) _) | exact HK.out _ (Below.refl _ _).drew) (fun hHeld => ?_)
              clear hK K
              try simp only [Act.put, List.setIfInBounds_toArray, List.set_cons_zero, List.set_cons_succ, List.getElem_toArray, List.getElem_cons_zero, List.getElem_cons_succ]
              refine wpAnyH_ready (rs := [18]) (by kernel_rfl) (by simp) ?_
              refine AllReadyH.cons rfl (fun K hK => ?_) AllReadyH.nil
              skip
              go_simp
              refine hK.out _ _ (by exact HK.out _ (below_two _ _ _)) (fun hHeld => ?_)
              clear hK K
              try simp only [Act.put, List.setIfInBounds_toArray, List.set_cons_zero, List.set_cons_succ, List.getElem_toArray, List.getElem_cons_zero, List.getElem_cons_succ]
              refine wpAnyH_ready (rs := [19]) (by kernel_rfl) (by simp) ?_
              refine AllReadyH.cons rfl (fun K hK => ?_) AllReadyH.nil
              skip
              go_simp
              refine hK.out _ _ (by exact HK.out _ (below_two _ _ _)) (fun hHeld => ?_)
              clear hK K
              try simp only [Act.put, List.setIfInBounds_toArray, List.set_cons_zero, List.set_cons_succ, List.getElem_toArray, List.getElem_cons_zero, List.getElem_cons_succ]
              refine wpAnyH_done (by kernel_rfl) ?_ _
              go_wp2_with fail
              go_meet
              exact two_outs o1 o2 W4
            · go_simp
              refine hK.out _ _ (by first | exact HK.out _ (kb_alloc (by assumption) _) | exact HK.out _ (Below.refl _ _).drew) (fun hHeld => ?_)
              clear hK K
              try simp only [Act.put, List.setIfInBounds_toArray, List.set_cons_zero, List.set_cons_succ, List.getElem_toArray, List.getElem_cons_zero, List.getElem_cons_succ]
              refine wpAnyH_ready (rs := [16]) (by kernel_rfl) (by simp) ?_
              refine AllReadyH.cons rfl (fun K hK => ?_) AllReadyH.nil
              go_simp
              refine hK.out _ _ (by first | exact HK.out _ (kb_alloc (by assumption) _) | exact HK.out _ (Below.refl _ _).drew) (fun hHeld => ?_)
              clear hK K
              try simp only [Act.put, List.setIfInBounds_toArray, List.set_cons_zero, List.set_cons_succ, List.getElem_toArray, List.getElem_cons_zero, List.getElem_cons_succ]
              refine wpAnyH_ready (rs := [18]) (by kernel_rfl) (by simp) ?_
              refine AllReadyH.cons rfl (fun K hK => ?_) AllReadyH.nil
              skip
              go_simp
              refine hK.out _ _ (by exact HK.out _ (below_two _ _ _)) (fun hHeld => ?_)
              clear hK K
              try simp only [Act.put, List.setIfInBounds_toArray, List.set_cons_zero, List.set_cons_succ, List.getElem_toArray, List.getElem_cons_zero, List.getElem_cons_succ]
              refine wpAnyH_ready (rs := [19]) (by kernel_rfl) (by simp) ?_
              refine AllReadyH.cons rfl (fun K hK => ?_) AllReadyH.nil
              skip
              go_simp
              refine hK.out _ _ (by exact HK.out _ (below_two _ _ _)) (fun hHeld => ?_)
              clear hK K
              try simp only [Act.put, List.setIfInBounds_toArray, List.set_cons_zero, List.set_cons_succ, List.getElem_toArray, List.getElem_cons_zero, List.getElem_cons_succ]
              refine wpAnyH_done (by kernel_rfl) ?_ _
              go_wp2_with fail
              go_meet
              exact two_outs' o1 o2 W4
          case rest =>
            obtain ⟨gx, gy, rfl, rfl, hgx, hgy, hbw⟩ := hcut
            clear hw1 hw2 hi0 hi1 hi2 hi3 hi4
            go_wp2_with fail
            refine (takersBegun_any _ (HALL.out _ hbw).1).mono ?_
            rintro e w5 ⟨rfl, hb5⟩
            have hgx5 := hgx.below hb5 hgx.lt
            have hgy5 := hgy.below hb5 hgy.lt
            have HB5 := Lib.hid (hbw.trans (hb5.mono hbw.size))
            have x0 : w5.cell? ⟨gx, 0, none⟩ = some (.int .i64 o1.tag) := hgx5.cell 0
            have x1 : w5.cell? ⟨gx, 1, none⟩ = some (.int .i64 o1.taker) := hgx5.cell 1
            have x3 : w5.cell? ⟨gx, 3, none⟩ = some (.int .i64 o1.item.seq) := hgx5.cell 3
            have y0 : w5.cell? ⟨gy, 0, none⟩ = some (.int .i64 o2.tag) := hgy5.cell 0
            have y1 : w5.cell? ⟨gy, 1, none⟩ = some (.int .i64 o2.taker) := hgy5.cell 1
            have y3 : w5.cell? ⟨gy, 3, none⟩ = some (.int .i64 o2.item.seq) := hgy5.cell 3
            clear hgx hgy hbw hb5 hgx5 hgy5
            have e1 : (o1.taker != o2.taker) = true := by simp [HT.out.1]
            have e2 : decide (o1.item.seq < o2.item.seq) = true := decide_eq_true HT.out.2.1
            have e3 : decide (o1.tag < o2.tag) = true := decide_eq_true HT.out.2.2
            generalize o1.taker = ta at *
            generalize o2.taker = tb at *
            generalize o1.item.seq = sa at *
            generalize o2.item.seq = sb at *
            generalize o1.tag = ga at *
            generalize o2.tag = gb at *
            go_wp2_with fail
            go_ret
            exact ⟨rfl, (HALL.out _ HB5.out).2⟩
        · have hb : (r4 != 0) = true := by simp [z]
          clear z
          go_wp2_with fail
          refine (takersBegun_any _ (HALL.out _ (Below.refl _ _)).1).mono ?_
          rintro e w5 ⟨rfl, hb5⟩
          have HB5 := Lib.hid hb5
          clear hb5
          go_wp2_with fail
          go_ret
          exact ⟨rfl, (HALL.out _ HB5.out).2⟩

      · have hb : (r3 != 0) = true := by simp [z]
        clear z
        go_wp2_with fail
        refine (takersBegun_any _ (HALL.out _ (Below.refl _ _)).1).mono ?_
        rintro e w5 ⟨rfl, hb5⟩
        have HB5 := Lib.hid hb5
        clear hb5
        go_wp2_with fail
        go_ret
        exact ⟨rfl, (HALL.out _ HB5.out).2⟩

    · have hb : (r2 != 0) = true := by simp [z]
      clear z
      go_wp2_with fail
      refine (takersBegun_any _ (HALL.out _ (Below.refl _ _)).1).mono ?_
      rintro e w5 ⟨rfl, hb5⟩
      have HB5 := Lib.hid hb5
      clear hb5
      go_wp2_with fail
      go_ret
      exact ⟨rfl, (HALL.out _ HB5.out).2⟩

  · have hb : (r1 != 0) = true := by simp [z]
    clear z
    go_wp2_with fail
    refine (takersBegun_any _ (HALL.out _ (Below.refl _ _)).1).mono ?_
    rintro e w5 ⟨rfl, hb5⟩
    have HB5 := Lib.hid hb5
    clear hb5
    go_wp2_with fail
    go_ret
    exact ⟨rfl, (HALL.out _ HB5.out).2⟩


theorem takersFair_any (p : PlanD) (p1 p2 p3 : Option Addr) (q1 q2 q3 : Nat) (s : StateD) (a1 a2 a3 : Option Addr) (c1 c2 c3 : Nat) (rows : List RowD) (q m1 m2 : Int) (w : World) (hp : PlanAt w 0 w.heap.size p1 p2 p3 p) (hps : PlanSmall p) (_ : PlanInts p) (hs : StateAt w 0 w.heap.size a1 a2 a3 rows s) (hss : StateSmall s) (hsi : StateInts s)
    (_ : s.ready.length ≤ c1 ∧ s.outs.length ≤ c2 ∧ s.takers.length ≤ c3) (_ : -9223372036854775808 ≤ q ∧ q ≤ 9223372036854775807) (_ : -9223372036854775808 ≤ m1 ∧ m1 ≤ 9223372036854775807) (_ : -9223372036854775808 ≤ m2 ∧ m2 ≤ 9223372036854775807) (hE : Env w) :
    Calls Tryd.prog 7 #[planV p p1 p2 p3 q1 q2 q3, stateV s a1 a2 a3 c1 c2 c3, .int .i64 q, .int .i64 m1, .int .i64 m2] w fun e w' => e = .returned (.bool true) ∧ Below w.heap.size w w' :=
  takersFair_go p s q m1 m2 p1 p2 p3 a1 a2 a3 q1 q2 q3 c1 c2 c3 rows w hE hp hps hs hss hsi

end Go.Proofs.YtapimpmpjighmaaDoor
