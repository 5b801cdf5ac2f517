/-
  The plain law of fair takers: two letters that are delivered one behind the other go to two takers.
  The law's choose, walked.
  The law TakersFair answers true.
  The law TakersTrue answers true.
-/
import Derived.Test.YtapimpmpjighmaaDoorBunI
import Derived.Test.YtapimpmpjighmaaDoorBunB
import Derived.Test.YtapimpmpjighmaaDoorBunJ
import Derived.IntWalk
import Derived.Deep.CutRange
import Derived.Deep.RegionHeld3
set_option linter.unusedSimpArgs false
set_option linter.unusedVariables false
namespace Go.Proofs.YtapimpmpjighmaaDoor

theorem joinS_ok {p : PlanD} {s : StateD} {q m : Int} (h : joinErr p s q m = 0) : joinS p s q m = { s with takers := joinL s.takers ⟨q, m⟩ } := by unfold joinS; rw [if_pos h]
theorem joinN_ok {p : PlanD} {s : StateD} {q m : Int} (h : joinErr p s q m = 0) : joinN p s q m = joinI s.takers := by unfold joinN; rw [if_pos h]
theorem given_line {s : StateD} {q : Int} (hq : q.toNat < s.ready.length) (i : Int) : lineAt (givenS s q i) q = (lineAt s q).drop 1 := by
  unfold givenS
  rw [lineAt]
  simp only
  rw [List.getElem?_set_self hq]
  rfl
/-- Behind two joins and two deliveries. -/
theorem fair_law {p : PlanD} {s A B C D : StateD} {q m1 m2 : Int} (h1 : joinErr p s q m1 = 0) (hA : joinS p s q m1 = A) (h2 : joinErr p A q m2 = 0) (hB : joinS p A q m2 = B) (h3 : deliverErr p B q = 0) (hC : deliverS p B q = C) (h4 : deliverErr p C q = 0) (hD : deliverS p C q = D) :
    joinN p s q m1 ≠ joinN p A q m2 ∧ ∃ l o1 o2, D.outs = l ++ [o1, o2] ∧ o1.taker ≠ o2.taker ∧ o1.item.seq < o2.item.seq ∧ o1.tag < o2.tag := by
  obtain ⟨a1, b1, _⟩ := join_ok.1 h1
  obtain ⟨a2, b2, _⟩ := join_ok.1 h2
  obtain ⟨hR, hq0, hq1⟩ := ask_ok.1 a1
  have RA : Right p A := by have := join_right h1; rwa [hA] at this
  have RB : Right p B := by have := join_right h2; rwa [hB] at this
  have eA := joinS_ok h1
  have eB := joinS_ok h2
  rw [hA] at eA
  rw [hB] at eB
  have tA : A.takers = joinL s.takers ⟨q, m1⟩ := by rw [eA]
  have oA : A.outs = s.outs := by rw [eA]
  have tB : B.takers = joinL A.takers ⟨q, m2⟩ := by rw [eB]
  have oB : B.outs = A.outs := by rw [eB]
  have ai : A.takers[joinI s.takers]? = some ⟨q, m1⟩ := by rw [tA, joinL_at, if_pos rfl]
  have hij : joinI s.takers ≠ joinI A.takers := fun e => by
    have := joinI_gone (l := A.takers) (t := ⟨q, m1⟩) (by rw [← e]; exact ai)
    simp only at this
    omega
  have bj : B.takers[joinI A.takers]? = some ⟨q, m2⟩ := by rw [tB, joinL_at, if_pos rfl]
  have bi : B.takers[joinI s.takers]? = some ⟨q, m1⟩ := by rw [tB, joinL_at, if_neg hij]; exact ai
  have hi : heldS B (joinI s.takers) = 0 := by
    have := held_gone hR.toFormed (k := joinI s.takers) fun t ht => joinI_gone ht
    unfold heldS at this ⊢
    rw [oB, oA]; exact this
  have hj : heldS B (joinI A.takers) = 0 := by
    have := held_gone RA.toFormed (k := joinI A.takers) fun t ht => joinI_gone ht
    unfold heldS at this ⊢
    rw [oB]; exact this
  obtain ⟨i1, _, _, mn1, e1, RC⟩ := deliver_right h3
  rw [hC] at e1
  obtain ⟨i2, _, _, mn2, e2, _⟩ := deliver_right h4
  rw [hD] at e2
  have z1 : heldS B i1 ≤ 0 := by rw [← hi]; exact mn1 _ ⟨_, bi, rfl, by rw [hi]; show ((0 : Nat) : Int) < m1; omega⟩
  have hcg : ∀ k : Nat, heldS C k = heldS B k + if k = i1 then 1 else 0 := fun k => by rw [e1]; exact held_given B q i1 k
  have tC : C.takers = B.takers := by rw [e1]; rfl
  obtain ⟨k, hk1, hk2⟩ : ∃ k : Nat, k ≠ i1 ∧ Elig C q k ∧ heldS C k = 0 := by
    by_cases e : joinI s.takers = i1
    · have hne : joinI A.takers ≠ i1 := fun e' => hij (e.trans e'.symm)
      have hz : heldS C (joinI A.takers) = 0 := by rw [hcg, if_neg hne, hj]
      exact ⟨_, hne, ⟨_, by rw [tC]; exact bj, rfl, by rw [hz]; show ((0 : Nat) : Int) < m2; omega⟩, hz⟩
    · have hz : heldS C (joinI s.takers) = 0 := by rw [hcg, if_neg e, hi]
      exact ⟨_, e, ⟨_, by rw [tC]; exact bi, rfl, by rw [hz]; show ((0 : Nat) : Int) < m1; omega⟩, hz⟩
  have hne : i1 ≠ i2 := fun e => by
    have a := mn2 k hk2.1
    rw [hk2.2, ← e, hcg, if_pos rfl] at a
    omega
  obtain ⟨n3, _⟩ := deliver_ok.1 h3
  obtain ⟨n4, _⟩ := deliver_ok.1 h4
  obtain ⟨r, hl, hr⟩ := line_head n3
  obtain ⟨r', hl', hr'⟩ := line_head n4
  have hqB : q.toNat < B.ready.length := (List.getElem?_eq_some_iff.1 hr).1
  have hlc : lineAt C q = r := by
    rw [e1, given_line hqB, hl]; rfl
  rw [hlc] at hl'
  have hline := RB.line _ (List.mem_of_getElem? hr)
  rw [lineFine_iff, hl'] at hline
  have hseq : (headAt B q).seq < (headAt C q).seq := (List.pairwise_cons.1 hline.2).1 _ List.mem_cons_self
  refine ⟨by rw [joinN_ok h1, joinN_ok h2]; exact hij, B.outs, ⟨B.nextTag, i1, q, headAt B q⟩, ⟨C.nextTag, i2, q, headAt C q⟩, ?_, ?_, hseq, ?_⟩
  · rw [e2]
    unfold givenS
    simp only
    rw [e1]
    unfold givenS
    simp only [List.append_assoc, List.cons_append, List.nil_append]
  · show (i1 : Int) ≠ (i2 : Int)
    omega
  · show B.nextTag < C.nextTag
    rw [e1]
    show B.nextTag < B.nextTag + 1
    omega

/-- What is known of a state behind a delivery. -/
structure TrueFacts (p : PlanD) (s : StateD) (q : Int) (X : StateD) (t : Int) (k i : Nat) (x : ItemD) (rest : List ItemD) (tk : TakerD) : Prop where
  hq : q = (k : Int)
  right : Right p s
  rightX : Right p X
  row : s.ready[k]? = some (x :: rest)
  rowsX : X.ready = s.ready.set k rest
  outs : X.outs = s.outs ++ [⟨s.nextTag, (i : Int), (k : Int), x⟩]
  tag : t = s.nextTag
  takersX : X.takers = s.takers
  taker : s.takers[i]? = some tk
  queue : tk.queue = (k : Int)
  held : (heldS s i : Int) < tk.atOnce
  least : ∀ (j : Nat) (u : TakerD), s.takers[j]? = some u → u.queue = (k : Int) → (heldS s j : Int) < u.atOnce → heldS s i ≤ heldS s j
theorem true_facts {p : PlanD} {s : StateD} {q : Int} (h : deliverErr p s q = 0) : ∃ k i x rest tk, TrueFacts p s q (deliverS p s q) (deliverT p s q) k i x rest tk := by
  obtain ⟨h0, ht⟩ := deliver_ok.1 h
  obtain ⟨h1, _, _⟩ := next_ok.1 h0
  obtain ⟨hR, hq0, hq1⟩ := ask_ok.1 h1
  obtain ⟨i, hb, ⟨tk, e1, e2, e3⟩, hm, hS, hRX⟩ := deliver_right h
  obtain ⟨r, hl, hr⟩ := line_head h0
  have hq : q = ((q.toNat : Nat) : Int) := by omega
  refine ⟨q.toNat, i, headAt s q, r, tk, hq, hR, by rw [hS]; exact hRX, hr, ?_, ?_, ?_, by rw [hS]; rfl, e1, by rw [← hq]; exact e2, e3, fun j u h1 h2 h3 => hm j ⟨u, h1, by rw [h2, ← hq], h3⟩⟩
  · rw [hS]
    show s.ready.set q.toNat ((lineAt s q).drop 1) = _
    rw [hl]; rfl
  · rw [hS]
    show s.outs ++ [(⟨s.nextTag, (i : Int), q, headAt s q⟩ : OutD)] = _
    rw [← hq]
  · unfold deliverT
    rw [if_pos h]

end Go.Proofs.YtapimpmpjighmaaDoor

namespace Go.Proofs.YtapimpmpjighmaaDoor
open Go.RowKit
set_option maxRecDepth 100000

set_option maxHeartbeats 400000 in
theorem choose_any (c : Int) (n : Int) (w : World) (h0 : -9223372036854775808 ≤ c) (h1 : c ≤ 9223372036854775807) (hn : 1 ≤ n) (hn2 : n ≤ 1048576) :
    Calls Tryd.prog 28 #[.int .i64 c, .int .i64 n] w fun e w' => ∃ r : Nat, (r : Int) < n ∧ e = .returned (.int .i64 r) ∧ w = w' := by
  by_cases hc : c < 0
  · have hr : -((c + 1).tmod n) = (((-(c + 1)) % n).toNat : Int) := by
      rw [← Int.neg_tmod, Int.tmod_eq_emod_of_nonneg (by omega), Int.toNat_of_nonneg (Int.emod_nonneg _ (by omega))]
    have hl : (-(c + 1)) % n < n := Int.emod_lt_of_pos _ (by omega)
    have hz : 0 ≤ (-(c + 1)) % n := Int.emod_nonneg _ (by omega)
    have HR := Lib.hid (And.intro hr (And.intro hl hz)); clear hr hl hz
    go_enter Tryd.func28, Tryd.ntmps28
    go_wp2
    go_ret
    exact ⟨((-(c + 1)) % n).toNat, by have := HR.out; omega, by rw [← HR.out.1]; rfl, rfl⟩
  · have hl : c % n < n := Int.emod_lt_of_pos _ (by omega)
    have hz : 0 ≤ c % n := Int.emod_nonneg _ (by omega)
    have HR := Lib.hid (And.intro hl hz); clear hl hz
    go_enter Tryd.func28, Tryd.ntmps28
    go_wp2
    go_ret
    exact ⟨(c % n).toNat, by have := HR.out; omega, by rw [Int.toNat_of_nonneg HR.out.2]; rfl, rfl⟩

end Go.Proofs.YtapimpmpjighmaaDoor

namespace Go.Proofs.YtapimpmpjighmaaDoor
open Go.RowKit
set_option maxRecDepth 100000

theorem out_at {w : World} {lo hi b o : Nat} {l : List OutD} (h : Sl w lo hi (some ⟨b, o, none⟩) (l.flatMap vOut)) {k : Nat} {x : OutD} (hk : l[k]? = some x) :
    w.cell? ⟨b, o + k * 8, none⟩ = some (.int .i64 x.tag) ∧ w.cell? ⟨b, o + k * 8 + 1, none⟩ = some (.int .i64 x.taker) ∧ w.cell? ⟨b, o + k * 8 + 2, none⟩ = some (.int .i64 x.queue) ∧ w.cell? ⟨b, o + k * 8 + 3, none⟩ = some (.int .i64 x.item.seq) ∧
      w.cell? ⟨b, o + k * 8 + 4, none⟩ = some (.string x.item.key) ∧ w.cell? ⟨b, o + k * 8 + 5, none⟩ = some (.string x.item.body) ∧ w.cell? ⟨b, o + k * 8 + 6, none⟩ = some (.bool x.item.again) ∧ w.cell? ⟨b, o + k * 8 + 7, none⟩ = some (.int .i64 x.item.deaths) := by
  obtain ⟨hl, rfl⟩ := List.getElem?_eq_some_iff.1 hk
  obtain ⟨b', o', e, _, _, hc⟩ := sl_elem vOut_len (by decide) h hl
  simp only [Option.some.injEq, Addr.mk.injEq] at e
  obtain ⟨rfl, rfl, _⟩ := e
  exact out_cells (wr := w) hc
theorem own_some {w : World} {lo hi : Nat} {a : Option Addr} {us : List Value} (h : Sl w lo hi a us) (hu : us ≠ []) : ∃ b o, a = some ⟨b, o, none⟩ ∧ b < hi := by
  rcases h with rfl | ⟨b, o, e, _, h2, _⟩
  · exact absurd rfl hu
  · exact ⟨b, o, e, h2⟩
/-- Two Outs in two boxes. -/
def TwoOuts (o1 o2 : OutD) (W4 : World) (x y : Value) (wx : World) : Prop :=
  ∃ gx gy, x = .pointer (some ⟨gx, 0, none⟩) ∧ y = .pointer (some ⟨gy, 0, none⟩) ∧ Bk wx gx 55 (vOut o1).toArray ∧ Bk wx gy 55 (vOut o2).toArray ∧ Below W4.heap.size W4 wx

theorem below_two (w : World) (o o' : Obj) : Below w.heap.size w ((w.alloc o).alloc o').drew := (((Below.refl _ _).alloc (Nat.le_refl _) _).alloc (by simp) _).drew
theorem two_outs (o1 o2 : OutD) (W4 : World) : TwoOuts o1 o2 W4 (.pointer (some ⟨W4.heap.size, 0, none⟩)) (.pointer (some ⟨W4.heap.size + 1, 0, none⟩)) ((W4.alloc (.cells (vOut o1).toArray 55)).alloc (.cells (vOut o2).toArray 55)).drew :=
  ⟨_, _, rfl, rfl, (Bk.new _ _ _).alloc _, Bk.new_at _ _ _ (by simp), below_two _ _ _⟩
theorem two_outs' (o1 o2 : OutD) (W4 : World) : TwoOuts o1 o2 W4 (.pointer (some ⟨W4.heap.size + 1, 0, none⟩)) (.pointer (some ⟨W4.heap.size, 0, none⟩)) ((W4.alloc (.cells (vOut o2).toArray 55)).alloc (.cells (vOut o1).toArray 55)).drew :=
  ⟨_, _, rfl, rfl, Bk.new_at _ _ _ (by simp), (Bk.new _ _ _).alloc _, below_two _ _ _⟩

set_option maxHeartbeats 8000000 in
theorem takersFair_go (p : PlanD) (s : StateD) (q m1 m2 : Int) (p1 p2 p3 a1 a2 a3 : Option Addr) (q1 q2 q3 c1 c2 c3 : Nat) (rows : List RowD) (w : World) (hE : Env w) (hp : PlanAt w 0 w.heap.size p1 p2 p3 p) (hps : PlanSmall p) (hs : StateAt w 0 w.heap.size a1 a2 a3 rows s) (hss : StateSmall s) (hsi : StateInts s) :
    Calls Tryd.prog 7 #[planV p p1 p2 p3 q1 q2 q3, stateV s a1 a2 a3 c1 c2 c3, .int .i64 q, .int .i64 m1, .int .i64 m2] w fun e w' => e = .returned (.bool true) ∧ Below w.heap.size w w' := by
  have hbx := two_boxes q1 q2 q3 c1 c2 c3 hE hp hs 26 43
  unfold vState at hbx
  unfold stateV planV vState
  have HBX := Lib.hid hbx
  have HPS := Lib.hid hps
  have HSS := Lib.hid hss
  have HSI := Lib.hid hsi
  clear hbx hE hp hs hps hss hsi
  go_enter Tryd.func7, Tryd.ntmps7
  obtain ⟨⟨m0, m1, m2⟩, ⟨n0, n1, n2, n3, n4, n5, n6, n7⟩, _, _, _, _⟩ := HBX.out _ (Below.refl _ _)
  go_wp2_with fail
  clear m0 m1 m2 n0 n1 n2 n3 n4 n5 n6 n7
  generalize ((w.alloc (.cells #[.slice p1 p.posts.length q1, .slice p2 p.queues.length q2, .slice p3 p.binds.length q3] 26)).alloc (.cells #[Value.slice a1 s.ready.length c1, Value.slice a2 s.outs.length c2, Value.slice a3 s.takers.length c3, Value.int IntKind.i64 s.nextSeq, Value.int IntKind.i64 s.nextTag, Value.int IntKind.i64 s.came, Value.int IntKind.i64 s.acked, Value.int IntKind.i64 s.dropped] 43)) = W0 at *
  have htl : 0 ≤ (1 : Int) := by decide
  obtain ⟨A, hA⟩ : ∃ A, joinS p s q m1 = A := ⟨_, rfl⟩
  obtain ⟨n1, hn1⟩ : ∃ n, joinN p s q m1 = n := ⟨_, rfl⟩
  obtain ⟨r1, hr1⟩ : ∃ r, joinErr p s q m1 = r := ⟨_, rfl⟩
  obtain ⟨B, hB⟩ : ∃ B, joinS p A q m2 = B := ⟨_, rfl⟩
  obtain ⟨n2, hn2⟩ : ∃ n, joinN p A q m2 = n := ⟨_, rfl⟩
  obtain ⟨r2, hr2⟩ : ∃ r, joinErr p A q m2 = r := ⟨_, rfl⟩
  obtain ⟨C, hC⟩ : ∃ C, deliverS p B q = C := ⟨_, rfl⟩
  obtain ⟨t3, ht3⟩ : ∃ t, deliverT p B q = t := ⟨_, rfl⟩
  obtain ⟨r3, hr3⟩ : ∃ r, deliverErr p B q = r := ⟨_, rfl⟩
  obtain ⟨D, hD⟩ : ∃ D, deliverS p C q = D := ⟨_, rfl⟩
  obtain ⟨t4, ht4⟩ : ∃ t, deliverT p C q = t := ⟨_, rfl⟩
  obtain ⟨r4, hr4⟩ : ∃ r, deliverErr p C q = r := ⟨_, rfl⟩
  have HSA : Hid (StateSmall A ∧ StateInts A) := by rw [← hA]; exact join_small p s q m1
  have HSB : Hid (StateSmall B ∧ StateInts B) := by rw [← hB]; exact join_small p A q m2
  have HSC : Hid (StateSmall C ∧ StateInts C) := by rw [← hC]; exact deliver_small p B q
  have HSD : Hid (StateSmall D) := by rw [← hD]; exact (deliver_small p C q).1
  have HF : Hid (r1 = 0 → r2 = 0 → r3 = 0 → r4 = 0 → n1 ≠ n2 ∧ ∃ l o1 o2, D.outs = l ++ [o1, o2] ∧ o1.taker ≠ o2.taker ∧ o1.item.seq < o2.item.seq ∧ o1.tag < o2.tag) := fun z1 z2 z3 z4 => by
    rw [← hn1, ← hn2]
    exact fair_law (hr1.trans z1) hA (hr2.trans z2) hB (hr3.trans z3) hC (hr4.trans z4) hD
  have HC1 : Hid (∀ W, Below W0.heap.size W0 W → Calls Tryd.prog 18 #[.agg #[.slice p1 p.posts.length q1, .slice p2 p.queues.length q2, .slice p3 p.binds.length q3], .agg #[.slice a1 s.ready.length c1, .slice a2 s.outs.length c2, .slice a3 s.takers.length c3, .int .i64 s.nextSeq, .int .i64 s.nextTag, .int .i64 s.came, .int .i64 s.acked, .int .i64 s.dropped], .int .i64 q, .int .i64 m1] W (TkPost A n1 r1 W)) := fun W hW => by
    have := Join_any p s q m1 p1 p2 p3 a1 a2 a3 q1 q2 q3 c1 c2 c3 rows W (HBX.out _ hW).env (HBX.out _ hW).planAt HPS.out (HBX.out _ hW).stateAt HSS.out HSI.out
    rw [hA, hn1, hr1] at this
    exact this
  have HC2 : Hid (∀ W x1 x2 x3 xc1 xc2 xc3 rx, Below W0.heap.size W0 W → StateAt W 0 W.heap.size x1 x2 x3 rx A → Calls Tryd.prog 18 #[.agg #[.slice p1 p.posts.length q1, .slice p2 p.queues.length q2, .slice p3 p.binds.length q3], .agg #[.slice x1 A.ready.length xc1, .slice x2 A.outs.length xc2, .slice x3 A.takers.length xc3, .int .i64 A.nextSeq, .int .i64 A.nextTag, .int .i64 A.came, .int .i64 A.acked, .int .i64 A.dropped], .int .i64 q, .int .i64 m2] W (TkPost B n2 r2 W)) := fun W x1 x2 x3 xc1 xc2 xc3 rx hW hs => by
    have := Join_any p A q m2 p1 p2 p3 x1 x2 x3 q1 q2 q3 xc1 xc2 xc3 rx W (HBX.out _ hW).env (HBX.out _ hW).planAt HPS.out hs HSA.out.1 HSA.out.2
    rw [hB, hn2, hr2] at this
    exact this
  have HC3 : Hid (∀ W y1 y2 y3 yc1 yc2 yc3 ry, Below W0.heap.size W0 W → StateAt W 0 W.heap.size y1 y2 y3 ry B → Calls Tryd.prog 23 #[.agg #[.slice p1 p.posts.length q1, .slice p2 p.queues.length q2, .slice p3 p.binds.length q3], .agg #[.slice y1 B.ready.length yc1, .slice y2 B.outs.length yc2, .slice y3 B.takers.length yc3, .int .i64 B.nextSeq, .int .i64 B.nextTag, .int .i64 B.came, .int .i64 B.acked, .int .i64 B.dropped], .int .i64 q] W (TkPost C t3 r3 W)) := fun W y1 y2 y3 yc1 yc2 yc3 ry hW hs => by
    have := Deliver_any p B q p1 p2 p3 y1 y2 y3 q1 q2 q3 yc1 yc2 yc3 ry W (HBX.out _ hW).env (HBX.out _ hW).planAt HPS.out hs HSB.out.1 HSB.out.2
    rw [hC, ht3, hr3] at this
    exact this
  have HC4 : Hid (∀ W z1 z2 z3 zc1 zc2 zc3 rz, Below W0.heap.size W0 W → StateAt W 0 W.heap.size z1 z2 z3 rz C → Calls Tryd.prog 23 #[.agg #[.slice p1 p.posts.length q1, .slice p2 p.queues.length q2, .slice p3 p.binds.length q3], .agg #[.slice z1 C.ready.length zc1, .slice z2 C.outs.length zc2, .slice z3 C.takers.length zc3, .int .i64 C.nextSeq, .int .i64 C.nextTag, .int .i64 C.came, .int .i64 C.acked, .int .i64 C.dropped], .int .i64 q] W (TkPost D t4 r4 W)) := fun W z1 z2 z3 zc1 zc2 zc3 rz hW hs => by
    have := Deliver_any p C q p1 p2 p3 z1 z2 z3 q1 q2 q3 zc1 zc2 zc3 rz W (HBX.out _ hW).env (HBX.out _ hW).planAt HPS.out hs HSC.out.1 HSC.out.2
    rw [hD, ht4, hr4] at this
    exact this
  clear htl hA hn1 hr1 hB hn2 hr2 hC ht3 hr3 hD ht4 hr4
  refine (HC1.out _ (Below.refl _ _)).mono ?_
  rintro e w1 ⟨x1, x2, x3, xc1, xc2, xc3, rx, rfl, hs1, hb1⟩
  unfold stateV vState
  obtain ⟨⟨m0, m1, m2⟩, ⟨n0, n1, n2, n3, n4, n5, n6, n7⟩, _, _, _, _⟩ := HBX.out _ hb1
  go_upto_region 2 with fail
  obtain ⟨W1, hW1⟩ : ∃ W1, w1.alloc (.cells #[.slice x1 A.ready.length xc1, .slice x2 A.outs.length xc2, .slice x3 A.takers.length xc3, .int .i64 A.nextSeq, .int .i64 A.nextTag, .int .i64 A.came, .int .i64 A.acked, .int .i64 A.dropped] 43) = W1 := ⟨_, rfl⟩
  have HX := Lib.hid (box_since (x := A) xc1 xc2 xc3 hs1 hb1 hW1)
  rw [hW1]
  clear hW1
  clear hs1 hb1 m0 m1 m2 n0 n1 n2 n3 n4 n5 n6 n7
  obtain ⟨⟨m0, m1', m2'⟩, _, _, _, _, _⟩ := HBX.out _ (HX.out _ (Below.refl _ _)).2
  obtain ⟨k0, k1, k2, k3, k4, k5, k6, k7⟩ := (HX.out _ (Below.refl _ _)).1.cells
  go_wp2_with fail
  refine (HC2.out _ _ _ _ _ _ _ _ (HX.out _ (Below.refl _ _)).2 (HX.out _ (Below.refl _ _)).1.at_).mono ?_
  rintro e w2 ⟨y1, y2, y3, yc1, yc2, yc3, ry, rfl, hs2, hb2⟩
  unfold stateV vState
  clear m0 m1' m2' k0 k1 k2 k3 k4 k5 k6 k7
  go_upto_region 3 with fail
  obtain ⟨W2, hW1⟩ : ∃ W2, w2.alloc (.cells #[.slice y1 B.ready.length yc1, .slice y2 B.outs.length yc2, .slice y3 B.takers.length yc3, .int .i64 B.nextSeq, .int .i64 B.nextTag, .int .i64 B.came, .int .i64 B.acked, .int .i64 B.dropped] 43) = W2 := ⟨_, rfl⟩
  have HY := Lib.hid (box_since (x := B) yc1 yc2 yc3 hs2 hb2 hW1)
  rw [hW1]
  clear hW1
  clear hs2 hb2
  obtain ⟨⟨m0, m1', m2'⟩, _, _, _, _, _⟩ := HBX.out _ (HX.out _ (HY.out _ (Below.refl _ _)).2).2
  obtain ⟨k0, k1, k2, k3, k4, k5, k6, k7⟩ := (HY.out _ (Below.refl _ _)).1.cells
  go_wp2_with fail
  refine (HC3.out _ _ _ _ _ _ _ _ (HX.out _ (HY.out _ (Below.refl _ _)).2).2 (HY.out _ (Below.refl _ _)).1.at_).mono ?_
  rintro e w3 ⟨z1, z2, z3, zc1, zc2, zc3, rz, rfl, hs3, hb3⟩
  unfold stateV vState
  clear m0 m1' m2' k0 k1 k2 k3 k4 k5 k6 k7
  go_upto_region 4 with fail
  obtain ⟨W3, hW1⟩ : ∃ W3, w3.alloc (.cells #[.slice z1 C.ready.length zc1, .slice z2 C.outs.length zc2, .slice z3 C.takers.length zc3, .int .i64 C.nextSeq, .int .i64 C.nextTag, .int .i64 C.came, .int .i64 C.acked, .int .i64 C.dropped] 43) = W3 := ⟨_, rfl⟩
  have HZ := Lib.hid (box_since (x := C) zc1 zc2 zc3 hs3 hb3 hW1)
  rw [hW1]
  clear hW1
  clear hs3 hb3
  obtain ⟨⟨m0, m1', m2'⟩, _, _, _, _, _⟩ := HBX.out _ (HX.out _ (HY.out _ (HZ.out _ (Below.refl _ _)).2).2).2
  obtain ⟨k0, k1, k2, k3, k4, k5, k6, k7⟩ := (HZ.out _ (Below.refl _ _)).1.cells
  go_wp2_with fail
  refine (HC4.out _ _ _ _ _ _ _ _ (HX.out _ (HY.out _ (HZ.out _ (Below.refl _ _)).2).2).2 (HZ.out _ (Below.refl _ _)).1.at_).mono ?_
  rintro e w4 ⟨u1, u2, u3, uc1, uc2, uc3, ru, rfl, hs4, hb4⟩
  unfold stateV vState
  clear m0 m1' m2' k0 k1 k2 k3 k4 k5 k6 k7
  go_upto_region 5 with fail
  obtain ⟨W4, hW1⟩ : ∃ W4, w4.alloc (.cells #[.slice u1 D.ready.length uc1, .slice u2 D.outs.length uc2, .slice u3 D.takers.length uc3, .int .i64 D.nextSeq, .int .i64 D.nextTag, .int .i64 D.came, .int .i64 D.acked, .int .i64 D.dropped] 43) = W4 := ⟨_, rfl⟩
  have HU := Lib.hid (box_since (x := D) uc1 uc2 uc3 hs4 hb4 hW1)
  rw [hW1]
  clear hW1
  clear hs4 hb4 HC1 HC2 HC3 HC4 HSA HSB HSC
  have HALL : Hid (∀ W, Below W4.heap.size W4 W → Env W ∧ Below w.heap.size w W) := fun W hW => by
    have h := HBX.out _ (HX.out _ (HY.out _ (HZ.out _ (HU.out _ hW).2).2).2).2
    exact ⟨h.env, h.below⟩
  clear HX HY HZ
  by_cases z : r1 = 0
  · subst z
    by_cases z : r2 = 0
    · subst z
      by_cases z : r3 = 0
      · subst z
        by_cases z : r4 = 0
        · subst z
          obtain ⟨hne, l, o1, o2, hDo, ht, hsq, htg⟩ := HF.out rfl rfl rfl rfl
          have hnb : ((n1 : Int) == (n2 : Int)) = false := beq_eq_false_iff_ne.2 (by omega)
          obtain ⟨m, hm⟩ : ∃ m, l.length = m := ⟨_, rfl⟩
          obtain ⟨n, hn⟩ : ∃ n, D.outs.length = n := ⟨_, rfl⟩
          have hnm : n = m + 2 := by rw [← hn, hDo, ← hm]; simp
          have ho1 : D.outs[m]? = some o1 := by rw [hDo, ← hm]; simp
          have ho2 : D.outs[m + 1]? = some o2 := by rw [hDo, ← hm]; simp
          obtain ⟨ob, oo, rfl, hob⟩ := own_some (HU.out _ (Below.refl _ _)).1.at_.outs (by rw [hDo]; simp [vOut])
          rw [hn]
          have hlim : n ≤ 1048576 := by rw [← hn]; exact HSD.out.outs
          have HK : Hid (∀ W, Below W4.heap.size W4 W → (W.cell? ⟨w4.heap.size, 1, none⟩ = some (.slice (some ⟨ob, oo, none⟩) n uc2) ∧ (W.cell? ⟨ob, oo + m * 8, none⟩ = some (.int .i64 o1.tag) ∧ W.cell? ⟨ob, oo + m * 8 + 1, none⟩ = some (.int .i64 o1.taker) ∧ W.cell? ⟨ob, oo + m * 8 + 2, none⟩ = some (.int .i64 o1.queue) ∧ W.cell? ⟨ob, oo + m * 8 + 3, none⟩ = some (.int .i64 o1.item.seq) ∧ W.cell? ⟨ob, oo + m * 8 + 4, none⟩ = some (.string o1.item.key) ∧ W.cell? ⟨ob, oo + m * 8 + 5, none⟩ = some (.string o1.item.body) ∧ W.cell? ⟨ob, oo + m * 8 + 6, none⟩ = some (.bool o1.item.again) ∧ W.cell? ⟨ob, oo + m * 8 + 7, none⟩ = some (.int .i64 o1.item.deaths)) ∧ (W.cell? ⟨ob, oo + (m + 1) * 8, none⟩ = some (.int .i64 o2.tag) ∧ W.cell? ⟨ob, oo + (m + 1) * 8 + 1, none⟩ = some (.int .i64 o2.taker) ∧ W.cell? ⟨ob, oo + (m + 1) * 8 + 2, none⟩ = some (.int .i64 o2.queue) ∧ W.cell? ⟨ob, oo + (m + 1) * 8 + 3, none⟩ = some (.int .i64 o2.item.seq) ∧ W.cell? ⟨ob, oo + (m + 1) * 8 + 4, none⟩ = some (.string o2.item.key) ∧ W.cell? ⟨ob, oo + (m + 1) * 8 + 5, none⟩ = some (.string o2.item.body) ∧ W.cell? ⟨ob, oo + (m + 1) * 8 + 6, none⟩ = some (.bool o2.item.again) ∧ W.cell? ⟨ob, oo + (m + 1) * 8 + 7, none⟩ = some (.int .i64 o2.item.deaths))) ∧ Below W4.heap.size W4 W) := fun W hW => by
            have h := (HU.out _ hW).1
            refine ⟨⟨?_, out_at h.at_.outs ho1, out_at h.at_.outs ho2⟩, hW⟩
            have := h.cells.2.1
            rw [hn] at this
            exact this
          have h1 : m + 2 ≤ n := by omega
          have h2 : n ≤ m + 2 := by omega
          have HT := Lib.hid (And.intro ht (And.intro hsq htg))
          clear hDo ht hsq htg hm hn hnm ho1 ho2 hne hob HSD HF
          obtain ⟨⟨d1, _, _⟩, _⟩ := HK.out _ (Below.refl _ _)
          go_upto_region 9 with fail
          clear d1
          have hw1 : IntKind.i64.wrap ((n : Int) - 2) = (m : Int) := by
            rw [show (n : Int) - 2 = (m : Int) by omega]
            exact IntWalk.i64_in _ (by omega)
          have hw2 : IntKind.i64.wrap ((n : Int) - 1) = (m : Int) + 1 := by
            rw [show (n : Int) - 1 = (m : Int) + 1 by omega]
            exact IntWalk.i64_in _ (by omega)
          have hi0 : (0 : Int) ≤ (m : Int) := by omega
          have hi1 : (m : Int) < (n : Int) := by omega
          have hi2 : (0 : Int) ≤ (m : Int) + 1 := by omega
          have hi3 : (m : Int) + 1 < (n : Int) := by omega
          have hi4 : ((m : Int) + 1).toNat = m + 1 := by omega
          go_cut [23, 24] from 83 to 98 (fun x y wx => TwoOuts o1 o2 W4 x y wx)
          case first =>
            refine wp_region_held_drew (S := (fun W => (W.cell? ⟨w4.heap.size, 1, none⟩ = some (.slice (some ⟨ob, oo, none⟩) n uc2) ∧ (W.cell? ⟨ob, oo + m * 8, none⟩ = some (.int .i64 o1.tag) ∧ W.cell? ⟨ob, oo + m * 8 + 1, none⟩ = some (.int .i64 o1.taker) ∧ W.cell? ⟨ob, oo + m * 8 + 2, none⟩ = some (.int .i64 o1.queue) ∧ W.cell? ⟨ob, oo + m * 8 + 3, none⟩ = some (.int .i64 o1.item.seq) ∧ W.cell? ⟨ob, oo + m * 8 + 4, none⟩ = some (.string o1.item.key) ∧ W.cell? ⟨ob, oo + m * 8 + 5, none⟩ = some (.string o1.item.body) ∧ W.cell? ⟨ob, oo + m * 8 + 6, none⟩ = some (.bool o1.item.again) ∧ W.cell? ⟨ob, oo + m * 8 + 7, none⟩ = some (.int .i64 o1.item.deaths)) ∧ (W.cell? ⟨ob, oo + (m + 1) * 8, none⟩ = some (.int .i64 o2.tag) ∧ W.cell? ⟨ob, oo + (m + 1) * 8 + 1, none⟩ = some (.int .i64 o2.taker) ∧ W.cell? ⟨ob, oo + (m + 1) * 8 + 2, none⟩ = some (.int .i64 o2.queue) ∧ W.cell? ⟨ob, oo + (m + 1) * 8 + 3, none⟩ = some (.int .i64 o2.item.seq) ∧ W.cell? ⟨ob, oo + (m + 1) * 8 + 4, none⟩ = some (.string o2.item.key) ∧ W.cell? ⟨ob, oo + (m + 1) * 8 + 5, none⟩ = some (.string o2.item.body) ∧ W.cell? ⟨ob, oo + (m + 1) * 8 + 6, none⟩ = some (.bool o2.item.again) ∧ W.cell? ⟨ob, oo + (m + 1) * 8 + 7, none⟩ = some (.int .i64 o2.item.deaths))) ∧ Below W4.heap.size W4 W)) (by kernel_rfl) (by first | exact HK.out _ (kb_alloc (by assumption) _) | exact HK.out _ (Below.refl _ _).drew) (fun hHeld => ?_)
            first | (refine wpAnyH_take (i := 0) (v := ?_) rfl (by kernel_rfl) (by kernel_rfl) (by kernel_rfl) (fun _ _ _ h => h) (Or.inl ⟨by rfl, ?_⟩) (by assumption) ?_; rotate_left; focus (intro w hSw; (try dsimp only at hSw); go_simp; (all_goals with_reducible rfl); done)) | fail "op 0"
            try simp only [Act.put, List.setIfInBounds_toArray, List.set_cons_zero, List.set_cons_succ, List.getElem_toArray, List.getElem_cons_zero]
            first | (refine wpAnyH_take (i := 1) (v := ?_) rfl (by kernel_rfl) (by kernel_rfl) (by kernel_rfl) (fun _ _ _ h => h) (Or.inl ⟨by rfl, ?_⟩) (by assumption) ?_; rotate_left; focus (intro w hSw; (try dsimp only at hSw); go_simp; (all_goals with_reducible rfl); done)) | fail "op 1"
            try simp only [Act.put, List.setIfInBounds_toArray, List.set_cons_zero, List.set_cons_succ, List.getElem_toArray, List.getElem_cons_zero, List.getElem_cons_succ]
            first | (refine wpAnyH_take (i := 2) (v := ?_) rfl (by kernel_rfl) (by kernel_rfl) (by kernel_rfl) (fun _ _ _ h => h) (Or.inl ⟨by rfl, ?_⟩) (by assumption) ?_; rotate_left; focus (intro w hSw; (try dsimp only at hSw); go_simp; (all_goals with_reducible rfl); done)) | fail "op 2"
            try simp only [Act.put, List.setIfInBounds_toArray, List.set_cons_zero, List.set_cons_succ, List.getElem_toArray, List.getElem_cons_zero, List.getElem_cons_succ]
            first | (refine wpAnyH_take (i := 3) (v := ?_) rfl (by kernel_rfl) (by kernel_rfl) (by kernel_rfl) (fun _ _ _ h => h) (Or.inl ⟨by rfl, ?_⟩) (by assumption) ?_; rotate_left; focus (intro w hSw; (try dsimp only at hSw); go_simp; (all_goals with_reducible rfl); done)) | fail "op 3"
            try simp only [Act.put, List.setIfInBounds_toArray, List.set_cons_zero, List.set_cons_succ, List.getElem_toArray, List.getElem_cons_zero, List.getElem_cons_succ]
            first | (refine wpAnyH_take (i := 4) (v := ?_) rfl (by kernel_rfl) (by kernel_rfl) (by kernel_rfl) (fun _ _ _ h => h) (Or.inl ⟨by rfl, ?_⟩) (by assumption) ?_; rotate_left; focus (intro w hSw; (try dsimp only at hSw); go_simp; (all_goals with_reducible rfl); done)) | fail "op 4"
            try simp only [Act.put, List.setIfInBounds_toArray, List.set_cons_zero, List.set_cons_succ, List.getElem_toArray, List.getElem_cons_zero, List.getElem_cons_succ]
            first | (refine wpAnyH_take (i := 5) (v := ?_) rfl (by kernel_rfl) (by kernel_rfl) (by kernel_rfl) (fun _ _ _ h => h) (Or.inl ⟨by rfl, ?_⟩) (by assumption) ?_; rotate_left; focus (intro w hSw; (try dsimp only at hSw); go_simp; (all_goals with_reducible rfl); done)) | fail "op 5"
            try simp only [Act.put, List.setIfInBounds_toArray, List.set_cons_zero, List.set_cons_succ, List.getElem_toArray, List.getElem_cons_zero, List.getElem_cons_succ]
            first | (refine wpAnyH_take (i := 6) (v := ?_) rfl (by kernel_rfl) (by kernel_rfl) (by kernel_rfl) (fun _ _ _ h => h) (Or.inl ⟨by rfl, ?_⟩) (by assumption) ?_; rotate_left; focus (intro w hSw; (try dsimp only at hSw); go_simp; (all_goals with_reducible rfl); done)) | fail "op 6"
            try simp only [Act.put, List.setIfInBounds_toArray, List.set_cons_zero, List.set_cons_succ, List.getElem_toArray, List.getElem_cons_zero, List.getElem_cons_succ]
            first | (refine wpAnyH_take (i := 7) (v := ?_) rfl (by kernel_rfl) (by kernel_rfl) (by kernel_rfl) (fun _ _ _ h => h) (Or.inl ⟨by rfl, ?_⟩) (by assumption) ?_; rotate_left; focus (intro w hSw; (try dsimp only at hSw); go_simp; (all_goals with_reducible rfl); done)) | fail "op 7"
            try simp only [Act.put, List.setIfInBounds_toArray, List.set_cons_zero, List.set_cons_succ, List.getElem_toArray, List.getElem_cons_zero, List.getElem_cons_succ]
            first | (refine wpAnyH_take (i := 8) (v := ?_) rfl (by kernel_rfl) (by kernel_rfl) (by kernel_rfl) (fun _ _ _ h => h) (Or.inl ⟨by rfl, ?_⟩) (by assumption) ?_; rotate_left; focus (intro w hSw; (try dsimp only at hSw); go_simp; (all_goals with_reducible rfl); done)) | fail "op 8"
            try simp only [Act.put, List.setIfInBounds_toArray, List.set_cons_zero, List.set_cons_succ, List.getElem_toArray, List.getElem_cons_zero, List.getElem_cons_succ]
            first | (refine wpAnyH_take (i := 9) (v := ?_) rfl (by kernel_rfl) (by kernel_rfl) (by kernel_rfl) (fun _ _ _ h => h) (Or.inl ⟨by rfl, ?_⟩) (by assumption) ?_; rotate_left; focus (intro w hSw; (try dsimp only at hSw); go_simp; (all_goals with_reducible rfl); done)) | fail "op 9"
            try simp only [Act.put, List.setIfInBounds_toArray, List.set_cons_zero, List.set_cons_succ, List.getElem_toArray, List.getElem_cons_zero, List.getElem_cons_succ]
            first | (refine wpAnyH_take (i := 10) (v := ?_) rfl (by kernel_rfl) (by kernel_rfl) (by kernel_rfl) (fun _ _ _ h => h) (Or.inl ⟨by rfl, ?_⟩) (by assumption) ?_; rotate_left; focus (intro w hSw; (try dsimp only at hSw); go_simp; (all_goals with_reducible rfl); done)) | fail "op 10"
            try simp only [Act.put, List.setIfInBounds_toArray, List.set_cons_zero, List.set_cons_succ, List.getElem_toArray, List.getElem_cons_zero, List.getElem_cons_succ]
            first | (refine wpAnyH_take (i := 11) (v := ?_) rfl (by kernel_rfl) (by kernel_rfl) (by kernel_rfl) (fun _ _ _ h => h) (Or.inl ⟨by rfl, ?_⟩) (by assumption) ?_; rotate_left; focus (intro w hSw; (try dsimp only at hSw); go_simp; (all_goals with_reducible rfl); done)) | fail "op 11"
            try simp only [Act.put, List.setIfInBounds_toArray, List.set_cons_zero, List.set_cons_succ, List.getElem_toArray, List.getElem_cons_zero, List.getElem_cons_succ]
            first | (refine wpAnyH_take (i := 12) (v := ?_) rfl (by kernel_rfl) (by kernel_rfl) (by kernel_rfl) (fun _ _ _ h => h) (Or.inl ⟨by rfl, ?_⟩) (by assumption) ?_; rotate_left; focus (intro w hSw; (try dsimp only at hSw); go_simp; (all_goals with_reducible rfl); done)) | fail "op 12"
            try simp only [Act.put, List.setIfInBounds_toArray, List.set_cons_zero, List.set_cons_succ, List.getElem_toArray, List.getElem_cons_zero, List.getElem_cons_succ]
            first | (refine wpAnyH_take (i := 13) (v := ?_) rfl (by kernel_rfl) (by kernel_rfl) (by kernel_rfl) (fun _ _ _ h => h) (Or.inl ⟨by rfl, ?_⟩) (by assumption) ?_; rotate_left; focus (intro w hSw; (try dsimp only at hSw); go_simp; (all_goals with_reducible rfl); done)) | fail "op 13"
            try simp only [Act.put, List.setIfInBounds_toArray, List.set_cons_zero, List.set_cons_succ, List.getElem_toArray, List.getElem_cons_zero, List.getElem_cons_succ]
            first | (refine wpAnyH_take (i := 14) (v := ?_) rfl (by kernel_rfl) (by kernel_rfl) (by kernel_rfl) (fun _ _ _ h => h) (Or.inl ⟨by rfl, ?_⟩) (by assumption) ?_; rotate_left; focus (intro w hSw; (try dsimp only at hSw); go_simp; (all_goals with_reducible rfl); done)) | fail "op 14"
            try simp only [Act.put, List.setIfInBounds_toArray, List.set_cons_zero, List.set_cons_succ, List.getElem_toArray, List.getElem_cons_zero, List.getElem_cons_succ]
            first | (refine wpAnyH_take (i := 15) (v := ?_) rfl (by kernel_rfl) (by kernel_rfl) (by kernel_rfl) (fun _ _ _ h => h) (Or.inl ⟨by rfl, ?_⟩) (by assumption) ?_; rotate_left; focus (intro w hSw; (try dsimp only at hSw); go_simp; (all_goals with_reducible rfl); done)) | fail "op 15"
            try simp only [Act.put, List.setIfInBounds_toArray, List.set_cons_zero, List.set_cons_succ, List.getElem_toArray, List.getElem_cons_zero, List.getElem_cons_succ]
            refine wpAnyH_ready (rs := [16, 17]) (by kernel_rfl) (by simp) ?_
            refine AllReadyH.cons rfl (fun K hK => ?_) (AllReadyH.cons rfl (fun K hK => ?_) AllReadyH.nil)
            · go_simp
              refine hK.out _ _ (by first | exact HK.out _ (kb_alloc (by assumption) _) | exact HK.out _ (Below.refl _ _).drew) (fun hHeld => ?_)
              clear hK K
              try simp only [Act.put, List.setIfInBounds_toArray, List.set_cons_zero, List.set_cons_succ, List.getElem_toArray, List.getElem_cons_zero, List.getElem_cons_succ]
              refine wpAnyH_ready (rs := [17]) (by kernel_rfl) (by simp) ?_
              refine AllReadyH.cons rfl (fun K hK => ?_) AllReadyH.nil
              go_simp
              refine hK.out _ _ (by first | exact HK.out _ (kb_alloc (by assumption) _) | exact HK.out _ (Below.refl _ _).drew) (fun hHeld => ?_)
              clear hK K
              try simp only [Act.put, List.setIfInBounds_toArray, List.set_cons_zero, List.set_cons_succ, List.getElem_toArray, List.getElem_cons_zero, List.getElem_cons_succ]
              refine wpAnyH_ready (rs := [18]) (by kernel_rfl) (by simp) ?_
              refine AllReadyH.cons rfl (fun K hK => ?_) AllReadyH.nil
              skip
              go_simp
              refine hK.out _ _ (by exact HK.out _ (below_two _ _ _)) (fun hHeld => ?_)
              clear hK K
              try simp only [Act.put, List.setIfInBounds_toArray, List.set_cons_zero, List.set_cons_succ, List.getElem_toArray, List.getElem_cons_zero, List.getElem_cons_succ]
              refine wpAnyH_ready (rs := [19]) (by kernel_rfl) (by simp) ?_
              refine AllReadyH.cons rfl (fun K hK => ?_) AllReadyH.nil
              skip
              go_simp
              refine hK.out _ _ (by exact HK.out _ (below_two _ _ _)) (fun hHeld => ?_)
              clear hK K
              try simp only [Act.put, List.setIfInBounds_toArray, List.set_cons_zero, List.set_cons_succ, List.getElem_toArray, List.getElem_cons_zero, List.getElem_cons_succ]
              refine wpAnyH_done (by kernel_rfl) ?_ _
              go_wp2_with fail
              go_meet
              exact two_outs o1 o2 W4
            · go_simp
              refine hK.out _ _ (by first | exact HK.out _ (kb_alloc (by assumption) _) | exact HK.out _ (Below.refl _ _).drew) (fun hHeld => ?_)
              clear hK K
              try simp only [Act.put, List.setIfInBounds_toArray, List.set_cons_zero, List.set_cons_succ, List.getElem_toArray, List.getElem_cons_zero, List.getElem_cons_succ]
              refine wpAnyH_ready (rs := [16]) (by kernel_rfl) (by simp) ?_
              refine AllReadyH.cons rfl (fun K hK => ?_) AllReadyH.nil
              go_simp
              refine hK.out _ _ (by first | exact HK.out _ (kb_alloc (by assumption) _) | exact HK.out _ (Below.refl _ _).drew) (fun hHeld => ?_)
              clear hK K
              try simp only [Act.put, List.setIfInBounds_toArray, List.set_cons_zero, List.set_cons_succ, List.getElem_toArray, List.getElem_cons_zero, List.getElem_cons_succ]
              refine wpAnyH_ready (rs := [18]) (by kernel_rfl) (by simp) ?_
              refine AllReadyH.cons rfl (fun K hK => ?_) AllReadyH.nil
              skip
              go_simp
              refine hK.out _ _ (by exact HK.out _ (below_two _ _ _)) (fun hHeld => ?_)
              clear hK K
              try simp only [Act.put, List.setIfInBounds_toArray, List.set_cons_zero, List.set_cons_succ, List.getElem_toArray, List.getElem_cons_zero, List.getElem_cons_succ]
              refine wpAnyH_ready (rs := [19]) (by kernel_rfl) (by simp) ?_
              refine AllReadyH.cons rfl (fun K hK => ?_) AllReadyH.nil
              skip
              go_simp
              refine hK.out _ _ (by exact HK.out _ (below_two _ _ _)) (fun hHeld => ?_)
              clear hK K
              try simp only [Act.put, List.setIfInBounds_toArray, List.set_cons_zero, List.set_cons_succ, List.getElem_toArray, List.getElem_cons_zero, List.getElem_cons_succ]
              refine wpAnyH_done (by kernel_rfl) ?_ _
              go_wp2_with fail
              go_meet
              exact two_outs' o1 o2 W4
          case rest =>
            obtain ⟨gx, gy, rfl, rfl, hgx, hgy, hbw⟩ := hcut
            clear hw1 hw2 hi0 hi1 hi2 hi3 hi4
            go_wp2_with fail
            refine (takersBegun_any _ (HALL.out _ hbw).1).mono ?_
            rintro e w5 ⟨rfl, hb5⟩
            have hgx5 := hgx.below hb5 hgx.lt
            have hgy5 := hgy.below hb5 hgy.lt
            have HB5 := Lib.hid (hbw.trans (hb5.mono hbw.size))
            have x0 : w5.cell? ⟨gx, 0, none⟩ = some (.int .i64 o1.tag) := hgx5.cell 0
            have x1 : w5.cell? ⟨gx, 1, none⟩ = some (.int .i64 o1.taker) := hgx5.cell 1
            have x3 : w5.cell? ⟨gx, 3, none⟩ = some (.int .i64 o1.item.seq) := hgx5.cell 3
            have y0 : w5.cell? ⟨gy, 0, none⟩ = some (.int .i64 o2.tag) := hgy5.cell 0
            have y1 : w5.cell? ⟨gy, 1, none⟩ = some (.int .i64 o2.taker) := hgy5.cell 1
            have y3 : w5.cell? ⟨gy, 3, none⟩ = some (.int .i64 o2.item.seq) := hgy5.cell 3
            clear hgx hgy hbw hb5 hgx5 hgy5
            have e1 : (o1.taker != o2.taker) = true := by simp [HT.out.1]
            have e2 : decide (o1.item.seq < o2.item.seq) = true := decide_eq_true HT.out.2.1
            have e3 : decide (o1.tag < o2.tag) = true := decide_eq_true HT.out.2.2
            generalize o1.taker = ta at *
            generalize o2.taker = tb at *
            generalize o1.item.seq = sa at *
            generalize o2.item.seq = sb at *
            generalize o1.tag = ga at *
            generalize o2.tag = gb at *
            go_wp2_with fail
            go_ret
            exact ⟨rfl, (HALL.out _ HB5.out).2⟩
        · have hb : (r4 != 0) = true := by simp [z]
          clear z
          go_wp2_with fail
          refine (takersBegun_any _ (HALL.out _ (Below.refl _ _)).1).mono ?_
          rintro e w5 ⟨rfl, hb5⟩
          have HB5 := Lib.hid hb5
          clear hb5
          go_wp2_with fail
          go_ret
          exact ⟨rfl, (HALL.out _ HB5.out).2⟩

      · have hb : (r3 != 0) = true := by simp [z]
        clear z
        go_wp2_with fail
        refine (takersBegun_any _ (HALL.out _ (Below.refl _ _)).1).mono ?_
        rintro e w5 ⟨rfl, hb5⟩
        have HB5 := Lib.hid hb5
        clear hb5
        go_wp2_with fail
        go_ret
        exact ⟨rfl, (HALL.out _ HB5.out).2⟩

    · have hb : (r2 != 0) = true := by simp [z]
      clear z
      go_wp2_with fail
      refine (takersBegun_any _ (HALL.out _ (Below.refl _ _)).1).mono ?_
      rintro e w5 ⟨rfl, hb5⟩
      have HB5 := Lib.hid hb5
      clear hb5
      go_wp2_with fail
      go_ret
      exact ⟨rfl, (HALL.out _ HB5.out).2⟩

  · have hb : (r1 != 0) = true := by simp [z]
    clear z
    go_wp2_with fail
    refine (takersBegun_any _ (HALL.out _ (Below.refl _ _)).1).mono ?_
    rintro e w5 ⟨rfl, hb5⟩
    have HB5 := Lib.hid hb5
    clear hb5
    go_wp2_with fail
    go_ret
    exact ⟨rfl, (HALL.out _ HB5.out).2⟩


theorem takersFair_any (p : PlanD) (p1 p2 p3 : Option Addr) (q1 q2 q3 : Nat) (s : StateD) (a1 a2 a3 : Option Addr) (c1 c2 c3 : Nat) (rows : List RowD) (q m1 m2 : Int) (w : World) (hp : PlanAt w 0 w.heap.size p1 p2 p3 p) (hps : PlanSmall p) (_ : PlanInts p) (hs : StateAt w 0 w.heap.size a1 a2 a3 rows s) (hss : StateSmall s) (hsi : StateInts s)
    (_ : s.ready.length ≤ c1 ∧ s.outs.length ≤ c2 ∧ s.takers.length ≤ c3) (_ : -9223372036854775808 ≤ q ∧ q ≤ 9223372036854775807) (_ : -9223372036854775808 ≤ m1 ∧ m1 ≤ 9223372036854775807) (_ : -9223372036854775808 ≤ m2 ∧ m2 ≤ 9223372036854775807) (hE : Env w) :
    Calls Tryd.prog 7 #[planV p p1 p2 p3 q1 q2 q3, stateV s a1 a2 a3 c1 c2 c3, .int .i64 q, .int .i64 m1, .int .i64 m2] w fun e w' => e = .returned (.bool true) ∧ Below w.heap.size w w' :=
  takersFair_go p s q m1 m2 p1 p2 p3 a1 a2 a3 q1 q2 q3 c1 c2 c3 rows w hE hp hps hs hss hsi

end Go.Proofs.YtapimpmpjighmaaDoor

namespace Go.Proofs.YtapimpmpjighmaaDoor
open Go.RowKit
set_option maxRecDepth 100000

theorem row_in2 {w : World} {lo hi b o : Nat} {rows : List RowD} (h : Sl w lo hi (some ⟨b, o, none⟩) (rows.flatMap vRow)) {k : Nat} {r : RowD} (hk : rows[k]? = some r) : w.cell? ⟨b, o + k, none⟩ = some (.slice r.at_ r.items.length r.cap) := by
  obtain ⟨hl, rfl⟩ := List.getElem?_eq_some_iff.1 hk
  obtain ⟨b', o', e, _, _, hc⟩ := sl_elem vRow_len (by decide) h hl
  simp only [Option.some.injEq, Addr.mk.injEq] at e
  obtain ⟨rfl, rfl, _⟩ := e
  have := hc 0 _ rfl
  rw [Nat.mul_one] at this
  exact this
theorem item_in2 {w : World} {lo hi b o : Nat} {x : ItemD} {l : List ItemD} (h : Sl w lo hi (some ⟨b, o, none⟩) ((x :: l).flatMap vItem)) :
    w.cell? ⟨b, o, none⟩ = some (.int .i64 x.seq) ∧ w.cell? ⟨b, o + 1, none⟩ = some (.string x.key) ∧ w.cell? ⟨b, o + 2, none⟩ = some (.string x.body) ∧ w.cell? ⟨b, o + 3, none⟩ = some (.bool x.again) ∧ w.cell? ⟨b, o + 4, none⟩ = some (.int .i64 x.deaths) := by
  rcases h with h | ⟨b', o', e, _, _, hc⟩
  · simp [vItem] at h
  · simp only [Option.some.injEq, Addr.mk.injEq] at e
    obtain ⟨rfl, rfl, _⟩ := e
    exact ⟨hc 0 _ rfl, hc 1 _ rfl, hc 2 _ rfl, hc 3 _ rfl, hc 4 _ rfl⟩
theorem taker_in2 {w : World} {lo hi b o : Nat} {l : List TakerD} (h : Sl w lo hi (some ⟨b, o, none⟩) (l.flatMap vTaker)) {k : Nat} {x : TakerD} (hk : l[k]? = some x) : w.cell? ⟨b, o + k * 2, none⟩ = some (.int .i64 x.queue) ∧ w.cell? ⟨b, o + k * 2 + 1, none⟩ = some (.int .i64 x.atOnce) := by
  obtain ⟨hl, rfl⟩ := List.getElem?_eq_some_iff.1 hk
  obtain ⟨b', o', e, _, _, hc⟩ := sl_elem vTaker_len (by decide) h hl
  simp only [Option.some.injEq, Addr.mk.injEq] at e
  obtain ⟨rfl, rfl, _⟩ := e
  exact taker_cells (wr := w) hc
theorem row_of {rows : List RowD} {l : List (List ItemD)} (h : rows.map (·.items) = l) {k : Nat} {x : List ItemD} (hk : l[k]? = some x) : ∃ r, rows[k]? = some r ∧ r.items = x := by
  rw [← h, List.getElem?_map, Option.map_eq_some_iff] at hk
  obtain ⟨r, h1, h2⟩ := hk
  exact ⟨r, h1, h2⟩
theorem row_ne {rows : List RowD} {k : Nat} {r : RowD} (h : rows[k]? = some r) : rows.flatMap vRow ≠ [] := fun e => by
  have h1 := congrArg List.length e
  rw [flat_len vRow_len, Nat.mul_one] at h1
  have := (List.getElem?_eq_some_iff.1 h).1
  rw [h1] at this
  exact absurd this (Nat.not_lt_zero _)
theorem taker_ne {l : List TakerD} {k : Nat} {x : TakerD} (h : l[k]? = some x) : l.flatMap vTaker ≠ [] := fun e => by
  have h1 := congrArg List.length e
  rw [flat_len vTaker_len] at h1
  have := (List.getElem?_eq_some_iff.1 h).1
  simp only [List.length_nil] at h1
  omega
/-- So many takers were looked at. -/
def TrRel (n : Nat) (W3 : World) (i : Value) (wr : World) : Prop := ∃ j : Nat, j ≤ n ∧ i = .int .i64 j ∧ Below W3.heap.size W3 wr
theorem held_ok {p : PlanD} {s : StateD} (h : Right p s) {i : Nat} (hi : i < s.takers.length) : (heldOut p s (i : Int) : Int) = (heldS s i : Int) ∧ heldErr p s (i : Int) = 0 := by
  have := held_right (right_iff.2 h) (t := (i : Int)) (by omega) (by omega)
  exact ⟨by rw [this.2], this.1⟩

set_option maxHeartbeats 8000000 in
theorem takersTrue_go (p : PlanD) (s : StateD) (q ot : Int) (hot : -9223372036854775808 ≤ ot ∧ ot ≤ 9223372036854775807) (p1 p2 p3 a1 a2 a3 : Option Addr) (q1 q2 q3 c1 c2 c3 : Nat) (rows : List RowD) (w : World) (hE : Env w) (hp : PlanAt w 0 w.heap.size p1 p2 p3 p) (hps : PlanSmall p) (hs : StateAt w 0 w.heap.size a1 a2 a3 rows s) (hss : StateSmall s) (hsi : StateInts s) :
    Calls Tryd.prog 8 #[planV p p1 p2 p3 q1 q2 q3, stateV s a1 a2 a3 c1 c2 c3, .int .i64 q, .int .i64 ot] w fun e w' => e = .returned (.bool true) ∧ Below w.heap.size w w' := by
  have hbx := two_boxes q1 q2 q3 c1 c2 c3 hE hp hs 26 43
  unfold vState at hbx
  unfold stateV planV vState
  have HBX := Lib.hid hbx
  have HPS := Lib.hid hps
  have HSS := Lib.hid hss
  have HSI := Lib.hid hsi
  clear hbx hE hp hs hps hss hsi
  go_enter Tryd.func8, Tryd.ntmps8
  obtain ⟨⟨m0, m1, m2⟩, ⟨n0, n1, n2, n3, n4, n5, n6, n7⟩, _, _, _, _⟩ := HBX.out _ (Below.refl _ _)
  go_wp2_with fail
  clear m0 m1 m2 n0 n1 n2 n3 n4 n5 n6 n7
  generalize ((w.alloc (.cells #[.slice p1 p.posts.length q1, .slice p2 p.queues.length q2, .slice p3 p.binds.length q3] 26)).alloc (.cells #[Value.slice a1 s.ready.length c1, Value.slice a2 s.outs.length c2, Value.slice a3 s.takers.length c3, Value.int IntKind.i64 s.nextSeq, Value.int IntKind.i64 s.nextTag, Value.int IntKind.i64 s.came, Value.int IntKind.i64 s.acked, Value.int IntKind.i64 s.dropped] 43)) = W0 at *
  have HOT := Lib.hid hot
  clear hot
  have HC1 : Hid (∀ W, Below W0.heap.size W0 W → Calls Tryd.prog 23 #[.agg #[.slice p1 p.posts.length q1, .slice p2 p.queues.length q2, .slice p3 p.binds.length q3], .agg #[.slice a1 s.ready.length c1, .slice a2 s.outs.length c2, .slice a3 s.takers.length c3, .int .i64 s.nextSeq, .int .i64 s.nextTag, .int .i64 s.came, .int .i64 s.acked, .int .i64 s.dropped], .int .i64 q] W (TkPost (deliverS p s q) (deliverT p s q) (deliverErr p s q) W)) := fun W hW =>
    Deliver_any p s q p1 p2 p3 a1 a2 a3 q1 q2 q3 c1 c2 c3 rows W (HBX.out _ hW).env (HBX.out _ hW).planAt HPS.out (HBX.out _ hW).stateAt HSS.out HSI.out
  have HF : Hid (deliverErr p s q = 0 → ∃ k i x rest tk, TrueFacts p s q (deliverS p s q) (deliverT p s q) k i x rest tk) := fun h => true_facts h
  generalize deliverS p s q = X at *
  generalize deliverT p s q = t at *
  generalize deliverErr p s q = r at *
  refine (HC1.out _ (Below.refl _ _)).mono ?_
  rintro e w1 ⟨x1, x2, x3, xc1, xc2, xc3, rx, rfl, hs1, hb1⟩
  unfold stateV vState
  obtain ⟨⟨m0, m1, m2⟩, ⟨n0, n1, n2, n3, n4, n5, n6, n7⟩, _, _, _, _⟩ := HBX.out _ hb1
  go_upto_region 2 with fail
  obtain ⟨W1, hW1⟩ : ∃ W1, w1.alloc (.cells #[.slice x1 X.ready.length xc1, .slice x2 X.outs.length xc2, .slice x3 X.takers.length xc3, .int .i64 X.nextSeq, .int .i64 X.nextTag, .int .i64 X.came, .int .i64 X.acked, .int .i64 X.dropped] 43) = W1 := ⟨_, rfl⟩
  have HX := Lib.hid (box_since (x := X) xc1 xc2 xc3 hs1 hb1 hW1)
  rw [hW1]
  clear hW1
  clear hs1 hb1 HC1 m0 m1 m2 n0 n1 n2 n3 n4 n5 n6 n7
  have HALL : Hid (∀ W, Below W1.heap.size W1 W → CkIn w p s p1 p2 p3 a1 a2 a3 q1 q2 q3 c1 c2 c3 rows W) := fun W hW => HBX.out _ (HX.out _ hW).2
  by_cases z : r = 0
  · subst z
    obtain ⟨k, i, x, rest, tk, hF⟩ := HF.out rfl
    obtain rfl := hF.hq
    obtain rfl := hF.tag
    have HT := Lib.hid hF
    clear hF HF
    have hkl : k < s.ready.length := (List.getElem?_eq_some_iff.1 HT.out.row).1
    have hil : i < s.takers.length := (List.getElem?_eq_some_iff.1 HT.out.taker).1
    have hlr := HSS.out.ready
    have hlo := HSS.out.outs
    have hlt := HSS.out.takers
    obtain ⟨⟨ra, rc, ri⟩, hr, hri⟩ := row_of (HALL.out _ (Below.refl _ _)).stateAt.same HT.out.row
    obtain rfl : ri = x :: rest := hri
    obtain ⟨⟨xa, xcap, xi⟩, hxr, hxi⟩ := row_of (HX.out _ (Below.refl _ _)).1.at_.same (show X.ready[k]? = some rest by rw [HT.out.rowsX, List.getElem?_set_self hkl])
    obtain rfl : xi = rest := hxi
    obtain ⟨ab, ao, rfl, _⟩ := own_some (HALL.out _ (Below.refl _ _)).stateAt.ready (row_ne hr)
    obtain ⟨xb, xo, rfl, _⟩ := own_some (HX.out _ (Below.refl _ _)).1.at_.ready (row_ne hxr)
    obtain ⟨rb, ro, rfl, _⟩ := own_some ((HALL.out _ (Below.refl _ _)).stateAt.row _ (List.mem_of_getElem? hr)).1 (by simp [vItem])
    obtain ⟨ob, oo, rfl, _⟩ := own_some (HX.out _ (Below.refl _ _)).1.at_.outs (by rw [HT.out.outs]; simp [vOut])
    obtain ⟨tb, tt, rfl, _⟩ := own_some (HALL.out _ (Below.refl _ _)).stateAt.takers (taker_ne HT.out.taker)
    obtain ⟨nl, hnl⟩ : ∃ nl, (x :: xi).length = nl := ⟨_, rfl⟩
    have hnl1 : 1 ≤ nl := by rw [← hnl]; exact Nat.succ_le_succ (Nat.zero_le _)
    have hnx : xi.length = nl - 1 := by rw [← hnl]; rfl
    have hrc : nl ≤ rc := by rw [← hnl]; exact ((HALL.out _ (Below.refl _ _)).stateAt.row _ (List.mem_of_getElem? hr)).2
    have hbl : ((nl : Int) == 0) = false := beq_eq_false_iff_ne.2 (by omega)
    have hout : X.outs[s.outs.length]? = some ⟨s.nextTag, (i : Int), (k : Int), x⟩ := by rw [HT.out.outs]; simp
    have HXC : Hid (∀ W, Below W1.heap.size W1 W → W.cell? ⟨w1.heap.size, 0, none⟩ = some (.slice (some ⟨xb, xo, none⟩) s.ready.length xc1) ∧ W.cell? ⟨w1.heap.size, 1, none⟩ = some (.slice (some ⟨ob, oo, none⟩) (s.outs.length + 1) xc2) ∧ W.cell? ⟨w1.heap.size, 2, none⟩ = some (.slice x3 s.takers.length xc3) ∧ W.cell? ⟨w1.heap.size, 3, none⟩ = some (.int .i64 X.nextSeq) ∧ W.cell? ⟨w1.heap.size, 4, none⟩ = some (.int .i64 X.nextTag) ∧ W.cell? ⟨w1.heap.size, 5, none⟩ = some (.int .i64 X.came) ∧ W.cell? ⟨w1.heap.size, 6, none⟩ = some (.int .i64 X.acked) ∧ W.cell? ⟨w1.heap.size, 7, none⟩ = some (.int .i64 X.dropped)) := fun W hW => by
      have h := (HX.out _ hW).1.cells
      rw [HT.out.rowsX, HT.out.outs, List.length_set, List.length_append, HT.out.takersX] at h
      exact h
    have HCK : Hid (∀ W, Below W1.heap.size W1 W → Calls Tryd.prog 26 #[.agg #[.slice p1 p.posts.length q1, .slice p2 p.queues.length q2, .slice p3 p.binds.length q3], .agg #[.slice (some ⟨xb, xo, none⟩) s.ready.length xc1, .slice (some ⟨ob, oo, none⟩) (s.outs.length + 1) xc2, .slice x3 s.takers.length xc3, .int .i64 X.nextSeq, .int .i64 X.nextTag, .int .i64 X.came, .int .i64 X.acked, .int .i64 X.dropped]] W fun e w' => e = .returned (.int .i64 0) ∧ Below W.heap.size W w') := fun W hW => by
      have h := SCheck_any p X p1 p2 p3 (some ⟨xb, xo, none⟩) (some ⟨ob, oo, none⟩) x3 q1 q2 q3 xc1 xc2 xc3 rx W (HALL.out _ hW).env (HALL.out _ hW).planAt HPS.out (HX.out _ hW).1.at_ HT.out.rightX.small HT.out.rightX.ints
      unfold CkPost at h
      rw [right_iff.2 HT.out.rightX] at h
      unfold planV stateV vState at h
      rw [HT.out.rowsX, HT.out.outs, List.length_set, List.length_append, HT.out.takersX] at h
      exact h
    have HH : Hid (∀ W (j : Nat), Below W1.heap.size W1 W → j < s.takers.length → Calls Tryd.prog 29 #[.agg #[.slice p1 p.posts.length q1, .slice p2 p.queues.length q2, .slice p3 p.binds.length q3], .agg #[.slice (some ⟨ab, ao, none⟩) s.ready.length c1, .slice a2 s.outs.length c2, .slice (some ⟨tb, tt, none⟩) s.takers.length c3, .int .i64 s.nextSeq, .int .i64 s.nextTag, .int .i64 s.came, .int .i64 s.acked, .int .i64 s.dropped], .int .i64 (j : Int)] W fun e w' => e = .returned (.tuple #[.int .i64 (heldS s j : Int), .int .i64 0]) ∧ Below W.heap.size W w') := fun W j hW hj => by
      have h := Held_any p s (j : Int) p1 p2 p3 (some ⟨ab, ao, none⟩) a2 (some ⟨tb, tt, none⟩) q1 q2 q3 c1 c2 c3 rows W (HALL.out _ hW).env (HALL.out _ hW).planAt HPS.out (HALL.out _ hW).stateAt HSS.out HSI.out
      rw [(held_ok HT.out.right hj).1, (held_ok HT.out.right hj).2] at h
      exact h
    have HRW : Hid (∀ W, Below W1.heap.size W1 W → W.cell? ⟨ab, ao + k, none⟩ = some (.slice (some ⟨rb, ro, none⟩) nl rc) ∧ (W.cell? ⟨rb, ro, none⟩ = some (.int .i64 x.seq) ∧ W.cell? ⟨rb, ro + 1, none⟩ = some (.string x.key) ∧ W.cell? ⟨rb, ro + 2, none⟩ = some (.string x.body) ∧ W.cell? ⟨rb, ro + 3, none⟩ = some (.bool x.again) ∧ W.cell? ⟨rb, ro + 4, none⟩ = some (.int .i64 x.deaths)) ∧ W.cell? ⟨xb, xo + k, none⟩ = some (.slice xa (nl - 1) xcap)) := fun W hW => by
      have h := (HALL.out _ hW).stateAt
      refine ⟨?_, item_in2 (h.row _ (List.mem_of_getElem? hr)).1, ?_⟩
      · have := row_in2 h.ready hr
        rw [← hnl]
        exact this
      · have := row_in2 (HX.out _ hW).1.at_.ready hxr
        rw [← hnx]
        exact this
    have HTK : Hid (∀ W, Below W1.heap.size W1 W → W.cell? ⟨tb, tt + i * 2, none⟩ = some (.int .i64 (k : Int)) ∧ W.cell? ⟨tb, tt + i * 2 + 1, none⟩ = some (.int .i64 tk.atOnce)) := fun W hW => by
      have h := taker_in2 (HALL.out _ hW).stateAt.takers HT.out.taker
      rw [HT.out.queue] at h
      exact h
    obtain ⟨⟨m0, m1, m2⟩, ⟨n0, n1, n2, n3, n4, n5, n6, n7⟩, _, _, _, _⟩ := HALL.out _ (Below.refl _ _)
    obtain ⟨k0, k1, k2, k3, k4, k5, k6, k7⟩ := HXC.out _ (Below.refl _ _)
    go_wp2_with fail
    clear m0 m1 m2 n0 n1 n2 n3 n4 n5 n6 n7 k0 k1 k2 k3 k4 k5 k6 k7
    refine (HCK.out _ (Below.refl _ _)).mono ?_
    rintro e w2 ⟨rfl, hb2⟩
    have HB2 := Lib.hid hb2
    clear hb2 HCK
    obtain ⟨_, ⟨n0, n1, n2, n3, n4, n5, n6, n7⟩, _, _, _, _⟩ := HALL.out _ HB2.out
    obtain ⟨k0, k1, k2, k3, k4, k5, k6, k7⟩ := HXC.out _ HB2.out
    obtain ⟨g0, _, _⟩ := HRW.out _ HB2.out
    obtain ⟨o0, o1, o2, o3, o4, o5, o6, o7⟩ := out_at (HX.out _ HB2.out).1.at_.outs hout
    dsimp only at o0 o1 o2 o3 o4 o5 o6 o7
    go_wp2_with fail
    clear n0 n1 n2 n3 n4 n5 n6 n7 k0 k1 k2 k3 k4 k5 k6 k7 g0 o0 o1 o2 o3 o4 o5 o6 o7 hout
    obtain ⟨W3, hW3⟩ : ∃ W3, w2.alloc (.cells #[.int .i64 s.nextTag, .int .i64 (i : Int), .int .i64 (k : Int), .int .i64 x.seq, .string x.key, .string x.body, .bool x.again, .int .i64 x.deaths] 55) = W3 := ⟨_, rfl⟩
    have HO : Hid (∀ W, Below W3.heap.size W3 W → Bk W w2.heap.size 55 #[.int .i64 s.nextTag, .int .i64 (i : Int), .int .i64 (k : Int), .int .i64 x.seq, .string x.key, .string x.body, .bool x.again, .int .i64 x.deaths] ∧ Below W1.heap.size W1 W) := fun W hW => by
      have h1 : Bk W3 w2.heap.size 55 #[.int .i64 s.nextTag, .int .i64 (i : Int), .int .i64 (k : Int), .int .i64 x.seq, .string x.key, .string x.body, .bool x.again, .int .i64 x.deaths] := by rw [← hW3]; exact Bk.new _ _ _
      have h2 : Below W1.heap.size W1 W3 := by rw [← hW3]; exact HB2.out.alloc HB2.out.size _
      exact ⟨h1.below hW h1.lt, h2.trans (hW.mono h2.size)⟩
    rw [hW3]
    clear hW3
    have HK7 : Hid (∀ W, Below W3.heap.size W3 W → (fun W => ((W.cell? ⟨w2.heap.size, 0, none⟩ = some (.int .i64 s.nextTag) ∧ W.cell? ⟨w2.heap.size, 1, none⟩ = some (.int .i64 (i : Int)) ∧ W.cell? ⟨w2.heap.size, 2, none⟩ = some (.int .i64 (k : Int)) ∧ W.cell? ⟨w2.heap.size, 3, none⟩ = some (.int .i64 x.seq) ∧ W.cell? ⟨w2.heap.size, 4, none⟩ = some (.string x.key) ∧ W.cell? ⟨w2.heap.size, 5, none⟩ = some (.string x.body) ∧ W.cell? ⟨w2.heap.size, 6, none⟩ = some (.bool x.again) ∧ W.cell? ⟨w2.heap.size, 7, none⟩ = some (.int .i64 x.deaths)) ∧ W.cell? ⟨w1.heap.size, 0, none⟩ = some (.slice (some ⟨xb, xo, none⟩) s.ready.length xc1) ∧ W.cell? ⟨w.heap.size + 1, 0, none⟩ = some (.slice (some ⟨ab, ao, none⟩) s.ready.length c1) ∧ W.cell? ⟨w.heap.size + 1, 2, none⟩ = some (.slice (some ⟨tb, tt, none⟩) s.takers.length c3) ∧ W.cell? ⟨ab, ao + k, none⟩ = some (.slice (some ⟨rb, ro, none⟩) nl rc) ∧ (W.cell? ⟨rb, ro, none⟩ = some (.int .i64 x.seq) ∧ W.cell? ⟨rb, ro + 1, none⟩ = some (.string x.key) ∧ W.cell? ⟨rb, ro + 2, none⟩ = some (.string x.body) ∧ W.cell? ⟨rb, ro + 3, none⟩ = some (.bool x.again) ∧ W.cell? ⟨rb, ro + 4, none⟩ = some (.int .i64 x.deaths)) ∧ W.cell? ⟨xb, xo + k, none⟩ = some (.slice xa (nl - 1) xcap) ∧ W.cell? ⟨tb, tt + i * 2, none⟩ = some (.int .i64 (k : Int))) ∧ Below W3.heap.size W3 W) W) := fun W hW => by
      obtain ⟨hb, h1⟩ := HO.out W hW
      obtain ⟨_, ⟨s0, _, s2, _⟩, _, _, _, _⟩ := HALL.out _ h1
      obtain ⟨r1, r2, r3⟩ := HRW.out _ h1
      exact ⟨⟨⟨hb.cell 0, hb.cell 1, hb.cell 2, hb.cell 3, hb.cell 4, hb.cell 5, hb.cell 6, hb.cell 7⟩, (HXC.out _ h1).1, s0, s2, r1, r2, r3, (HTK.out _ h1).1⟩, hW⟩
    have HSM : Hid (∀ W, Below W3.heap.size W3 W → Calls Tryd.prog 27 #[.slice xa (nl - 1) xcap, .slice (cutA (some ⟨rb, ro, none⟩) rc 1 5) (nl - 1) (rc - 1)] W fun e w' => e = .returned (.bool true) ∧ Below W.heap.size W w') := fun W hW => by
      have h1 := (HO.out W hW).2
      have hs := ((HALL.out _ h1).stateAt.row _ (List.mem_of_getElem? hr)).1.cut (k := 1) (show ((x :: xi).flatMap vItem).length = nl * 5 by rw [flat_len vItem_len, hnl]) hnl1 hrc
      rw [show ((x :: xi).flatMap vItem).drop (1 * 5) = xi.flatMap vItem by rw [List.flatMap_cons]; rfl] at hs
      have h := SameItems_any xa (cutA (some ⟨rb, ro, none⟩) rc 1 5) xcap (rc - 1) xi xi W 0 ((HX.out _ h1).1.at_.row _ (List.mem_of_getElem? hxr)).1 hs (by have := (HSS.out.row _ (List.mem_of_getElem? HT.out.row)).len; rw [List.length_cons] at this; omega) (by have := (HSS.out.row _ (List.mem_of_getElem? HT.out.row)).len; rw [List.length_cons] at this; omega)
      rw [hnx, itemsEq_iff.2 rfl] at h
      exact h
    have hcut := cut_row (some ⟨rb, ro, none⟩) nl rc hnl1
    have hq0 : (0 : Int) ≤ (k : Int) := by omega
    have hq1 : (k : Int) < (s.ready.length : Int) := by omega
    have hq2 : (0 : Int) ≤ (i : Int) := by omega
    have hq3 : (i : Int) < (s.takers.length : Int) := by omega
    have hq4 : decide ((i : Int) < 0) = false := decide_eq_false (by omega)
    have hq5 : decide ((s.takers.length : Int) ≤ (i : Int)) = false := decide_eq_false (by omega)
    have hq5n : decide (s.takers.length ≤ i) = false := decide_eq_false (by omega)
    have hq6 : itemEq x x = true := itemEq_iff.2 rfl
    have hq7 : 0 < nl := hnl1
    go_cut [147] from 19 to 147 (fun c wx => c = .bool false ∧ Below W3.heap.size W3 wx)
    case first =>
      refine wp_region_held_drew (S := (fun W => ((W.cell? ⟨w2.heap.size, 0, none⟩ = some (.int .i64 s.nextTag) ∧ W.cell? ⟨w2.heap.size, 1, none⟩ = some (.int .i64 (i : Int)) ∧ W.cell? ⟨w2.heap.size, 2, none⟩ = some (.int .i64 (k : Int)) ∧ W.cell? ⟨w2.heap.size, 3, none⟩ = some (.int .i64 x.seq) ∧ W.cell? ⟨w2.heap.size, 4, none⟩ = some (.string x.key) ∧ W.cell? ⟨w2.heap.size, 5, none⟩ = some (.string x.body) ∧ W.cell? ⟨w2.heap.size, 6, none⟩ = some (.bool x.again) ∧ W.cell? ⟨w2.heap.size, 7, none⟩ = some (.int .i64 x.deaths)) ∧ W.cell? ⟨w1.heap.size, 0, none⟩ = some (.slice (some ⟨xb, xo, none⟩) s.ready.length xc1) ∧ W.cell? ⟨w.heap.size + 1, 0, none⟩ = some (.slice (some ⟨ab, ao, none⟩) s.ready.length c1) ∧ W.cell? ⟨w.heap.size + 1, 2, none⟩ = some (.slice (some ⟨tb, tt, none⟩) s.takers.length c3) ∧ W.cell? ⟨ab, ao + k, none⟩ = some (.slice (some ⟨rb, ro, none⟩) nl rc) ∧ (W.cell? ⟨rb, ro, none⟩ = some (.int .i64 x.seq) ∧ W.cell? ⟨rb, ro + 1, none⟩ = some (.string x.key) ∧ W.cell? ⟨rb, ro + 2, none⟩ = some (.string x.body) ∧ W.cell? ⟨rb, ro + 3, none⟩ = some (.bool x.again) ∧ W.cell? ⟨rb, ro + 4, none⟩ = some (.int .i64 x.deaths)) ∧ W.cell? ⟨xb, xo + k, none⟩ = some (.slice xa (nl - 1) xcap) ∧ W.cell? ⟨tb, tt + i * 2, none⟩ = some (.int .i64 (k : Int))) ∧ Below W3.heap.size W3 W)) (by kernel_rfl) (by exact HK7.out _ (Below.refl _ _).drew) (fun hHeld => ?_)
      first | (refine wpAnyH_take (i := 0) (v := ?_) rfl (by kernel_rfl) (by kernel_rfl) (by kernel_rfl) (fun _ _ _ h => h) (Or.inl ⟨by rfl, ?_⟩) (by assumption) ?_; rotate_left; focus (intro w hSw; (try dsimp only at hSw); go_simp; (all_goals with_reducible rfl); done)) | fail "op 0"
      try simp only [Act.put, List.setIfInBounds_toArray, List.set_cons_zero, List.set_cons_succ, List.getElem_toArray, List.getElem_cons_zero]
      first | (refine wpAnyH_take (i := 1) (v := ?_) rfl (by kernel_rfl) (by kernel_rfl) (by kernel_rfl) (fun _ _ _ h => h) (Or.inl ⟨by rfl, ?_⟩) (by assumption) ?_; rotate_left; focus (intro w hSw; (try dsimp only at hSw); go_simp; (all_goals with_reducible rfl); done)) | fail "op 1"
      try simp only [Act.put, List.setIfInBounds_toArray, List.set_cons_zero, List.set_cons_succ, List.getElem_toArray, List.getElem_cons_zero, List.getElem_cons_succ]
      first | (refine wpAnyH_take (i := 2) (v := ?_) rfl (by kernel_rfl) (by kernel_rfl) (by kernel_rfl) (fun _ _ _ h => h) (Or.inl ⟨by rfl, ?_⟩) (by assumption) ?_; rotate_left; focus (intro w hSw; (try dsimp only at hSw); go_simp; (all_goals with_reducible rfl); done)) | fail "op 2"
      try simp only [Act.put, List.setIfInBounds_toArray, List.set_cons_zero, List.set_cons_succ, List.getElem_toArray, List.getElem_cons_zero, List.getElem_cons_succ]
      first | (refine wpAnyH_take (i := 3) (v := ?_) rfl (by kernel_rfl) (by kernel_rfl) (by kernel_rfl) (fun _ _ _ h => h) (Or.inl ⟨by rfl, ?_⟩) (by assumption) ?_; rotate_left; focus (intro w hSw; (try dsimp only at hSw); go_simp; (all_goals with_reducible rfl); done)) | fail "op 3"
      try simp only [Act.put, List.setIfInBounds_toArray, List.set_cons_zero, List.set_cons_succ, List.getElem_toArray, List.getElem_cons_zero, List.getElem_cons_succ]
      first | (refine wpAnyH_take (i := 4) (v := ?_) rfl (by kernel_rfl) (by kernel_rfl) (by kernel_rfl) (fun _ _ _ h => h) (Or.inl ⟨by rfl, ?_⟩) (by assumption) ?_; rotate_left; focus (intro w hSw; (try dsimp only at hSw); go_simp; (all_goals with_reducible rfl); done)) | fail "op 4"
      try simp only [Act.put, List.setIfInBounds_toArray, List.set_cons_zero, List.set_cons_succ, List.getElem_toArray, List.getElem_cons_zero, List.getElem_cons_succ]
      first | (refine wpAnyH_take (i := 5) (v := ?_) rfl (by kernel_rfl) (by kernel_rfl) (by kernel_rfl) (fun _ _ _ h => h) (Or.inl ⟨by rfl, ?_⟩) (by assumption) ?_; rotate_left; focus (intro w hSw; (try dsimp only at hSw); go_simp; (all_goals with_reducible rfl); done)) | fail "op 5"
      try simp only [Act.put, List.setIfInBounds_toArray, List.set_cons_zero, List.set_cons_succ, List.getElem_toArray, List.getElem_cons_zero, List.getElem_cons_succ]
      first | (refine wpAnyH_take (i := 6) (v := ?_) rfl (by kernel_rfl) (by kernel_rfl) (by kernel_rfl) (fun _ _ _ h => h) (Or.inl ⟨by rfl, ?_⟩) (by assumption) ?_; rotate_left; focus (intro w hSw; (try dsimp only at hSw); go_simp; (all_goals with_reducible rfl); done)) | fail "op 6"
      try simp only [Act.put, List.setIfInBounds_toArray, List.set_cons_zero, List.set_cons_succ, List.getElem_toArray, List.getElem_cons_zero, List.getElem_cons_succ]
      first | (refine wpAnyH_take (i := 7) (v := ?_) rfl (by kernel_rfl) (by kernel_rfl) (by kernel_rfl) (fun _ _ _ h => h) (Or.inl ⟨by rfl, ?_⟩) (by assumption) ?_; rotate_left; focus (intro w hSw; (try dsimp only at hSw); go_simp; (all_goals with_reducible rfl); done)) | fail "op 7"
      try simp only [Act.put, List.setIfInBounds_toArray, List.set_cons_zero, List.set_cons_succ, List.getElem_toArray, List.getElem_cons_zero, List.getElem_cons_succ]
      first | (refine wpAnyH_take (i := 8) (v := ?_) rfl (by kernel_rfl) (by kernel_rfl) (by kernel_rfl) (fun _ _ _ h => h) (Or.inl ⟨by rfl, ?_⟩) (by assumption) ?_; rotate_left; focus (intro w hSw; (try dsimp only at hSw); go_simp; (all_goals with_reducible rfl); done)) | fail "op 8"
      try simp only [Act.put, List.setIfInBounds_toArray, List.set_cons_zero, List.set_cons_succ, List.getElem_toArray, List.getElem_cons_zero, List.getElem_cons_succ]
      first | (refine wpAnyH_take (i := 9) (v := ?_) rfl (by kernel_rfl) (by kernel_rfl) (by kernel_rfl) (fun _ _ _ h => h) (Or.inl ⟨by rfl, ?_⟩) (by assumption) ?_; rotate_left; focus (intro w hSw; (try dsimp only at hSw); go_simp; (all_goals with_reducible rfl); done)) | fail "op 9"
      try simp only [Act.put, List.setIfInBounds_toArray, List.set_cons_zero, List.set_cons_succ, List.getElem_toArray, List.getElem_cons_zero, List.getElem_cons_succ]
      first | (refine wpAnyH_take (i := 10) (v := ?_) rfl (by kernel_rfl) (by kernel_rfl) (by kernel_rfl) (fun _ _ _ h => h) (Or.inl ⟨by rfl, ?_⟩) (by assumption) ?_; rotate_left; focus (intro w hSw; (try dsimp only at hSw); go_simp; (all_goals with_reducible rfl); done)) | fail "op 10"
      try simp only [Act.put, List.setIfInBounds_toArray, List.set_cons_zero, List.set_cons_succ, List.getElem_toArray, List.getElem_cons_zero, List.getElem_cons_succ]
      first | (refine wpAnyH_take (i := 11) (v := ?_) rfl (by kernel_rfl) (by kernel_rfl) (by kernel_rfl) (fun _ _ _ h => h) (Or.inl ⟨by rfl, ?_⟩) (by assumption) ?_; rotate_left; focus (intro w hSw; (try dsimp only at hSw); go_simp; (all_goals with_reducible rfl); done)) | fail "op 11"
      try simp only [Act.put, List.setIfInBounds_toArray, List.set_cons_zero, List.set_cons_succ, List.getElem_toArray, List.getElem_cons_zero, List.getElem_cons_succ]
      first | (refine wpAnyH_take (i := 12) (v := ?_) rfl (by kernel_rfl) (by kernel_rfl) (by kernel_rfl) (fun _ _ _ h => h) (Or.inl ⟨by rfl, ?_⟩) (by assumption) ?_; rotate_left; focus (intro w hSw; (try dsimp only at hSw); go_simp; (all_goals with_reducible rfl); done)) | fail "op 12"
      try simp only [Act.put, List.setIfInBounds_toArray, List.set_cons_zero, List.set_cons_succ, List.getElem_toArray, List.getElem_cons_zero, List.getElem_cons_succ]
      first | (refine wpAnyH_take (i := 13) (v := ?_) rfl (by kernel_rfl) (by kernel_rfl) (by kernel_rfl) (fun _ _ _ h => h) (Or.inl ⟨by rfl, ?_⟩) (by assumption) ?_; rotate_left; focus (intro w hSw; (try dsimp only at hSw); go_simp; (all_goals with_reducible rfl); done)) | fail "op 13"
      try simp only [Act.put, List.setIfInBounds_toArray, List.set_cons_zero, List.set_cons_succ, List.getElem_toArray, List.getElem_cons_zero, List.getElem_cons_succ]
      first | (refine wpAnyH_take (i := 14) (v := ?_) rfl (by kernel_rfl) (by kernel_rfl) (by kernel_rfl) (fun _ _ _ h => h) (Or.inl ⟨by rfl, ?_⟩) (by assumption) ?_; rotate_left; focus (intro w hSw; (try dsimp only at hSw); go_simp; (all_goals with_reducible rfl); done)) | fail "op 14"
      try simp only [Act.put, List.setIfInBounds_toArray, List.set_cons_zero, List.set_cons_succ, List.getElem_toArray, List.getElem_cons_zero, List.getElem_cons_succ]
      first | (refine wpAnyH_take (i := 15) (v := ?_) rfl (by kernel_rfl) (by kernel_rfl) (by kernel_rfl) (fun _ _ _ h => h) (Or.inl ⟨by rfl, ?_⟩) (by assumption) ?_; rotate_left; focus (intro w hSw; (try dsimp only at hSw); go_simp; (all_goals with_reducible rfl); done)) | fail "op 15"
      try simp only [Act.put, List.setIfInBounds_toArray, List.set_cons_zero, List.set_cons_succ, List.getElem_toArray, List.getElem_cons_zero, List.getElem_cons_succ]
      first | (refine wpAnyH_take (i := 16) (v := ?_) rfl (by kernel_rfl) (by kernel_rfl) (by kernel_rfl) (fun _ _ _ h => h) (Or.inl ⟨by rfl, ?_⟩) (by assumption) ?_; rotate_left; focus (intro w hSw; (try dsimp only at hSw); go_simp; (all_goals with_reducible rfl); done)) | fail "op 16"
      try simp only [Act.put, List.setIfInBounds_toArray, List.set_cons_zero, List.set_cons_succ, List.getElem_toArray, List.getElem_cons_zero, List.getElem_cons_succ]
      first | (refine wpAnyH_take (i := 17) (v := ?_) rfl (by kernel_rfl) (by kernel_rfl) (by kernel_rfl) (fun _ _ _ h => h) (Or.inl ⟨by rfl, ?_⟩) (by assumption) ?_; rotate_left; focus (intro w hSw; (try dsimp only at hSw); go_simp; (all_goals with_reducible rfl); done)) | fail "op 17"
      try simp only [Act.put, List.setIfInBounds_toArray, List.set_cons_zero, List.set_cons_succ, List.getElem_toArray, List.getElem_cons_zero, List.getElem_cons_succ]
      first | (refine wpAnyH_take (i := 18) (v := ?_) rfl (by kernel_rfl) (by kernel_rfl) (by kernel_rfl) (fun _ _ _ h => h) (Or.inl ⟨by rfl, ?_⟩) (by assumption) ?_; rotate_left; focus (intro w hSw; (try dsimp only at hSw); go_simp; (all_goals with_reducible rfl); done)) | fail "op 18"
      try simp only [Act.put, List.setIfInBounds_toArray, List.set_cons_zero, List.set_cons_succ, List.getElem_toArray, List.getElem_cons_zero, List.getElem_cons_succ]
      first | (refine wpAnyH_take (i := 19) (v := ?_) rfl (by kernel_rfl) (by kernel_rfl) (by kernel_rfl) (fun _ _ _ h => h) (Or.inl ⟨by rfl, ?_⟩) (by assumption) ?_; rotate_left; focus (intro w hSw; (try dsimp only at hSw); go_simp; (all_goals with_reducible rfl); done)) | fail "op 19"
      try simp only [Act.put, List.setIfInBounds_toArray, List.set_cons_zero, List.set_cons_succ, List.getElem_toArray, List.getElem_cons_zero, List.getElem_cons_succ]
      first | (refine wpAnyH_take (i := 20) (v := ?_) rfl (by kernel_rfl) (by kernel_rfl) (by kernel_rfl) (fun _ _ _ h => h) (Or.inl ⟨by rfl, ?_⟩) (by assumption) ?_; rotate_left; focus (intro w hSw; (try dsimp only at hSw); go_simp; (all_goals with_reducible rfl); done)) | fail "op 20"
      try simp only [Act.put, List.setIfInBounds_toArray, List.set_cons_zero, List.set_cons_succ, List.getElem_toArray, List.getElem_cons_zero, List.getElem_cons_succ]
      first | (refine wpAnyH_take (i := 21) (v := ?_) rfl (by kernel_rfl) (by kernel_rfl) (by kernel_rfl) (fun _ _ _ h => h) (Or.inl ⟨by rfl, ?_⟩) (by assumption) ?_; rotate_left; focus (intro w hSw; (try dsimp only at hSw); go_simp; (all_goals with_reducible rfl); done)) | fail "op 21"
      try simp only [Act.put, List.setIfInBounds_toArray, List.set_cons_zero, List.set_cons_succ, List.getElem_toArray, List.getElem_cons_zero, List.getElem_cons_succ]
      first | (refine wpAnyH_take (i := 22) (v := ?_) rfl (by kernel_rfl) (by kernel_rfl) (by kernel_rfl) (fun _ _ _ h => h) (Or.inl ⟨by rfl, ?_⟩) (by assumption) ?_; rotate_left; focus (intro w hSw; (try dsimp only at hSw); go_simp; (all_goals with_reducible rfl); done)) | fail "op 22"
      try simp only [Act.put, List.setIfInBounds_toArray, List.set_cons_zero, List.set_cons_succ, List.getElem_toArray, List.getElem_cons_zero, List.getElem_cons_succ]
      first | (refine wpAnyH_take (i := 23) (v := ?_) rfl (by kernel_rfl) (by kernel_rfl) (by kernel_rfl) (fun _ _ _ h => h) (Or.inl ⟨by rfl, ?_⟩) (by assumption) ?_; rotate_left; focus (intro w hSw; (try dsimp only at hSw); go_simp; (all_goals with_reducible rfl); done)) | fail "op 23"
      try simp only [Act.put, List.setIfInBounds_toArray, List.set_cons_zero, List.set_cons_succ, List.getElem_toArray, List.getElem_cons_zero, List.getElem_cons_succ]
      first | (refine wpAnyH_take (i := 24) (v := ?_) rfl (by kernel_rfl) (by kernel_rfl) (by kernel_rfl) (fun _ _ _ h => h) (Or.inl ⟨by rfl, ?_⟩) (by assumption) ?_; rotate_left; focus (intro w hSw; (try dsimp only at hSw); go_simp; (all_goals with_reducible rfl); done)) | fail "op 24"
      try simp only [Act.put, List.setIfInBounds_toArray, List.set_cons_zero, List.set_cons_succ, List.getElem_toArray, List.getElem_cons_zero, List.getElem_cons_succ]
      first | (refine wpAnyH_take (i := 25) (v := ?_) rfl (by kernel_rfl) (by kernel_rfl) (by kernel_rfl) (fun _ _ _ h => h) (Or.inl ⟨by rfl, ?_⟩) (by assumption) ?_; rotate_left; focus (intro w hSw; (try dsimp only at hSw); go_simp; (all_goals with_reducible rfl); done)) | fail "op 25"
      try simp only [Act.put, List.setIfInBounds_toArray, List.set_cons_zero, List.set_cons_succ, List.getElem_toArray, List.getElem_cons_zero, List.getElem_cons_succ]
      first | (refine wpAnyH_take (i := 26) (v := ?_) rfl (by kernel_rfl) (by kernel_rfl) (by kernel_rfl) (fun _ _ _ h => h) (Or.inl ⟨by rfl, ?_⟩) (by assumption) ?_; rotate_left; focus (intro w hSw; (try dsimp only at hSw); go_simp; (all_goals with_reducible rfl); done)) | fail "op 26"
      try simp only [Act.put, List.setIfInBounds_toArray, List.set_cons_zero, List.set_cons_succ, List.getElem_toArray, List.getElem_cons_zero, List.getElem_cons_succ]
      first | (refine wpAnyH_take (i := 27) (v := ?_) rfl (by kernel_rfl) (by kernel_rfl) (by kernel_rfl) (fun _ _ _ h => h) (Or.inl ⟨by rfl, ?_⟩) (by assumption) ?_; rotate_left; focus (intro w hSw; (try dsimp only at hSw); go_simp; (all_goals with_reducible rfl); done)) | fail "op 27"
      try simp only [Act.put, List.setIfInBounds_toArray, List.set_cons_zero, List.set_cons_succ, List.getElem_toArray, List.getElem_cons_zero, List.getElem_cons_succ]
      first | (refine wpAnyH_take (i := 28) (v := ?_) rfl (by kernel_rfl) (by kernel_rfl) (by kernel_rfl) (fun _ _ _ h => h) (Or.inl ⟨by rfl, ?_⟩) (by assumption) ?_; rotate_left; focus (intro w hSw; (try dsimp only at hSw); go_simp; (all_goals with_reducible rfl); done)) | fail "op 28"
      try simp only [Act.put, List.setIfInBounds_toArray, List.set_cons_zero, List.set_cons_succ, List.getElem_toArray, List.getElem_cons_zero, List.getElem_cons_succ]
      first | (refine wpAnyH_take (i := 29) (v := ?_) rfl (by kernel_rfl) (by kernel_rfl) (by kernel_rfl) (fun _ _ _ h => h) (Or.inl ⟨by rfl, ?_⟩) (by assumption) ?_; rotate_left; focus (intro w hSw; (try dsimp only at hSw); go_simp; (all_goals with_reducible rfl); done)) | fail "op 29"
      try simp only [Act.put, List.setIfInBounds_toArray, List.set_cons_zero, List.set_cons_succ, List.getElem_toArray, List.getElem_cons_zero, List.getElem_cons_succ]
      first | (refine wpAnyH_take (i := 30) (v := ?_) rfl (by kernel_rfl) (by kernel_rfl) (by kernel_rfl) (fun _ _ _ h => h) (Or.inl ⟨by rfl, ?_⟩) (by assumption) ?_; rotate_left; focus (intro w hSw; (try dsimp only at hSw); go_simp; (all_goals with_reducible rfl); done)) | fail "op 30"
      try simp only [Act.put, List.setIfInBounds_toArray, List.set_cons_zero, List.set_cons_succ, List.getElem_toArray, List.getElem_cons_zero, List.getElem_cons_succ]
      first | (refine wpAnyH_take (i := 31) (v := ?_) rfl (by kernel_rfl) (by kernel_rfl) (by kernel_rfl) (fun _ _ _ h => h) (Or.inl ⟨by rfl, ?_⟩) (by assumption) ?_; rotate_left; focus (intro w hSw; (try dsimp only at hSw); go_simp; (all_goals with_reducible rfl); done)) | fail "op 31"
      try simp only [Act.put, List.setIfInBounds_toArray, List.set_cons_zero, List.set_cons_succ, List.getElem_toArray, List.getElem_cons_zero, List.getElem_cons_succ]
      first | (refine wpAnyH_take (i := 32) (v := ?_) rfl (by kernel_rfl) (by kernel_rfl) (by kernel_rfl) (fun _ _ _ h => h) (Or.inl ⟨by rfl, ?_⟩) (by assumption) ?_; rotate_left; focus (intro w hSw; (try dsimp only at hSw); go_simp; (all_goals with_reducible rfl); done)) | fail "op 32"
      try simp only [Act.put, List.setIfInBounds_toArray, List.set_cons_zero, List.set_cons_succ, List.getElem_toArray, List.getElem_cons_zero, List.getElem_cons_succ]
      first | (refine wpAnyH_take (i := 33) (v := ?_) rfl (by kernel_rfl) (by kernel_rfl) (by kernel_rfl) (fun _ _ _ h => h) (Or.inl ⟨by rfl, ?_⟩) (by assumption) ?_; rotate_left; focus (intro w hSw; (try dsimp only at hSw); go_simp; (all_goals with_reducible rfl); done)) | fail "op 33"
      try simp only [Act.put, List.setIfInBounds_toArray, List.set_cons_zero, List.set_cons_succ, List.getElem_toArray, List.getElem_cons_zero, List.getElem_cons_succ]
      refine wpAnyH_ready (rs := [34]) (by kernel_rfl) (by simp) ?_
      refine AllReadyH.cons rfl (fun K hK => ?_) AllReadyH.nil
      go_simp
      go_at_call 27; refine (HSM.out _ (by assumption : _ ∧ Below W3.heap.size W3 _).2).mono ?_; rintro e wn ⟨rfl, hbn⟩; have hbn2 := since_stepC (by assumption : _ ∧ Below W3.heap.size W3 _) hbn
      refine hK.out _ _ (by exact HK7.out _ hbn2) (fun hHeld => ?_)
      clear hK K
      try simp only [Act.put, List.setIfInBounds_toArray, List.set_cons_zero, List.set_cons_succ, List.getElem_toArray, List.getElem_cons_zero, List.getElem_cons_succ]
      first | (refine wpAnyH_take (i := 35) (v := ?_) rfl (by kernel_rfl) (by kernel_rfl) (by kernel_rfl) (fun _ _ _ h => h) (Or.inl ⟨by rfl, ?_⟩) (by assumption) ?_; rotate_left; focus (intro w hSw; (try dsimp only at hSw); go_simp; (all_goals with_reducible rfl); done)) | fail "op 35"
      try simp only [Act.put, List.setIfInBounds_toArray, List.set_cons_zero, List.set_cons_succ, List.getElem_toArray, List.getElem_cons_zero, List.getElem_cons_succ]
      first | (refine wpAnyH_take (i := 36) (v := ?_) rfl (by kernel_rfl) (by kernel_rfl) (by kernel_rfl) (fun _ _ _ h => h) (Or.inl ⟨by rfl, ?_⟩) (by assumption) ?_; rotate_left; focus (intro w hSw; (try dsimp only at hSw); go_simp; (all_goals with_reducible rfl); done)) | fail "op 36"
      try simp only [Act.put, List.setIfInBounds_toArray, List.set_cons_zero, List.set_cons_succ, List.getElem_toArray, List.getElem_cons_zero, List.getElem_cons_succ]
      first | (refine wpAnyH_take (i := 37) (v := ?_) rfl (by kernel_rfl) (by kernel_rfl) (by kernel_rfl) (fun _ _ _ h => h) (Or.inl ⟨by rfl, ?_⟩) (by assumption) ?_; rotate_left; focus (intro w hSw; (try dsimp only at hSw); go_simp; (all_goals with_reducible rfl); done)) | fail "op 37"
      try simp only [Act.put, List.setIfInBounds_toArray, List.set_cons_zero, List.set_cons_succ, List.getElem_toArray, List.getElem_cons_zero, List.getElem_cons_succ]
      first | (refine wpAnyH_take (i := 38) (v := ?_) rfl (by kernel_rfl) (by kernel_rfl) (by kernel_rfl) (fun _ _ _ h => h) (Or.inl ⟨by rfl, ?_⟩) (by assumption) ?_; rotate_left; focus (intro w hSw; (try dsimp only at hSw); go_simp; (all_goals with_reducible rfl); done)) | fail "op 38"
      try simp only [Act.put, List.setIfInBounds_toArray, List.set_cons_zero, List.set_cons_succ, List.getElem_toArray, List.getElem_cons_zero, List.getElem_cons_succ]
      first | (refine wpAnyH_take (i := 39) (v := ?_) rfl (by kernel_rfl) (by kernel_rfl) (by kernel_rfl) (fun _ _ _ h => h) (Or.inl ⟨by rfl, ?_⟩) (by assumption) ?_; rotate_left; focus (intro w hSw; (try dsimp only at hSw); go_simp; (all_goals with_reducible rfl); done)) | fail "op 39"
      try simp only [Act.put, List.setIfInBounds_toArray, List.set_cons_zero, List.set_cons_succ, List.getElem_toArray, List.getElem_cons_zero, List.getElem_cons_succ]
      first | (refine wpAnyH_take (i := 40) (v := ?_) rfl (by kernel_rfl) (by kernel_rfl) (by kernel_rfl) (fun _ _ _ h => h) (Or.inl ⟨by rfl, ?_⟩) (by assumption) ?_; rotate_left; focus (intro w hSw; (try dsimp only at hSw); go_simp; (all_goals with_reducible rfl); done)) | fail "op 40"
      try simp only [Act.put, List.setIfInBounds_toArray, List.set_cons_zero, List.set_cons_succ, List.getElem_toArray, List.getElem_cons_zero, List.getElem_cons_succ]
      first | (refine wpAnyH_take (i := 41) (v := ?_) rfl (by kernel_rfl) (by kernel_rfl) (by kernel_rfl) (fun _ _ _ h => h) (Or.inl ⟨by rfl, ?_⟩) (by assumption) ?_; rotate_left; focus (intro w hSw; (try dsimp only at hSw); go_simp; (all_goals with_reducible rfl); done)) | fail "op 41"
      try simp only [Act.put, List.setIfInBounds_toArray, List.set_cons_zero, List.set_cons_succ, List.getElem_toArray, List.getElem_cons_zero, List.getElem_cons_succ]
      first | (refine wpAnyH_take (i := 42) (v := ?_) rfl (by kernel_rfl) (by kernel_rfl) (by kernel_rfl) (fun _ _ _ h => h) (Or.inl ⟨by rfl, ?_⟩) (by assumption) ?_; rotate_left; focus (intro w hSw; (try dsimp only at hSw); go_simp; (all_goals with_reducible rfl); done)) | fail "op 42"
      try simp only [Act.put, List.setIfInBounds_toArray, List.set_cons_zero, List.set_cons_succ, List.getElem_toArray, List.getElem_cons_zero, List.getElem_cons_succ]
      first | (refine wpAnyH_take (i := 43) (v := ?_) rfl (by kernel_rfl) (by kernel_rfl) (by kernel_rfl) (fun _ _ _ h => h) (Or.inl ⟨by rfl, ?_⟩) (by assumption) ?_; rotate_left; focus (intro w hSw; (try dsimp only at hSw); go_simp; (all_goals with_reducible rfl); done)) | fail "op 43"
      try simp only [Act.put, List.setIfInBounds_toArray, List.set_cons_zero, List.set_cons_succ, List.getElem_toArray, List.getElem_cons_zero, List.getElem_cons_succ]
      first | (refine wpAnyH_take (i := 44) (v := ?_) rfl (by kernel_rfl) (by kernel_rfl) (by kernel_rfl) (fun _ _ _ h => h) (Or.inl ⟨by rfl, ?_⟩) (by assumption) ?_; rotate_left; focus (intro w hSw; (try dsimp only at hSw); go_simp; (all_goals with_reducible rfl); done)) | fail "op 44"
      try simp only [Act.put, List.setIfInBounds_toArray, List.set_cons_zero, List.set_cons_succ, List.getElem_toArray, List.getElem_cons_zero, List.getElem_cons_succ]
      first | (refine wpAnyH_take (i := 45) (v := ?_) rfl (by kernel_rfl) (by kernel_rfl) (by kernel_rfl) (fun _ _ _ h => h) (Or.inl ⟨by rfl, ?_⟩) (by assumption) ?_; rotate_left; focus (intro w hSw; (try dsimp only at hSw); go_simp; (all_goals with_reducible rfl); done)) | fail "op 45"
      try simp only [Act.put, List.setIfInBounds_toArray, List.set_cons_zero, List.set_cons_succ, List.getElem_toArray, List.getElem_cons_zero, List.getElem_cons_succ]
      first | (refine wpAnyH_take (i := 46) (v := ?_) rfl (by kernel_rfl) (by kernel_rfl) (by kernel_rfl) (fun _ _ _ h => h) (Or.inl ⟨by rfl, ?_⟩) (by assumption) ?_; rotate_left; focus (intro w hSw; (try dsimp only at hSw); go_simp; (all_goals with_reducible rfl); done)) | fail "op 46"
      try simp only [Act.put, List.setIfInBounds_toArray, List.set_cons_zero, List.set_cons_succ, List.getElem_toArray, List.getElem_cons_zero, List.getElem_cons_succ]
      first | (refine wpAnyH_take (i := 47) (v := ?_) rfl (by kernel_rfl) (by kernel_rfl) (by kernel_rfl) (fun _ _ _ h => h) (Or.inl ⟨by rfl, ?_⟩) (by assumption) ?_; rotate_left; focus (intro w hSw; (try dsimp only at hSw); go_simp; (all_goals with_reducible rfl); done)) | fail "op 47"
      try simp only [Act.put, List.setIfInBounds_toArray, List.set_cons_zero, List.set_cons_succ, List.getElem_toArray, List.getElem_cons_zero, List.getElem_cons_succ]
      first | (refine wpAnyH_take (i := 48) (v := ?_) rfl (by kernel_rfl) (by kernel_rfl) (by kernel_rfl) (fun _ _ _ h => h) (Or.inl ⟨by rfl, ?_⟩) (by assumption) ?_; rotate_left; focus (intro w hSw; (try dsimp only at hSw); go_simp; (all_goals with_reducible rfl); done)) | fail "op 48"
      try simp only [Act.put, List.setIfInBounds_toArray, List.set_cons_zero, List.set_cons_succ, List.getElem_toArray, List.getElem_cons_zero, List.getElem_cons_succ]
      first | (refine wpAnyH_take (i := 49) (v := ?_) rfl (by kernel_rfl) (by kernel_rfl) (by kernel_rfl) (fun _ _ _ h => h) (Or.inl ⟨by rfl, ?_⟩) (by assumption) ?_; rotate_left; focus (intro w hSw; (try dsimp only at hSw); go_simp; (all_goals with_reducible rfl); done)) | fail "op 49"
      try simp only [Act.put, List.setIfInBounds_toArray, List.set_cons_zero, List.set_cons_succ, List.getElem_toArray, List.getElem_cons_zero, List.getElem_cons_succ]
      first | (refine wpAnyH_take (i := 50) (v := ?_) rfl (by kernel_rfl) (by kernel_rfl) (by kernel_rfl) (fun _ _ _ h => h) (Or.inl ⟨by rfl, ?_⟩) (by assumption) ?_; rotate_left; focus (intro w hSw; (try dsimp only at hSw); go_simp; (all_goals with_reducible rfl); done)) | fail "op 50"
      try simp only [Act.put, List.setIfInBounds_toArray, List.set_cons_zero, List.set_cons_succ, List.getElem_toArray, List.getElem_cons_zero, List.getElem_cons_succ]
      first | (refine wpAnyH_take (i := 51) (v := ?_) rfl (by kernel_rfl) (by kernel_rfl) (by kernel_rfl) (fun _ _ _ h => h) (Or.inl ⟨by rfl, ?_⟩) (by assumption) ?_; rotate_left; focus (intro w hSw; (try dsimp only at hSw); go_simp; (all_goals with_reducible rfl); done)) | fail "op 51"
      try simp only [Act.put, List.setIfInBounds_toArray, List.set_cons_zero, List.set_cons_succ, List.getElem_toArray, List.getElem_cons_zero, List.getElem_cons_succ]
      first | (refine wpAnyH_take (i := 52) (v := ?_) rfl (by kernel_rfl) (by kernel_rfl) (by kernel_rfl) (fun _ _ _ h => h) (Or.inl ⟨by rfl, ?_⟩) (by assumption) ?_; rotate_left; focus (intro w hSw; (try dsimp only at hSw); go_simp; (all_goals with_reducible rfl); done)) | fail "op 52"
      try simp only [Act.put, List.setIfInBounds_toArray, List.set_cons_zero, List.set_cons_succ, List.getElem_toArray, List.getElem_cons_zero, List.getElem_cons_succ]
      first | (refine wpAnyH_take (i := 53) (v := ?_) rfl (by kernel_rfl) (by kernel_rfl) (by kernel_rfl) (fun _ _ _ h => h) (Or.inl ⟨by rfl, ?_⟩) (by assumption) ?_; rotate_left; focus (intro w hSw; (try dsimp only at hSw); go_simp; (all_goals with_reducible rfl); done)) | fail "op 53"
      try simp only [Act.put, List.setIfInBounds_toArray, List.set_cons_zero, List.set_cons_succ, List.getElem_toArray, List.getElem_cons_zero, List.getElem_cons_succ]
      first | (refine wpAnyH_take (i := 54) (v := ?_) rfl (by kernel_rfl) (by kernel_rfl) (by kernel_rfl) (fun _ _ _ h => h) (Or.inl ⟨by rfl, ?_⟩) (by assumption) ?_; rotate_left; focus (intro w hSw; (try dsimp only at hSw); go_simp; (all_goals with_reducible rfl); done)) | fail "op 54"
      try simp only [Act.put, List.setIfInBounds_toArray, List.set_cons_zero, List.set_cons_succ, List.getElem_toArray, List.getElem_cons_zero, List.getElem_cons_succ]
      first | (refine wpAnyH_take (i := 55) (v := ?_) rfl (by kernel_rfl) (by kernel_rfl) (by kernel_rfl) (fun _ _ _ h => h) (Or.inl ⟨by rfl, ?_⟩) (by assumption) ?_; rotate_left; focus (intro w hSw; (try dsimp only at hSw); go_simp; (all_goals with_reducible rfl); done)) | fail "op 55"
      try simp only [Act.put, List.setIfInBounds_toArray, List.set_cons_zero, List.set_cons_succ, List.getElem_toArray, List.getElem_cons_zero, List.getElem_cons_succ]
      first | (refine wpAnyH_take (i := 56) (v := ?_) rfl (by kernel_rfl) (by kernel_rfl) (by kernel_rfl) (fun _ _ _ h => h) (Or.inl ⟨by rfl, ?_⟩) (by assumption) ?_; rotate_left; focus (intro w hSw; (try dsimp only at hSw); go_simp; (all_goals with_reducible rfl); done)) | fail "op 56"
      try simp only [Act.put, List.setIfInBounds_toArray, List.set_cons_zero, List.set_cons_succ, List.getElem_toArray, List.getElem_cons_zero, List.getElem_cons_succ]
      first | (refine wpAnyH_take (i := 57) (v := ?_) rfl (by kernel_rfl) (by kernel_rfl) (by kernel_rfl) (fun _ _ _ h => h) (Or.inl ⟨by rfl, ?_⟩) (by assumption) ?_; rotate_left; focus (intro w hSw; (try dsimp only at hSw); go_simp; (all_goals with_reducible rfl); done)) | fail "op 57"
      try simp only [Act.put, List.setIfInBounds_toArray, List.set_cons_zero, List.set_cons_succ, List.getElem_toArray, List.getElem_cons_zero, List.getElem_cons_succ]
      first | (refine wpAnyH_take (i := 58) (v := ?_) rfl (by kernel_rfl) (by kernel_rfl) (by kernel_rfl) (fun _ _ _ h => h) (Or.inl ⟨by rfl, ?_⟩) (by assumption) ?_; rotate_left; focus (intro w hSw; (try dsimp only at hSw); go_simp; (all_goals with_reducible rfl); done)) | fail "op 58"
      try simp only [Act.put, List.setIfInBounds_toArray, List.set_cons_zero, List.set_cons_succ, List.getElem_toArray, List.getElem_cons_zero, List.getElem_cons_succ]
      first | (refine wpAnyH_take (i := 59) (v := ?_) rfl (by kernel_rfl) (by kernel_rfl) (by kernel_rfl) (fun _ _ _ h => h) (Or.inl ⟨by rfl, ?_⟩) (by assumption) ?_; rotate_left; focus (intro w hSw; (try dsimp only at hSw); go_simp; (all_goals with_reducible rfl); done)) | fail "op 59"
      try simp only [Act.put, List.setIfInBounds_toArray, List.set_cons_zero, List.set_cons_succ, List.getElem_toArray, List.getElem_cons_zero, List.getElem_cons_succ]
      first | (refine wpAnyH_take (i := 60) (v := ?_) rfl (by kernel_rfl) (by kernel_rfl) (by kernel_rfl) (fun _ _ _ h => h) (Or.inl ⟨by rfl, ?_⟩) (by assumption) ?_; rotate_left; focus (intro w hSw; (try dsimp only at hSw); go_simp; (all_goals with_reducible rfl); done)) | fail "op 60"
      try simp only [Act.put, List.setIfInBounds_toArray, List.set_cons_zero, List.set_cons_succ, List.getElem_toArray, List.getElem_cons_zero, List.getElem_cons_succ]
      refine wpAnyH_done (by kernel_rfl) ?_ _
      go_wp2_with fail
      go_meet
      exact ⟨rfl, hbn2⟩
    case rest =>
      obtain ⟨rfl, hbc⟩ := hcut
      have HB3 := Lib.hid hbc
      clear hbc HK7 HSM hq4 hq5 hq5n hq6
      obtain ⟨_, ⟨n0, _⟩, _, _, _, _⟩ := HALL.out _ (HO.out _ HB3.out).2
      go_wp2_with fail
      refine (choose_any ot s.ready.length _ HOT.out.1 HOT.out.2 (by omega) (by omega)).mono ?_
      rintro e w4 ⟨r, hr4, rfl, rfl⟩
      have hrl : r < s.ready.length := by omega
      have HB4 : Hid (Below W3.heap.size W3 wc) := HB3.out
      clear hr4
      go_upto_region 10 with fail
      clear n0
      go_cut [169] from 19 to 169 (fun c wx => c = .bool false ∧ Below W3.heap.size W3 wx)
      case first =>
        by_cases hrk : r = k
        · subst hrk
          refine wp_region_held_drew (S := (fun W => Below W3.heap.size W3 W)) (by kernel_rfl) (by exact HB4.out.drew) (fun hHeld => ?_)
          first | (refine wpAnyH_take (i := 0) (v := ?_) rfl (by kernel_rfl) (by kernel_rfl) (by kernel_rfl) (fun _ _ _ h => h) (Or.inl ⟨by rfl, ?_⟩) (by assumption) ?_; rotate_left; focus (intro w hSw; (try dsimp only at hSw); go_simp; (all_goals with_reducible rfl); done)) | fail "op 0"
          try simp only [Act.put, List.setIfInBounds_toArray, List.set_cons_zero, List.set_cons_succ, List.getElem_toArray, List.getElem_cons_zero]
          first | (refine wpAnyH_take (i := 1) (v := ?_) rfl (by kernel_rfl) (by kernel_rfl) (by kernel_rfl) (fun _ _ _ h => h) (Or.inl ⟨by rfl, ?_⟩) (by assumption) ?_; rotate_left; focus (intro w hSw; (try dsimp only at hSw); go_simp; (all_goals with_reducible rfl); done)) | fail "op 1"
          try simp only [Act.put, List.setIfInBounds_toArray, List.set_cons_zero, List.set_cons_succ, List.getElem_toArray, List.getElem_cons_zero, List.getElem_cons_succ]
          first | (refine wpAnyH_take (i := 2) (v := ?_) rfl (by kernel_rfl) (by kernel_rfl) (by kernel_rfl) (fun _ _ _ h => h) (Or.inl ⟨by rfl, ?_⟩) (by assumption) ?_; rotate_left; focus (intro w hSw; (try dsimp only at hSw); go_simp; (all_goals with_reducible rfl); done)) | fail "op 2"
          try simp only [Act.put, List.setIfInBounds_toArray, List.set_cons_zero, List.set_cons_succ, List.getElem_toArray, List.getElem_cons_zero, List.getElem_cons_succ]
          first | (refine wpAnyH_take (i := 3) (v := ?_) rfl (by kernel_rfl) (by kernel_rfl) (by kernel_rfl) (fun _ _ _ h => h) (Or.inl ⟨by rfl, ?_⟩) (by assumption) ?_; rotate_left; focus (intro w hSw; (try dsimp only at hSw); go_simp; (all_goals with_reducible rfl); done)) | fail "op 3"
          try simp only [Act.put, List.setIfInBounds_toArray, List.set_cons_zero, List.set_cons_succ, List.getElem_toArray, List.getElem_cons_zero, List.getElem_cons_succ]
          refine wpAnyH_take (i := 4) rfl (by kernel_rfl) (by kernel_rfl) (by kernel_rfl) (fun _ _ _ h => h) (Or.inr ⟨by rfl, rfl⟩) (by assumption) ?_
          try simp only [Act.put, List.setIfInBounds_toArray, List.set_cons_zero, List.set_cons_succ, List.getElem_toArray, List.getElem_cons_zero, List.getElem_cons_succ]
          refine wpAnyH_take (i := 5) rfl (by kernel_rfl) (by kernel_rfl) (by kernel_rfl) (fun _ _ _ h => h) (Or.inr ⟨by rfl, rfl⟩) (by assumption) ?_
          try simp only [Act.put, List.setIfInBounds_toArray, List.set_cons_zero, List.set_cons_succ, List.getElem_toArray, List.getElem_cons_zero, List.getElem_cons_succ]
          refine wpAnyH_take (i := 6) rfl (by kernel_rfl) (by kernel_rfl) (by kernel_rfl) (fun _ _ _ h => h) (Or.inr ⟨by rfl, rfl⟩) (by assumption) ?_
          try simp only [Act.put, List.setIfInBounds_toArray, List.set_cons_zero, List.set_cons_succ, List.getElem_toArray, List.getElem_cons_zero, List.getElem_cons_succ]
          refine wpAnyH_take (i := 7) rfl (by kernel_rfl) (by kernel_rfl) (by kernel_rfl) (fun _ _ _ h => h) (Or.inr ⟨by rfl, rfl⟩) (by assumption) ?_
          try simp only [Act.put, List.setIfInBounds_toArray, List.set_cons_zero, List.set_cons_succ, List.getElem_toArray, List.getElem_cons_zero, List.getElem_cons_succ]
          refine wpAnyH_take (i := 8) rfl (by kernel_rfl) (by kernel_rfl) (by kernel_rfl) (fun _ _ _ h => h) (Or.inr ⟨by rfl, rfl⟩) (by assumption) ?_
          try simp only [Act.put, List.setIfInBounds_toArray, List.set_cons_zero, List.set_cons_succ, List.getElem_toArray, List.getElem_cons_zero, List.getElem_cons_succ]
          refine wpAnyH_take (i := 9) rfl (by kernel_rfl) (by kernel_rfl) (by kernel_rfl) (fun _ _ _ h => h) (Or.inr ⟨by rfl, rfl⟩) (by assumption) ?_
          try simp only [Act.put, List.setIfInBounds_toArray, List.set_cons_zero, List.set_cons_succ, List.getElem_toArray, List.getElem_cons_zero, List.getElem_cons_succ]
          refine wpAnyH_take (i := 10) rfl (by kernel_rfl) (by kernel_rfl) (by kernel_rfl) (fun _ _ _ h => h) (Or.inr ⟨by rfl, rfl⟩) (by assumption) ?_
          try simp only [Act.put, List.setIfInBounds_toArray, List.set_cons_zero, List.set_cons_succ, List.getElem_toArray, List.getElem_cons_zero, List.getElem_cons_succ]
          refine wpAnyH_take (i := 11) rfl (by kernel_rfl) (by kernel_rfl) (by kernel_rfl) (fun _ _ _ h => h) (Or.inr ⟨by rfl, rfl⟩) (by assumption) ?_
          try simp only [Act.put, List.setIfInBounds_toArray, List.set_cons_zero, List.set_cons_succ, List.getElem_toArray, List.getElem_cons_zero, List.getElem_cons_succ]
          refine wpAnyH_take (i := 12) rfl (by kernel_rfl) (by kernel_rfl) (by kernel_rfl) (fun _ _ _ h => h) (Or.inr ⟨by rfl, rfl⟩) (by assumption) ?_
          try simp only [Act.put, List.setIfInBounds_toArray, List.set_cons_zero, List.set_cons_succ, List.getElem_toArray, List.getElem_cons_zero, List.getElem_cons_succ]
          refine wpAnyH_take (i := 13) rfl (by kernel_rfl) (by kernel_rfl) (by kernel_rfl) (fun _ _ _ h => h) (Or.inr ⟨by rfl, rfl⟩) (by assumption) ?_
          try simp only [Act.put, List.setIfInBounds_toArray, List.set_cons_zero, List.set_cons_succ, List.getElem_toArray, List.getElem_cons_zero, List.getElem_cons_succ]
          refine wpAnyH_take (i := 14) rfl (by kernel_rfl) (by kernel_rfl) (by kernel_rfl) (fun _ _ _ h => h) (Or.inr ⟨by rfl, rfl⟩) (by assumption) ?_
          try simp only [Act.put, List.setIfInBounds_toArray, List.set_cons_zero, List.set_cons_succ, List.getElem_toArray, List.getElem_cons_zero, List.getElem_cons_succ]
          refine wpAnyH_take (i := 15) rfl (by kernel_rfl) (by kernel_rfl) (by kernel_rfl) (fun _ _ _ h => h) (Or.inr ⟨by rfl, rfl⟩) (by assumption) ?_
          try simp only [Act.put, List.setIfInBounds_toArray, List.set_cons_zero, List.set_cons_succ, List.getElem_toArray, List.getElem_cons_zero, List.getElem_cons_succ]
          first | (refine wpAnyH_take (i := 16) (v := ?_) rfl (by kernel_rfl) (by kernel_rfl) (by kernel_rfl) (fun _ _ _ h => h) (Or.inl ⟨by rfl, ?_⟩) (by assumption) ?_; rotate_left; focus (intro w hSw; (try dsimp only at hSw); go_simp; (all_goals with_reducible rfl); done)) | fail "op 16"
          try simp only [Act.put, List.setIfInBounds_toArray, List.set_cons_zero, List.set_cons_succ, List.getElem_toArray, List.getElem_cons_zero, List.getElem_cons_succ]
          refine wpAnyH_done (by kernel_rfl) ?_ _
          go_wp2_with fail
          go_meet
          exact ⟨rfl, by assumption⟩
        · have hb10 : ((r : Int) != (k : Int)) = true := by simp; omega
          obtain ⟨l, hl⟩ : ∃ l, s.ready[r]? = some l := ⟨_, List.getElem?_eq_getElem hrl⟩
          have hlx : X.ready[r]? = some l := by rw [HT.out.rowsX, List.getElem?_set_ne (fun h => hrk h.symm)]; exact hl
          obtain ⟨⟨sa, sc, si⟩, hsr, hsi⟩ := row_of (HALL.out _ (Below.refl _ _)).stateAt.same hl
          obtain rfl : si = l := hsi
          obtain ⟨⟨ya, yc, yi⟩, hyr, hyi⟩ := row_of (HX.out _ (Below.refl _ _)).1.at_.same hlx
          obtain rfl : yi = si := hyi
          have HK10 : Hid (∀ W, Below W3.heap.size W3 W → (fun W => (W.cell? ⟨w1.heap.size, 0, none⟩ = some (.slice (some ⟨xb, xo, none⟩) s.ready.length xc1) ∧ W.cell? ⟨w.heap.size + 1, 0, none⟩ = some (.slice (some ⟨ab, ao, none⟩) s.ready.length c1) ∧ W.cell? ⟨ab, ao + r, none⟩ = some (.slice sa yi.length sc) ∧ W.cell? ⟨xb, xo + r, none⟩ = some (.slice ya yi.length yc)) ∧ Below W3.heap.size W3 W) W) := fun W hW => by
            have h1 := (HO.out W hW).2
            obtain ⟨_, ⟨s0, _, s2, _⟩, _, _, _, _⟩ := HALL.out _ h1
            exact ⟨⟨(HXC.out _ h1).1, s0, row_in2 (HALL.out _ h1).stateAt.ready hsr, row_in2 (HX.out _ h1).1.at_.ready hyr⟩, hW⟩
          have HSR : Hid (∀ W, Below W3.heap.size W3 W → Calls Tryd.prog 27 #[.slice ya yi.length yc, .slice sa yi.length sc] W fun e w' => e = .returned (.bool true) ∧ Below W.heap.size W w') := fun W hW => by
            have h1 := (HO.out W hW).2
            have h := SameItems_any ya sa yc sc yi yi W 0 ((HX.out _ h1).1.at_.row _ (List.mem_of_getElem? hyr)).1 ((HALL.out _ h1).stateAt.row _ (List.mem_of_getElem? hsr)).1 (by have := (HSS.out.row _ (List.mem_of_getElem? hl)).len; omega) (by have := (HSS.out.row _ (List.mem_of_getElem? hl)).len; omega)
            rw [itemsEq_iff.2 rfl] at h
            exact h
          have hq8 : (0 : Int) ≤ (r : Int) := by omega
          have hq9 : (r : Int) < (s.ready.length : Int) := by omega
          clear hl hlx hrk hsr hyr
          refine wp_region_held_drew (S := (fun W => (W.cell? ⟨w1.heap.size, 0, none⟩ = some (.slice (some ⟨xb, xo, none⟩) s.ready.length xc1) ∧ W.cell? ⟨w.heap.size + 1, 0, none⟩ = some (.slice (some ⟨ab, ao, none⟩) s.ready.length c1) ∧ W.cell? ⟨ab, ao + r, none⟩ = some (.slice sa yi.length sc) ∧ W.cell? ⟨xb, xo + r, none⟩ = some (.slice ya yi.length yc)) ∧ Below W3.heap.size W3 W)) (by kernel_rfl) (by exact HK10.out _ HB4.out.drew) (fun hHeld => ?_)
          first | (refine wpAnyH_take (i := 0) (v := ?_) rfl (by kernel_rfl) (by kernel_rfl) (by kernel_rfl) (fun _ _ _ h => h) (Or.inl ⟨by rfl, ?_⟩) (by assumption) ?_; rotate_left; focus (intro w hSw; (try dsimp only at hSw); go_simp; (all_goals with_reducible rfl); done)) | fail "op 0"
          try simp only [Act.put, List.setIfInBounds_toArray, List.set_cons_zero, List.set_cons_succ, List.getElem_toArray, List.getElem_cons_zero]
          first | (refine wpAnyH_take (i := 1) (v := ?_) rfl (by kernel_rfl) (by kernel_rfl) (by kernel_rfl) (fun _ _ _ h => h) (Or.inl ⟨by rfl, ?_⟩) (by assumption) ?_; rotate_left; focus (intro w hSw; (try dsimp only at hSw); go_simp; (all_goals with_reducible rfl); done)) | fail "op 1"
          try simp only [Act.put, List.setIfInBounds_toArray, List.set_cons_zero, List.set_cons_succ, List.getElem_toArray, List.getElem_cons_zero, List.getElem_cons_succ]
          first | (refine wpAnyH_take (i := 2) (v := ?_) rfl (by kernel_rfl) (by kernel_rfl) (by kernel_rfl) (fun _ _ _ h => h) (Or.inl ⟨by rfl, ?_⟩) (by assumption) ?_; rotate_left; focus (intro w hSw; (try dsimp only at hSw); go_simp; (all_goals with_reducible rfl); done)) | fail "op 2"
          try simp only [Act.put, List.setIfInBounds_toArray, List.set_cons_zero, List.set_cons_succ, List.getElem_toArray, List.getElem_cons_zero, List.getElem_cons_succ]
          first | (refine wpAnyH_take (i := 3) (v := ?_) rfl (by kernel_rfl) (by kernel_rfl) (by kernel_rfl) (fun _ _ _ h => h) (Or.inl ⟨by rfl, ?_⟩) (by assumption) ?_; rotate_left; focus (intro w hSw; (try dsimp only at hSw); go_simp; (all_goals with_reducible rfl); done)) | fail "op 3"
          try simp only [Act.put, List.setIfInBounds_toArray, List.set_cons_zero, List.set_cons_succ, List.getElem_toArray, List.getElem_cons_zero, List.getElem_cons_succ]
          first | (refine wpAnyH_take (i := 4) (v := ?_) rfl (by kernel_rfl) (by kernel_rfl) (by kernel_rfl) (fun _ _ _ h => h) (Or.inl ⟨by rfl, ?_⟩) (by assumption) ?_; rotate_left; focus (intro w hSw; (try dsimp only at hSw); go_simp; (all_goals with_reducible rfl); done)) | fail "op 4"
          try simp only [Act.put, List.setIfInBounds_toArray, List.set_cons_zero, List.set_cons_succ, List.getElem_toArray, List.getElem_cons_zero, List.getElem_cons_succ]
          first | (refine wpAnyH_take (i := 5) (v := ?_) rfl (by kernel_rfl) (by kernel_rfl) (by kernel_rfl) (fun _ _ _ h => h) (Or.inl ⟨by rfl, ?_⟩) (by assumption) ?_; rotate_left; focus (intro w hSw; (try dsimp only at hSw); go_simp; (all_goals with_reducible rfl); done)) | fail "op 5"
          try simp only [Act.put, List.setIfInBounds_toArray, List.set_cons_zero, List.set_cons_succ, List.getElem_toArray, List.getElem_cons_zero, List.getElem_cons_succ]
          first | (refine wpAnyH_take (i := 6) (v := ?_) rfl (by kernel_rfl) (by kernel_rfl) (by kernel_rfl) (fun _ _ _ h => h) (Or.inl ⟨by rfl, ?_⟩) (by assumption) ?_; rotate_left; focus (intro w hSw; (try dsimp only at hSw); go_simp; (all_goals with_reducible rfl); done)) | fail "op 6"
          try simp only [Act.put, List.setIfInBounds_toArray, List.set_cons_zero, List.set_cons_succ, List.getElem_toArray, List.getElem_cons_zero, List.getElem_cons_succ]
          first | (refine wpAnyH_take (i := 7) (v := ?_) rfl (by kernel_rfl) (by kernel_rfl) (by kernel_rfl) (fun _ _ _ h => h) (Or.inl ⟨by rfl, ?_⟩) (by assumption) ?_; rotate_left; focus (intro w hSw; (try dsimp only at hSw); go_simp; (all_goals with_reducible rfl); done)) | fail "op 7"
          try simp only [Act.put, List.setIfInBounds_toArray, List.set_cons_zero, List.set_cons_succ, List.getElem_toArray, List.getElem_cons_zero, List.getElem_cons_succ]
          first | (refine wpAnyH_take (i := 8) (v := ?_) rfl (by kernel_rfl) (by kernel_rfl) (by kernel_rfl) (fun _ _ _ h => h) (Or.inl ⟨by rfl, ?_⟩) (by assumption) ?_; rotate_left; focus (intro w hSw; (try dsimp only at hSw); go_simp; (all_goals with_reducible rfl); done)) | fail "op 8"
          try simp only [Act.put, List.setIfInBounds_toArray, List.set_cons_zero, List.set_cons_succ, List.getElem_toArray, List.getElem_cons_zero, List.getElem_cons_succ]
          first | (refine wpAnyH_take (i := 9) (v := ?_) rfl (by kernel_rfl) (by kernel_rfl) (by kernel_rfl) (fun _ _ _ h => h) (Or.inl ⟨by rfl, ?_⟩) (by assumption) ?_; rotate_left; focus (intro w hSw; (try dsimp only at hSw); go_simp; (all_goals with_reducible rfl); done)) | fail "op 9"
          try simp only [Act.put, List.setIfInBounds_toArray, List.set_cons_zero, List.set_cons_succ, List.getElem_toArray, List.getElem_cons_zero, List.getElem_cons_succ]
          first | (refine wpAnyH_take (i := 10) (v := ?_) rfl (by kernel_rfl) (by kernel_rfl) (by kernel_rfl) (fun _ _ _ h => h) (Or.inl ⟨by rfl, ?_⟩) (by assumption) ?_; rotate_left; focus (intro w hSw; (try dsimp only at hSw); go_simp; (all_goals with_reducible rfl); done)) | fail "op 10"
          try simp only [Act.put, List.setIfInBounds_toArray, List.set_cons_zero, List.set_cons_succ, List.getElem_toArray, List.getElem_cons_zero, List.getElem_cons_succ]
          first | (refine wpAnyH_take (i := 11) (v := ?_) rfl (by kernel_rfl) (by kernel_rfl) (by kernel_rfl) (fun _ _ _ h => h) (Or.inl ⟨by rfl, ?_⟩) (by assumption) ?_; rotate_left; focus (intro w hSw; (try dsimp only at hSw); go_simp; (all_goals with_reducible rfl); done)) | fail "op 11"
          try simp only [Act.put, List.setIfInBounds_toArray, List.set_cons_zero, List.set_cons_succ, List.getElem_toArray, List.getElem_cons_zero, List.getElem_cons_succ]
          first | (refine wpAnyH_take (i := 12) (v := ?_) rfl (by kernel_rfl) (by kernel_rfl) (by kernel_rfl) (fun _ _ _ h => h) (Or.inl ⟨by rfl, ?_⟩) (by assumption) ?_; rotate_left; focus (intro w hSw; (try dsimp only at hSw); go_simp; (all_goals with_reducible rfl); done)) | fail "op 12"
          try simp only [Act.put, List.setIfInBounds_toArray, List.set_cons_zero, List.set_cons_succ, List.getElem_toArray, List.getElem_cons_zero, List.getElem_cons_succ]
          first | (refine wpAnyH_take (i := 13) (v := ?_) rfl (by kernel_rfl) (by kernel_rfl) (by kernel_rfl) (fun _ _ _ h => h) (Or.inl ⟨by rfl, ?_⟩) (by assumption) ?_; rotate_left; focus (intro w hSw; (try dsimp only at hSw); go_simp; (all_goals with_reducible rfl); done)) | fail "op 13"
          try simp only [Act.put, List.setIfInBounds_toArray, List.set_cons_zero, List.set_cons_succ, List.getElem_toArray, List.getElem_cons_zero, List.getElem_cons_succ]
          refine wpAnyH_ready (rs := [14]) (by kernel_rfl) (by simp) ?_
          refine AllReadyH.cons rfl (fun K hK => ?_) AllReadyH.nil
          go_simp
          go_at_call 27; refine (HSR.out _ (by assumption : _ ∧ Below W3.heap.size W3 _).2).mono ?_; rintro e wn ⟨rfl, hbn⟩; have hbn2 := since_stepC (by assumption : _ ∧ Below W3.heap.size W3 _) hbn
          refine hK.out _ _ (by exact HK10.out _ hbn2) (fun hHeld => ?_)
          clear hK K
          try simp only [Act.put, List.setIfInBounds_toArray, List.set_cons_zero, List.set_cons_succ, List.getElem_toArray, List.getElem_cons_zero, List.getElem_cons_succ]
          first | (refine wpAnyH_take (i := 15) (v := ?_) rfl (by kernel_rfl) (by kernel_rfl) (by kernel_rfl) (fun _ _ _ h => h) (Or.inl ⟨by rfl, ?_⟩) (by assumption) ?_; rotate_left; focus (intro w hSw; (try dsimp only at hSw); go_simp; (all_goals with_reducible rfl); done)) | fail "op 15"
          try simp only [Act.put, List.setIfInBounds_toArray, List.set_cons_zero, List.set_cons_succ, List.getElem_toArray, List.getElem_cons_zero, List.getElem_cons_succ]
          first | (refine wpAnyH_take (i := 16) (v := ?_) rfl (by kernel_rfl) (by kernel_rfl) (by kernel_rfl) (fun _ _ _ h => h) (Or.inl ⟨by rfl, ?_⟩) (by assumption) ?_; rotate_left; focus (intro w hSw; (try dsimp only at hSw); go_simp; (all_goals with_reducible rfl); done)) | fail "op 16"
          try simp only [Act.put, List.setIfInBounds_toArray, List.set_cons_zero, List.set_cons_succ, List.getElem_toArray, List.getElem_cons_zero, List.getElem_cons_succ]
          refine wpAnyH_done (by kernel_rfl) ?_ _
          go_wp2_with fail
          go_meet
          exact ⟨rfl, hbn2⟩
      case rest =>
        obtain ⟨rfl, hbc⟩ := hcut
        have HB5 := Lib.hid hbc
        clear hbc HB3 HB4 hrl
        obtain ⟨⟨m0, m1, m2⟩, ⟨n0, n1, n2, n3, n4, n5, n6, n7⟩, _, _, _, _⟩ := HALL.out _ (HO.out _ HB5.out).2
        have ho1 : wc.cell? ⟨w2.heap.size, 1, none⟩ = some (.int .i64 (i : Int)) := (HO.out _ HB5.out).1.cell 1
        go_wp2_with fail
        refine (HH.out _ i (HO.out _ HB5.out).2 hil).mono ?_
        rintro e w6 ⟨rfl, hb6⟩
        have HB6 := Lib.hid (HB5.out.trans (hb6.mono HB5.out.size))
        clear hb6 HB5 m0 m1 m2 n0 n1 n2 n3 n4 n5 n6 n7 ho1
        obtain ⟨mine, hmine⟩ : ∃ n, heldS s i = n := ⟨_, rfl⟩
        have HM := Lib.hid hmine
        rw [hmine]
        clear hmine
        go_wp2_with fail
        go_loopw [16] (fun j wr => TrRel s.takers.length W3 j wr) (fun j _ => s.takers.length - (intOf j).toNat)
        case atStart => exact ⟨0, by omega, rfl, HB6.out⟩
        case round =>
          clear HB6
          obtain ⟨j, hj, rfl, hB⟩ := hrel
          have HB := Lib.hid hB
          clear hB
          obtain ⟨⟨m0, m1, m2⟩, ⟨n0, n1, n2, n3, n4, n5, n6, n7⟩, _, _, _, _⟩ := HALL.out _ (HO.out _ HB.out).2
          by_cases hjl : j < s.takers.length
          · go_wp2_with fail
            refine (HH.out _ j (HO.out _ HB.out).2 hjl).mono ?_
            rintro e w7 ⟨rfl, hb7⟩
            have HB7 := Lib.hid (HB.out.trans (hb7.mono HB.out.size))
            clear hb7 m0 m1 m2 n0 n1 n2 n3 n4 n5 n6 n7
            obtain ⟨_, ⟨_, _, n2, _⟩, _, _, _, _⟩ := HALL.out _ (HO.out _ HB7.out).2
            obtain ⟨u, hu⟩ : ∃ u, s.takers[j]? = some u := ⟨_, List.getElem?_eq_getElem hjl⟩
            obtain ⟨u0, u1⟩ := taker_in2 (HALL.out _ (HO.out _ HB7.out).2).stateAt.takers hu
            have hls := HT.out.least j u hu
            rw [HM.out] at hls
            generalize heldS s j = hjn at *
            have HL := Lib.hid hls
            clear hls hu
            by_cases hq : u.queue = (k : Int)
            · have e1 : (u.queue == (k : Int)) = true := by simp [hq]
              by_cases ha : (hjn : Int) < u.atOnce
              · have e2 : decide ((hjn : Int) < u.atOnce) = true := decide_eq_true ha
                have hle := HL.out hq ha
                have e3 : decide (hjn < mine) = false := decide_eq_false (by omega)
                clear hq ha
                go_wp2_with fail
                exact ⟨⟨j + 1, hjl, by go_num, HB7.out⟩, by simp [intOf]; omega⟩
              · have e2 : decide ((hjn : Int) < u.atOnce) = false := decide_eq_false ha
                clear hq ha
                go_wp2_with fail
                exact ⟨⟨j + 1, hjl, by go_num, HB7.out⟩, by simp [intOf]; omega⟩
            · have e1 : (u.queue == (k : Int)) = false := by simp [hq]
              clear hq
              go_wp2_with fail
              exact ⟨⟨j + 1, hjl, by go_num, HB7.out⟩, by simp [intOf]; omega⟩
          · obtain rfl : j = s.takers.length := by omega
            go_wp2_with fail
            refine (takersBegun_any _ (HALL.out _ (HO.out _ HB.out).2).env).mono ?_
            rintro e w8 ⟨rfl, hb8⟩
            have HB8 := Lib.hid (HB.out.trans (hb8.mono HB.out.size))
            clear hb8 m0 m1 m2 n0 n1 n2 n3 n4 n5 n6 n7
            obtain ⟨_, ⟨_, _, n2, _⟩, _, _, _, _⟩ := HALL.out _ (HO.out _ HB8.out).2
            obtain ⟨u0, u1⟩ := HTK.out _ (HO.out _ HB8.out).2
            have ho1 : w8.cell? ⟨w2.heap.size, 1, none⟩ = some (.int .i64 (i : Int)) := (HO.out _ HB8.out).1.cell 1
            have e4 : decide ((mine : Int) < tk.atOnce) = true := decide_eq_true (by rw [← HM.out]; exact HT.out.held)
            go_wp2_with fail
            go_ret
            exact ⟨rfl, (HALL.out _ (HO.out _ HB8.out).2).below⟩
  · have hb : (r != 0) = true := by simp [z]
    clear z
    go_wp2_with fail
    refine (takersBegun_any _ (HALL.out _ (Below.refl _ _)).env).mono ?_
    rintro e w5 ⟨rfl, hb5⟩
    have HB5 := Lib.hid hb5
    clear hb5
    go_wp2_with fail
    go_ret
    exact ⟨rfl, (HALL.out _ HB5.out).below⟩

theorem takersTrue_any (p : PlanD) (p1 p2 p3 : Option Addr) (q1 q2 q3 : Nat) (s : StateD) (a1 a2 a3 : Option Addr) (c1 c2 c3 : Nat) (rows : List RowD) (q ot : Int) (w : World) (hp : PlanAt w 0 w.heap.size p1 p2 p3 p) (hps : PlanSmall p) (_ : PlanInts p) (hs : StateAt w 0 w.heap.size a1 a2 a3 rows s) (hss : StateSmall s) (hsi : StateInts s)
    (_ : s.ready.length ≤ c1 ∧ s.outs.length ≤ c2 ∧ s.takers.length ≤ c3) (_ : -9223372036854775808 ≤ q ∧ q ≤ 9223372036854775807) (hot : -9223372036854775808 ≤ ot ∧ ot ≤ 9223372036854775807) (hE : Env w) :
    Calls Tryd.prog 8 #[planV p p1 p2 p3 q1 q2 q3, stateV s a1 a2 a3 c1 c2 c3, .int .i64 q, .int .i64 ot] w fun e w' => e = .returned (.bool true) ∧ Below w.heap.size w w' :=
  takersTrue_go p s q ot hot p1 p2 p3 a1 a2 a3 q1 q2 q3 c1 c2 c3 rows w hE hp hps hs hss hsi

end Go.Proofs.YtapimpmpjighmaaDoor
