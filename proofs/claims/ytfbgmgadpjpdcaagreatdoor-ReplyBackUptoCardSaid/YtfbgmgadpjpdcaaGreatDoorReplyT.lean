/-
  The law ReplyBack answers true.
-/
import Derived.Test.YtfbgmgadpjpdcaaGreatDoorBunA
import Derived.Test.YtfbgmgadpjpdcaaGreatDoorReplyN
import Derived.Test.YtfbgmgadpjpdcaaGreatDoorBunJ
import Derived.Test.YtfbgmgadpjpdcaaGreatDoorChoose
import Derived.Test.YtfbgmgadpjpdcaaGreatDoorBunE
set_option linter.unusedSimpArgs false
set_option linter.unusedVariables false
namespace Go.Proofs.YtfbgmgadpjpdcaaGreatDoor
open Go Go.RowKit
set_option maxRecDepth 100000

theorem row_stays {w : World} {lo hi rb ro k : Nat} {a2 a3 : Option Addr} {rows : List RowD} {s : StateD} {l : List ItemD} (h : StateAt w lo hi (some ⟨rb, ro, none⟩) a2 a3 rows s) (hh : hi ≤ w.heap.size) (hk : s.ready[k]? = some l) :
    ∃ ra rc, ∀ W, Below w.heap.size w W → W.cell? ⟨rb, ro + k, none⟩ = some (.slice ra l.length rc) ∧ Sl W lo W.heap.size ra (l.flatMap vItem) := by
  obtain ⟨ra, rc, h1, h2, _⟩ := row_cell h hk
  exact ⟨ra, rc, fun W hW => ⟨(hW.cell (lt_of_cell h1)).trans h1, (h2.below hW hh).wider (Nat.le_refl _) (Nat.le_trans hh hW.size)⟩⟩
set_option maxHeartbeats 100000000 in
theorem replyBack_go (p : PlanD) (s : StateD) (q ot : Int) (p1 p2 p3 a1 a2 a3 : Option Addr) (q1 q2 q3 c1 c2 c3 : Nat) (rows : List RowD) (w : World) (hE : Env w) (hp : PlanAt w 0 w.heap.size p1 p2 p3 p) (hps : PlanSmall p) (hs : StateAt w 0 w.heap.size a1 a2 a3 rows s) (hss : StateSmall s) (hsi : StateInts s) (hot : -9223372036854775808 ≤ ot ∧ ot ≤ 9223372036854775807) :
    Calls Tryz.prog 10 #[planV p p1 p2 p3 q1 q2 q3, stateV s a1 a2 a3 c1 c2 c3, .int .i64 q, .int .i64 ot] w fun e w' => e = .returned (.bool true) ∧ Below w.heap.size w w' := by
  have hbx := two_boxes q1 q2 q3 c1 c2 c3 hE hp hs 26 31
  unfold vState at hbx
  unfold stateV planV vState
  have HBX := Lib.hid hbx
  have HPS := Lib.hid hps
  have HSS := Lib.hid hss
  have HSI := Lib.hid hsi
  clear hbx hE hp hs hps hss hsi
  go_enter Tryz.func10, Tryz.ntmps10
  obtain ⟨⟨m0, m1, m2⟩, ⟨n0, n1, n2, n3, n4, n5, n6, n7⟩, _, _, _, _⟩ := HBX.out _ (Below.refl _ _)
  go_wp2_with fail
  clear m0 m1 m2 n0 n1 n2 n3 n4 n5 n6 n7
  generalize ((w.alloc (.cells #[.slice p1 p.posts.length q1, .slice p2 p.queues.length q2, .slice p3 p.binds.length q3] 26)).alloc (.cells #[Value.slice a1 s.ready.length c1, Value.slice a2 s.outs.length c2, Value.slice a3 s.takers.length c3, Value.int IntKind.i64 s.nextSeq, Value.int IntKind.i64 s.nextTag, Value.int IntKind.i64 s.came, Value.int IntKind.i64 s.acked, Value.int IntKind.i64 s.dropped] 31)) = W0 at *
  have HC1 : Hid (∀ W, Below W0.heap.size W0 W → Calls Tryz.prog 33 #[.agg #[.slice p1 p.posts.length q1, .slice p2 p.queues.length q2, .slice p3 p.binds.length q3], .agg #[.slice a1 s.ready.length c1, .slice a2 s.outs.length c2, .slice a3 s.takers.length c3, .int .i64 s.nextSeq, .int .i64 s.nextTag, .int .i64 s.came, .int .i64 s.acked, .int .i64 s.dropped], .int .i64 q] W (TkPost (deliverS p s q) (deliverT p s q) (deliverErr p s q) W)) := fun W hW =>
    Deliver_any p s q p1 p2 p3 a1 a2 a3 q1 q2 q3 c1 c2 c3 rows W (HBX.out _ hW).env (HBX.out _ hW).planAt HPS.out (HBX.out _ hW).stateAt HSS.out HSI.out
  have HSMx : Hid (StateSmall (deliverS p s q) ∧ StateInts (deliverS p s q)) := Lib.hid (deliver_small p s q)
  have HSMy : Hid (StateSmall (rejectS p (deliverS p s q) (deliverT p s q) true) ∧ StateInts (rejectS p (deliverS p s q) (deliverT p s q) true)) := Lib.hid (reject_small _ _ _ _)
  have HFB : Hid (deliverErr p s q = 0 → rejectErr p (deliverS p s q) (deliverT p s q) = 0 → Right p s ∧ ∃ (k : Nat) (x : ItemD) (rest : List ItemD), q = (k : Int) ∧ k < s.ready.length ∧ s.ready[k]? = some (x :: rest) ∧ rejectS p (deliverS p s q) (deliverT p s q) true = { s with ready := s.ready.set k (againI x :: rest), nextTag := s.nextTag + 1 }) := Lib.hid fun h h2 => by
    have hs : s.nextSeq ≤ 524288 := by
      obtain ⟨i, _, _, _, e, _⟩ := deliver_right h
      have := (reject_ok.1 h2).2.2
      rw [e] at this
      exact this
    obtain ⟨h0, _⟩ := deliver_ok.1 h
    obtain ⟨h1, _, _⟩ := next_ok.1 h0
    obtain ⟨k, x, rest, e1, e2, e3, _, e4⟩ := back_law h hs
    exact ⟨(ask_ok.1 h1).1, k, x, rest, e1, e2, e3, e4⟩
  generalize deliverS p s q = X at *
  generalize deliverT p s q = T at *
  have HL : Hid (∀ W, Below W0.heap.size W0 W → Below W0.heap.size W0 W) := Lib.hid fun W h => h
  obtain ⟨⟨m0, m1, m2⟩, ⟨n0, n1, n2, n3, n4, n5, n6, n7⟩, _, _, _, _⟩ := HBX.out _ (HL.out _ (Below.refl _ _))
  go_wp2_with fail
  refine (HC1.out _ (Below.refl _ _)).mono ?_
  rintro e w1 ⟨x1, x2, x3, xc1, xc2, xc3, rx, rfl, hs, hb⟩
  unfold stateV vState
  clear m0 m1 m2 n0 n1 n2 n3 n4 n5 n6 n7
  go_upto_region 2 with fail
  obtain ⟨WX, hW1⟩ : ∃ ww, w1.alloc (.cells #[.slice x1 X.ready.length xc1, .slice x2 X.outs.length xc2, .slice x3 X.takers.length xc3, .int .i64 X.nextSeq, .int .i64 X.nextTag, .int .i64 X.came, .int .i64 X.acked, .int .i64 X.dropped] 31) = ww := ⟨_, rfl⟩
  have HNx := Lib.hid (box_since (x := X) xc1 xc2 xc3 hs hb hW1)
  rw [hW1]
  clear hW1 hs hb
  have HL : Hid (∀ W, Below WX.heap.size WX W → Below W0.heap.size W0 W) := Lib.hid fun W h => HL.out _ (HNx.out _ h).2
  have HXx : Hid (∀ W, Below WX.heap.size WX W → BoxS W _ X x1 x2 x3 xc1 xc2 xc3 rx) := Lib.hid fun W h => (HNx.out _ h).1
  obtain ⟨⟨m0, m1, m2⟩, ⟨n0, n1, n2, n3, n4, n5, n6, n7⟩, _, _, _, _⟩ := HBX.out _ (HL.out _ (Below.refl _ _))
  obtain ⟨k0, k1, k2, k3, k4, k5, k6, k7⟩ := (HXx.out _ (Below.refl _ _)).cells
  go_wp2_with fail
  refine (Reject_any p X T true p1 p2 p3 x1 x2 x3 q1 q2 q3 xc1 xc2 xc3 rx WX (HBX.out _ (HL.out _ (Below.refl _ _))).env (HBX.out _ (HL.out _ (Below.refl _ _))).planAt HPS.out (HXx.out _ (Below.refl _ _)).at_ HSMx.out.1 HSMx.out.2).mono ?_
  rintro e w2 ⟨y1, y2, y3, yc1, yc2, yc3, ry, rfl, hs, hb⟩
  unfold stateV vState
  clear m0 m1 m2 n0 n1 n2 n3 n4 n5 n6 n7 k0 k1 k2 k3 k4 k5 k6 k7
  generalize rejectS p X T true = Y at *
  go_upto_region 3 with fail
  obtain ⟨WY, hW1⟩ : ∃ ww, w2.alloc (.cells #[.slice y1 Y.ready.length yc1, .slice y2 Y.outs.length yc2, .slice y3 Y.takers.length yc3, .int .i64 Y.nextSeq, .int .i64 Y.nextTag, .int .i64 Y.came, .int .i64 Y.acked, .int .i64 Y.dropped] 31) = ww := ⟨_, rfl⟩
  have HNy := Lib.hid (box_since (x := Y) yc1 yc2 yc3 hs hb hW1)
  rw [hW1]
  clear hW1 hs hb
  have HL : Hid (∀ W, Below WY.heap.size WY W → Below W0.heap.size W0 W) := Lib.hid fun W h => HL.out _ (HNy.out _ h).2
  have HXy : Hid (∀ W, Below WY.heap.size WY W → BoxS W _ Y y1 y2 y3 yc1 yc2 yc3 ry) := Lib.hid fun W h => (HNy.out _ h).1
  by_cases hd : deliverErr p s q = 0
  · have bd : (deliverErr p s q != 0) = false := by simp [hd]
    by_cases hf : rejectErr p X T = 0
    · have bf : (rejectErr p X T != 0) = false := by simp [hf]
      obtain ⟨hR, k, x, rest, rfl, hkl, hrow, hY⟩ := HFB.out hd hf
      have hyr : Y.ready = s.ready.set k (againI x :: rest) := by rw [hY]
      have hyl : Y.ready.length = s.ready.length := by rw [hyr, List.length_set]
      have hyo : Y.outs = s.outs := by rw [hY]
      have hyc : Y.came = s.came := by rw [hY]
      have hyd : Y.dropped = s.dropped := by rw [hY]
      have hrl4 : s.ready.length ≤ 1048576 := hR.small.ready
      have hyk : Y.ready[k]? = some (againI x :: rest) := by rw [hyr, List.getElem?_set, if_pos rfl, if_pos hkl]
      have hb0 := (HXy.out _ (Below.refl WY.heap.size WY)).at_
      obtain ⟨yb, yo, rfl, -, -, -⟩ := sl_elem vRow_len (by decide) hb0.ready (k := k) (by rw [← List.length_map (f := (·.items)), hb0.same, hyl]; exact hkl)
      have hs0 := (HBX.out _ (HL.out _ (Below.refl WY.heap.size WY))).stateAt
      obtain ⟨sb, so, rfl, -, -, -⟩ := sl_elem vRow_len (by decide) hs0.ready (k := k) (by rw [← List.length_map (f := (·.items)), hs0.same]; exact hkl)
      obtain ⟨ya, yac, hyrow⟩ := row_stays hb0 (Nat.le_refl _) hyk
      obtain ⟨sa, sac, hsrow⟩ := row_stays hs0 (Nat.le_refl _) hrow
      have HYC : Hid (∀ W, Below WY.heap.size WY W → W.cell? ⟨w2.heap.size, 0, none⟩ = some (.slice (some ⟨yb, yo, none⟩) s.ready.length yc1) ∧ W.cell? ⟨w2.heap.size, 1, none⟩ = some (.slice y2 s.outs.length yc2) ∧ W.cell? ⟨w2.heap.size, 5, none⟩ = some (.int .i64 s.came) ∧ W.cell? ⟨w2.heap.size, 7, none⟩ = some (.int .i64 s.dropped)) := Lib.hid fun W hW => by
        obtain ⟨k0, k1, k2, k3, k4, k5, k6, k7⟩ := (HXy.out _ hW).cells
        rw [hyl] at k0
        rw [hyo] at k1
        rw [hyc] at k5
        rw [hyd] at k7
        exact ⟨k0, k1, k5, k7⟩
      have HROWR : Hid (∀ r : Nat, r < s.ready.length → ∃ (yr : Option Addr) (yrc : Nat) (sr : Option Addr) (src : Nat) (lx : List ItemD), (r ≠ k → Y.ready[r]? = some lx ∧ s.ready[r]? = some lx) ∧ (∀ W, Below WY.heap.size WY W → r ≠ k → W.cell? ⟨yb, yo + r, none⟩ = some (.slice yr lx.length yrc) ∧ W.cell? ⟨sb, so + r, none⟩ = some (.slice sr lx.length src) ∧ Sl W 0 W.heap.size yr (lx.flatMap vItem) ∧ Sl W 0 W.heap.size sr (lx.flatMap vItem))) := Lib.hid fun r hr => by
        have h2 : s.ready[r]? = some s.ready[r] := List.getElem?_eq_getElem hr
        by_cases hrk : r = k
        · exact ⟨none, 0, none, 0, [], fun h => absurd hrk h, fun W _ h => absurd hrk h⟩
        · have h1 : Y.ready[r]? = some s.ready[r] := by rw [hyr, List.getElem?_set, if_neg (fun e => hrk e.symm)]; exact h2
          obtain ⟨yr, yrc, g1⟩ := row_stays hb0 (Nat.le_refl _) h1
          obtain ⟨sr, src, g2⟩ := row_stays hs0 (Nat.le_refl _) h2
          exact ⟨yr, yrc, sr, src, s.ready[r], fun _ => ⟨h1, h2⟩, fun W hW _ => ⟨(g1 W hW).1, (g2 W hW).1, (g1 W hW).2, (g2 W hW).2⟩⟩
      have hit : ((x :: rest).length ≤ 1048576) := (hR.small.row _ (List.mem_of_getElem? hrow)).len
      have hitr : ∀ (r : Nat) (lx : List ItemD), s.ready[r]? = some lx → lx.length ≤ 1048576 := fun r lx h => (hR.small.row _ (List.mem_of_getElem? h)).len
      have HITR := Lib.hid hitr
      have HYROW := Lib.hid hyrow
      have HSROW := Lib.hid hsrow
      have hq0 : ¬ (k : Int) < 0 := by omega
      have hq1 : ¬ (s.ready.length : Int) ≤ (k : Int) := by omega
      obtain ⟨ln, hln⟩ : ∃ ln, (x :: rest).length = ln := ⟨_, rfl⟩
      have hln2 : (againI x :: rest).length = ln := hln
      have hln0 : ((ln : Int) == 0) = false := by rw [← hln, List.length_cons]; exact beq_eq_false_iff_ne.2 (by omega)
      rw [hln2] at HYROW
      rw [hln] at HSROW hit
      have hln1 : 0 < ln := by rw [← hln]; exact Nat.succ_pos _
      clear hd hf hY hyr hyl hyo hyc hyd hyk hb0 hs0 hyrow hsrow hitr hR hrow
      obtain ⟨k0, k1, k5, k7⟩ := HYC.out _ (Below.refl WY.heap.size WY)
      have s0 := (HSROW.out _ (Below.refl WY.heap.size WY)).1
      obtain ⟨⟨m0, m1, m2⟩, ⟨n0, n1, n2, n3, n4, n5, n6, n7⟩, _, _, _, _⟩ := HBX.out _ (HL.out _ (Below.refl _ _))
      go_upto_region 7 with fail
      clear k0 k1 k5 k7
      obtain ⟨Z1, hZ1⟩ : ∃ Z1, WY.alloc (.cells #[] 43) = Z1 := ⟨_, rfl⟩
      have hbz : Below WY.heap.size WY Z1 := by rw [← hZ1]; exact (Below.refl _ _).alloc (Nat.le_refl _) _
      obtain ⟨v7, W7, hr7, hb7, hx7⟩ := run_append_zero (P := Tryz.prog) Z1 41 41 43 Tryz.underlying41 infoItem rfl (by decide) (by decide) ⟨WY.heap.size, 0, none⟩ 0 Z1.heap.size sa ln sac ((x :: rest).flatMap vItem) (by rw [flat_len vItem_len, hln]) (HSROW.out _ hbz).2 (by omega)
      have ho7 : W7.ownsRow Z1.heap.size 43 5 v7 ln ((x :: rest).flatMap vItem) := by
        rcases hx7 with ⟨_, h⟩ | ⟨h0, _⟩
        · exact h
        · omega
      obtain ⟨A7, C7, rfl, _⟩ := own_slice ho7
      obtain ⟨g7, rfl⟩ := own_addr ho7 hln1
      have hbw7 : Below WY.heap.size WY W7 := hbz.trans (hb7.mono hbz.size)
      have s1 : Z1.cell? ⟨sb, so + k, none⟩ = some (.slice sa ln sac) := (HSROW.out _ hbz).1
      have z0 : Z1.cell? ⟨w.heap.size + 1, 0, none⟩ = some (.slice (some ⟨sb, so, none⟩) s.ready.length c1) := (HBX.out _ (HL.out _ hbz)).state.1
      have HR7 := Lib.hid hr7
      have hst := ho7.stored 3 (.bool true)
      obtain ⟨W8, hW8⟩ : ∃ W8, W7.setCell ⟨g7, 3, none⟩ (.bool true) = W8 := ⟨_, rfl⟩
      rw [hW8] at hst
      have ho8 : W8.ownsRow Z1.heap.size 43 5 (.slice (some ⟨g7, 0, none⟩) ln C7) ln ((againI x :: rest).flatMap vItem) := hst.1
      have hlt7 := ho7.lt g7 rfl
      have hbw8 : Below WY.heap.size WY W8 := by rw [← hW8]; exact hbw7.setCell (p := ⟨g7, 3, none⟩) (Nat.le_trans hbz.size hlt7.1) _
      have i3 : W7.cell? ⟨g7, 3, none⟩ = some (.bool x.again) := by
        rw [ho7.cellAt 3 (by omega)]
        rfl
      have f3 : W7.frozen? ⟨g7, 3, none⟩ = false := ho7.frozenAt _
      have l3 := hlt7.2
      have hj1 : (0 : Int) < (ln : Int) := by omega
      have HO8 := Lib.hid (And.intro ho8 (And.intro hbw8 (by omega : 1 ≤ s.ready.length)))
      clear hx7 ho7 hb7 hbz hr7 hst ho8 hbw7 hbw8 hlt7 hln hln2
      go_upto_region 8 with (first | (at_builtin; refine Lib.wpList_append_run _ rfl _ _ _ _ rfl _ _ rfl rfl _ _ HR7.out ?_) | fail)
      clear hZ1 s0 s1 z0 HR7 m0 m1 m2 n0 n1 n2 n3 n4 n5 n6 n7
      go_upto_region 9 with fail
      clear i3 f3 l3 hW8
      obtain ⟨⟨m0, m1, m2⟩, ⟨n0, n1, n2, n3, n4, n5, n6, n7⟩, _, _, _, _⟩ := HBX.out _ (HL.out _ HO8.out.2.1)
      go_wp2_with fail
      refine (choose_any ot (s.ready.length : Int) W8 hot.1 hot.2 (by have := HO8.out.2.2; omega) (by omega)).mono ?_
      rintro e w9 ⟨r, hr, rfl, rfl⟩
      clear m0 m1 m2 n0 n1 n2 n3 n4 n5 n6 n7
      obtain ⟨yr, yrc, sr, src, lx, hlx, hrw⟩ := HROWR.out r (by omega)
      have HLX := Lib.hid hlx
      have HRW := Lib.hid hrw
      clear hlx hrw HROWR
      go_upto_region 10 with fail
      have HENV : Hid (∀ W, Below W8.heap.size W8 W → Env W) := Lib.hid fun W hW => (HBX.out _ (HL.out _ (HO8.out.2.1.trans (hW.mono HO8.out.2.1.size)))).env
      have HFIN : Hid (∀ W, Below W8.heap.size W8 W → Below w.heap.size w W) := Lib.hid fun W hW => (HBX.out _ (HL.out _ (HO8.out.2.1.trans (hW.mono HO8.out.2.1.size)))).below
      have HSI1 : Hid (∀ W, Below W8.heap.size W8 W → Calls Tryz.prog 20 #[.slice ya ln yac, .slice (some ⟨g7, 0, none⟩) ln C7] W fun e w' => e = .returned (.bool true) ∧ Below W.heap.size W w') := Lib.hid fun W hW => by
        have h := SameItems_any ya (some ⟨g7, 0, none⟩) yac C7 (againI x :: rest) (againI x :: rest) W 0 (HYROW.out _ (HO8.out.2.1.trans (hW.mono HO8.out.2.1.size))).2 (((Sl.of_own HO8.out.1).below hW (Nat.le_refl _)).wider (Nat.zero_le _) hW.size) (by have h1 := (flat_len vItem_len (againI x :: rest)); have h2 := HO8.out.1.1; omega) (by have h1 := (flat_len vItem_len (againI x :: rest)); have h2 := HO8.out.1.1; omega)
        rw [itemsEq_refl, show (againI x :: rest).length = ln by have h1 := (flat_len vItem_len (againI x :: rest)); have h2 := HO8.out.1.1; omega] at h
        exact h
      generalize hll : lx.length = lr at *
      have hN : Below W8.heap.size W8 W8.drew := (Below.refl _ _).drew
      by_cases hrk : r = k
      · subst hrk
        have brk : ((r : Int) == (r : Int)) = true := by simp
        have HS : Hid (∀ W, Below W8.heap.size W8 W → (W.cell? ⟨w2.heap.size, 0, none⟩ = some (.slice (some ⟨yb, yo, none⟩) s.ready.length yc1) ∧ W.cell? ⟨w2.heap.size, 1, none⟩ = some (.slice y2 s.outs.length yc2) ∧ W.cell? ⟨w2.heap.size, 5, none⟩ = some (.int .i64 s.came) ∧ W.cell? ⟨w2.heap.size, 7, none⟩ = some (.int .i64 s.dropped) ∧ W.cell? ⟨w.heap.size + 1, 0, none⟩ = some (.slice (some ⟨sb, so, none⟩) s.ready.length c1) ∧ W.cell? ⟨w.heap.size + 1, 1, none⟩ = some (.slice a2 s.outs.length c2) ∧ W.cell? ⟨w.heap.size + 1, 5, none⟩ = some (.int .i64 s.came) ∧ W.cell? ⟨w.heap.size + 1, 7, none⟩ = some (.int .i64 s.dropped) ∧ W.cell? ⟨yb, yo + r, none⟩ = some (.slice ya ln yac))) := Lib.hid fun W hW => by
          have h1 := HO8.out.2.1.trans (hW.mono HO8.out.2.1.size)
          have h2 := HYC.out _ h1
          have h3 := (HBX.out _ (HL.out _ h1)).state
          exact ⟨h2.1, h2.2.1, h2.2.2.1, h2.2.2.2, h3.1, h3.2.1, h3.2.2.2.2.2.1, h3.2.2.2.2.2.2.2, (HYROW.out _ h1).1⟩
        refine nw_lay [(0, true), (1, false), (2, false), (3, false), (4, false), (5, false), (6, false), (7, false), (8, true), (9, false), (10, false), (11, false), (12, false), (13, false), (14, false), (15, false), (16, false), (17, false), (18, false), (19, false), (20, false), (21, false), (22, false), (23, false), (24, false), (25, true), (26, false), (27, false), (28, false), (29, false), (30, false), (31, false), (32, false), (33, false), (34, false), (35, false), (36, false), (37, false), (38, false), (39, false), (40, false), (41, false), (42, false), (43, false), (44, false), (45, false), (46, false), (47, false), (48, false), (49, false), (50, false), (51, false)] (by kernel_rfl) (fun hOrd => ?_)
        refine nw_go (S := (fun W => (W.cell? ⟨w2.heap.size, 0, none⟩ = some (.slice (some ⟨yb, yo, none⟩) s.ready.length yc1) ∧ W.cell? ⟨w2.heap.size, 1, none⟩ = some (.slice y2 s.outs.length yc2) ∧ W.cell? ⟨w2.heap.size, 5, none⟩ = some (.int .i64 s.came) ∧ W.cell? ⟨w2.heap.size, 7, none⟩ = some (.int .i64 s.dropped) ∧ W.cell? ⟨w.heap.size + 1, 0, none⟩ = some (.slice (some ⟨sb, so, none⟩) s.ready.length c1) ∧ W.cell? ⟨w.heap.size + 1, 1, none⟩ = some (.slice a2 s.outs.length c2) ∧ W.cell? ⟨w.heap.size + 1, 5, none⟩ = some (.int .i64 s.came) ∧ W.cell? ⟨w.heap.size + 1, 7, none⟩ = some (.int .i64 s.dropped) ∧ W.cell? ⟨yb, yo + r, none⟩ = some (.slice ya ln yac)))) hOrd (by kernel_rfl) (by exact HS.out _ hN) (fun hHeld => ?_)
        clear hOrd
        first
          | (refine NW.leave rfl (fun _ _ _ h => h) (by rfl) (by assumption) ?_)
          | (refine NW.call rfl (fun K hK => ?_); go_simp; (first | (go_at_call 29; ((with_reducible refine (replyBegun_any _ (HENV.out _ hN)).mono ?_)); rintro e w5 ⟨rfl, hb5⟩; have hN := hN.trans (hb5.mono hN.size); clear hb5) | (go_at_call 20; (first | (with_reducible refine (HSI1.out _ hN).mono ?_) | (with_reducible refine (HSI2.out _ hN).mono ?_)); rintro e w6 ⟨rfl, hb6⟩; have hN := hN.trans (hb6.mono hN.size); clear hb6)); refine hK.out _ _ (by exact HS.out _ hN) (fun hHeld => ?_); clear hK K)
        try simp only [Act.put, List.setIfInBounds_toArray, List.set_cons_zero, List.set_cons_succ, List.getElem_toArray, List.getElem_cons_zero, List.getElem_cons_succ]
        iterate 7 ((first | (refine NW.take (v := ?_) rfl (fun _ _ _ h => h) (Or.inl ⟨by rfl, ?_⟩) ?_; rotate_left; focus (intro w hSw; (try dsimp only at hSw); go_simp; (all_goals with_reducible rfl); done)) | (refine NW.leave rfl (fun _ _ _ h => h) (by rfl) (by assumption) ?_)); try simp only [Act.put, List.setIfInBounds_toArray, List.set_cons_zero, List.set_cons_succ, List.getElem_toArray, List.getElem_cons_zero, List.getElem_cons_succ])
        first
          | (refine NW.leave rfl (fun _ _ _ h => h) (by rfl) (by assumption) ?_)
          | (refine NW.call rfl (fun K hK => ?_); go_simp; (first | (go_at_call 29; ((with_reducible refine (replyBegun_any _ (HENV.out _ hN)).mono ?_)); rintro e w5 ⟨rfl, hb5⟩; have hN := hN.trans (hb5.mono hN.size); clear hb5) | (go_at_call 20; (first | (with_reducible refine (HSI1.out _ hN).mono ?_) | (with_reducible refine (HSI2.out _ hN).mono ?_)); rintro e w6 ⟨rfl, hb6⟩; have hN := hN.trans (hb6.mono hN.size); clear hb6)); refine hK.out _ _ (by exact HS.out _ hN) (fun hHeld => ?_); clear hK K)
        try simp only [Act.put, List.setIfInBounds_toArray, List.set_cons_zero, List.set_cons_succ, List.getElem_toArray, List.getElem_cons_zero, List.getElem_cons_succ]
        iterate 16 ((first | (refine NW.take (v := ?_) rfl (fun _ _ _ h => h) (Or.inl ⟨by rfl, ?_⟩) ?_; rotate_left; focus (intro w hSw; (try dsimp only at hSw); go_simp; (all_goals with_reducible rfl); done)) | (refine NW.leave rfl (fun _ _ _ h => h) (by rfl) (by assumption) ?_)); try simp only [Act.put, List.setIfInBounds_toArray, List.set_cons_zero, List.set_cons_succ, List.getElem_toArray, List.getElem_cons_zero, List.getElem_cons_succ])
        first
          | (refine NW.leave rfl (fun _ _ _ h => h) (by rfl) (by assumption) ?_)
          | (refine NW.call rfl (fun K hK => ?_); go_simp; (first | (go_at_call 29; ((with_reducible refine (replyBegun_any _ (HENV.out _ hN)).mono ?_)); rintro e w5 ⟨rfl, hb5⟩; have hN := hN.trans (hb5.mono hN.size); clear hb5) | (go_at_call 20; (first | (with_reducible refine (HSI1.out _ hN).mono ?_) | (with_reducible refine (HSI2.out _ hN).mono ?_)); rintro e w6 ⟨rfl, hb6⟩; have hN := hN.trans (hb6.mono hN.size); clear hb6)); refine hK.out _ _ (by exact HS.out _ hN) (fun hHeld => ?_); clear hK K)
        try simp only [Act.put, List.setIfInBounds_toArray, List.set_cons_zero, List.set_cons_succ, List.getElem_toArray, List.getElem_cons_zero, List.getElem_cons_succ]
        iterate 26 ((first | (refine NW.take (v := ?_) rfl (fun _ _ _ h => h) (Or.inl ⟨by rfl, ?_⟩) ?_; rotate_left; focus (intro w hSw; (try dsimp only at hSw); go_simp; (all_goals with_reducible rfl); done)) | (refine NW.leave rfl (fun _ _ _ h => h) (by rfl) (by assumption) ?_)); try simp only [Act.put, List.setIfInBounds_toArray, List.set_cons_zero, List.set_cons_succ, List.getElem_toArray, List.getElem_cons_zero, List.getElem_cons_succ])
        refine NW.done ?_
        go_wp2_with fail
        go_ret
        exact ⟨rfl, HFIN.out _ hN⟩
      · have brk : ((r : Int) == (k : Int)) = false := beq_eq_false_iff_ne.2 (by omega)
        have HSI2 : Hid (∀ W, Below W8.heap.size W8 W → Calls Tryz.prog 20 #[.slice yr lr yrc, .slice sr lr src] W fun e w' => e = .returned (.bool true) ∧ Below W.heap.size W w') := Lib.hid fun W hW => by
          have h1 := HRW.out _ (HO8.out.2.1.trans (hW.mono HO8.out.2.1.size)) hrk
          have h2 := HITR.out r lx (HLX.out hrk).2
          have h := SameItems_any yr sr yrc src lx lx W 0 h1.2.2.1 h1.2.2.2 (by omega) (by omega)
          rw [itemsEq_refl, hll] at h
          exact h
        have HS : Hid (∀ W, Below W8.heap.size W8 W → (W.cell? ⟨w2.heap.size, 0, none⟩ = some (.slice (some ⟨yb, yo, none⟩) s.ready.length yc1) ∧ W.cell? ⟨w2.heap.size, 1, none⟩ = some (.slice y2 s.outs.length yc2) ∧ W.cell? ⟨w2.heap.size, 5, none⟩ = some (.int .i64 s.came) ∧ W.cell? ⟨w2.heap.size, 7, none⟩ = some (.int .i64 s.dropped) ∧ W.cell? ⟨w.heap.size + 1, 0, none⟩ = some (.slice (some ⟨sb, so, none⟩) s.ready.length c1) ∧ W.cell? ⟨w.heap.size + 1, 1, none⟩ = some (.slice a2 s.outs.length c2) ∧ W.cell? ⟨w.heap.size + 1, 5, none⟩ = some (.int .i64 s.came) ∧ W.cell? ⟨w.heap.size + 1, 7, none⟩ = some (.int .i64 s.dropped) ∧ W.cell? ⟨yb, yo + k, none⟩ = some (.slice ya ln yac) ∧ W.cell? ⟨yb, yo + r, none⟩ = some (.slice yr lr yrc) ∧ W.cell? ⟨sb, so + r, none⟩ = some (.slice sr lr src))) := Lib.hid fun W hW => by
          have h1 := HO8.out.2.1.trans (hW.mono HO8.out.2.1.size)
          have h2 := HYC.out _ h1
          have h3 := (HBX.out _ (HL.out _ h1)).state
          have h4 := HRW.out _ h1 hrk
          exact ⟨h2.1, h2.2.1, h2.2.2.1, h2.2.2.2, h3.1, h3.2.1, h3.2.2.2.2.2.1, h3.2.2.2.2.2.2.2, (HYROW.out _ h1).1, h4.1, h4.2.1⟩
        clear hrk hll
        refine nw_lay [(0, true), (1, false), (2, false), (3, false), (4, false), (5, false), (6, false), (7, false), (8, true), (9, false), (10, false), (11, false), (12, false), (13, false), (14, false), (15, false), (16, false), (17, false), (18, false), (19, false), (20, false), (21, false), (22, false), (23, false), (24, false), (25, true), (26, false), (27, false), (28, false), (29, false), (30, false), (31, false), (32, false), (33, false), (34, false), (35, false), (36, false), (37, false), (38, false), (39, false), (40, false), (41, false), (42, false), (43, false), (44, false), (45, false), (46, false), (47, false), (48, false), (49, false), (50, false), (51, false)] (by kernel_rfl) (fun hOrd => ?_)
        refine nw_go (S := (fun W => (W.cell? ⟨w2.heap.size, 0, none⟩ = some (.slice (some ⟨yb, yo, none⟩) s.ready.length yc1) ∧ W.cell? ⟨w2.heap.size, 1, none⟩ = some (.slice y2 s.outs.length yc2) ∧ W.cell? ⟨w2.heap.size, 5, none⟩ = some (.int .i64 s.came) ∧ W.cell? ⟨w2.heap.size, 7, none⟩ = some (.int .i64 s.dropped) ∧ W.cell? ⟨w.heap.size + 1, 0, none⟩ = some (.slice (some ⟨sb, so, none⟩) s.ready.length c1) ∧ W.cell? ⟨w.heap.size + 1, 1, none⟩ = some (.slice a2 s.outs.length c2) ∧ W.cell? ⟨w.heap.size + 1, 5, none⟩ = some (.int .i64 s.came) ∧ W.cell? ⟨w.heap.size + 1, 7, none⟩ = some (.int .i64 s.dropped) ∧ W.cell? ⟨yb, yo + k, none⟩ = some (.slice ya ln yac) ∧ W.cell? ⟨yb, yo + r, none⟩ = some (.slice yr lr yrc) ∧ W.cell? ⟨sb, so + r, none⟩ = some (.slice sr lr src)))) hOrd (by kernel_rfl) (by exact HS.out _ hN) (fun hHeld => ?_)
        clear hOrd
        first
          | (refine NW.leave rfl (fun _ _ _ h => h) (by rfl) (by assumption) ?_)
          | (refine NW.call rfl (fun K hK => ?_); go_simp; (first | (go_at_call 29; ((with_reducible refine (replyBegun_any _ (HENV.out _ hN)).mono ?_)); rintro e w5 ⟨rfl, hb5⟩; have hN := hN.trans (hb5.mono hN.size); clear hb5) | (go_at_call 20; (first | (with_reducible refine (HSI1.out _ hN).mono ?_) | (with_reducible refine (HSI2.out _ hN).mono ?_)); rintro e w6 ⟨rfl, hb6⟩; have hN := hN.trans (hb6.mono hN.size); clear hb6)); refine hK.out _ _ (by exact HS.out _ hN) (fun hHeld => ?_); clear hK K)
        try simp only [Act.put, List.setIfInBounds_toArray, List.set_cons_zero, List.set_cons_succ, List.getElem_toArray, List.getElem_cons_zero, List.getElem_cons_succ]
        iterate 7 ((first | (refine NW.take (v := ?_) rfl (fun _ _ _ h => h) (Or.inl ⟨by rfl, ?_⟩) ?_; rotate_left; focus (intro w hSw; (try dsimp only at hSw); go_simp; (all_goals with_reducible rfl); done)) | (refine NW.leave rfl (fun _ _ _ h => h) (by rfl) (by assumption) ?_)); try simp only [Act.put, List.setIfInBounds_toArray, List.set_cons_zero, List.set_cons_succ, List.getElem_toArray, List.getElem_cons_zero, List.getElem_cons_succ])
        first
          | (refine NW.leave rfl (fun _ _ _ h => h) (by rfl) (by assumption) ?_)
          | (refine NW.call rfl (fun K hK => ?_); go_simp; (first | (go_at_call 29; ((with_reducible refine (replyBegun_any _ (HENV.out _ hN)).mono ?_)); rintro e w5 ⟨rfl, hb5⟩; have hN := hN.trans (hb5.mono hN.size); clear hb5) | (go_at_call 20; (first | (with_reducible refine (HSI1.out _ hN).mono ?_) | (with_reducible refine (HSI2.out _ hN).mono ?_)); rintro e w6 ⟨rfl, hb6⟩; have hN := hN.trans (hb6.mono hN.size); clear hb6)); refine hK.out _ _ (by exact HS.out _ hN) (fun hHeld => ?_); clear hK K)
        try simp only [Act.put, List.setIfInBounds_toArray, List.set_cons_zero, List.set_cons_succ, List.getElem_toArray, List.getElem_cons_zero, List.getElem_cons_succ]
        iterate 16 ((first | (refine NW.take (v := ?_) rfl (fun _ _ _ h => h) (Or.inl ⟨by rfl, ?_⟩) ?_; rotate_left; focus (intro w hSw; (try dsimp only at hSw); go_simp; (all_goals with_reducible rfl); done)) | (refine NW.leave rfl (fun _ _ _ h => h) (by rfl) (by assumption) ?_)); try simp only [Act.put, List.setIfInBounds_toArray, List.set_cons_zero, List.set_cons_succ, List.getElem_toArray, List.getElem_cons_zero, List.getElem_cons_succ])
        first
          | (refine NW.leave rfl (fun _ _ _ h => h) (by rfl) (by assumption) ?_)
          | (refine NW.call rfl (fun K hK => ?_); go_simp; (first | (go_at_call 29; ((with_reducible refine (replyBegun_any _ (HENV.out _ hN)).mono ?_)); rintro e w5 ⟨rfl, hb5⟩; have hN := hN.trans (hb5.mono hN.size); clear hb5) | (go_at_call 20; (first | (with_reducible refine (HSI1.out _ hN).mono ?_) | (with_reducible refine (HSI2.out _ hN).mono ?_)); rintro e w6 ⟨rfl, hb6⟩; have hN := hN.trans (hb6.mono hN.size); clear hb6)); refine hK.out _ _ (by exact HS.out _ hN) (fun hHeld => ?_); clear hK K)
        try simp only [Act.put, List.setIfInBounds_toArray, List.set_cons_zero, List.set_cons_succ, List.getElem_toArray, List.getElem_cons_zero, List.getElem_cons_succ]
        iterate 26 ((first | (refine NW.take (v := ?_) rfl (fun _ _ _ h => h) (Or.inl ⟨by rfl, ?_⟩) ?_; rotate_left; focus (intro w hSw; (try dsimp only at hSw); go_simp; (all_goals with_reducible rfl); done)) | (refine NW.leave rfl (fun _ _ _ h => h) (by rfl) (by assumption) ?_)); try simp only [Act.put, List.setIfInBounds_toArray, List.set_cons_zero, List.set_cons_succ, List.getElem_toArray, List.getElem_cons_zero, List.getElem_cons_succ])
        refine NW.done ?_
        go_wp2_with fail
        go_ret
        exact ⟨rfl, HFIN.out _ hN⟩
    · have bf : (rejectErr p X T != 0) = true := by simp [hf]
      clear hd hf
      go_wp2_with fail
      refine (replyBegun_any _ (HBX.out _ (HL.out _ (Below.refl _ _))).env).mono ?_
      rintro e w8 ⟨rfl, hb8⟩
      have HB8 := Lib.hid hb8
      clear hb8
      go_wp2_with fail
      go_ret
      exact ⟨rfl, (HBX.out _ (HL.out _ HB8.out)).below⟩
  · have bd : (deliverErr p s q != 0) = true := by simp [hd]
    clear hd
    go_wp2_with fail
    refine (replyBegun_any _ (HBX.out _ (HL.out _ (Below.refl _ _))).env).mono ?_
    rintro e w8 ⟨rfl, hb8⟩
    have HB8 := Lib.hid hb8
    clear hb8
    go_wp2_with fail
    go_ret
    exact ⟨rfl, (HBX.out _ (HL.out _ HB8.out)).below⟩

theorem replyBack_any (p : PlanD) (p1 p2 p3 : Option Addr) (q1 q2 q3 : Nat) (s : StateD) (a1 a2 a3 : Option Addr) (c1 c2 c3 : Nat) (rows : List RowD) (q ot : Int) (w : World) (hp : PlanAt w 0 w.heap.size p1 p2 p3 p) (hps : PlanSmall p) (_ : PlanInts p) (hs : StateAt w 0 w.heap.size a1 a2 a3 rows s) (hss : StateSmall s) (hsi : StateInts s)
    (_ : s.ready.length ≤ c1 ∧ s.outs.length ≤ c2 ∧ s.takers.length ≤ c3) (_ : -9223372036854775808 ≤ q ∧ q ≤ 9223372036854775807) (hot : -9223372036854775808 ≤ ot ∧ ot ≤ 9223372036854775807) (hE : Env w) :
    Calls Tryz.prog 10 #[planV p p1 p2 p3 q1 q2 q3, stateV s a1 a2 a3 c1 c2 c3, .int .i64 q, .int .i64 ot] w fun e w' => e = .returned (.bool true) ∧ Below w.heap.size w w' :=
  replyBack_go p s q ot p1 p2 p3 a1 a2 a3 q1 q2 q3 c1 c2 c3 rows w hE hp hps hs hss hsi hot

end Go.Proofs.YtfbgmgadpjpdcaaGreatDoor
