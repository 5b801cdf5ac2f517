/-
  takers.Deliver, walked.
  the reference's DeliverOf, walked.
  A right state is small; a state that was boxed.
  takersBegun answers true: what must be in any case of takers.
  The laws TakersJoin and TakersDeliver answer true.
-/
import Derived.Test.YtapimpmpjighmaaDoorBunI
import Derived.Test.YtapimpmpjighmaaDoorBunH
import Derived.Test.YtapimpmpjighmaaDoorBunG
import Derived.Deep.RegionHeld3
set_option linter.unusedSimpArgs false
set_option linter.unusedVariables false
namespace Go.Proofs.YtapimpmpjighmaaDoor
open Go.RowKit
set_option maxRecDepth 100000

theorem deliver_next {p : PlanD} {s : StateD} {q : Int} (h : nextErr p s q ≠ 0) : deliverErr p s q = nextErr p s q ∧ deliverT p s q = 0 ∧ deliverS p s q = zeroS := by
  have e : deliverErr p s q = nextErr p s q := by unfold deliverErr; rw [if_pos h]
  exact ⟨e, by unfold deliverT; rw [e, if_neg h], by unfold deliverS; rw [e, if_neg h]⟩
theorem deliver_many {p : PlanD} {s : StateD} {q : Int} (h : nextErr p s q = 0) (ht : s.nextTag = 1048576) : deliverErr p s q = 2 ∧ deliverT p s q = 0 ∧ deliverS p s q = zeroS := by
  have e : deliverErr p s q = 2 := by unfold deliverErr; rw [if_neg (by simp [h]), if_pos ht]
  exact ⟨e, by unfold deliverT; rw [e]; rfl, by unfold deliverS; rw [e]; rfl⟩
theorem deliver_done {p : PlanD} {s : StateD} {q : Int} (h : nextErr p s q = 0) (ht : s.nextTag ≠ 1048576) : deliverErr p s q = 0 ∧ deliverT p s q = s.nextTag ∧ deliverS p s q = givenS s q (bestN s q) := by
  have e : deliverErr p s q = 0 := by unfold deliverErr; rw [if_neg (by simp [h]), if_neg ht]
  exact ⟨e, by unfold deliverT; rw [if_pos e], by unfold deliverS; rw [if_pos e]⟩
theorem cut_row (ra : Option Addr) (n rc : Nat) (hn : 1 ≤ n) (W : World) : (Instr.slice 58 (.slice ra n rc) (some (.int .i64 1)) none none).run Tryd.prog W = .ok (.slice (cutA ra rc 1 5) (n - 1) (rc - 1)) W :=
  run_cut (P := Tryd.prog) (t := 58) (size := 5) Tryd.underlying58 eg_sizeItem ra n rc 1 1 rfl hn W

set_option maxHeartbeats 8000000 in
theorem Deliver_any (p : PlanD) (s : StateD) (q : Int) (p1 p2 p3 a1 a2 a3 : Option Addr) (q1 q2 q3 c1 c2 c3 : Nat) (rows : List RowD) (w : World) (hE : Env w) (hp : PlanAt w 0 w.heap.size p1 p2 p3 p) (hps : PlanSmall p) (hs : StateAt w 0 w.heap.size a1 a2 a3 rows s) (hss : StateSmall s) (hsi : StateInts s) :
    Calls Tryd.prog 23 #[planV p p1 p2 p3 q1 q2 q3, stateV s a1 a2 a3 c1 c2 c3, .int .i64 q] w (TkPost (deliverS p s q) (deliverT p s q) (deliverErr p s q) w) := by
  have hbx := two_boxes q1 q2 q3 c1 c2 c3 hE hp hs 26 43
  unfold vState at hbx
  unfold stateV planV vState
  have htl := hss.takers
  have HPS := Lib.hid hps
  have HSS := Lib.hid hss
  have HSI := Lib.hid hsi
  clear hE hp hs hps hss hsi
  go_enter Tryd.func23, Tryd.ntmps23
  obtain ⟨⟨m0, m1, m2⟩, ⟨n0, n1, n2, n3, n4, n5, n6, n7⟩, _, _, _, _⟩ := hbx _ ((Below.refl _ _).alloc (Nat.le_refl _) (.cells #[.slice none 0 0, .slice none 0 0, .slice none 0 0, .int .i64 0, .int .i64 0, .int .i64 0, .int .i64 0, .int .i64 0] 43))
  go_wp2_with fail
  clear m0 m1 m2 n0 n1 n2 n3 n4 n5 n6 n7
  obtain ⟨V0, hV0⟩ : ∃ V0, ((w.alloc (.cells #[.slice p1 p.posts.length q1, .slice p2 p.queues.length q2, .slice p3 p.binds.length q3] 26)).alloc (.cells #[Value.slice a1 s.ready.length c1, Value.slice a2 s.outs.length c2, Value.slice a3 s.takers.length c3, Value.int IntKind.i64 s.nextSeq, Value.int IntKind.i64 s.nextTag, Value.int IntKind.i64 s.came, Value.int IntKind.i64 s.acked, Value.int IntKind.i64 s.dropped] 43)) = V0 := ⟨_, rfl⟩
  have hzV : V0.heap.size = w.heap.size + 1 + 1 := by rw [← hV0]; simp
  rw [hV0] at hbx
  have HBV := Lib.hid hbx
  obtain ⟨W0, hW0⟩ : ∃ W0, V0.alloc (.cells #[.slice none 0 0, .slice none 0 0, .slice none 0 0, .int .i64 0, .int .i64 0, .int .i64 0, .int .i64 0, .int .i64 0] 43) = W0 := ⟨_, rfl⟩
  have hbV : Below V0.heap.size V0 W0 := by rw [← hW0]; exact (Below.refl _ _).alloc (Nat.le_refl _) _
  have HZ : Hid (W0.heap.size = w.heap.size + 1 + 1 + 1) := by refine (?_ : W0.heap.size = _); rw [← hW0, ← hzV]; simp
  have HBX : Hid (∀ W, Below W0.heap.size W0 W → CkIn w p s p1 p2 p3 a1 a2 a3 q1 q2 q3 c1 c2 c3 rows W ∧ Bk W (w.heap.size + 1 + 1) 43 zeroCells) := fun W hW => by
    have k : Bk W0 (w.heap.size + 1 + 1) 43 zeroCells := by rw [← hW0]; exact Bk.new_at _ _ _ hzV.symm
    exact ⟨HBV.out W (hbV.trans (hW.mono hbV.size)), k.below hW k.lt⟩
  rw [hV0, hW0]
  clear hbx hbV hzV HBV hV0 hW0
  refine (Next_any p s q p1 p2 p3 a1 a2 a3 q1 q2 q3 c1 c2 c3 rows W0 (HBX.out _ (Below.refl _ _)).1.env (HBX.out _ (Below.refl _ _)).1.planAt HPS.out (HBX.out _ (Below.refl _ _)).1.stateAt HSS.out HSI.out).mono ?_
  rintro e W1 ⟨rfl, hb1⟩
  have HB1 := Lib.hid hb1
  clear hb1
  by_cases hc : nextErr p s q = 0
  · have b1 : (nextErr p s q != 0) = false := by simp [hc]
    obtain ⟨h0, h1, hbn⟩ := next_ok.1 hc
    obtain ⟨hR, hq0, hq1⟩ := ask_ok.1 h0
    have hnn : nextN p s q = bestN s q := by unfold nextN; rw [if_pos hc]
    have hnt : 0 ≤ s.nextTag ∧ s.nextTag ≤ 1048576 := by
      have := hR.nextTag
      unfold countB at this
      simpa [Bool.and_eq_true, decide_eq_true_eq] using this
    obtain ⟨bi, hbi, _, _⟩ := best_elig hR hbn
    obtain ⟨k, rfl⟩ : ∃ k : Nat, q = (k : Int) := ⟨q.toNat, by omega⟩
    have hkr : k < s.ready.length := by rw [hR.len]; omega
    obtain ⟨rest, hline, hrow⟩ := line_head hc
    rw [Int.toNat_natCast] at hrow
    generalize hx : headAt s (k : Int) = x at hline hrow
    have hrl := HSS.out.ready
    have hol := HSS.out.outs
    have HLN : Hid (lineAt s (k : Int) = x :: rest) := hline
    have HX := Lib.hid hx
    have HROW := Lib.hid hrow
    have HBN : Hid (bestN s (k : Int) = (bi : Int)) := hbi
    rw [hnn, HBN.out]
    have HC := Lib.hid hc
    clear h0 h1 hbn hR hq0 hq1 hnn hbi hline hrow hx hc
    obtain ⟨_, ⟨n0, n1, n2, n3, n4, n5, n6, n7⟩, _, _, _, _⟩ := (HBX.out _ HB1.out).1
    by_cases ht : s.nextTag = 1048576
    · have HR := Lib.hid (deliver_many HC.out ht)
      have b4 : (s.nextTag == 1048576) = true := by simp [ht]
      clear ht
      have hzk := (HBX.out _ HB1.out).2
      unfold zeroCells at hzk
      obtain ⟨k0, k1, k2, k3, k4, k5, k6, k7, f0, f1, f2, f3, f4, f5, f6, f7, hlt⟩ := zero_cells hzk
      clear hzk
      go_wp2_with fail
      refine bodyPost_ret (v := .tuple #[stateV zeroS none none none 0 0 0, .int .i64 0, .int .i64 2]) (by simp [results, Tryd.results23, go_sem, stateV, vState, zeroS, k0, k1, k2, k3, k4, k5, k6, k7, hlt]) rfl
        ⟨none, none, none, 0, 0, 0, [], by rw [HR.out.1, HR.out.2.1, HR.out.2.2], by rw [HR.out.2.2]; exact zero_at _ _ _, below_set8 (HBX.out _ HB1.out).1.below (by omega) _ _ _ _ _ _ _ _⟩
    · have HR := Lib.hid (deliver_done HC.out ht)
      have b4 : (s.nextTag == 1048576) = false := by simp [ht]
      have hn1 : s.nextTag + 1 ≤ 1048576 := by omega
      have hlim : (0 : Int) ≤ (k : Int) ∧ (k : Int) < (s.ready.length : Int) := by omega
      obtain ⟨hlim0, hlim1⟩ := hlim
      clear ht
      go_wp2_with fail
      refine (Own_any s a1 a2 a3 c1 c2 c3 rows W1 (HBX.out _ HB1.out).1.stateAt HSS.out).mono ?_
      rintro e W2 ⟨v1, v2, v3, rows2, rfl, ho, hb2⟩
      obtain ⟨A1, C1, rfl, _⟩ := own_slice ho.ready
      obtain ⟨A2, C2, rfl, _⟩ := own_slice ho.outs
      obtain ⟨A3, C3, rfl, hC3⟩ := own_slice ho.takers
      have HB2 := Lib.hid (HB1.out.trans (hb2.mono HB1.out.size))
      have hlo : w.heap.size + 1 + 1 < W1.heap.size := by have := HB1.out.size; have := HZ.out; omega
      have HLO := Lib.hid hlo
      have hbb2 := hb2.size
      clear n0 n1 n2 n3 n4 n5 n6 n7 hlo hb2
      have hX : Below W0.heap.size W0 (W2.alloc (.cells #[.slice A1 s.ready.length C1, .slice A2 s.outs.length C2, .slice A3 s.takers.length C3, .int .i64 s.nextSeq, .int .i64 s.nextTag, .int .i64 s.came, .int .i64 s.acked, .int .i64 s.dropped] 43)) := HB2.out.alloc HB2.out.size _
      have hxo := ho.below ((Below.refl _ W2).alloc (Nat.le_refl _) (.cells #[.slice A1 s.ready.length C1, .slice A2 s.outs.length C2, .slice A3 s.takers.length C3, .int .i64 s.nextSeq, .int .i64 s.nextTag, .int .i64 s.came, .int .i64 s.acked, .int .i64 s.dropped] 43))
      have hxd := Bk.new W2 43 #[.slice A1 s.ready.length C1, .slice A2 s.outs.length C2, .slice A3 s.takers.length C3, .int .i64 s.nextSeq, .int .i64 s.nextTag, .int .i64 s.came, .int .i64 s.acked, .int .i64 s.dropped]
      obtain ⟨n0, n1, n2, n3, n4, n5, n6, n7, _, _, _, _, _, _, _, _, hlt2⟩ := zero_cells hxd
      have HLT2 : Hid (W1.heap.size ≤ W2.heap.size) := hbb2
      have HLT : Hid (w.heap.size + 1 + 1 < W2.heap.size) := by refine (?_ : w.heap.size + 1 + 1 < W2.heap.size); have := HB2.out.size; have := HZ.out; omega
      unfold ownV
      go_upto_region 8 with fail
      clear n0 n1 n2 n3 n4 n5 n6 n7 hlt2
      obtain ⟨X, hXX⟩ : ∃ X, W2.alloc (.cells #[.slice A1 s.ready.length C1, .slice A2 s.outs.length C2, .slice A3 s.takers.length C3, .int .i64 s.nextSeq, .int .i64 s.nextTag, .int .i64 s.came, .int .i64 s.acked, .int .i64 s.dropped] 43) = X := ⟨_, rfl⟩
      rw [hXX] at hX hxo hxd
      rw [hXX]
      clear hXX ho
      obtain ⟨g, rfl⟩ := own_addr hxo.ready (by omega)
      obtain ⟨n0, n1, n2, n3, n4, n5, n6, n7, g0, g1, g2, g3, g4, g5, g6, g7, hltX⟩ := zero_cells hxd
      go_upto_region 9 with fail
      clear n0 n1 n2 n3 n4 n5 n6 n7 g0 g1 g2 g3 g4 g5 g6 g7 hltX
      have hky : KeepsT [43] X (X.setCell ⟨W2.heap.size, 4, none⟩ (.int .i64 (s.nextTag + 1))) := KeepsT.set hxd (by decide) 4 _
      have hyh := (hxo.held.kept hky)
      have hyd : Bk (X.setCell ⟨W2.heap.size, 4, none⟩ (.int .i64 (s.nextTag + 1))) W2.heap.size 43 #[.slice (some ⟨g, 0, none⟩) s.ready.length C1, .slice A2 s.outs.length C2, .slice A3 s.takers.length C3, .int .i64 s.nextSeq, .int .i64 (s.nextTag + 1), .int .i64 s.came, .int .i64 s.acked, .int .i64 s.dropped] := hxd.set_ 4 _
      have hyb : Below W0.heap.size W0 (X.setCell ⟨W2.heap.size, 4, none⟩ (.int .i64 (s.nextTag + 1))) := hX.setCell (p := ⟨W2.heap.size, 4, none⟩) (by show W0.heap.size ≤ W2.heap.size; exact HB2.out.size) _
      obtain ⟨Y, hYY⟩ : ∃ Y, X.setCell ⟨W2.heap.size, 4, none⟩ (.int .i64 (s.nextTag + 1)) = Y := ⟨_, rfl⟩
      rw [hYY] at hyh hyd hyb
      rw [hYY]
      clear hYY hxo hxd hX hky
      obtain ⟨ra, rc, hrc, hsl, hcell⟩ := hyh.rowAt rfl HROW.out
      obtain ⟨rb, ro, rfl, hlrb, hitem⟩ := hsl.head
      obtain ⟨nl, hnl⟩ : ∃ nl, (x :: rest).length = nl := ⟨_, rfl⟩
      have hnl1 : 1 ≤ nl := by rw [← hnl]; exact Nat.succ_le_succ (Nat.zero_le _)
      rw [hnl] at hcell hrc
      have hnl0 : 0 < nl := hnl1
      have hcut := cut_row (some ⟨rb, ro, none⟩) nl rc hnl1
      have HTAIL : Hid (SlT Y W1.heap.size 53 (cutA (some ⟨rb, ro, none⟩) rc 1 5) (rest.flatMap vItem) ∧ rest.length = nl - 1 ∧ rest.length ≤ rc - 1) := by
        have hl2 : ((x :: rest).flatMap vItem).length = nl * 5 := by rw [flat_len vItem_len, hnl]
        have h := hsl.cut (k := 1) hl2 hnl1 hrc
        have hd : ((x :: rest).flatMap vItem).drop (1 * 5) = rest.flatMap vItem := by rw [List.flatMap_cons]; rfl
        rw [hd] at h
        have hl : rest.length = nl - 1 := by rw [← hnl]; rfl
        exact ⟨h, hl, by omega⟩
      have HNL := Lib.hid hnl
      clear hsl hnl
      have KS : Hid (∀ W, KeepsT [55, 43] Y W → W.cell? ⟨W2.heap.size, 0, none⟩ = some (.slice (some ⟨g, 0, none⟩) s.ready.length C1) → (W.cell? ⟨W2.heap.size, 0, none⟩ = some (.slice (some ⟨g, 0, none⟩) s.ready.length C1) ∧ W.cell? ⟨g, k, none⟩ = some (.slice (some ⟨rb, ro, none⟩) nl rc) ∧ W.cell? ⟨rb, ro, none⟩ = some (.int .i64 x.seq) ∧ W.cell? ⟨rb, ro + 1, none⟩ = some (.string x.key) ∧ W.cell? ⟨rb, ro + 2, none⟩ = some (.string x.body) ∧ W.cell? ⟨rb, ro + 3, none⟩ = some (.bool x.again) ∧ W.cell? ⟨rb, ro + 4, none⟩ = some (.int .i64 x.deaths))) := fun W hW h0 => ⟨h0, (hcell _ W (by decide) hW).1, hitem _ W (by decide) hW⟩
      have HCELL : Hid (∀ W, KeepsT [55, 43] Y W → W.cell? ⟨g, k, none⟩ = some (.slice (some ⟨rb, ro, none⟩) nl rc) ∧ W.frozen? ⟨g, k, none⟩ = false ∧ g < W.heap.size) := fun W hW => hcell _ W (by decide) hW
      clear hcell hitem
      have k0 := KS.out Y.drew (KeepsT.drew _ Y) (hyd.cell 0)
      have k1 := KS.out (Y.drew.alloc (.cells #[.int .i64 s.nextTag, .int .i64 (bi : Int), .int .i64 (k : Int), .int .i64 x.seq, .string x.key, .string x.body, .bool x.again, .int .i64 x.deaths] 55)) ((KeepsT.drew _ Y).trans (KeepsT.alloc _ Y.drew _)) ((Bk.alloc (w := Y.drew) hyd _).cell 0)
      have t0 : Y.drew.cell? ⟨W2.heap.size, 1, none⟩ = some (.slice A2 s.outs.length C2) := hyd.cell 1
      have t1 : Y.cell? ⟨W2.heap.size, 1, none⟩ = some (.slice A2 s.outs.length C2) := hyd.cell 1
      have t2 : (Y.drew.alloc (.cells #[.int .i64 s.nextTag, .int .i64 (bi : Int), .int .i64 (k : Int), .int .i64 x.seq, .string x.key, .string x.body, .bool x.again, .int .i64 x.deaths] 55)).cell? ⟨W2.heap.size, 1, none⟩ = some (.slice A2 s.outs.length C2) := (Bk.alloc (w := Y.drew) hyd _).cell 1
      have t3 : (Y.alloc (.cells #[.int .i64 s.nextTag, .int .i64 (bi : Int), .int .i64 (k : Int), .int .i64 x.seq, .string x.key, .string x.body, .bool x.again, .int .i64 x.deaths] 55)).cell? ⟨W2.heap.size, 1, none⟩ = some (.slice A2 s.outs.length C2) := (Bk.alloc hyd _).cell 1
      have hbase : W1.heap.size ≤ Y.heap.size := by have h1 := hyd.lt; have h2 := HLT2.out; omega
      have HOW : Hid ((Y.drew.alloc (.cells #[.int .i64 s.nextTag, .int .i64 (bi : Int), .int .i64 (k : Int), .int .i64 x.seq, .string x.key, .string x.body, .bool x.again, .int .i64 x.deaths] 55)).ownsRow W1.heap.size 55 8 (.slice A2 s.outs.length C2) s.outs.length (s.outs.flatMap vOut) ∧ W1.heap.size ≤ (Y.drew.alloc (.cells #[.int .i64 s.nextTag, .int .i64 (bi : Int), .int .i64 (k : Int), .int .i64 x.seq, .string x.key, .string x.body, .bool x.again, .int .i64 x.deaths] 55)).heap.size) := by
        have h : Y.drew.ownsRow W1.heap.size 55 8 (.slice A2 s.outs.length C2) s.outs.length (s.outs.flatMap vOut) := hyh.outs.drew
        exact ⟨h.alloc _, Nat.le_trans hbase (by simp)⟩
      have HYH := Lib.hid hyh
      have HYD := Lib.hid hyd
      have HYB := Lib.hid hyb
      clear hyh hyd hyb hbase
      refine wp_region_held_drew (S := (fun W => (W.cell? ⟨W2.heap.size, 0, none⟩ = some (.slice (some ⟨g, 0, none⟩) s.ready.length C1) ∧ W.cell? ⟨g, k, none⟩ = some (.slice (some ⟨rb, ro, none⟩) nl rc) ∧ W.cell? ⟨rb, ro, none⟩ = some (.int .i64 x.seq) ∧ W.cell? ⟨rb, ro + 1, none⟩ = some (.string x.key) ∧ W.cell? ⟨rb, ro + 2, none⟩ = some (.string x.body) ∧ W.cell? ⟨rb, ro + 3, none⟩ = some (.bool x.again) ∧ W.cell? ⟨rb, ro + 4, none⟩ = some (.int .i64 x.deaths)))) (by kernel_rfl) (by first | assumption | exact k0) (fun hHeld => ?_)
      first | (refine wpAnyH_take (i := 0) (v := ?_) rfl (by kernel_rfl) (by kernel_rfl) (by kernel_rfl) (fun _ _ _ h => h) (Or.inl ⟨by rfl, ?_⟩) (by assumption) ?_; rotate_left; focus (intro w hSw; (try dsimp only at hSw); go_simp; (all_goals with_reducible rfl); done)) | (refine wpAnyH_take (i := 0) rfl (by kernel_rfl) (by kernel_rfl) (by kernel_rfl) (fun _ _ _ h => h) (Or.inr ⟨by rfl, rfl⟩) (by assumption) ?_) | fail "op 0"
      try simp only [Act.put, List.setIfInBounds_toArray, List.set_cons_zero, List.set_cons_succ, List.getElem_toArray, List.getElem_cons_zero]
      first | (refine wpAnyH_take (i := 2) (v := ?_) rfl (by kernel_rfl) (by kernel_rfl) (by kernel_rfl) (fun _ _ _ h => h) (Or.inl ⟨by rfl, ?_⟩) (by assumption) ?_; rotate_left; focus (intro w hSw; (try dsimp only at hSw); go_simp; (all_goals with_reducible rfl); done)) | (refine wpAnyH_take (i := 2) rfl (by kernel_rfl) (by kernel_rfl) (by kernel_rfl) (fun _ _ _ h => h) (Or.inr ⟨by rfl, rfl⟩) (by assumption) ?_) | fail "op 2"
      try simp only [Act.put, List.setIfInBounds_toArray, List.set_cons_zero, List.set_cons_succ, List.getElem_toArray, List.getElem_cons_zero, List.getElem_cons_succ]
      first | (refine wpAnyH_take (i := 3) (v := ?_) rfl (by kernel_rfl) (by kernel_rfl) (by kernel_rfl) (fun _ _ _ h => h) (Or.inl ⟨by rfl, ?_⟩) (by assumption) ?_; rotate_left; focus (intro w hSw; (try dsimp only at hSw); go_simp; (all_goals with_reducible rfl); done)) | (refine wpAnyH_take (i := 3) rfl (by kernel_rfl) (by kernel_rfl) (by kernel_rfl) (fun _ _ _ h => h) (Or.inr ⟨by rfl, rfl⟩) (by assumption) ?_) | fail "op 3"
      try simp only [Act.put, List.setIfInBounds_toArray, List.set_cons_zero, List.set_cons_succ, List.getElem_toArray, List.getElem_cons_zero, List.getElem_cons_succ]
      first | (refine wpAnyH_take (i := 4) (v := ?_) rfl (by kernel_rfl) (by kernel_rfl) (by kernel_rfl) (fun _ _ _ h => h) (Or.inl ⟨by rfl, ?_⟩) (by assumption) ?_; rotate_left; focus (intro w hSw; (try dsimp only at hSw); go_simp; (all_goals with_reducible rfl); done)) | (refine wpAnyH_take (i := 4) rfl (by kernel_rfl) (by kernel_rfl) (by kernel_rfl) (fun _ _ _ h => h) (Or.inr ⟨by rfl, rfl⟩) (by assumption) ?_) | fail "op 4"
      try simp only [Act.put, List.setIfInBounds_toArray, List.set_cons_zero, List.set_cons_succ, List.getElem_toArray, List.getElem_cons_zero, List.getElem_cons_succ]
      first | (refine wpAnyH_take (i := 5) (v := ?_) rfl (by kernel_rfl) (by kernel_rfl) (by kernel_rfl) (fun _ _ _ h => h) (Or.inl ⟨by rfl, ?_⟩) (by assumption) ?_; rotate_left; focus (intro w hSw; (try dsimp only at hSw); go_simp; (all_goals with_reducible rfl); done)) | (refine wpAnyH_take (i := 5) rfl (by kernel_rfl) (by kernel_rfl) (by kernel_rfl) (fun _ _ _ h => h) (Or.inr ⟨by rfl, rfl⟩) (by assumption) ?_) | fail "op 5"
      try simp only [Act.put, List.setIfInBounds_toArray, List.set_cons_zero, List.set_cons_succ, List.getElem_toArray, List.getElem_cons_zero, List.getElem_cons_succ]
      first | (refine wpAnyH_take (i := 6) (v := ?_) rfl (by kernel_rfl) (by kernel_rfl) (by kernel_rfl) (fun _ _ _ h => h) (Or.inl ⟨by rfl, ?_⟩) (by assumption) ?_; rotate_left; focus (intro w hSw; (try dsimp only at hSw); go_simp; (all_goals with_reducible rfl); done)) | (refine wpAnyH_take (i := 6) rfl (by kernel_rfl) (by kernel_rfl) (by kernel_rfl) (fun _ _ _ h => h) (Or.inr ⟨by rfl, rfl⟩) (by assumption) ?_) | fail "op 6"
      try simp only [Act.put, List.setIfInBounds_toArray, List.set_cons_zero, List.set_cons_succ, List.getElem_toArray, List.getElem_cons_zero, List.getElem_cons_succ]
      first | (refine wpAnyH_take (i := 7) (v := ?_) rfl (by kernel_rfl) (by kernel_rfl) (by kernel_rfl) (fun _ _ _ h => h) (Or.inl ⟨by rfl, ?_⟩) (by assumption) ?_; rotate_left; focus (intro w hSw; (try dsimp only at hSw); go_simp; (all_goals with_reducible rfl); done)) | (refine wpAnyH_take (i := 7) rfl (by kernel_rfl) (by kernel_rfl) (by kernel_rfl) (fun _ _ _ h => h) (Or.inr ⟨by rfl, rfl⟩) (by assumption) ?_) | fail "op 7"
      try simp only [Act.put, List.setIfInBounds_toArray, List.set_cons_zero, List.set_cons_succ, List.getElem_toArray, List.getElem_cons_zero, List.getElem_cons_succ]
      first | (refine wpAnyH_take (i := 8) (v := ?_) rfl (by kernel_rfl) (by kernel_rfl) (by kernel_rfl) (fun _ _ _ h => h) (Or.inl ⟨by rfl, ?_⟩) (by assumption) ?_; rotate_left; focus (intro w hSw; (try dsimp only at hSw); go_simp; (all_goals with_reducible rfl); done)) | (refine wpAnyH_take (i := 8) rfl (by kernel_rfl) (by kernel_rfl) (by kernel_rfl) (fun _ _ _ h => h) (Or.inr ⟨by rfl, rfl⟩) (by assumption) ?_) | fail "op 8"
      try simp only [Act.put, List.setIfInBounds_toArray, List.set_cons_zero, List.set_cons_succ, List.getElem_toArray, List.getElem_cons_zero, List.getElem_cons_succ]
      first | (refine wpAnyH_take (i := 9) (v := ?_) rfl (by kernel_rfl) (by kernel_rfl) (by kernel_rfl) (fun _ _ _ h => h) (Or.inl ⟨by rfl, ?_⟩) (by assumption) ?_; rotate_left; focus (intro w hSw; (try dsimp only at hSw); go_simp; (all_goals with_reducible rfl); done)) | (refine wpAnyH_take (i := 9) rfl (by kernel_rfl) (by kernel_rfl) (by kernel_rfl) (fun _ _ _ h => h) (Or.inr ⟨by rfl, rfl⟩) (by assumption) ?_) | fail "op 9"
      try simp only [Act.put, List.setIfInBounds_toArray, List.set_cons_zero, List.set_cons_succ, List.getElem_toArray, List.getElem_cons_zero, List.getElem_cons_succ]
      first | (refine wpAnyH_take (i := 10) (v := ?_) rfl (by kernel_rfl) (by kernel_rfl) (by kernel_rfl) (fun _ _ _ h => h) (Or.inl ⟨by rfl, ?_⟩) (by assumption) ?_; rotate_left; focus (intro w hSw; (try dsimp only at hSw); go_simp; (all_goals with_reducible rfl); done)) | (refine wpAnyH_take (i := 10) rfl (by kernel_rfl) (by kernel_rfl) (by kernel_rfl) (fun _ _ _ h => h) (Or.inr ⟨by rfl, rfl⟩) (by assumption) ?_) | fail "op 10"
      try simp only [Act.put, List.setIfInBounds_toArray, List.set_cons_zero, List.set_cons_succ, List.getElem_toArray, List.getElem_cons_zero, List.getElem_cons_succ]
      first | (refine wpAnyH_take (i := 11) (v := ?_) rfl (by kernel_rfl) (by kernel_rfl) (by kernel_rfl) (fun _ _ _ h => h) (Or.inl ⟨by rfl, ?_⟩) (by assumption) ?_; rotate_left; focus (intro w hSw; (try dsimp only at hSw); go_simp; (all_goals with_reducible rfl); done)) | (refine wpAnyH_take (i := 11) rfl (by kernel_rfl) (by kernel_rfl) (by kernel_rfl) (fun _ _ _ h => h) (Or.inr ⟨by rfl, rfl⟩) (by assumption) ?_) | fail "op 11"
      try simp only [Act.put, List.setIfInBounds_toArray, List.set_cons_zero, List.set_cons_succ, List.getElem_toArray, List.getElem_cons_zero, List.getElem_cons_succ]
      first | (refine wpAnyH_take (i := 12) (v := ?_) rfl (by kernel_rfl) (by kernel_rfl) (by kernel_rfl) (fun _ _ _ h => h) (Or.inl ⟨by rfl, ?_⟩) (by assumption) ?_; rotate_left; focus (intro w hSw; (try dsimp only at hSw); go_simp; (all_goals with_reducible rfl); done)) | (refine wpAnyH_take (i := 12) rfl (by kernel_rfl) (by kernel_rfl) (by kernel_rfl) (fun _ _ _ h => h) (Or.inr ⟨by rfl, rfl⟩) (by assumption) ?_) | fail "op 12"
      try simp only [Act.put, List.setIfInBounds_toArray, List.set_cons_zero, List.set_cons_succ, List.getElem_toArray, List.getElem_cons_zero, List.getElem_cons_succ]
      refine wpAnyH_ready (rs := [1, 13]) (by kernel_rfl) (by simp) ?_
      refine AllReadyH.cons rfl (fun K hK => ?_) (AllReadyH.cons rfl (fun K hK => ?_) AllReadyH.nil)
      · go_simp
        refine hK.out _ _ (by first | assumption | exact k0 | exact k1) (fun hHeld => ?_)
        clear hK K
        try simp only [Act.put, List.setIfInBounds_toArray, List.set_cons_zero, List.set_cons_succ, List.getElem_toArray, List.getElem_cons_zero, List.getElem_cons_succ]
        refine wpAnyH_ready (rs := [13]) (by kernel_rfl) (by simp) ?_
        refine AllReadyH.cons rfl (fun K hK => ?_) AllReadyH.nil
        go_simp
        refine hK.out _ _ (by first | assumption | exact k0 | exact k1) (fun hHeld => ?_)
        clear hK K
        try simp only [Act.put, List.setIfInBounds_toArray, List.set_cons_zero, List.set_cons_succ, List.getElem_toArray, List.getElem_cons_zero, List.getElem_cons_succ]
        refine wpAnyH_ready (rs := [14]) (by kernel_rfl) (by simp) ?_
        refine AllReadyH.cons rfl (fun K hK => ?_) AllReadyH.nil
        rw [if_pos (by rfl)]
        refine rowO_wp (.tmp 36) (.tmp 48) rfl rfl HOW.out.1 rfl HOW.out.2 (m := 1) (news := vOut (⟨s.nextTag, (bi : Int), (k : Int), x⟩ : OutD)) rfl (by omega) (Sl.new Y.drew (vOut (⟨s.nextTag, (bi : Int), (k : Int), x⟩ : OutD)) 55 (Y.drew.heap.size + 1) (by omega)) (outs_one _) ?_
        rintro v4 w4 ho4 hg4
        obtain ⟨A4, C4, rfl, _⟩ := own_slice ho4
        have hk4 : KeepsT [55] (Y.drew.alloc (.cells #[.int .i64 s.nextTag, .int .i64 (bi : Int), .int .i64 (k : Int), .int .i64 x.seq, .string x.key, .string x.body, .bool x.again, .int .i64 x.deaths] 55)) w4 := KeepsT.grown HOW.out.1 hg4 (by decide)
        have hk5 : KeepsT [55] Y w4 := (KeepsT.trans (KeepsT.drew _ Y) (KeepsT.alloc _ Y.drew _)).trans hk4
        have hd4 : Bk w4 W2.heap.size 43 #[.slice (some ⟨g, 0, none⟩) s.ready.length C1, .slice A2 s.outs.length C2, .slice A3 s.takers.length C3, .int .i64 s.nextSeq, .int .i64 (s.nextTag + 1), .int .i64 s.came, .int .i64 s.acked, .int .i64 s.dropped] := hk5 _ _ _ (by decide) HYD.out
        have hk6 : KeepsT [43] w4 (w4.setCell ⟨W2.heap.size, 1, none⟩ (.slice A4 (s.outs.length + 1) C4)) := KeepsT.set hd4 (by decide) 1 _
        have hk7 : KeepsT [55, 43] Y (w4.setCell ⟨W2.heap.size, 1, none⟩ (.slice A4 (s.outs.length + 1) C4)) := (hk5.more (by decide)).trans (hk6.more (by decide))
        have hd6 : Bk (w4.setCell ⟨W2.heap.size, 1, none⟩ (.slice A4 (s.outs.length + 1) C4)) W2.heap.size 43 #[.slice (some ⟨g, 0, none⟩) s.ready.length C1, .slice A4 (s.outs.length + 1) C4, .slice A3 s.takers.length C3, .int .i64 s.nextSeq, .int .i64 (s.nextTag + 1), .int .i64 s.came, .int .i64 s.acked, .int .i64 s.dropped] := hd4.set_ 1 _
        have k4 := KS.out w4 (hk5.more (by decide)) (hd4.cell 0)
        have k6 := KS.out _ hk7 (hd6.cell 0)
        have c4 := hd4.cell 1
        have f4 := hd4.frozen 1
        have l4 := hd4.lt
        have HW4 := Lib.hid (And.intro ho4 (And.intro hg4 (And.intro hk5 (And.intro hk6 (And.intro hd6 hk7)))))
        clear ho4 hg4 hk4 hk5 hd4 hk6 hk7 hd6
        refine hK.out _ _ (by first | assumption | exact k0 | exact k1 | exact k4 | exact k6) (fun hHeld => ?_)
        clear hK K
        try simp only [Act.put, List.setIfInBounds_toArray, List.set_cons_zero, List.set_cons_succ, List.getElem_toArray, List.getElem_cons_zero, List.getElem_cons_succ]
        refine wpAnyH_take (i := 15) (v := ?_) rfl (by kernel_rfl) (by kernel_rfl) (by kernel_rfl) (fun _ _ _ h => h) (Or.inl ⟨by rfl, ?_⟩) hHeld ?_
        rotate_left
        focus (intro w hSw; (try dsimp only at hSw); go_simp; (all_goals with_reducible rfl); done)
        try simp only [Act.put, List.setIfInBounds_toArray, List.set_cons_zero, List.set_cons_succ, List.getElem_toArray, List.getElem_cons_zero, List.getElem_cons_succ]
        refine wpAnyH_ready (rs := [16]) (by kernel_rfl) (by simp) ?_
        refine AllReadyH.cons rfl (fun K hK => ?_) AllReadyH.nil
        go_simp
        refine hK.out _ _ (by first | assumption | exact k0 | exact k1 | exact k4 | exact k6) (fun hHeld => ?_)
        clear hK K
        try simp only [Act.put, List.setIfInBounds_toArray, List.set_cons_zero, List.set_cons_succ, List.getElem_toArray, List.getElem_cons_zero, List.getElem_cons_succ]
        refine wpAnyH_done (by kernel_rfl) ?_ _
        clear k0 k1 k4 k6 t0 t1 t2 t3 c4 f4 l4 hHeld
        go_wp2_with fail
        have HZ9 : Hid (HeldAt (w4.setCell ⟨W2.heap.size, 1, none⟩ (.slice A4 (s.outs.length + 1) C4)) W1.heap.size (.slice (some ⟨g, 0, none⟩) s.ready.length C1) (.slice A4 (s.outs.length + 1) C4) (.slice A3 s.takers.length C3) rows2 { s with outs := s.outs ++ [(⟨s.nextTag, (bi : Int), (k : Int), x⟩ : OutD)] } ∧ Bk (w4.setCell ⟨W2.heap.size, 1, none⟩ (.slice A4 (s.outs.length + 1) C4)) W2.heap.size 43 #[.slice (some ⟨g, 0, none⟩) s.ready.length C1, .slice A4 (s.outs.length + 1) C4, .slice A3 s.takers.length C3, .int .i64 s.nextSeq, .int .i64 (s.nextTag + 1), .int .i64 s.came, .int .i64 s.acked, .int .i64 s.dropped] ∧ Below W0.heap.size W0 (w4.setCell ⟨W2.heap.size, 1, none⟩ (.slice A4 (s.outs.length + 1) C4)) ∧ KeepsT [55, 43] Y (w4.setCell ⟨W2.heap.size, 1, none⟩ (.slice A4 (s.outs.length + 1) C4))) := by
          obtain ⟨ho4, hg4, hk5, hk6, hd6, hk7⟩ := HW4.out
          refine ⟨(HYH.out.outsTo (l := s.outs ++ [(⟨s.nextTag, (bi : Int), (k : Int), x⟩ : OutD)]) hk5 ?_).kept hk6, hd6, (below_own HOW.out.1 hg4 (HYB.out.drew.alloc HYB.out.size _) HB1.out.size (Nat.le_trans HYB.out.size (by simp))).setCell (p := ⟨W2.heap.size, 1, none⟩) (by show W0.heap.size ≤ W2.heap.size; exact HB2.out.size) _, hk7⟩
          rw [List.length_append, List.flatMap_append]
          exact ho4
        obtain ⟨Z, hZZ⟩ : ∃ Z, w4.setCell ⟨W2.heap.size, 1, none⟩ (.slice A4 (s.outs.length + 1) C4) = Z := ⟨_, rfl⟩
        rw [hZZ] at HZ9
        rw [hZZ]
        clear hZZ HW4
        have e0 : Z.drew.cell? ⟨W2.heap.size, 0, none⟩ = some (.slice (some ⟨g, 0, none⟩) s.ready.length C1) := HZ9.out.2.1.cell 0
        have z0 : Z.drew.cell? ⟨g, k, none⟩ = some (.slice (some ⟨rb, ro, none⟩) nl rc) := (HCELL.out Z HZ9.out.2.2.2).1
        have z1 : Z.cell? ⟨g, k, none⟩ = some (.slice (some ⟨rb, ro, none⟩) nl rc) := (HCELL.out Z HZ9.out.2.2.2).1
        have z2 : Z.frozen? ⟨g, k, none⟩ = false := (HCELL.out Z HZ9.out.2.2.2).2.1
        have z3 : g < Z.heap.size := (HCELL.out Z HZ9.out.2.2.2).2.2
        have HZR : Hid (HeldAt ((Z.setCell ⟨g, k, none⟩ (.slice (cutA (some ⟨rb, ro, none⟩) rc 1 5) (nl - 1) (rc - 1))).drew) W1.heap.size (.slice (some ⟨g, 0, none⟩) s.ready.length C1) (.slice A4 (s.outs.length + 1) C4) (.slice A3 s.takers.length C3) (rows2.set k ⟨cutA (some ⟨rb, ro, none⟩) rc 1 5, rc - 1, rest⟩) ⟨s.ready.set k rest, s.outs ++ [(⟨s.nextTag, (bi : Int), (k : Int), x⟩ : OutD)], s.takers, s.nextSeq, s.nextTag + 1, s.came, s.acked, s.dropped⟩ ∧ Bk ((Z.setCell ⟨g, k, none⟩ (.slice (cutA (some ⟨rb, ro, none⟩) rc 1 5) (nl - 1) (rc - 1))).drew) W2.heap.size 43 #[.slice (some ⟨g, 0, none⟩) s.ready.length C1, .slice A4 (s.outs.length + 1) C4, .slice A3 s.takers.length C3, .int .i64 s.nextSeq, .int .i64 (s.nextTag + 1), .int .i64 s.came, .int .i64 s.acked, .int .i64 s.dropped] ∧ Below W0.heap.size W0 ((Z.setCell ⟨g, k, none⟩ (.slice (cutA (some ⟨rb, ro, none⟩) rc 1 5) (nl - 1) (rc - 1))).drew)) := by
          obtain ⟨h1, h2, h3, h4⟩ := HZ9.out
          obtain ⟨t1, t2, t3⟩ := HTAIL.out
          have hd := (h1.kept (KeepsT.drew [] Z)).rowSet (k := k) rfl (cutA (some ⟨rb, ro, none⟩) rc 1 5) (rc - 1) rest (t1.keep (h4.trans (KeepsT.drew _ Z)) (by decide)) t3
          rw [t2] at hd
          refine ⟨hd.1.nums _ _ _ _ _, hd.2 _ _ _ (by decide) h2, h3.drew.setCell (p := ⟨g, k, none⟩) ?_ _⟩
          have := (h1.ready.lt g rfl).1
          show W0.heap.size ≤ g
          exact Nat.le_trans HB1.out.size this
        have e1 : ((Z.setCell ⟨g, k, none⟩ (.slice (cutA (some ⟨rb, ro, none⟩) rc 1 5) (nl - 1) (rc - 1))).drew).cell? ⟨W2.heap.size, 0, none⟩ = some (.slice (some ⟨g, 0, none⟩) s.ready.length C1) := HZR.out.2.1.cell 0
        refine wp_region_held_drew (S := (fun W => W.cell? ⟨W2.heap.size, 0, none⟩ = some (.slice (some ⟨g, 0, none⟩) s.ready.length C1))) (by kernel_rfl) (by first | assumption | exact e0 | exact e1) (fun hHeld => ?_)
        first | (refine wpAnyH_take (i := 0) (v := ?_) rfl (by kernel_rfl) (by kernel_rfl) (by kernel_rfl) (fun _ _ _ h => h) (Or.inl ⟨by rfl, ?_⟩) (by assumption) ?_; rotate_left; focus (intro w hSw; (try dsimp only at hSw); go_simp; (all_goals with_reducible rfl); done)) | (refine wpAnyH_take (i := 0) rfl (by kernel_rfl) (by kernel_rfl) (by kernel_rfl) (fun _ _ _ h => h) (Or.inr ⟨by rfl, rfl⟩) (by assumption) ?_) | fail "op 0"
        try simp only [Act.put, List.setIfInBounds_toArray, List.set_cons_zero, List.set_cons_succ, List.getElem_toArray, List.getElem_cons_zero]
        first | (refine wpAnyH_take (i := 1) (v := ?_) rfl (by kernel_rfl) (by kernel_rfl) (by kernel_rfl) (fun _ _ _ h => h) (Or.inl ⟨by rfl, ?_⟩) (by assumption) ?_; rotate_left; focus (intro w hSw; (try dsimp only at hSw); go_simp; (all_goals with_reducible rfl); done)) | (refine wpAnyH_take (i := 1) rfl (by kernel_rfl) (by kernel_rfl) (by kernel_rfl) (fun _ _ _ h => h) (Or.inr ⟨by rfl, rfl⟩) (by assumption) ?_) | fail "op 1"
        try simp only [Act.put, List.setIfInBounds_toArray, List.set_cons_zero, List.set_cons_succ, List.getElem_toArray, List.getElem_cons_zero, List.getElem_cons_succ]
        first | (refine wpAnyH_take (i := 2) (v := ?_) rfl (by kernel_rfl) (by kernel_rfl) (by kernel_rfl) (fun _ _ _ h => h) (Or.inl ⟨by rfl, ?_⟩) (by assumption) ?_; rotate_left; focus (intro w hSw; (try dsimp only at hSw); go_simp; (all_goals with_reducible rfl); done)) | (refine wpAnyH_take (i := 2) rfl (by kernel_rfl) (by kernel_rfl) (by kernel_rfl) (fun _ _ _ h => h) (Or.inr ⟨by rfl, rfl⟩) (by assumption) ?_) | fail "op 2"
        try simp only [Act.put, List.setIfInBounds_toArray, List.set_cons_zero, List.set_cons_succ, List.getElem_toArray, List.getElem_cons_zero, List.getElem_cons_succ]
        first | (refine wpAnyH_take (i := 3) (v := ?_) rfl (by kernel_rfl) (by kernel_rfl) (by kernel_rfl) (fun _ _ _ h => h) (Or.inl ⟨by rfl, ?_⟩) (by assumption) ?_; rotate_left; focus (intro w hSw; (try dsimp only at hSw); go_simp; (all_goals with_reducible rfl); done)) | (refine wpAnyH_take (i := 3) rfl (by kernel_rfl) (by kernel_rfl) (by kernel_rfl) (fun _ _ _ h => h) (Or.inr ⟨by rfl, rfl⟩) (by assumption) ?_) | fail "op 3"
        try simp only [Act.put, List.setIfInBounds_toArray, List.set_cons_zero, List.set_cons_succ, List.getElem_toArray, List.getElem_cons_zero, List.getElem_cons_succ]
        first | (refine wpAnyH_take (i := 4) (v := ?_) rfl (by kernel_rfl) (by kernel_rfl) (by kernel_rfl) (fun _ _ _ h => h) (Or.inl ⟨by rfl, ?_⟩) (by assumption) ?_; rotate_left; focus (intro w hSw; (try dsimp only at hSw); go_simp; (all_goals with_reducible rfl); done)) | (refine wpAnyH_take (i := 4) rfl (by kernel_rfl) (by kernel_rfl) (by kernel_rfl) (fun _ _ _ h => h) (Or.inr ⟨by rfl, rfl⟩) (by assumption) ?_) | fail "op 4"
        try simp only [Act.put, List.setIfInBounds_toArray, List.set_cons_zero, List.set_cons_succ, List.getElem_toArray, List.getElem_cons_zero, List.getElem_cons_succ]
        first | (refine wpAnyH_take (i := 5) (v := ?_) rfl (by kernel_rfl) (by kernel_rfl) (by kernel_rfl) (fun _ _ _ h => h) (Or.inl ⟨by rfl, ?_⟩) (by assumption) ?_; rotate_left; focus (intro w hSw; (try dsimp only at hSw); go_simp; (all_goals with_reducible rfl); done)) | (refine wpAnyH_take (i := 5) rfl (by kernel_rfl) (by kernel_rfl) (by kernel_rfl) (fun _ _ _ h => h) (Or.inr ⟨by rfl, rfl⟩) (by assumption) ?_) | fail "op 5"
        try simp only [Act.put, List.setIfInBounds_toArray, List.set_cons_zero, List.set_cons_succ, List.getElem_toArray, List.getElem_cons_zero, List.getElem_cons_succ]
        first | (refine wpAnyH_take (i := 6) (v := ?_) rfl (by kernel_rfl) (by kernel_rfl) (by kernel_rfl) (fun _ _ _ h => h) (Or.inl ⟨by rfl, ?_⟩) (by assumption) ?_; rotate_left; focus (intro w hSw; (try dsimp only at hSw); go_simp; (all_goals with_reducible rfl); done)) | (refine wpAnyH_take (i := 6) rfl (by kernel_rfl) (by kernel_rfl) (by kernel_rfl) (fun _ _ _ h => h) (Or.inr ⟨by rfl, rfl⟩) (by assumption) ?_) | fail "op 6"
        try simp only [Act.put, List.setIfInBounds_toArray, List.set_cons_zero, List.set_cons_succ, List.getElem_toArray, List.getElem_cons_zero, List.getElem_cons_succ]
        (refine wpAnyH_ready (rs := [7]) (by kernel_rfl) (by simp) ?_; refine AllReadyH.cons rfl (fun K hK => ?_) AllReadyH.nil; go_simp; refine hK.out _ _ (by first | assumption | exact e0 | exact e1) (fun hHeld => ?_); clear hK K)
        try simp only [Act.put, List.setIfInBounds_toArray, List.set_cons_zero, List.set_cons_succ, List.getElem_toArray, List.getElem_cons_zero, List.getElem_cons_succ]
        first | (refine wpAnyH_take (i := 8) (v := ?_) rfl (by kernel_rfl) (by kernel_rfl) (by kernel_rfl) (fun _ _ _ h => h) (Or.inl ⟨by rfl, ?_⟩) (by assumption) ?_; rotate_left; focus (intro w hSw; (try dsimp only at hSw); go_simp; (all_goals with_reducible rfl); done)) | (refine wpAnyH_take (i := 8) rfl (by kernel_rfl) (by kernel_rfl) (by kernel_rfl) (fun _ _ _ h => h) (Or.inr ⟨by rfl, rfl⟩) (by assumption) ?_) | fail "op 8"
        try simp only [Act.put, List.setIfInBounds_toArray, List.set_cons_zero, List.set_cons_succ, List.getElem_toArray, List.getElem_cons_zero, List.getElem_cons_succ]
        first | (refine wpAnyH_take (i := 9) (v := ?_) rfl (by kernel_rfl) (by kernel_rfl) (by kernel_rfl) (fun _ _ _ h => h) (Or.inl ⟨by rfl, ?_⟩) (by assumption) ?_; rotate_left; focus (intro w hSw; (try dsimp only at hSw); go_simp; (all_goals with_reducible rfl); done)) | (refine wpAnyH_take (i := 9) rfl (by kernel_rfl) (by kernel_rfl) (by kernel_rfl) (fun _ _ _ h => h) (Or.inr ⟨by rfl, rfl⟩) (by assumption) ?_) | fail "op 9"
        try simp only [Act.put, List.setIfInBounds_toArray, List.set_cons_zero, List.set_cons_succ, List.getElem_toArray, List.getElem_cons_zero, List.getElem_cons_succ]
        (refine wpAnyH_ready (rs := [10]) (by kernel_rfl) (by simp) ?_; refine AllReadyH.cons rfl (fun K hK => ?_) AllReadyH.nil; go_simp; refine hK.out _ _ (by first | assumption | exact e0 | exact e1) (fun hHeld => ?_); clear hK K)
        try simp only [Act.put, List.setIfInBounds_toArray, List.set_cons_zero, List.set_cons_succ, List.getElem_toArray, List.getElem_cons_zero, List.getElem_cons_succ]
        refine wpAnyH_done (by kernel_rfl) ?_ _
        clear e0 e1 z0 z1 z2 z3 hHeld hcut
        obtain ⟨U, hUU⟩ : ∃ U, (Z.setCell ⟨g, k, none⟩ (.slice (cutA (some ⟨rb, ro, none⟩) rc 1 5) (nl - 1) (rc - 1))).drew = U := ⟨_, rfl⟩
        rw [hUU] at HZR
        rw [hUU]
        clear hUU
        have HGV : Hid (deliverS p s (k : Int) = ⟨s.ready.set k rest, s.outs ++ [(⟨s.nextTag, (bi : Int), (k : Int), x⟩ : OutD)], s.takers, s.nextSeq, s.nextTag + 1, s.came, s.acked, s.dropped⟩) := by
          refine (?_ : deliverS p s (k : Int) = _)
          rw [HR.out.2.2, HBN.out]
          unfold givenS
          rw [Int.toNat_natCast, HLN.out, HX.out]
          rfl
        obtain ⟨n0, n1, n2, n3, n4, n5, n6, n7, _, _, _, _, _, _, _, _, hlt2⟩ := zero_cells HZR.out.2.1
        have hzk := (HBX.out _ HZR.out.2.2).2
        have HZS := Lib.hid hzk
        unfold zeroCells at hzk
        obtain ⟨k0, k1, k2, k3, k4, k5, k6, k7, f0, f1, f2, f3, f4, f5, f6, f7, hlt⟩ := zero_cells hzk
        clear hzk
        go_wp2_with fail
        refine bodyPost_ret (v := .tuple #[.agg #[.slice (some ⟨g, 0, none⟩) s.ready.length C1, .slice A4 (s.outs.length + 1) C4, .slice A3 s.takers.length C3, .int .i64 s.nextSeq, .int .i64 (s.nextTag + 1), .int .i64 s.came, .int .i64 s.acked, .int .i64 s.dropped], .int .i64 s.nextTag, .int .i64 0]) (by simp [results, Tryd.results23, go_sem, k0, k1, k2, k3, k4, k5, k6, k7, hlt]) rfl ?_
        have hfin := (HZR.out.1.kept (KeepsT.set8 HZS.out (ts := [43]) (by decide) (.slice (some ⟨g, 0, none⟩) s.ready.length C1) (.slice A4 (s.outs.length + 1) C4) (.slice A3 s.takers.length C3) (.int .i64 s.nextSeq) (.int .i64 (s.nextTag + 1)) (.int .i64 s.came) (.int .i64 s.acked) (.int .i64 s.dropped))).stateAt
        obtain ⟨hst, e1, e2, e3⟩ := hfin
        refine ⟨some ⟨g, 0, none⟩, A4, A3, C1, C4, C3, _, ?_, by rw [HGV.out]; exact hst.wider (Nat.le_of_lt (Nat.lt_trans (by omega) HLO.out)) (Nat.le_refl _), below_set8 (HBX.out _ HZR.out.2.2).1.below (by omega) _ _ _ _ _ _ _ _⟩
        rw [HR.out.1, HR.out.2.1, HGV.out]
        unfold stateV vState
        dsimp only
        rw [List.length_set, List.length_append]
        rfl

      · go_simp
        refine hK.out _ _ (by first | assumption | exact k0 | exact k1) (fun hHeld => ?_)
        clear hK K
        try simp only [Act.put, List.setIfInBounds_toArray, List.set_cons_zero, List.set_cons_succ, List.getElem_toArray, List.getElem_cons_zero, List.getElem_cons_succ]
        refine wpAnyH_ready (rs := [1]) (by kernel_rfl) (by simp) ?_
        refine AllReadyH.cons rfl (fun K hK => ?_) AllReadyH.nil
        go_simp
        refine hK.out _ _ (by first | assumption | exact k0 | exact k1) (fun hHeld => ?_)
        clear hK K
        try simp only [Act.put, List.setIfInBounds_toArray, List.set_cons_zero, List.set_cons_succ, List.getElem_toArray, List.getElem_cons_zero, List.getElem_cons_succ]
        refine wpAnyH_ready (rs := [14]) (by kernel_rfl) (by simp) ?_
        refine AllReadyH.cons rfl (fun K hK => ?_) AllReadyH.nil
        rw [if_pos (by rfl)]
        refine rowO_wp (.tmp 36) (.tmp 48) rfl rfl HOW.out.1 rfl HOW.out.2 (m := 1) (news := vOut (⟨s.nextTag, (bi : Int), (k : Int), x⟩ : OutD)) rfl (by omega) (Sl.new Y.drew (vOut (⟨s.nextTag, (bi : Int), (k : Int), x⟩ : OutD)) 55 (Y.drew.heap.size + 1) (by omega)) (outs_one _) ?_
        rintro v4 w4 ho4 hg4
        obtain ⟨A4, C4, rfl, _⟩ := own_slice ho4
        have hk4 : KeepsT [55] (Y.drew.alloc (.cells #[.int .i64 s.nextTag, .int .i64 (bi : Int), .int .i64 (k : Int), .int .i64 x.seq, .string x.key, .string x.body, .bool x.again, .int .i64 x.deaths] 55)) w4 := KeepsT.grown HOW.out.1 hg4 (by decide)
        have hk5 : KeepsT [55] Y w4 := (KeepsT.trans (KeepsT.drew _ Y) (KeepsT.alloc _ Y.drew _)).trans hk4
        have hd4 : Bk w4 W2.heap.size 43 #[.slice (some ⟨g, 0, none⟩) s.ready.length C1, .slice A2 s.outs.length C2, .slice A3 s.takers.length C3, .int .i64 s.nextSeq, .int .i64 (s.nextTag + 1), .int .i64 s.came, .int .i64 s.acked, .int .i64 s.dropped] := hk5 _ _ _ (by decide) HYD.out
        have hk6 : KeepsT [43] w4 (w4.setCell ⟨W2.heap.size, 1, none⟩ (.slice A4 (s.outs.length + 1) C4)) := KeepsT.set hd4 (by decide) 1 _
        have hk7 : KeepsT [55, 43] Y (w4.setCell ⟨W2.heap.size, 1, none⟩ (.slice A4 (s.outs.length + 1) C4)) := (hk5.more (by decide)).trans (hk6.more (by decide))
        have hd6 : Bk (w4.setCell ⟨W2.heap.size, 1, none⟩ (.slice A4 (s.outs.length + 1) C4)) W2.heap.size 43 #[.slice (some ⟨g, 0, none⟩) s.ready.length C1, .slice A4 (s.outs.length + 1) C4, .slice A3 s.takers.length C3, .int .i64 s.nextSeq, .int .i64 (s.nextTag + 1), .int .i64 s.came, .int .i64 s.acked, .int .i64 s.dropped] := hd4.set_ 1 _
        have k4 := KS.out w4 (hk5.more (by decide)) (hd4.cell 0)
        have k6 := KS.out _ hk7 (hd6.cell 0)
        have c4 := hd4.cell 1
        have f4 := hd4.frozen 1
        have l4 := hd4.lt
        have HW4 := Lib.hid (And.intro ho4 (And.intro hg4 (And.intro hk5 (And.intro hk6 (And.intro hd6 hk7)))))
        clear ho4 hg4 hk4 hk5 hd4 hk6 hk7 hd6
        refine hK.out _ _ (by first | assumption | exact k0 | exact k1 | exact k4 | exact k6) (fun hHeld => ?_)
        clear hK K
        try simp only [Act.put, List.setIfInBounds_toArray, List.set_cons_zero, List.set_cons_succ, List.getElem_toArray, List.getElem_cons_zero, List.getElem_cons_succ]
        refine wpAnyH_take (i := 15) (v := ?_) rfl (by kernel_rfl) (by kernel_rfl) (by kernel_rfl) (fun _ _ _ h => h) (Or.inl ⟨by rfl, ?_⟩) hHeld ?_
        rotate_left
        focus (intro w hSw; (try dsimp only at hSw); go_simp; (all_goals with_reducible rfl); done)
        try simp only [Act.put, List.setIfInBounds_toArray, List.set_cons_zero, List.set_cons_succ, List.getElem_toArray, List.getElem_cons_zero, List.getElem_cons_succ]
        refine wpAnyH_ready (rs := [16]) (by kernel_rfl) (by simp) ?_
        refine AllReadyH.cons rfl (fun K hK => ?_) AllReadyH.nil
        go_simp
        refine hK.out _ _ (by first | assumption | exact k0 | exact k1 | exact k4 | exact k6) (fun hHeld => ?_)
        clear hK K
        try simp only [Act.put, List.setIfInBounds_toArray, List.set_cons_zero, List.set_cons_succ, List.getElem_toArray, List.getElem_cons_zero, List.getElem_cons_succ]
        refine wpAnyH_done (by kernel_rfl) ?_ _
        clear k0 k1 k4 k6 t0 t1 t2 t3 c4 f4 l4 hHeld
        go_wp2_with fail
        have HZ9 : Hid (HeldAt (w4.setCell ⟨W2.heap.size, 1, none⟩ (.slice A4 (s.outs.length + 1) C4)) W1.heap.size (.slice (some ⟨g, 0, none⟩) s.ready.length C1) (.slice A4 (s.outs.length + 1) C4) (.slice A3 s.takers.length C3) rows2 { s with outs := s.outs ++ [(⟨s.nextTag, (bi : Int), (k : Int), x⟩ : OutD)] } ∧ Bk (w4.setCell ⟨W2.heap.size, 1, none⟩ (.slice A4 (s.outs.length + 1) C4)) W2.heap.size 43 #[.slice (some ⟨g, 0, none⟩) s.ready.length C1, .slice A4 (s.outs.length + 1) C4, .slice A3 s.takers.length C3, .int .i64 s.nextSeq, .int .i64 (s.nextTag + 1), .int .i64 s.came, .int .i64 s.acked, .int .i64 s.dropped] ∧ Below W0.heap.size W0 (w4.setCell ⟨W2.heap.size, 1, none⟩ (.slice A4 (s.outs.length + 1) C4)) ∧ KeepsT [55, 43] Y (w4.setCell ⟨W2.heap.size, 1, none⟩ (.slice A4 (s.outs.length + 1) C4))) := by
          obtain ⟨ho4, hg4, hk5, hk6, hd6, hk7⟩ := HW4.out
          refine ⟨(HYH.out.outsTo (l := s.outs ++ [(⟨s.nextTag, (bi : Int), (k : Int), x⟩ : OutD)]) hk5 ?_).kept hk6, hd6, (below_own HOW.out.1 hg4 (HYB.out.drew.alloc HYB.out.size _) HB1.out.size (Nat.le_trans HYB.out.size (by simp))).setCell (p := ⟨W2.heap.size, 1, none⟩) (by show W0.heap.size ≤ W2.heap.size; exact HB2.out.size) _, hk7⟩
          rw [List.length_append, List.flatMap_append]
          exact ho4
        obtain ⟨Z, hZZ⟩ : ∃ Z, w4.setCell ⟨W2.heap.size, 1, none⟩ (.slice A4 (s.outs.length + 1) C4) = Z := ⟨_, rfl⟩
        rw [hZZ] at HZ9
        rw [hZZ]
        clear hZZ HW4
        have e0 : Z.drew.cell? ⟨W2.heap.size, 0, none⟩ = some (.slice (some ⟨g, 0, none⟩) s.ready.length C1) := HZ9.out.2.1.cell 0
        have z0 : Z.drew.cell? ⟨g, k, none⟩ = some (.slice (some ⟨rb, ro, none⟩) nl rc) := (HCELL.out Z HZ9.out.2.2.2).1
        have z1 : Z.cell? ⟨g, k, none⟩ = some (.slice (some ⟨rb, ro, none⟩) nl rc) := (HCELL.out Z HZ9.out.2.2.2).1
        have z2 : Z.frozen? ⟨g, k, none⟩ = false := (HCELL.out Z HZ9.out.2.2.2).2.1
        have z3 : g < Z.heap.size := (HCELL.out Z HZ9.out.2.2.2).2.2
        have HZR : Hid (HeldAt ((Z.setCell ⟨g, k, none⟩ (.slice (cutA (some ⟨rb, ro, none⟩) rc 1 5) (nl - 1) (rc - 1))).drew) W1.heap.size (.slice (some ⟨g, 0, none⟩) s.ready.length C1) (.slice A4 (s.outs.length + 1) C4) (.slice A3 s.takers.length C3) (rows2.set k ⟨cutA (some ⟨rb, ro, none⟩) rc 1 5, rc - 1, rest⟩) ⟨s.ready.set k rest, s.outs ++ [(⟨s.nextTag, (bi : Int), (k : Int), x⟩ : OutD)], s.takers, s.nextSeq, s.nextTag + 1, s.came, s.acked, s.dropped⟩ ∧ Bk ((Z.setCell ⟨g, k, none⟩ (.slice (cutA (some ⟨rb, ro, none⟩) rc 1 5) (nl - 1) (rc - 1))).drew) W2.heap.size 43 #[.slice (some ⟨g, 0, none⟩) s.ready.length C1, .slice A4 (s.outs.length + 1) C4, .slice A3 s.takers.length C3, .int .i64 s.nextSeq, .int .i64 (s.nextTag + 1), .int .i64 s.came, .int .i64 s.acked, .int .i64 s.dropped] ∧ Below W0.heap.size W0 ((Z.setCell ⟨g, k, none⟩ (.slice (cutA (some ⟨rb, ro, none⟩) rc 1 5) (nl - 1) (rc - 1))).drew)) := by
          obtain ⟨h1, h2, h3, h4⟩ := HZ9.out
          obtain ⟨t1, t2, t3⟩ := HTAIL.out
          have hd := (h1.kept (KeepsT.drew [] Z)).rowSet (k := k) rfl (cutA (some ⟨rb, ro, none⟩) rc 1 5) (rc - 1) rest (t1.keep (h4.trans (KeepsT.drew _ Z)) (by decide)) t3
          rw [t2] at hd
          refine ⟨hd.1.nums _ _ _ _ _, hd.2 _ _ _ (by decide) h2, h3.drew.setCell (p := ⟨g, k, none⟩) ?_ _⟩
          have := (h1.ready.lt g rfl).1
          show W0.heap.size ≤ g
          exact Nat.le_trans HB1.out.size this
        have e1 : ((Z.setCell ⟨g, k, none⟩ (.slice (cutA (some ⟨rb, ro, none⟩) rc 1 5) (nl - 1) (rc - 1))).drew).cell? ⟨W2.heap.size, 0, none⟩ = some (.slice (some ⟨g, 0, none⟩) s.ready.length C1) := HZR.out.2.1.cell 0
        refine wp_region_held_drew (S := (fun W => W.cell? ⟨W2.heap.size, 0, none⟩ = some (.slice (some ⟨g, 0, none⟩) s.ready.length C1))) (by kernel_rfl) (by first | assumption | exact e0 | exact e1) (fun hHeld => ?_)
        first | (refine wpAnyH_take (i := 0) (v := ?_) rfl (by kernel_rfl) (by kernel_rfl) (by kernel_rfl) (fun _ _ _ h => h) (Or.inl ⟨by rfl, ?_⟩) (by assumption) ?_; rotate_left; focus (intro w hSw; (try dsimp only at hSw); go_simp; (all_goals with_reducible rfl); done)) | (refine wpAnyH_take (i := 0) rfl (by kernel_rfl) (by kernel_rfl) (by kernel_rfl) (fun _ _ _ h => h) (Or.inr ⟨by rfl, rfl⟩) (by assumption) ?_) | fail "op 0"
        try simp only [Act.put, List.setIfInBounds_toArray, List.set_cons_zero, List.set_cons_succ, List.getElem_toArray, List.getElem_cons_zero]
        first | (refine wpAnyH_take (i := 1) (v := ?_) rfl (by kernel_rfl) (by kernel_rfl) (by kernel_rfl) (fun _ _ _ h => h) (Or.inl ⟨by rfl, ?_⟩) (by assumption) ?_; rotate_left; focus (intro w hSw; (try dsimp only at hSw); go_simp; (all_goals with_reducible rfl); done)) | (refine wpAnyH_take (i := 1) rfl (by kernel_rfl) (by kernel_rfl) (by kernel_rfl) (fun _ _ _ h => h) (Or.inr ⟨by rfl, rfl⟩) (by assumption) ?_) | fail "op 1"
        try simp only [Act.put, List.setIfInBounds_toArray, List.set_cons_zero, List.set_cons_succ, List.getElem_toArray, List.getElem_cons_zero, List.getElem_cons_succ]
        first | (refine wpAnyH_take (i := 2) (v := ?_) rfl (by kernel_rfl) (by kernel_rfl) (by kernel_rfl) (fun _ _ _ h => h) (Or.inl ⟨by rfl, ?_⟩) (by assumption) ?_; rotate_left; focus (intro w hSw; (try dsimp only at hSw); go_simp; (all_goals with_reducible rfl); done)) | (refine wpAnyH_take (i := 2) rfl (by kernel_rfl) (by kernel_rfl) (by kernel_rfl) (fun _ _ _ h => h) (Or.inr ⟨by rfl, rfl⟩) (by assumption) ?_) | fail "op 2"
        try simp only [Act.put, List.setIfInBounds_toArray, List.set_cons_zero, List.set_cons_succ, List.getElem_toArray, List.getElem_cons_zero, List.getElem_cons_succ]
        first | (refine wpAnyH_take (i := 3) (v := ?_) rfl (by kernel_rfl) (by kernel_rfl) (by kernel_rfl) (fun _ _ _ h => h) (Or.inl ⟨by rfl, ?_⟩) (by assumption) ?_; rotate_left; focus (intro w hSw; (try dsimp only at hSw); go_simp; (all_goals with_reducible rfl); done)) | (refine wpAnyH_take (i := 3) rfl (by kernel_rfl) (by kernel_rfl) (by kernel_rfl) (fun _ _ _ h => h) (Or.inr ⟨by rfl, rfl⟩) (by assumption) ?_) | fail "op 3"
        try simp only [Act.put, List.setIfInBounds_toArray, List.set_cons_zero, List.set_cons_succ, List.getElem_toArray, List.getElem_cons_zero, List.getElem_cons_succ]
        first | (refine wpAnyH_take (i := 4) (v := ?_) rfl (by kernel_rfl) (by kernel_rfl) (by kernel_rfl) (fun _ _ _ h => h) (Or.inl ⟨by rfl, ?_⟩) (by assumption) ?_; rotate_left; focus (intro w hSw; (try dsimp only at hSw); go_simp; (all_goals with_reducible rfl); done)) | (refine wpAnyH_take (i := 4) rfl (by kernel_rfl) (by kernel_rfl) (by kernel_rfl) (fun _ _ _ h => h) (Or.inr ⟨by rfl, rfl⟩) (by assumption) ?_) | fail "op 4"
        try simp only [Act.put, List.setIfInBounds_toArray, List.set_cons_zero, List.set_cons_succ, List.getElem_toArray, List.getElem_cons_zero, List.getElem_cons_succ]
        first | (refine wpAnyH_take (i := 5) (v := ?_) rfl (by kernel_rfl) (by kernel_rfl) (by kernel_rfl) (fun _ _ _ h => h) (Or.inl ⟨by rfl, ?_⟩) (by assumption) ?_; rotate_left; focus (intro w hSw; (try dsimp only at hSw); go_simp; (all_goals with_reducible rfl); done)) | (refine wpAnyH_take (i := 5) rfl (by kernel_rfl) (by kernel_rfl) (by kernel_rfl) (fun _ _ _ h => h) (Or.inr ⟨by rfl, rfl⟩) (by assumption) ?_) | fail "op 5"
        try simp only [Act.put, List.setIfInBounds_toArray, List.set_cons_zero, List.set_cons_succ, List.getElem_toArray, List.getElem_cons_zero, List.getElem_cons_succ]
        first | (refine wpAnyH_take (i := 6) (v := ?_) rfl (by kernel_rfl) (by kernel_rfl) (by kernel_rfl) (fun _ _ _ h => h) (Or.inl ⟨by rfl, ?_⟩) (by assumption) ?_; rotate_left; focus (intro w hSw; (try dsimp only at hSw); go_simp; (all_goals with_reducible rfl); done)) | (refine wpAnyH_take (i := 6) rfl (by kernel_rfl) (by kernel_rfl) (by kernel_rfl) (fun _ _ _ h => h) (Or.inr ⟨by rfl, rfl⟩) (by assumption) ?_) | fail "op 6"
        try simp only [Act.put, List.setIfInBounds_toArray, List.set_cons_zero, List.set_cons_succ, List.getElem_toArray, List.getElem_cons_zero, List.getElem_cons_succ]
        (refine wpAnyH_ready (rs := [7]) (by kernel_rfl) (by simp) ?_; refine AllReadyH.cons rfl (fun K hK => ?_) AllReadyH.nil; go_simp; refine hK.out _ _ (by first | assumption | exact e0 | exact e1) (fun hHeld => ?_); clear hK K)
        try simp only [Act.put, List.setIfInBounds_toArray, List.set_cons_zero, List.set_cons_succ, List.getElem_toArray, List.getElem_cons_zero, List.getElem_cons_succ]
        first | (refine wpAnyH_take (i := 8) (v := ?_) rfl (by kernel_rfl) (by kernel_rfl) (by kernel_rfl) (fun _ _ _ h => h) (Or.inl ⟨by rfl, ?_⟩) (by assumption) ?_; rotate_left; focus (intro w hSw; (try dsimp only at hSw); go_simp; (all_goals with_reducible rfl); done)) | (refine wpAnyH_take (i := 8) rfl (by kernel_rfl) (by kernel_rfl) (by kernel_rfl) (fun _ _ _ h => h) (Or.inr ⟨by rfl, rfl⟩) (by assumption) ?_) | fail "op 8"
        try simp only [Act.put, List.setIfInBounds_toArray, List.set_cons_zero, List.set_cons_succ, List.getElem_toArray, List.getElem_cons_zero, List.getElem_cons_succ]
        first | (refine wpAnyH_take (i := 9) (v := ?_) rfl (by kernel_rfl) (by kernel_rfl) (by kernel_rfl) (fun _ _ _ h => h) (Or.inl ⟨by rfl, ?_⟩) (by assumption) ?_; rotate_left; focus (intro w hSw; (try dsimp only at hSw); go_simp; (all_goals with_reducible rfl); done)) | (refine wpAnyH_take (i := 9) rfl (by kernel_rfl) (by kernel_rfl) (by kernel_rfl) (fun _ _ _ h => h) (Or.inr ⟨by rfl, rfl⟩) (by assumption) ?_) | fail "op 9"
        try simp only [Act.put, List.setIfInBounds_toArray, List.set_cons_zero, List.set_cons_succ, List.getElem_toArray, List.getElem_cons_zero, List.getElem_cons_succ]
        (refine wpAnyH_ready (rs := [10]) (by kernel_rfl) (by simp) ?_; refine AllReadyH.cons rfl (fun K hK => ?_) AllReadyH.nil; go_simp; refine hK.out _ _ (by first | assumption | exact e0 | exact e1) (fun hHeld => ?_); clear hK K)
        try simp only [Act.put, List.setIfInBounds_toArray, List.set_cons_zero, List.set_cons_succ, List.getElem_toArray, List.getElem_cons_zero, List.getElem_cons_succ]
        refine wpAnyH_done (by kernel_rfl) ?_ _
        clear e0 e1 z0 z1 z2 z3 hHeld hcut
        obtain ⟨U, hUU⟩ : ∃ U, (Z.setCell ⟨g, k, none⟩ (.slice (cutA (some ⟨rb, ro, none⟩) rc 1 5) (nl - 1) (rc - 1))).drew = U := ⟨_, rfl⟩
        rw [hUU] at HZR
        rw [hUU]
        clear hUU
        have HGV : Hid (deliverS p s (k : Int) = ⟨s.ready.set k rest, s.outs ++ [(⟨s.nextTag, (bi : Int), (k : Int), x⟩ : OutD)], s.takers, s.nextSeq, s.nextTag + 1, s.came, s.acked, s.dropped⟩) := by
          refine (?_ : deliverS p s (k : Int) = _)
          rw [HR.out.2.2, HBN.out]
          unfold givenS
          rw [Int.toNat_natCast, HLN.out, HX.out]
          rfl
        obtain ⟨n0, n1, n2, n3, n4, n5, n6, n7, _, _, _, _, _, _, _, _, hlt2⟩ := zero_cells HZR.out.2.1
        have hzk := (HBX.out _ HZR.out.2.2).2
        have HZS := Lib.hid hzk
        unfold zeroCells at hzk
        obtain ⟨k0, k1, k2, k3, k4, k5, k6, k7, f0, f1, f2, f3, f4, f5, f6, f7, hlt⟩ := zero_cells hzk
        clear hzk
        go_wp2_with fail
        refine bodyPost_ret (v := .tuple #[.agg #[.slice (some ⟨g, 0, none⟩) s.ready.length C1, .slice A4 (s.outs.length + 1) C4, .slice A3 s.takers.length C3, .int .i64 s.nextSeq, .int .i64 (s.nextTag + 1), .int .i64 s.came, .int .i64 s.acked, .int .i64 s.dropped], .int .i64 s.nextTag, .int .i64 0]) (by simp [results, Tryd.results23, go_sem, k0, k1, k2, k3, k4, k5, k6, k7, hlt]) rfl ?_
        have hfin := (HZR.out.1.kept (KeepsT.set8 HZS.out (ts := [43]) (by decide) (.slice (some ⟨g, 0, none⟩) s.ready.length C1) (.slice A4 (s.outs.length + 1) C4) (.slice A3 s.takers.length C3) (.int .i64 s.nextSeq) (.int .i64 (s.nextTag + 1)) (.int .i64 s.came) (.int .i64 s.acked) (.int .i64 s.dropped))).stateAt
        obtain ⟨hst, e1, e2, e3⟩ := hfin
        refine ⟨some ⟨g, 0, none⟩, A4, A3, C1, C4, C3, _, ?_, by rw [HGV.out]; exact hst.wider (Nat.le_of_lt (Nat.lt_trans (by omega) HLO.out)) (Nat.le_refl _), below_set8 (HBX.out _ HZR.out.2.2).1.below (by omega) _ _ _ _ _ _ _ _⟩
        rw [HR.out.1, HR.out.2.1, HGV.out]
        unfold stateV vState
        dsimp only
        rw [List.length_set, List.length_append]
        rfl

  · have b1 : (nextErr p s q != 0) = true := by simp [hc]
    have HR := Lib.hid (deliver_next hc)
    clear hc
    have hzk := (HBX.out _ HB1.out).2
    unfold zeroCells at hzk
    obtain ⟨k0, k1, k2, k3, k4, k5, k6, k7, f0, f1, f2, f3, f4, f5, f6, f7, hlt⟩ := zero_cells hzk
    clear hzk
    go_wp2_with fail
    refine bodyPost_ret (v := .tuple #[stateV zeroS none none none 0 0 0, .int .i64 0, .int .i64 (nextErr p s q)]) (by simp [results, Tryd.results23, go_sem, stateV, vState, zeroS, k0, k1, k2, k3, k4, k5, k6, k7, hlt]) rfl
      ⟨none, none, none, 0, 0, 0, [], by rw [HR.out.1, HR.out.2.1, HR.out.2.2], by rw [HR.out.2.2]; exact zero_at _ _ _, below_set8 (HBX.out _ HB1.out).1.below (by omega) _ _ _ _ _ _ _ _⟩

end Go.Proofs.YtapimpmpjighmaaDoor

namespace Go.Proofs.YtapimpmpjighmaaDoor
open Go.RowKit
set_option maxRecDepth 100000

set_option maxHeartbeats 8000000 in
theorem DeliverOf_any (p : PlanD) (s : StateD) (q : Int) (p1 p2 p3 a1 a2 a3 : Option Addr) (q1 q2 q3 c1 c2 c3 : Nat) (rows : List RowD) (w : World) (hE : Env w) (hp : PlanAt w 0 w.heap.size p1 p2 p3 p) (hps : PlanSmall p) (hs : StateAt w 0 w.heap.size a1 a2 a3 rows s) (hss : StateSmall s) (hsi : StateInts s) :
    Calls Tryd.prog 25 #[planV p p1 p2 p3 q1 q2 q3, stateV s a1 a2 a3 c1 c2 c3, .int .i64 q] w (TkPost (deliverS p s q) (deliverT p s q) (deliverErr p s q) w) := by
  have hbx := two_boxes q1 q2 q3 c1 c2 c3 hE hp hs 26 43
  unfold vState at hbx
  unfold stateV planV vState
  have htl := hss.takers
  have HPS := Lib.hid hps
  have HSS := Lib.hid hss
  have HSI := Lib.hid hsi
  clear hE hp hs hps hss hsi
  go_enter Tryd.func25, Tryd.ntmps25
  obtain ⟨⟨m0, m1, m2⟩, ⟨n0, n1, n2, n3, n4, n5, n6, n7⟩, _, _, _, _⟩ := hbx _ ((Below.refl _ _).alloc (Nat.le_refl _) (.cells #[.slice none 0 0, .slice none 0 0, .slice none 0 0, .int .i64 0, .int .i64 0, .int .i64 0, .int .i64 0, .int .i64 0] 43))
  go_wp2_with fail
  clear m0 m1 m2 n0 n1 n2 n3 n4 n5 n6 n7
  obtain ⟨V0, hV0⟩ : ∃ V0, ((w.alloc (.cells #[.slice p1 p.posts.length q1, .slice p2 p.queues.length q2, .slice p3 p.binds.length q3] 26)).alloc (.cells #[Value.slice a1 s.ready.length c1, Value.slice a2 s.outs.length c2, Value.slice a3 s.takers.length c3, Value.int IntKind.i64 s.nextSeq, Value.int IntKind.i64 s.nextTag, Value.int IntKind.i64 s.came, Value.int IntKind.i64 s.acked, Value.int IntKind.i64 s.dropped] 43)) = V0 := ⟨_, rfl⟩
  have hzV : V0.heap.size = w.heap.size + 1 + 1 := by rw [← hV0]; simp
  rw [hV0] at hbx
  have HBV := Lib.hid hbx
  obtain ⟨W0, hW0⟩ : ∃ W0, V0.alloc (.cells #[.slice none 0 0, .slice none 0 0, .slice none 0 0, .int .i64 0, .int .i64 0, .int .i64 0, .int .i64 0, .int .i64 0] 43) = W0 := ⟨_, rfl⟩
  have hbV : Below V0.heap.size V0 W0 := by rw [← hW0]; exact (Below.refl _ _).alloc (Nat.le_refl _) _
  have HZ : Hid (W0.heap.size = w.heap.size + 1 + 1 + 1) := by refine (?_ : W0.heap.size = _); rw [← hW0, ← hzV]; simp
  have HBX : Hid (∀ W, Below W0.heap.size W0 W → CkIn w p s p1 p2 p3 a1 a2 a3 q1 q2 q3 c1 c2 c3 rows W ∧ Bk W (w.heap.size + 1 + 1) 43 zeroCells) := fun W hW => by
    have k : Bk W0 (w.heap.size + 1 + 1) 43 zeroCells := by rw [← hW0]; exact Bk.new_at _ _ _ hzV.symm
    exact ⟨HBV.out W (hbV.trans (hW.mono hbV.size)), k.below hW k.lt⟩
  rw [hV0, hW0]
  clear hbx hbV hzV HBV hV0 hW0
  refine (NextOf_any p s q p1 p2 p3 a1 a2 a3 q1 q2 q3 c1 c2 c3 rows W0 (HBX.out _ (Below.refl _ _)).1.env (HBX.out _ (Below.refl _ _)).1.planAt HPS.out (HBX.out _ (Below.refl _ _)).1.stateAt HSS.out HSI.out).mono ?_
  rintro e W1 ⟨rfl, hb1⟩
  have HB1 := Lib.hid hb1
  clear hb1
  by_cases hc : nextErr p s q = 0
  · have b1 : (nextErr p s q != 0) = false := by simp [hc]
    obtain ⟨h0, h1, hbn⟩ := next_ok.1 hc
    obtain ⟨hR, hq0, hq1⟩ := ask_ok.1 h0
    have hnn : nextN p s q = bestN s q := by unfold nextN; rw [if_pos hc]
    have hnt : 0 ≤ s.nextTag ∧ s.nextTag ≤ 1048576 := by
      have := hR.nextTag
      unfold countB at this
      simpa [Bool.and_eq_true, decide_eq_true_eq] using this
    obtain ⟨bi, hbi, _, _⟩ := best_elig hR hbn
    obtain ⟨k, rfl⟩ : ∃ k : Nat, q = (k : Int) := ⟨q.toNat, by omega⟩
    have hkr : k < s.ready.length := by rw [hR.len]; omega
    obtain ⟨rest, hline, hrow⟩ := line_head hc
    rw [Int.toNat_natCast] at hrow
    generalize hx : headAt s (k : Int) = x at hline hrow
    have hrl := HSS.out.ready
    have hol := HSS.out.outs
    have HLN : Hid (lineAt s (k : Int) = x :: rest) := hline
    have HX := Lib.hid hx
    have HROW := Lib.hid hrow
    have HBN : Hid (bestN s (k : Int) = (bi : Int)) := hbi
    rw [hnn, HBN.out]
    have HC := Lib.hid hc
    clear h0 h1 hbn hR hq0 hq1 hnn hbi hline hrow hx hc
    obtain ⟨_, ⟨n0, n1, n2, n3, n4, n5, n6, n7⟩, _, _, _, _⟩ := (HBX.out _ HB1.out).1
    by_cases ht : s.nextTag = 1048576
    · have HR := Lib.hid (deliver_many HC.out ht)
      have b4 : (s.nextTag == 1048576) = true := by simp [ht]
      clear ht
      have hzk := (HBX.out _ HB1.out).2
      unfold zeroCells at hzk
      obtain ⟨k0, k1, k2, k3, k4, k5, k6, k7, f0, f1, f2, f3, f4, f5, f6, f7, hlt⟩ := zero_cells hzk
      clear hzk
      go_wp2_with fail
      refine bodyPost_ret (v := .tuple #[stateV zeroS none none none 0 0 0, .int .i64 0, .int .i64 2]) (by simp [results, Tryd.results25, go_sem, stateV, vState, zeroS, k0, k1, k2, k3, k4, k5, k6, k7, hlt]) rfl
        ⟨none, none, none, 0, 0, 0, [], by rw [HR.out.1, HR.out.2.1, HR.out.2.2], by rw [HR.out.2.2]; exact zero_at _ _ _, below_set8 (HBX.out _ HB1.out).1.below (by omega) _ _ _ _ _ _ _ _⟩
    · have HR := Lib.hid (deliver_done HC.out ht)
      have b4 : (s.nextTag == 1048576) = false := by simp [ht]
      have hn1 : s.nextTag + 1 ≤ 1048576 := by omega
      have hlim : (0 : Int) ≤ (k : Int) ∧ (k : Int) < (s.ready.length : Int) := by omega
      obtain ⟨hlim0, hlim1⟩ := hlim
      clear ht
      go_wp2_with fail
      refine (OwnState_any s a1 a2 a3 c1 c2 c3 rows W1 (HBX.out _ HB1.out).1.stateAt HSS.out).mono ?_
      rintro e W2 ⟨v1, v2, v3, rows2, rfl, ho, hb2⟩
      obtain ⟨A1, C1, rfl, _⟩ := own_slice ho.ready
      obtain ⟨A2, C2, rfl, _⟩ := own_slice ho.outs
      obtain ⟨A3, C3, rfl, hC3⟩ := own_slice ho.takers
      have HB2 := Lib.hid (HB1.out.trans (hb2.mono HB1.out.size))
      have hlo : w.heap.size + 1 + 1 < W1.heap.size := by have := HB1.out.size; have := HZ.out; omega
      have HLO := Lib.hid hlo
      have hbb2 := hb2.size
      clear n0 n1 n2 n3 n4 n5 n6 n7 hlo hb2
      have hX : Below W0.heap.size W0 (W2.alloc (.cells #[.slice A1 s.ready.length C1, .slice A2 s.outs.length C2, .slice A3 s.takers.length C3, .int .i64 s.nextSeq, .int .i64 s.nextTag, .int .i64 s.came, .int .i64 s.acked, .int .i64 s.dropped] 43)) := HB2.out.alloc HB2.out.size _
      have hxo := ho.below ((Below.refl _ W2).alloc (Nat.le_refl _) (.cells #[.slice A1 s.ready.length C1, .slice A2 s.outs.length C2, .slice A3 s.takers.length C3, .int .i64 s.nextSeq, .int .i64 s.nextTag, .int .i64 s.came, .int .i64 s.acked, .int .i64 s.dropped] 43))
      have hxd := Bk.new W2 43 #[.slice A1 s.ready.length C1, .slice A2 s.outs.length C2, .slice A3 s.takers.length C3, .int .i64 s.nextSeq, .int .i64 s.nextTag, .int .i64 s.came, .int .i64 s.acked, .int .i64 s.dropped]
      obtain ⟨n0, n1, n2, n3, n4, n5, n6, n7, _, _, _, _, _, _, _, _, hlt2⟩ := zero_cells hxd
      have HLT2 : Hid (W1.heap.size ≤ W2.heap.size) := hbb2
      have HLT : Hid (w.heap.size + 1 + 1 < W2.heap.size) := by refine (?_ : w.heap.size + 1 + 1 < W2.heap.size); have := HB2.out.size; have := HZ.out; omega
      unfold ownV
      go_upto_region 7 with fail
      clear n0 n1 n2 n3 n4 n5 n6 n7 hlt2
      obtain ⟨X, hXX⟩ : ∃ X, W2.alloc (.cells #[.slice A1 s.ready.length C1, .slice A2 s.outs.length C2, .slice A3 s.takers.length C3, .int .i64 s.nextSeq, .int .i64 s.nextTag, .int .i64 s.came, .int .i64 s.acked, .int .i64 s.dropped] 43) = X := ⟨_, rfl⟩
      rw [hXX] at hX hxo hxd
      rw [hXX]
      clear hXX ho
      obtain ⟨g, rfl⟩ := own_addr hxo.ready (by omega)
      have hyh := hxo.held
      obtain ⟨ra, rc, hrc, hsl, hcell⟩ := hyh.rowAt rfl HROW.out
      obtain ⟨rb, ro, rfl, hlrb, hitem⟩ := hsl.head
      obtain ⟨nl, hnl⟩ : ∃ nl, (x :: rest).length = nl := ⟨_, rfl⟩
      have hnl1 : 1 ≤ nl := by rw [← hnl]; exact Nat.succ_le_succ (Nat.zero_le _)
      rw [hnl] at hcell hrc
      have hnl0 : 0 < nl := hnl1
      have hcut := cut_row (some ⟨rb, ro, none⟩) nl rc hnl1
      have HTAIL : Hid (SlT X W1.heap.size 53 (cutA (some ⟨rb, ro, none⟩) rc 1 5) (rest.flatMap vItem) ∧ rest.length = nl - 1 ∧ rest.length ≤ rc - 1) := by
        have hl2 : ((x :: rest).flatMap vItem).length = nl * 5 := by rw [flat_len vItem_len, hnl]
        have h := hsl.cut (k := 1) hl2 hnl1 hrc
        have hd : ((x :: rest).flatMap vItem).drop (1 * 5) = rest.flatMap vItem := by rw [List.flatMap_cons]; rfl
        rw [hd] at h
        have hl : rest.length = nl - 1 := by rw [← hnl]; rfl
        exact ⟨h, hl, by omega⟩
      have HNL := Lib.hid hnl
      clear hsl hnl
      have t0 := (hcell [] X (by decide) (KeepsT.refl _ _)).1
      obtain ⟨i0, i1, i2, i3, i4⟩ := hitem [] X (by decide) (KeepsT.refl _ _)
      obtain ⟨d0, _⟩ := zero_cells hxd
      go_upto_region 8 with fail
      clear t0 i0 i1 i2 i3 i4 d0
      have hx1 : HeldAt (X.alloc (.cells #[.int .i64 x.seq, .string x.key, .string x.body, .bool x.again, .int .i64 x.deaths] 53)) W1.heap.size (.slice (some ⟨g, 0, none⟩) s.ready.length C1) (.slice A2 s.outs.length C2) (.slice A3 s.takers.length C3) rows2 s := hyh.kept (KeepsT.alloc [] X _)
      have hd1 : Bk (X.alloc (.cells #[.int .i64 x.seq, .string x.key, .string x.body, .bool x.again, .int .i64 x.deaths] 53)) W2.heap.size 43 #[.slice (some ⟨g, 0, none⟩) s.ready.length C1, .slice A2 s.outs.length C2, .slice A3 s.takers.length C3, .int .i64 s.nextSeq, .int .i64 s.nextTag, .int .i64 s.came, .int .i64 s.acked, .int .i64 s.dropped] := hxd.alloc _
      have hi1 := Bk.new X 53 #[.int .i64 x.seq, .string x.key, .string x.body, .bool x.again, .int .i64 x.deaths]
      have hb1 := hX.alloc hX.size (.cells #[.int .i64 x.seq, .string x.key, .string x.body, .bool x.again, .int .i64 x.deaths] 53)
      have hk1 : KeepsT [] X (X.alloc (.cells #[.int .i64 x.seq, .string x.key, .string x.body, .bool x.again, .int .i64 x.deaths] 53)) := KeepsT.alloc [] X _
      obtain ⟨X1, hX1⟩ : ∃ X1, X.alloc (.cells #[.int .i64 x.seq, .string x.key, .string x.body, .bool x.again, .int .i64 x.deaths] 53) = X1 := ⟨_, rfl⟩
      rw [hX1] at hx1 hd1 hi1 hb1 hk1
      rw [hX1]
      clear hX1
      have e0 : X1.drew.cell? ⟨W2.heap.size, 0, none⟩ = some (.slice (some ⟨g, 0, none⟩) s.ready.length C1) := hd1.cell 0
      have hcx := hcell [] X1 (by decide) hk1
      have z0 : X1.drew.cell? ⟨g, k, none⟩ = some (.slice (some ⟨rb, ro, none⟩) nl rc) := hcx.1
      have z1 : X1.cell? ⟨g, k, none⟩ = some (.slice (some ⟨rb, ro, none⟩) nl rc) := hcx.1
      have z2 : X1.frozen? ⟨g, k, none⟩ = false := hcx.2.1
      have z3 : g < X1.heap.size := hcx.2.2
      have HY : Hid (HeldAt ((X1.setCell ⟨g, k, none⟩ (.slice (cutA (some ⟨rb, ro, none⟩) rc 1 5) (nl - 1) (rc - 1))).drew) W1.heap.size (.slice (some ⟨g, 0, none⟩) s.ready.length C1) (.slice A2 s.outs.length C2) (.slice A3 s.takers.length C3) (rows2.set k ⟨cutA (some ⟨rb, ro, none⟩) rc 1 5, rc - 1, rest⟩) { s with ready := s.ready.set k rest } ∧ Bk ((X1.setCell ⟨g, k, none⟩ (.slice (cutA (some ⟨rb, ro, none⟩) rc 1 5) (nl - 1) (rc - 1))).drew) W2.heap.size 43 #[.slice (some ⟨g, 0, none⟩) s.ready.length C1, .slice A2 s.outs.length C2, .slice A3 s.takers.length C3, .int .i64 s.nextSeq, .int .i64 s.nextTag, .int .i64 s.came, .int .i64 s.acked, .int .i64 s.dropped] ∧ Bk ((X1.setCell ⟨g, k, none⟩ (.slice (cutA (some ⟨rb, ro, none⟩) rc 1 5) (nl - 1) (rc - 1))).drew) X.heap.size 53 #[.int .i64 x.seq, .string x.key, .string x.body, .bool x.again, .int .i64 x.deaths] ∧ Below W0.heap.size W0 ((X1.setCell ⟨g, k, none⟩ (.slice (cutA (some ⟨rb, ro, none⟩) rc 1 5) (nl - 1) (rc - 1))).drew)) := by
        obtain ⟨t1, t2, t3⟩ := HTAIL.out
        have hd := (hx1.kept (KeepsT.drew [] X1)).rowSet (k := k) rfl (cutA (some ⟨rb, ro, none⟩) rc 1 5) (rc - 1) rest (t1.keep (hk1.trans (KeepsT.drew _ X1)) (by decide)) t3
        rw [t2] at hd
        refine ⟨hd.1, hd.2 _ _ _ (by decide) hd1, hd.2 _ _ _ (by decide) hi1, hb1.drew.setCell (p := ⟨g, k, none⟩) ?_ _⟩
        have := (hx1.ready.lt g rfl).1
        show W0.heap.size ≤ g
        exact Nat.le_trans HB1.out.size this
      have e1 : ((X1.setCell ⟨g, k, none⟩ (.slice (cutA (some ⟨rb, ro, none⟩) rc 1 5) (nl - 1) (rc - 1))).drew).cell? ⟨W2.heap.size, 0, none⟩ = some (.slice (some ⟨g, 0, none⟩) s.ready.length C1) := HY.out.2.1.cell 0
      clear hx1 hd1 hi1 hb1 hk1 hcx hxo hxd hX hyh hcell hitem
      refine wp_region_held_drew (S := (fun W => W.cell? ⟨W2.heap.size, 0, none⟩ = some (.slice (some ⟨g, 0, none⟩) s.ready.length C1))) (by kernel_rfl) (by first | assumption | exact e0 | exact e1) (fun hHeld => ?_)
      first | (refine wpAnyH_take (i := 0) (v := ?_) rfl (by kernel_rfl) (by kernel_rfl) (by kernel_rfl) (fun _ _ _ h => h) (Or.inl ⟨by rfl, ?_⟩) (by assumption) ?_; rotate_left; focus (intro w hSw; (try dsimp only at hSw); go_simp; (all_goals with_reducible rfl); done)) | (refine wpAnyH_take (i := 0) rfl (by kernel_rfl) (by kernel_rfl) (by kernel_rfl) (fun _ _ _ h => h) (Or.inr ⟨by rfl, rfl⟩) (by assumption) ?_) | fail "op 0"
      try simp only [Act.put, List.setIfInBounds_toArray, List.set_cons_zero, List.set_cons_succ, List.getElem_toArray, List.getElem_cons_zero]
      first | (refine wpAnyH_take (i := 1) (v := ?_) rfl (by kernel_rfl) (by kernel_rfl) (by kernel_rfl) (fun _ _ _ h => h) (Or.inl ⟨by rfl, ?_⟩) (by assumption) ?_; rotate_left; focus (intro w hSw; (try dsimp only at hSw); go_simp; (all_goals with_reducible rfl); done)) | (refine wpAnyH_take (i := 1) rfl (by kernel_rfl) (by kernel_rfl) (by kernel_rfl) (fun _ _ _ h => h) (Or.inr ⟨by rfl, rfl⟩) (by assumption) ?_) | fail "op 1"
      try simp only [Act.put, List.setIfInBounds_toArray, List.set_cons_zero, List.set_cons_succ, List.getElem_toArray, List.getElem_cons_zero, List.getElem_cons_succ]
      first | (refine wpAnyH_take (i := 2) (v := ?_) rfl (by kernel_rfl) (by kernel_rfl) (by kernel_rfl) (fun _ _ _ h => h) (Or.inl ⟨by rfl, ?_⟩) (by assumption) ?_; rotate_left; focus (intro w hSw; (try dsimp only at hSw); go_simp; (all_goals with_reducible rfl); done)) | (refine wpAnyH_take (i := 2) rfl (by kernel_rfl) (by kernel_rfl) (by kernel_rfl) (fun _ _ _ h => h) (Or.inr ⟨by rfl, rfl⟩) (by assumption) ?_) | fail "op 2"
      try simp only [Act.put, List.setIfInBounds_toArray, List.set_cons_zero, List.set_cons_succ, List.getElem_toArray, List.getElem_cons_zero, List.getElem_cons_succ]
      first | (refine wpAnyH_take (i := 3) (v := ?_) rfl (by kernel_rfl) (by kernel_rfl) (by kernel_rfl) (fun _ _ _ h => h) (Or.inl ⟨by rfl, ?_⟩) (by assumption) ?_; rotate_left; focus (intro w hSw; (try dsimp only at hSw); go_simp; (all_goals with_reducible rfl); done)) | (refine wpAnyH_take (i := 3) rfl (by kernel_rfl) (by kernel_rfl) (by kernel_rfl) (fun _ _ _ h => h) (Or.inr ⟨by rfl, rfl⟩) (by assumption) ?_) | fail "op 3"
      try simp only [Act.put, List.setIfInBounds_toArray, List.set_cons_zero, List.set_cons_succ, List.getElem_toArray, List.getElem_cons_zero, List.getElem_cons_succ]
      first | (refine wpAnyH_take (i := 4) (v := ?_) rfl (by kernel_rfl) (by kernel_rfl) (by kernel_rfl) (fun _ _ _ h => h) (Or.inl ⟨by rfl, ?_⟩) (by assumption) ?_; rotate_left; focus (intro w hSw; (try dsimp only at hSw); go_simp; (all_goals with_reducible rfl); done)) | (refine wpAnyH_take (i := 4) rfl (by kernel_rfl) (by kernel_rfl) (by kernel_rfl) (fun _ _ _ h => h) (Or.inr ⟨by rfl, rfl⟩) (by assumption) ?_) | fail "op 4"
      try simp only [Act.put, List.setIfInBounds_toArray, List.set_cons_zero, List.set_cons_succ, List.getElem_toArray, List.getElem_cons_zero, List.getElem_cons_succ]
      first | (refine wpAnyH_take (i := 5) (v := ?_) rfl (by kernel_rfl) (by kernel_rfl) (by kernel_rfl) (fun _ _ _ h => h) (Or.inl ⟨by rfl, ?_⟩) (by assumption) ?_; rotate_left; focus (intro w hSw; (try dsimp only at hSw); go_simp; (all_goals with_reducible rfl); done)) | (refine wpAnyH_take (i := 5) rfl (by kernel_rfl) (by kernel_rfl) (by kernel_rfl) (fun _ _ _ h => h) (Or.inr ⟨by rfl, rfl⟩) (by assumption) ?_) | fail "op 5"
      try simp only [Act.put, List.setIfInBounds_toArray, List.set_cons_zero, List.set_cons_succ, List.getElem_toArray, List.getElem_cons_zero, List.getElem_cons_succ]
      first | (refine wpAnyH_take (i := 6) (v := ?_) rfl (by kernel_rfl) (by kernel_rfl) (by kernel_rfl) (fun _ _ _ h => h) (Or.inl ⟨by rfl, ?_⟩) (by assumption) ?_; rotate_left; focus (intro w hSw; (try dsimp only at hSw); go_simp; (all_goals with_reducible rfl); done)) | (refine wpAnyH_take (i := 6) rfl (by kernel_rfl) (by kernel_rfl) (by kernel_rfl) (fun _ _ _ h => h) (Or.inr ⟨by rfl, rfl⟩) (by assumption) ?_) | fail "op 6"
      try simp only [Act.put, List.setIfInBounds_toArray, List.set_cons_zero, List.set_cons_succ, List.getElem_toArray, List.getElem_cons_zero, List.getElem_cons_succ]
      (refine wpAnyH_ready (rs := [7]) (by kernel_rfl) (by simp) ?_; refine AllReadyH.cons rfl (fun K hK => ?_) AllReadyH.nil; go_simp; refine hK.out _ _ (by first | assumption | exact e0 | exact e1) (fun hHeld => ?_); clear hK K)
      try simp only [Act.put, List.setIfInBounds_toArray, List.set_cons_zero, List.set_cons_succ, List.getElem_toArray, List.getElem_cons_zero, List.getElem_cons_succ]
      first | (refine wpAnyH_take (i := 8) (v := ?_) rfl (by kernel_rfl) (by kernel_rfl) (by kernel_rfl) (fun _ _ _ h => h) (Or.inl ⟨by rfl, ?_⟩) (by assumption) ?_; rotate_left; focus (intro w hSw; (try dsimp only at hSw); go_simp; (all_goals with_reducible rfl); done)) | (refine wpAnyH_take (i := 8) rfl (by kernel_rfl) (by kernel_rfl) (by kernel_rfl) (fun _ _ _ h => h) (Or.inr ⟨by rfl, rfl⟩) (by assumption) ?_) | fail "op 8"
      try simp only [Act.put, List.setIfInBounds_toArray, List.set_cons_zero, List.set_cons_succ, List.getElem_toArray, List.getElem_cons_zero, List.getElem_cons_succ]
      first | (refine wpAnyH_take (i := 9) (v := ?_) rfl (by kernel_rfl) (by kernel_rfl) (by kernel_rfl) (fun _ _ _ h => h) (Or.inl ⟨by rfl, ?_⟩) (by assumption) ?_; rotate_left; focus (intro w hSw; (try dsimp only at hSw); go_simp; (all_goals with_reducible rfl); done)) | (refine wpAnyH_take (i := 9) rfl (by kernel_rfl) (by kernel_rfl) (by kernel_rfl) (fun _ _ _ h => h) (Or.inr ⟨by rfl, rfl⟩) (by assumption) ?_) | fail "op 9"
      try simp only [Act.put, List.setIfInBounds_toArray, List.set_cons_zero, List.set_cons_succ, List.getElem_toArray, List.getElem_cons_zero, List.getElem_cons_succ]
      (refine wpAnyH_ready (rs := [10]) (by kernel_rfl) (by simp) ?_; refine AllReadyH.cons rfl (fun K hK => ?_) AllReadyH.nil; go_simp; refine hK.out _ _ (by first | assumption | exact e0 | exact e1) (fun hHeld => ?_); clear hK K)
      try simp only [Act.put, List.setIfInBounds_toArray, List.set_cons_zero, List.set_cons_succ, List.getElem_toArray, List.getElem_cons_zero, List.getElem_cons_succ]
      refine wpAnyH_done (by kernel_rfl) ?_ _
      clear e0 e1 z0 z1 z2 z3 hHeld hcut
      obtain ⟨Y, hYY⟩ : ∃ Y, ((X1.setCell ⟨g, k, none⟩ (.slice (cutA (some ⟨rb, ro, none⟩) rc 1 5) (nl - 1) (rc - 1))).drew) = Y := ⟨_, rfl⟩
      rw [hYY] at HY
      rw [hYY]
      clear hYY HTAIL
      obtain ⟨_, t1, t4, _⟩ := (⟨HY.out.2.1.cell 0, HY.out.2.1.cell 1, HY.out.2.1.cell 4, trivial⟩ : Y.cell? ⟨W2.heap.size, 0, none⟩ = some (.slice (some ⟨g, 0, none⟩) s.ready.length C1) ∧ Y.cell? ⟨W2.heap.size, 1, none⟩ = some (.slice A2 s.outs.length C2) ∧ Y.cell? ⟨W2.heap.size, 4, none⟩ = some (.int .i64 s.nextTag) ∧ True)
      have i0 : Y.cell? ⟨X.heap.size, 0, none⟩ = some (.int .i64 x.seq) := HY.out.2.2.1.cell 0
      have i1 : Y.cell? ⟨X.heap.size, 1, none⟩ = some (.string x.key) := HY.out.2.2.1.cell 1
      have i2 : Y.cell? ⟨X.heap.size, 2, none⟩ = some (.string x.body) := HY.out.2.2.1.cell 2
      have i3 : Y.cell? ⟨X.heap.size, 3, none⟩ = some (.bool x.again) := HY.out.2.2.1.cell 3
      have i4 : Y.cell? ⟨X.heap.size, 4, none⟩ = some (.int .i64 x.deaths) := HY.out.2.2.1.cell 4
      obtain ⟨_, ⟨_, _, _, _, n4, _⟩, _, _, _, _⟩ := (HBX.out _ HY.out.2.2.2).1
      have hbase : W1.heap.size ≤ Y.heap.size := by have h1 := HY.out.2.1.lt; have h2 := HLT2.out; omega
      have HOU : Hid (Y.ownsRow W1.heap.size 55 8 (.slice A2 s.outs.length C2) s.outs.length (s.outs.flatMap vOut)) := HY.out.1.outs
      go_upto_region 10 with (at_builtin; refine append1 rfl _ _ 40 rfl W1.heap.size 55 infoOut Tryd.underlying40 rfl (by decide) (by decide) Y _ _ _ rfl HOU.out [.int .i64 s.nextTag, .int .i64 (bi : Int), .int .i64 (k : Int), .int .i64 x.seq, .string x.key, .string x.body, .bool x.again, .int .i64 x.deaths] rfl rfl rfl (outs_one (⟨s.nextTag, (bi : Int), (k : Int), x⟩ : OutD)) (by omega) hbase ?_; intro v4 w4 ho4 hg4; obtain ⟨A4, C4, rfl, _⟩ := own_slice ho4; have hk4 : KeepsT [55] Y w4 := KeepsT.grown HY.out.1.outs hg4 (by decide); have hd4 := hk4 _ _ _ (by decide) HY.out.2.1; have d4 := hd4.cell 1; have fz4 := hd4.frozen 1; have hlt4 := hd4.lt; have HW4 := Lib.hid (And.intro ho4 (And.intro hg4 (And.intro hk4 hd4))); clear ho4 hg4 hk4 hd4)
      clear d4 fz4 hlt4 t1 t4 i0 i1 i2 i3 i4 n4
      have HZ : Hid (HeldAt (w4.setCell ⟨W2.heap.size, 1, none⟩ (.slice A4 (s.outs.length + 1) C4)) W1.heap.size (.slice (some ⟨g, 0, none⟩) s.ready.length C1) (.slice A4 (s.outs.length + 1) C4) (.slice A3 s.takers.length C3) (rows2.set k ⟨cutA (some ⟨rb, ro, none⟩) rc 1 5, rc - 1, rest⟩) ⟨s.ready.set k rest, s.outs ++ [(⟨s.nextTag, (bi : Int), (k : Int), x⟩ : OutD)], s.takers, s.nextSeq, s.nextTag, s.came, s.acked, s.dropped⟩ ∧ Bk (w4.setCell ⟨W2.heap.size, 1, none⟩ (.slice A4 (s.outs.length + 1) C4)) W2.heap.size 43 #[.slice (some ⟨g, 0, none⟩) s.ready.length C1, .slice A4 (s.outs.length + 1) C4, .slice A3 s.takers.length C3, .int .i64 s.nextSeq, .int .i64 s.nextTag, .int .i64 s.came, .int .i64 s.acked, .int .i64 s.dropped] ∧ Below W0.heap.size W0 (w4.setCell ⟨W2.heap.size, 1, none⟩ (.slice A4 (s.outs.length + 1) C4))) := by
        obtain ⟨ho4, hg4, hk4, hd4⟩ := HW4.out
        have hk6 : KeepsT [43] w4 (w4.setCell ⟨W2.heap.size, 1, none⟩ (.slice A4 (s.outs.length + 1) C4)) := KeepsT.set hd4 (by decide) 1 _
        refine ⟨(HY.out.1.outsTo (l := s.outs ++ [(⟨s.nextTag, (bi : Int), (k : Int), x⟩ : OutD)]) hk4 ?_).kept hk6, hd4.set_ 1 _, (below_own HY.out.1.outs hg4 HY.out.2.2.2 HB1.out.size HY.out.2.2.2.size).setCell (p := ⟨W2.heap.size, 1, none⟩) (by show W0.heap.size ≤ W2.heap.size; exact HB2.out.size) _⟩
        rw [List.length_append, List.flatMap_append]
        exact ho4
      obtain ⟨Z, hZZ⟩ : ∃ Z, (w4.setCell ⟨W2.heap.size, 1, none⟩ (.slice A4 (s.outs.length + 1) C4)) = Z := ⟨_, rfl⟩
      rw [hZZ] at HZ
      rw [hZZ]
      clear hZZ HW4 HY hbase
      have t4 := HZ.out.2.1.cell 4
      have f4 := HZ.out.2.1.frozen 4
      have l4 := HZ.out.2.1.lt
      go_upto_region 11 with fail
      clear t4 f4 l4
      have HZ2 : Hid (HeldAt (Z.setCell ⟨W2.heap.size, 4, none⟩ (.int .i64 (s.nextTag + 1))) W1.heap.size (.slice (some ⟨g, 0, none⟩) s.ready.length C1) (.slice A4 (s.outs.length + 1) C4) (.slice A3 s.takers.length C3) (rows2.set k ⟨cutA (some ⟨rb, ro, none⟩) rc 1 5, rc - 1, rest⟩) ⟨s.ready.set k rest, s.outs ++ [(⟨s.nextTag, (bi : Int), (k : Int), x⟩ : OutD)], s.takers, s.nextSeq, s.nextTag + 1, s.came, s.acked, s.dropped⟩ ∧ Bk (Z.setCell ⟨W2.heap.size, 4, none⟩ (.int .i64 (s.nextTag + 1))) W2.heap.size 43 #[.slice (some ⟨g, 0, none⟩) s.ready.length C1, .slice A4 (s.outs.length + 1) C4, .slice A3 s.takers.length C3, .int .i64 s.nextSeq, .int .i64 (s.nextTag + 1), .int .i64 s.came, .int .i64 s.acked, .int .i64 s.dropped] ∧ Below W0.heap.size W0 (Z.setCell ⟨W2.heap.size, 4, none⟩ (.int .i64 (s.nextTag + 1)))) := by
        obtain ⟨h1, h2, h3⟩ := HZ.out
        have hk6 : KeepsT [43] Z (Z.setCell ⟨W2.heap.size, 4, none⟩ (.int .i64 (s.nextTag + 1))) := KeepsT.set h2 (by decide) 4 _
        exact ⟨(h1.kept hk6).nums _ _ _ _ _, h2.set_ 4 _, h3.setCell (p := ⟨W2.heap.size, 4, none⟩) (by show W0.heap.size ≤ W2.heap.size; exact HB2.out.size) _⟩
      obtain ⟨U, hUU⟩ : ∃ U, (Z.setCell ⟨W2.heap.size, 4, none⟩ (.int .i64 (s.nextTag + 1))) = U := ⟨_, rfl⟩
      rw [hUU] at HZ2
      rw [hUU]
      clear hUU HZ
      have HGV : Hid (deliverS p s (k : Int) = ⟨s.ready.set k rest, s.outs ++ [(⟨s.nextTag, (bi : Int), (k : Int), x⟩ : OutD)], s.takers, s.nextSeq, s.nextTag + 1, s.came, s.acked, s.dropped⟩) := by
        refine (?_ : deliverS p s (k : Int) = _)
        rw [HR.out.2.2, HBN.out]
        unfold givenS
        rw [Int.toNat_natCast, HLN.out, HX.out]
        rfl
      have ks0 : (fun W : World => ((W.cell? ⟨W2.heap.size, 0, none⟩ = some (.slice (some ⟨g, 0, none⟩) s.ready.length C1) ∧ W.cell? ⟨W2.heap.size, 1, none⟩ = some (.slice A4 (s.outs.length + 1) C4) ∧ W.cell? ⟨W2.heap.size, 2, none⟩ = some (.slice A3 s.takers.length C3) ∧ W.cell? ⟨W2.heap.size, 3, none⟩ = some (.int .i64 s.nextSeq) ∧ W.cell? ⟨W2.heap.size, 4, none⟩ = some (.int .i64 (s.nextTag + 1)) ∧ W.cell? ⟨W2.heap.size, 5, none⟩ = some (.int .i64 s.came) ∧ W.cell? ⟨W2.heap.size, 6, none⟩ = some (.int .i64 s.acked) ∧ W.cell? ⟨W2.heap.size, 7, none⟩ = some (.int .i64 s.dropped)) ∧ W.cell? ⟨w.heap.size + 1, 4, none⟩ = some (.int .i64 s.nextTag))) U.drew := ⟨cells8 (w := U.drew) HZ2.out.2.1, by
        obtain ⟨_, ⟨_, _, _, _, n4, _⟩, _, _, _, _⟩ := (HBX.out _ HZ2.out.2.2).1
        exact n4⟩
      have KS : Hid (∀ u0 u1 u2 u3 u4 u5 u6 u7, (fun W : World => ((W.cell? ⟨W2.heap.size, 0, none⟩ = some (.slice (some ⟨g, 0, none⟩) s.ready.length C1) ∧ W.cell? ⟨W2.heap.size, 1, none⟩ = some (.slice A4 (s.outs.length + 1) C4) ∧ W.cell? ⟨W2.heap.size, 2, none⟩ = some (.slice A3 s.takers.length C3) ∧ W.cell? ⟨W2.heap.size, 3, none⟩ = some (.int .i64 s.nextSeq) ∧ W.cell? ⟨W2.heap.size, 4, none⟩ = some (.int .i64 (s.nextTag + 1)) ∧ W.cell? ⟨W2.heap.size, 5, none⟩ = some (.int .i64 s.came) ∧ W.cell? ⟨W2.heap.size, 6, none⟩ = some (.int .i64 s.acked) ∧ W.cell? ⟨W2.heap.size, 7, none⟩ = some (.int .i64 s.dropped)) ∧ W.cell? ⟨w.heap.size + 1, 4, none⟩ = some (.int .i64 s.nextTag))) (((((((((U.setCell ⟨w.heap.size + 1 + 1, 0, none⟩ u0).setCell ⟨w.heap.size + 1 + 1, 1, none⟩ u1).setCell ⟨w.heap.size + 1 + 1, 2, none⟩ u2).setCell ⟨w.heap.size + 1 + 1, 3, none⟩ u3).setCell ⟨w.heap.size + 1 + 1, 4, none⟩ u4).setCell ⟨w.heap.size + 1 + 1, 5, none⟩ u5).setCell ⟨w.heap.size + 1 + 1, 6, none⟩ u6).setCell ⟨w.heap.size + 1 + 1, 7, none⟩ u7).drew)) := fun u0 u1 u2 u3 u4 u5 u6 u7 => ⟨cells8 (w := ((((((((U.setCell ⟨w.heap.size + 1 + 1, 0, none⟩ u0).setCell ⟨w.heap.size + 1 + 1, 1, none⟩ u1).setCell ⟨w.heap.size + 1 + 1, 2, none⟩ u2).setCell ⟨w.heap.size + 1 + 1, 3, none⟩ u3).setCell ⟨w.heap.size + 1 + 1, 4, none⟩ u4).setCell ⟨w.heap.size + 1 + 1, 5, none⟩ u5).setCell ⟨w.heap.size + 1 + 1, 6, none⟩ u6).setCell ⟨w.heap.size + 1 + 1, 7, none⟩ u7).drew) (Bk.dr (far_set8 (W := U) HZ2.out.2.1 (by have := HLT.out; omega) u0 u1 u2 u3 u4 u5 u6 u7)), by
        obtain ⟨_, ⟨_, _, _, _, n4, _⟩, _, _, _, _⟩ := (HBX.out _ HZ2.out.2.2).1
        exact cell_far8d (W := U) (by omega) n4 u0 u1 u2 u3 u4 u5 u6 u7⟩
      have hzk : Bk U.drew (w.heap.size + 1 + 1) 43 zeroCells := (HBX.out _ HZ2.out.2.2).2
      have HZS : Hid (Bk U (w.heap.size + 1 + 1) 43 zeroCells) := hzk
      unfold zeroCells at hzk
      obtain ⟨k0, k1, k2, k3, k4, k5, k6, k7, f0, f1, f2, f3, f4, f5, f6, f7, hlt⟩ := zero_cells hzk
      have hzk2 : Bk U (w.heap.size + 1 + 1) 43 zeroCells := hzk
      unfold zeroCells at hzk2
      obtain ⟨y0, y1, y2, y3, y4, y5, y6, y7, z0, z1, z2, z3, z4, z5, z6, z7, hlt9⟩ := zero_cells hzk2
      clear hzk2 hzk
      refine wp_region_held_drew (S := (fun W => ((W.cell? ⟨W2.heap.size, 0, none⟩ = some (.slice (some ⟨g, 0, none⟩) s.ready.length C1) ∧ W.cell? ⟨W2.heap.size, 1, none⟩ = some (.slice A4 (s.outs.length + 1) C4) ∧ W.cell? ⟨W2.heap.size, 2, none⟩ = some (.slice A3 s.takers.length C3) ∧ W.cell? ⟨W2.heap.size, 3, none⟩ = some (.int .i64 s.nextSeq) ∧ W.cell? ⟨W2.heap.size, 4, none⟩ = some (.int .i64 (s.nextTag + 1)) ∧ W.cell? ⟨W2.heap.size, 5, none⟩ = some (.int .i64 s.came) ∧ W.cell? ⟨W2.heap.size, 6, none⟩ = some (.int .i64 s.acked) ∧ W.cell? ⟨W2.heap.size, 7, none⟩ = some (.int .i64 s.dropped)) ∧ W.cell? ⟨w.heap.size + 1, 4, none⟩ = some (.int .i64 s.nextTag)))) (by kernel_rfl) (by first | assumption | exact ks0) (fun hHeld => ?_)
      first | (refine wpAnyH_take (i := 0) (v := ?_) rfl (by kernel_rfl) (by kernel_rfl) (by kernel_rfl) (fun _ _ _ h => h) (Or.inl ⟨by rfl, ?_⟩) (by assumption) ?_; rotate_left; focus (intro w hSw; (try dsimp only at hSw); go_simp; (all_goals with_reducible rfl); done)) | (refine wpAnyH_take (i := 0) rfl (by kernel_rfl) (by kernel_rfl) (by kernel_rfl) (fun _ _ _ h => h) (Or.inr ⟨by rfl, rfl⟩) (by assumption) ?_) | fail "op 0"
      try simp only [Act.put, List.setIfInBounds_toArray, List.set_cons_zero, List.set_cons_succ, List.getElem_toArray, List.getElem_cons_zero]
      first | (refine wpAnyH_take (i := 1) (v := ?_) rfl (by kernel_rfl) (by kernel_rfl) (by kernel_rfl) (fun _ _ _ h => h) (Or.inl ⟨by rfl, ?_⟩) (by assumption) ?_; rotate_left; focus (intro w hSw; (try dsimp only at hSw); go_simp; (all_goals with_reducible rfl); done)) | (refine wpAnyH_take (i := 1) rfl (by kernel_rfl) (by kernel_rfl) (by kernel_rfl) (fun _ _ _ h => h) (Or.inr ⟨by rfl, rfl⟩) (by assumption) ?_) | fail "op 1"
      try simp only [Act.put, List.setIfInBounds_toArray, List.set_cons_zero, List.set_cons_succ, List.getElem_toArray, List.getElem_cons_zero, List.getElem_cons_succ]
      first | (refine wpAnyH_take (i := 2) (v := ?_) rfl (by kernel_rfl) (by kernel_rfl) (by kernel_rfl) (fun _ _ _ h => h) (Or.inl ⟨by rfl, ?_⟩) (by assumption) ?_; rotate_left; focus (intro w hSw; (try dsimp only at hSw); go_simp; (all_goals with_reducible rfl); done)) | (refine wpAnyH_take (i := 2) rfl (by kernel_rfl) (by kernel_rfl) (by kernel_rfl) (fun _ _ _ h => h) (Or.inr ⟨by rfl, rfl⟩) (by assumption) ?_) | fail "op 2"
      try simp only [Act.put, List.setIfInBounds_toArray, List.set_cons_zero, List.set_cons_succ, List.getElem_toArray, List.getElem_cons_zero, List.getElem_cons_succ]
      refine wpAnyH_ready (rs := [3]) (by kernel_rfl) (by simp) ?_
      refine AllReadyH.cons rfl (fun K hK => ?_) AllReadyH.nil
      clear hHeld
      go_simp
      refine hK.out _ _ (KS.out _ _ _ _ _ _ _ _) (fun hHeld => ?_)
      clear hK K
      try simp only [Act.put, List.setIfInBounds_toArray, List.set_cons_zero, List.set_cons_succ, List.getElem_toArray, List.getElem_cons_zero, List.getElem_cons_succ]
      refine wpAnyH_take (i := 4) (v := ?_) rfl (by kernel_rfl) (by kernel_rfl) (by kernel_rfl) (fun _ _ _ h => h) (Or.inl ⟨by rfl, ?_⟩) hHeld ?_
      rotate_left
      focus (intro w hSw; (try dsimp only at hSw); go_simp; (all_goals with_reducible rfl); done)
      try simp only [Act.put, List.setIfInBounds_toArray, List.set_cons_zero, List.set_cons_succ, List.getElem_toArray, List.getElem_cons_zero, List.getElem_cons_succ]
      refine wpAnyH_take (i := 5) (v := ?_) rfl (by kernel_rfl) (by kernel_rfl) (by kernel_rfl) (fun _ _ _ h => h) (Or.inl ⟨by rfl, ?_⟩) hHeld ?_
      rotate_left
      focus (intro w hSw; (try dsimp only at hSw); go_simp; (all_goals with_reducible rfl); done)
      try simp only [Act.put, List.setIfInBounds_toArray, List.set_cons_zero, List.set_cons_succ, List.getElem_toArray, List.getElem_cons_zero, List.getElem_cons_succ]
      refine wpAnyH_done (by kernel_rfl) ?_ _
      clear ks0 hHeld
      go_wp2_with fail
      refine bodyPost_ret (v := .tuple #[.agg #[.slice (some ⟨g, 0, none⟩) s.ready.length C1, .slice A4 (s.outs.length + 1) C4, .slice A3 s.takers.length C3, .int .i64 s.nextSeq, .int .i64 (s.nextTag + 1), .int .i64 s.came, .int .i64 s.acked, .int .i64 s.dropped], .int .i64 s.nextTag, .int .i64 0]) (by simp [results, Tryd.results25, go_sem, k0, k1, k2, k3, k4, k5, k6, k7, hlt, y0, y1, y2, y3, y4, y5, y6, y7, hlt9]) rfl ?_
      have hfin := ((HZ2.out.1.kept (KeepsT.set8 HZS.out (ts := [43]) (by decide) (.slice (some ⟨g, 0, none⟩) s.ready.length C1) (.slice A4 (s.outs.length + 1) C4) (.slice A3 s.takers.length C3) (.int .i64 s.nextSeq) (.int .i64 (s.nextTag + 1)) (.int .i64 s.came) (.int .i64 s.acked) (.int .i64 s.dropped))).kept (KeepsT.drew [] _)).stateAt
      obtain ⟨hst, e1, e2, e3⟩ := hfin
      refine ⟨some ⟨g, 0, none⟩, A4, A3, C1, C4, C3, _, ?_, by rw [HGV.out]; exact hst.wider (Nat.le_of_lt (Nat.lt_trans (by omega) HLO.out)) (Nat.le_refl _), (below_set8 (HBX.out _ HZ2.out.2.2).1.below (by omega) _ _ _ _ _ _ _ _).drew⟩
      rw [HR.out.1, HR.out.2.1, HGV.out]
      unfold stateV vState
      dsimp only
      rw [List.length_set, List.length_append]
      rfl
  · have b1 : (nextErr p s q != 0) = true := by simp [hc]
    have HR := Lib.hid (deliver_next hc)
    clear hc
    have hzk := (HBX.out _ HB1.out).2
    unfold zeroCells at hzk
    obtain ⟨k0, k1, k2, k3, k4, k5, k6, k7, f0, f1, f2, f3, f4, f5, f6, f7, hlt⟩ := zero_cells hzk
    clear hzk
    go_wp2_with fail
    refine bodyPost_ret (v := .tuple #[stateV zeroS none none none 0 0 0, .int .i64 0, .int .i64 (nextErr p s q)]) (by simp [results, Tryd.results25, go_sem, stateV, vState, zeroS, k0, k1, k2, k3, k4, k5, k6, k7, hlt]) rfl
      ⟨none, none, none, 0, 0, 0, [], by rw [HR.out.1, HR.out.2.1, HR.out.2.2], by rw [HR.out.2.2]; exact zero_at _ _ _, below_set8 (HBX.out _ HB1.out).1.below (by omega) _ _ _ _ _ _ _ _⟩

end Go.Proofs.YtapimpmpjighmaaDoor

namespace Go.Proofs.YtapimpmpjighmaaDoor
open Go.RowKit
set_option maxRecDepth 100000

theorem fine_small {x : ItemD} (h : itemFine x = true) : ItemSmall x := by
  unfold itemFine at h
  simp only [Bool.and_eq_true, decide_eq_true_eq] at h
  obtain ⟨⟨⟨⟨⟨h1, h2⟩, h3⟩, h4⟩, h5⟩, h6⟩ := h
  have := splitErr_size h1
  unfold ItemSmall
  omega
theorem mem_sum : ∀ {l : List (List ItemD)} {r : List ItemD}, r ∈ l → r.length ≤ (l.map List.length).sum
  | x :: l, r, h => by
    rw [List.map_cons, List.sum_cons]
    rcases List.mem_cons.1 h with rfl | h
    · omega
    · have := mem_sum h; omega
theorem count_in {n : Int} (h : countB n = true) : 0 ≤ n ∧ n ≤ 1048576 := by
  unfold countB at h
  simpa [Bool.and_eq_true, decide_eq_true_eq] using h
theorem Right.small {p : PlanD} {s : StateD} (h : Right p s) : StateSmall s := by
  have h1 := count_in h.came
  have h2 := count_in h.acked
  have h3 := count_in h.dropped
  have hs := h.sum
  have hp := (checkP_right h.plan).queues
  have hm := h.many
  unfold lyingS at hs
  refine ⟨by rw [h.len]; omega, by omega, by omega, fun l hl => ⟨?_, fun x hx => ?_⟩, fun x hx => ?_, by omega⟩
  · have := mem_sum hl
    omega
  · exact fine_small ((lineFine_iff.1 (h.line l hl)).1 x hx)
  · obtain ⟨_, _, _, _, _, _, _, _, h8⟩ := tk_out h.toFormed hx
    exact fine_small h8
theorem i64_mk {n : Int} (h1 : -1 ≤ n) (h2 : n ≤ 1048576) : i64 n := by unfold i64; omega
theorem Right.ints {p : PlanD} {s : StateD} (h : Right p s) : StateInts s := by
  have h1 := count_in h.came
  have h2 := count_in h.acked
  have h3 := count_in h.dropped
  have h4 := count_in h.nextSeq
  have h5 := count_in h.nextTag
  have hp := (checkP_right h.plan).queues
  have hm := h.many
  have ht : ∀ x ∈ s.takers, -1 ≤ x.queue ∧ x.queue ≤ 1048576 ∧ -1 ≤ x.atOnce ∧ x.atOnce ≤ 1048576 := fun x hx => by
    have := h.taker x hx
    unfold takerB at this
    simp only [Bool.and_eq_true, decide_eq_true_eq] at this
    omega
  refine ⟨i64_mk (by omega) (by omega), i64_mk (by omega) (by omega), i64_mk (by omega) (by omega), i64_mk (by omega) (by omega), i64_mk (by omega) (by omega), fun x hx => ?_, fun x hx => ?_⟩
  · have := ht x hx
    exact ⟨i64_mk (by omega) (by omega), i64_mk (by omega) (by omega)⟩
  · obtain ⟨t, k1, k2, k3, k4, k5, k6, k7, _⟩ := tk_out h.toFormed hx
    have := ht t (List.mem_of_getElem? k1)
    exact ⟨i64_mk (by omega) (by omega), i64_mk (by omega) (by omega), i64_mk (by omega) (by omega)⟩
theorem zero_small : StateSmall zeroS := ⟨by decide, by decide, by decide, (by intro l hl; cases hl), (by intro x hx; cases hx), by decide⟩
theorem zero_ints : StateInts zeroS := ⟨i64_mk (by decide) (by decide), i64_mk (by decide) (by decide), i64_mk (by decide) (by decide), i64_mk (by decide) (by decide), i64_mk (by decide) (by decide), (by intro x hx; cases hx), (by intro x hx; cases hx)⟩
theorem join_small (p : PlanD) (s : StateD) (q m : Int) : StateSmall (joinS p s q m) ∧ StateInts (joinS p s q m) := by
  by_cases h : joinErr p s q m = 0
  · have := join_right h
    exact ⟨this.small, this.ints⟩
  · unfold joinS
    rw [if_neg h]
    exact ⟨zero_small, zero_ints⟩
theorem deliver_small (p : PlanD) (s : StateD) (q : Int) : StateSmall (deliverS p s q) ∧ StateInts (deliverS p s q) := by
  by_cases h : deliverErr p s q = 0
  · obtain ⟨i, _, _, _, e, hr⟩ := deliver_right h
    rw [e]
    exact ⟨hr.small, hr.ints⟩
  · unfold deliverS
    rw [if_neg h]
    exact ⟨zero_small, zero_ints⟩

/-- A state in a box. -/
structure BoxS (w : World) (g : Nat) (x : StateD) (a1 a2 a3 : Option Addr) (c1 c2 c3 : Nat) (rows : List RowD) : Prop where
  bk : Bk w g 43 (vState x a1 a2 a3 c1 c2 c3)
  at_ : StateAt w 0 w.heap.size a1 a2 a3 rows x
theorem BoxS.below {w w' : World} {g : Nat} {x : StateD} {a1 a2 a3 : Option Addr} {c1 c2 c3 : Nat} {rows : List RowD} (h : BoxS w g x a1 a2 a3 c1 c2 c3 rows) (hb : Below w.heap.size w w') : BoxS w' g x a1 a2 a3 c1 c2 c3 rows :=
  ⟨h.bk.below hb h.bk.lt, (h.at_.below hb (Nat.le_refl _)).wider (Nat.le_refl _) hb.size⟩
theorem BoxS.new {w : World} {x : StateD} {a1 a2 a3 : Option Addr} {rows : List RowD} (h : StateAt w 0 w.heap.size a1 a2 a3 rows x) (c1 c2 c3 : Nat) : BoxS (w.alloc (.cells (vState x a1 a2 a3 c1 c2 c3) 43)) w.heap.size x a1 a2 a3 c1 c2 c3 rows :=
  ⟨Bk.new _ _ _, (h.below ((Below.refl _ _).alloc (Nat.le_refl _) _) (Nat.le_refl _)).wider (Nat.le_refl _) (by simp)⟩
theorem BoxS.cells {w : World} {g : Nat} {x : StateD} {a1 a2 a3 : Option Addr} {c1 c2 c3 : Nat} {rows : List RowD} (h : BoxS w g x a1 a2 a3 c1 c2 c3 rows) :
    w.cell? ⟨g, 0, none⟩ = some (.slice a1 x.ready.length c1) ∧ w.cell? ⟨g, 1, none⟩ = some (.slice a2 x.outs.length c2) ∧ w.cell? ⟨g, 2, none⟩ = some (.slice a3 x.takers.length c3) ∧ w.cell? ⟨g, 3, none⟩ = some (.int .i64 x.nextSeq) ∧ w.cell? ⟨g, 4, none⟩ = some (.int .i64 x.nextTag) ∧ w.cell? ⟨g, 5, none⟩ = some (.int .i64 x.came) ∧ w.cell? ⟨g, 6, none⟩ = some (.int .i64 x.acked) ∧ w.cell? ⟨g, 7, none⟩ = some (.int .i64 x.dropped) :=
  cells8 h.bk
/-- A state that comes is boxed; what is behind, and what was ahead, in all that comes later. -/
theorem box_since {w0 w1 : World} {x : StateD} {a1 a2 a3 : Option Addr} {rows : List RowD} (c1 c2 c3 : Nat) {lo : Nat} (h : StateAt w1 lo w1.heap.size a1 a2 a3 rows x) (hb : Below w0.heap.size w0 w1) {W1 : World} (hW : w1.alloc (.cells (vState x a1 a2 a3 c1 c2 c3) 43) = W1) :
    ∀ W, Below W1.heap.size W1 W → BoxS W w1.heap.size x a1 a2 a3 c1 c2 c3 rows ∧ Below w0.heap.size w0 W := fun W h2 => by
  subst hW
  exact ⟨(BoxS.new (h.wider (Nat.zero_le _) (Nat.le_refl _)) c1 c2 c3).below h2, (hb.alloc hb.size _).trans (h2.mono (by have := hb.size; simp; omega))⟩

theorem Sl.away {w : World} {lo hi : Nat} {a : Option Addr} {us : List Value} (h : Sl w lo hi a us) {p : Addr} (hp : p.block < lo ∨ hi ≤ p.block) (v : Value) : Sl (w.setCell p v) lo hi a us := by
  rcases h with h | ⟨b, o, rfl, h1, h2, hc⟩
  · exact .inl h
  · refine .inr ⟨b, o, rfl, h1, h2, fun j u hu => ?_⟩
    have he := Below.heap_setCell w p v b (by omega)
    have := hc j u hu
    simp only [World.cell?] at this ⊢
    rw [he]
    exact this
theorem StateAt.away {w : World} {lo hi : Nat} {a1 a2 a3 : Option Addr} {rows : List RowD} {s : StateD} (h : StateAt w lo hi a1 a2 a3 rows s) {p : Addr} (hp : p.block < lo ∨ hi ≤ p.block) (v : Value) : StateAt (w.setCell p v) lo hi a1 a2 a3 rows s :=
  ⟨h.same, h.ready.away hp v, fun r hr => ⟨(h.row r hr).1.away hp v, (h.row r hr).2⟩, h.outs.away hp v, h.takers.away hp v⟩
/-- A box that was made for a state that came gets it. -/
theorem box_set8 {wd W : World} {g lo : Nat} {x : StateD} {a1 a2 a3 : Option Addr} {c1 c2 c3 : Nat} {rows : List RowD} {o0 o1 o2 o3 o4 o5 o6 o7 : Value} (hs : StateAt wd lo wd.heap.size a1 a2 a3 rows x) (hW : Below wd.heap.size wd W) (hk : Bk W g 43 #[o0, o1, o2, o3, o4, o5, o6, o7]) (hg : g < lo ∨ wd.heap.size ≤ g) :
    BoxS ((((((((W.setCell ⟨g, 0, none⟩ (.slice a1 x.ready.length c1)).setCell ⟨g, 1, none⟩ (.slice a2 x.outs.length c2)).setCell ⟨g, 2, none⟩ (.slice a3 x.takers.length c3)).setCell ⟨g, 3, none⟩ (.int .i64 x.nextSeq)).setCell ⟨g, 4, none⟩ (.int .i64 x.nextTag)).setCell ⟨g, 5, none⟩ (.int .i64 x.came)).setCell ⟨g, 6, none⟩ (.int .i64 x.acked)).setCell ⟨g, 7, none⟩ (.int .i64 x.dropped)) g x a1 a2 a3 c1 c2 c3 rows := by
  refine ⟨?_, ?_⟩
  · have := (((((((hk.set_ 0 (.slice a1 x.ready.length c1)).set_ 1 (.slice a2 x.outs.length c2)).set_ 2 (.slice a3 x.takers.length c3)).set_ 3 (.int .i64 x.nextSeq)).set_ 4 (.int .i64 x.nextTag)).set_ 5 (.int .i64 x.came)).set_ 6 (.int .i64 x.acked)).set_ 7 (.int .i64 x.dropped)
    simpa [vState] using this
  · have h := hs.below hW (Nat.le_refl _)
    have hs8 := ((((((((h.away (p := ⟨g, 0, none⟩) hg (.slice a1 x.ready.length c1)).away (p := ⟨g, 1, none⟩) hg (.slice a2 x.outs.length c2)).away (p := ⟨g, 2, none⟩) hg (.slice a3 x.takers.length c3)).away (p := ⟨g, 3, none⟩) hg (.int .i64 x.nextSeq)).away (p := ⟨g, 4, none⟩) hg (.int .i64 x.nextTag)).away (p := ⟨g, 5, none⟩) hg (.int .i64 x.came)).away (p := ⟨g, 6, none⟩) hg (.int .i64 x.acked)).away (p := ⟨g, 7, none⟩) hg (.int .i64 x.dropped))
    exact hs8.wider (Nat.zero_le _) (by have := hW.size; simpa [World.setCell] using this)
/-- What comes of a call whose state is boxed where an order is drawn. -/
def BoxPost (x : StateD) (n err : Int) (WA : World) (b t e : Value) (wx : World) : Prop :=
  ∃ g y1 y2 y3 e1 e2 e3 ry, b = .pointer (some ⟨g, 0, none⟩) ∧ t = .int .i64 n ∧ e = .int .i64 err ∧ BoxS wx g x y1 y2 y3 e1 e2 e3 ry ∧ Below WA.heap.size WA wx
theorem box_post {wd W WA : World} {g lo : Nat} {x : StateD} {n err : Int} {a1 a2 a3 : Option Addr} {c1 c2 c3 : Nat} {rows : List RowD} {o0 o1 o2 o3 o4 o5 o6 o7 : Value} (hs : StateAt wd lo wd.heap.size a1 a2 a3 rows x) (hW : Below wd.heap.size wd W) (hk : Bk W g 43 #[o0, o1, o2, o3, o4, o5, o6, o7]) (hg : g < lo ∨ wd.heap.size ≤ g)
    (hb : Below WA.heap.size WA W) (hg2 : WA.heap.size ≤ g) :
    BoxPost x n err WA (.pointer (some ⟨g, 0, none⟩)) (.int .i64 n) (.int .i64 err) ((((((((W.setCell ⟨g, 0, none⟩ (.slice a1 x.ready.length c1)).setCell ⟨g, 1, none⟩ (.slice a2 x.outs.length c2)).setCell ⟨g, 2, none⟩ (.slice a3 x.takers.length c3)).setCell ⟨g, 3, none⟩ (.int .i64 x.nextSeq)).setCell ⟨g, 4, none⟩ (.int .i64 x.nextTag)).setCell ⟨g, 5, none⟩ (.int .i64 x.came)).setCell ⟨g, 6, none⟩ (.int .i64 x.acked)).setCell ⟨g, 7, none⟩ (.int .i64 x.dropped)) :=
  ⟨g, a1, a2, a3, c1, c2, c3, rows, rfl, rfl, rfl, box_set8 hs hW hk hg, below_set8 hb hg2 _ _ _ _ _ _ _ _⟩
theorem box_post_new {wd WA : World} {lo : Nat} {x : StateD} {a1 a2 a3 : Option Addr} {rows : List RowD} (n err : Int) (c1 c2 c3 : Nat) (hs : StateAt wd lo wd.heap.size a1 a2 a3 rows x) (hb : Below WA.heap.size WA wd) :
    BoxPost x n err WA (.pointer (some ⟨wd.heap.size, 0, none⟩)) (.int .i64 n) (.int .i64 err) (wd.alloc (.cells (vState x a1 a2 a3 c1 c2 c3) 43)) :=
  ⟨_, a1, a2, a3, c1, c2, c3, rows, rfl, rfl, rfl, BoxS.new (hs.wider (Nat.zero_le _) (Nat.le_refl _)) c1 c2 c3, hb.alloc hb.size _⟩

end Go.Proofs.YtapimpmpjighmaaDoor

namespace Go.Proofs.YtapimpmpjighmaaDoor
open Go.RowKit
set_option maxRecDepth 100000

def busyA : StateD := { busyS with takers := [⟨0, 3⟩, ⟨0, 2⟩] }
def busyB : StateD := { busyA with ready := [[letterP 3 bThree], [], []], outs := [⟨5, 1, 0, letterP 1 bOne⟩, ⟨6, 0, 0, letterP 2 bTwo⟩], nextTag := 7 }
theorem ask_office : askErr officeP busyS 0 = 0 := ask_ok.2 ⟨right_iff.1 busy_right, by decide, by decide⟩
theorem ask_office1 : askErr officeP busyS 1 = 0 := ask_ok.2 ⟨right_iff.1 busy_right, by decide, by decide⟩
theorem join_office0 : joinErr officeP busyS 0 3 = 0 ∧ joinN officeP busyS 0 3 = 0 ∧ joinS officeP busyS 0 3 = busyA := join_some (k := 0) ask_office (by decide) rfl
theorem busyA_right : Right officeP busyA := by
  have := join_right join_office0.1
  rwa [join_office0.2.2] at this
theorem join_office5 : joinErr officeP busyS 0 5 = 3 ∧ joinN officeP busyS 0 5 = 0 ∧ joinS officeP busyS 0 5 = zeroS := join_range ask_office (by decide)
theorem ask_officeA : askErr officeP busyA 0 = 0 := ask_ok.2 ⟨busyA_right, by decide, by decide⟩
theorem next_officeA : nextErr officeP busyA 0 = 0 ∧ nextN officeP busyA 0 = 0 := by
  have h := next_done ask_officeA (by decide) (by decide)
  exact ⟨h.1, h.2.trans (by decide)⟩
theorem next_office1 : nextErr officeP busyS 1 = 8 ∧ nextN officeP busyS 1 = 0 := next_none ask_office1 (by decide)
theorem next_office0 : nextErr officeP busyS 0 = 0 ∧ nextN officeP busyS 0 = 1 := by
  have h := next_done ask_office (by decide) (by decide)
  exact ⟨h.1, h.2.trans (by decide)⟩
theorem deliver_officeA : deliverErr officeP busyA 0 = 0 ∧ deliverT officeP busyA 0 = 6 ∧ deliverS officeP busyA 0 = busyB := by
  have h := deliver_done next_officeA.1 (by decide)
  refine ⟨h.1, h.2.1, h.2.2.trans ?_⟩
  rw [show bestN busyA 0 = 0 by decide]
  rfl
theorem cJoin (m : Int) (x : StateD) (k : Nat) (n : Int) (h : joinErr officeP busyS 0 m = n ∧ joinN officeP busyS 0 m = k ∧ joinS officeP busyS 0 m = x) (b1 b2 b3 lo g0 g1 g2 g3 : Nat) (w : World) (hE : Env w) (ho : OfficeIn w b1 b2 b3) (hs : BusyAt w lo g0 g1 g2 g3) :
    Calls Tryd.prog 18 #[officeV b1 b2 b3, busyV g1 g2 g3, .int .i64 0, .int .i64 m] w (TkPost x k n w) := by
  have := Join_any officeP busyS 0 m _ _ _ _ _ _ 3 3 5 3 1 2 (busyRowD g0) w hE ho.plan office_small hs.state busy_small busy_ints
  rw [h.1, h.2.1, h.2.2] at this
  exact this
theorem cNext (s : StateD) (q k n : Int) (h : nextErr officeP s q = n ∧ nextN officeP s q = k) (hss : StateSmall s) (hsi : StateInts s) (b1 b2 b3 : Nat) (a1 a2 a3 : Option Addr) (c1 c2 c3 : Nat) (rows : List RowD) (w : World) (hE : Env w) (ho : OfficeIn w b1 b2 b3) (hs : StateAt w 0 w.heap.size a1 a2 a3 rows s) :
    Calls Tryd.prog 22 #[officeV b1 b2 b3, stateV s a1 a2 a3 c1 c2 c3, .int .i64 q] w fun e w' => e = .returned (.tuple #[.int .i64 k, .int .i64 n]) ∧ Below w.heap.size w w' := by
  have := Next_any officeP s q _ _ _ a1 a2 a3 3 3 5 c1 c2 c3 rows w hE ho.plan office_small hs hss hsi
  rw [h.1, h.2] at this
  exact this
theorem cDeliver (s x : StateD) (q k n : Int) (h : deliverErr officeP s q = n ∧ deliverT officeP s q = k ∧ deliverS officeP s q = x) (hss : StateSmall s) (hsi : StateInts s) (b1 b2 b3 : Nat) (a1 a2 a3 : Option Addr) (c1 c2 c3 : Nat) (rows : List RowD) (w : World) (hE : Env w) (ho : OfficeIn w b1 b2 b3) (hs : StateAt w 0 w.heap.size a1 a2 a3 rows s) :
    Calls Tryd.prog 23 #[officeV b1 b2 b3, stateV s a1 a2 a3 c1 c2 c3, .int .i64 q] w (TkPost x k n w) := by
  have := Deliver_any officeP s q _ _ _ a1 a2 a3 3 3 5 c1 c2 c3 rows w hE ho.plan office_small hs hss hsi
  rw [h.1, h.2.1, h.2.2] at this
  exact this

set_option maxHeartbeats 4000000 in
theorem takersBegun_any (w : World) (hE : Env w) : Calls Tryd.prog 20 #[] w fun e w' => e = .returned (.bool true) ∧ Below w.heap.size w w' := by
  have HE := Lib.hid hE; clear hE
  go_enter Tryd.func20, Tryd.ntmps20
  go_wp2_with fail
  refine (office_in _).mono ?_
  rintro e w1 ⟨p1, p2, p3, rfl, ho1, hb1⟩
  go_wp2_with fail
  refine (busy_any _).mono ?_
  rintro e w2 ⟨g0, g1, g2, g3, rfl, hy2, hb2⟩
  have hb2' := hb1.trans (hb2.mono hb1.size)
  have ho2 := ho1.below hb2
  go_wp2_with fail
  refine (cJoin 3 busyA 0 0 join_office0 p1 p2 p3 _ g0 g1 g2 g3 w2 (below_env hb2' HE.out) ho2 hy2).mono ?_
  rintro e w3 ⟨x1, x2, x3, d1, d2, d3, rx, rfl, hs3, hb3⟩
  have HB3 := Lib.hid (hb2'.trans (hb3.mono hb2'.size))
  have HS3 := Lib.hid hs3
  clear hb1 hb2 hb2' hb3 ho1 ho2 hy2 hs3
  rw [show stateV busyA x1 x2 x3 d1 d2 d3 = .agg #[.slice x1 3 d1, .slice x2 1 d2, .slice x3 2 d3, .int .i64 4, .int .i64 6, .int .i64 4, .int .i64 1, .int .i64 0] from rfl]
  go_upto_region 2 with fail
  obtain ⟨WA, hWA⟩ : ∃ WA, w3.alloc (.cells #[.slice x1 3 d1, .slice x2 1 d2, .slice x3 2 d3, .int .i64 4, .int .i64 6, .int .i64 4, .int .i64 1, .int .i64 0] 43) = WA := ⟨_, rfl⟩
  have HA := Lib.hid (box_since (x := busyA) d1 d2 d3 HS3.out HB3.out hWA)
  rw [hWA]
  clear hWA
  have HK : Hid (∀ W, Below WA.heap.size WA W → (W.cell? ⟨w3.heap.size, 0, none⟩ = some (.slice x1 3 d1) ∧ W.cell? ⟨w3.heap.size, 1, none⟩ = some (.slice x2 1 d2) ∧ W.cell? ⟨w3.heap.size, 2, none⟩ = some (.slice x3 2 d3) ∧ W.cell? ⟨w3.heap.size, 3, none⟩ = some (.int .i64 4) ∧ W.cell? ⟨w3.heap.size, 4, none⟩ = some (.int .i64 6) ∧ W.cell? ⟨w3.heap.size, 5, none⟩ = some (.int .i64 4) ∧ W.cell? ⟨w3.heap.size, 6, none⟩ = some (.int .i64 1) ∧ W.cell? ⟨w3.heap.size, 7, none⟩ = some (.int .i64 0)) ∧ Below WA.heap.size WA W) := fun W hW => ⟨(HA.out W hW).1.cells, hW⟩
  have HN : Hid (∀ W b1 b2 b3, Below WA.heap.size WA W → OfficeIn W b1 b2 b3 → Calls Tryd.prog 22 #[officeV b1 b2 b3, .agg #[.slice x1 3 d1, .slice x2 1 d2, .slice x3 2 d3, .int .i64 4, .int .i64 6, .int .i64 4, .int .i64 1, .int .i64 0], .int .i64 0] W fun e w' => e = .returned (.tuple #[.int .i64 0, .int .i64 0]) ∧ Below W.heap.size W w') := fun W b1 b2 b3 hW ho =>
    cNext busyA 0 0 0 next_officeA busyA_right.small busyA_right.ints b1 b2 b3 x1 x2 x3 d1 d2 d3 rx W (below_env (HA.out W hW).2 HE.out) ho (HA.out W hW).1.at_
  have HD : Hid (∀ W b1 b2 b3, Below WA.heap.size WA W → OfficeIn W b1 b2 b3 → Calls Tryd.prog 23 #[officeV b1 b2 b3, .agg #[.slice x1 3 d1, .slice x2 1 d2, .slice x3 2 d3, .int .i64 4, .int .i64 6, .int .i64 4, .int .i64 1, .int .i64 0], .int .i64 0] W (TkPost busyB 6 0 W)) := fun W b1 b2 b3 hW ho =>
    cDeliver busyA busyB 0 6 0 deliver_officeA busyA_right.small busyA_right.ints b1 b2 b3 x1 x2 x3 d1 d2 d3 rx W (below_env (HA.out W hW).2 HE.out) ho (HA.out W hW).1.at_
  clear HS3 HB3
  refine wp_region_held_drew (S := (fun W => (W.cell? ⟨w3.heap.size, 0, none⟩ = some (.slice x1 3 d1) ∧ W.cell? ⟨w3.heap.size, 1, none⟩ = some (.slice x2 1 d2) ∧ W.cell? ⟨w3.heap.size, 2, none⟩ = some (.slice x3 2 d3) ∧ W.cell? ⟨w3.heap.size, 3, none⟩ = some (.int .i64 4) ∧ W.cell? ⟨w3.heap.size, 4, none⟩ = some (.int .i64 6) ∧ W.cell? ⟨w3.heap.size, 5, none⟩ = some (.int .i64 4) ∧ W.cell? ⟨w3.heap.size, 6, none⟩ = some (.int .i64 1) ∧ W.cell? ⟨w3.heap.size, 7, none⟩ = some (.int .i64 0)) ∧ Below WA.heap.size WA W)) (by kernel_rfl) (by first | assumption | exact HK.out _ (Below.refl _ _).drew | exact HK.out _ (kb_alloc (by assumption) _) | exact HK.out _ (by assumption)) (fun hHeld => ?_)
  first | (refine wpAnyH_take (i := 1) (v := ?_) rfl (by kernel_rfl) (by kernel_rfl) (by kernel_rfl) (fun _ _ _ h => h) (Or.inl ⟨by rfl, ?_⟩) (by assumption) ?_; rotate_left; focus (intro w hSw; (try dsimp only at hSw); go_simp; (all_goals with_reducible rfl); done)) | (refine wpAnyH_take (i := 1) rfl (by kernel_rfl) (by kernel_rfl) (by kernel_rfl) (fun _ _ _ h => h) (Or.inr ⟨by rfl, rfl⟩) (by assumption) ?_) | fail "op 1"
  try simp only [Act.put, List.setIfInBounds_toArray, List.set_cons_zero, List.set_cons_succ, List.getElem_toArray, List.getElem_cons_zero]
  first
    | refine wpAnyH_take (i := 0) rfl (by kernel_rfl) (by kernel_rfl) (by kernel_rfl) (fun _ _ _ h => h) (Or.inr ⟨by rfl, rfl⟩) (by assumption) ?_
    | (refine wpAnyH_ready (rs := [0]) (by kernel_rfl) (by simp) ?_; refine AllReadyH.cons rfl (fun K hK => ?_) AllReadyH.nil; go_simp; (first | (go_at_call 53; with_reducible refine (office_in _).mono ?_; rintro e wo ⟨b1, b2, b3, rfl, ho, hbo⟩; have hbo2 := since_stepC (by assumption) hbo) | (go_at_call 22; refine (HN.out _ _ _ _ hbo2 ho).mono ?_; rintro e wn ⟨rfl, hbn⟩; have hbo3 := hbo2.trans (hbn.mono hbo2.size))); refine hK.out _ _ (by first | assumption | exact HK.out _ (Below.refl _ _).drew | exact HK.out _ (kb_alloc (by assumption) _) | exact HK.out _ (by assumption)) (fun hHeld => ?_); clear hK K)
    | fail "call 0"
  try simp only [Act.put, List.setIfInBounds_toArray, List.set_cons_zero, List.set_cons_succ, List.getElem_toArray, List.getElem_cons_zero, List.getElem_cons_succ]
  first
    | refine wpAnyH_take (i := 2) rfl (by kernel_rfl) (by kernel_rfl) (by kernel_rfl) (fun _ _ _ h => h) (Or.inr ⟨by rfl, rfl⟩) (by assumption) ?_
    | (refine wpAnyH_ready (rs := [2]) (by kernel_rfl) (by simp) ?_; refine AllReadyH.cons rfl (fun K hK => ?_) AllReadyH.nil; go_simp; (first | (go_at_call 53; with_reducible refine (office_in _).mono ?_; rintro e wo ⟨b1, b2, b3, rfl, ho, hbo⟩; have hbo2 := since_stepC (by assumption) hbo) | (go_at_call 22; refine (HN.out _ _ _ _ hbo2 ho).mono ?_; rintro e wn ⟨rfl, hbn⟩; have hbo3 := hbo2.trans (hbn.mono hbo2.size))); refine hK.out _ _ (by first | assumption | exact HK.out _ (Below.refl _ _).drew | exact HK.out _ (kb_alloc (by assumption) _) | exact HK.out _ (by assumption)) (fun hHeld => ?_); clear hK K)
    | fail "call 2"
  try simp only [Act.put, List.setIfInBounds_toArray, List.set_cons_zero, List.set_cons_succ, List.getElem_toArray, List.getElem_cons_zero, List.getElem_cons_succ]
  first | (refine wpAnyH_take (i := 3) (v := ?_) rfl (by kernel_rfl) (by kernel_rfl) (by kernel_rfl) (fun _ _ _ h => h) (Or.inl ⟨by rfl, ?_⟩) (by assumption) ?_; rotate_left; focus (intro w hSw; (try dsimp only at hSw); go_simp; (all_goals with_reducible rfl); done)) | (refine wpAnyH_take (i := 3) rfl (by kernel_rfl) (by kernel_rfl) (by kernel_rfl) (fun _ _ _ h => h) (Or.inr ⟨by rfl, rfl⟩) (by assumption) ?_) | fail "op 3"
  try simp only [Act.put, List.setIfInBounds_toArray, List.set_cons_zero, List.set_cons_succ, List.getElem_toArray, List.getElem_cons_zero, List.getElem_cons_succ]
  first | (refine wpAnyH_take (i := 4) (v := ?_) rfl (by kernel_rfl) (by kernel_rfl) (by kernel_rfl) (fun _ _ _ h => h) (Or.inl ⟨by rfl, ?_⟩) (by assumption) ?_; rotate_left; focus (intro w hSw; (try dsimp only at hSw); go_simp; (all_goals with_reducible rfl); done)) | (refine wpAnyH_take (i := 4) rfl (by kernel_rfl) (by kernel_rfl) (by kernel_rfl) (fun _ _ _ h => h) (Or.inr ⟨by rfl, rfl⟩) (by assumption) ?_) | fail "op 4"
  try simp only [Act.put, List.setIfInBounds_toArray, List.set_cons_zero, List.set_cons_succ, List.getElem_toArray, List.getElem_cons_zero, List.getElem_cons_succ]
  first | (refine wpAnyH_take (i := 5) (v := ?_) rfl (by kernel_rfl) (by kernel_rfl) (by kernel_rfl) (fun _ _ _ h => h) (Or.inl ⟨by rfl, ?_⟩) (by assumption) ?_; rotate_left; focus (intro w hSw; (try dsimp only at hSw); go_simp; (all_goals with_reducible rfl); done)) | (refine wpAnyH_take (i := 5) rfl (by kernel_rfl) (by kernel_rfl) (by kernel_rfl) (fun _ _ _ h => h) (Or.inr ⟨by rfl, rfl⟩) (by assumption) ?_) | fail "op 5"
  try simp only [Act.put, List.setIfInBounds_toArray, List.set_cons_zero, List.set_cons_succ, List.getElem_toArray, List.getElem_cons_zero, List.getElem_cons_succ]
  first | (refine wpAnyH_take (i := 6) (v := ?_) rfl (by kernel_rfl) (by kernel_rfl) (by kernel_rfl) (fun _ _ _ h => h) (Or.inl ⟨by rfl, ?_⟩) (by assumption) ?_; rotate_left; focus (intro w hSw; (try dsimp only at hSw); go_simp; (all_goals with_reducible rfl); done)) | (refine wpAnyH_take (i := 6) rfl (by kernel_rfl) (by kernel_rfl) (by kernel_rfl) (fun _ _ _ h => h) (Or.inr ⟨by rfl, rfl⟩) (by assumption) ?_) | fail "op 6"
  try simp only [Act.put, List.setIfInBounds_toArray, List.set_cons_zero, List.set_cons_succ, List.getElem_toArray, List.getElem_cons_zero, List.getElem_cons_succ]
  first | (refine wpAnyH_take (i := 7) (v := ?_) rfl (by kernel_rfl) (by kernel_rfl) (by kernel_rfl) (fun _ _ _ h => h) (Or.inl ⟨by rfl, ?_⟩) (by assumption) ?_; rotate_left; focus (intro w hSw; (try dsimp only at hSw); go_simp; (all_goals with_reducible rfl); done)) | (refine wpAnyH_take (i := 7) rfl (by kernel_rfl) (by kernel_rfl) (by kernel_rfl) (fun _ _ _ h => h) (Or.inr ⟨by rfl, rfl⟩) (by assumption) ?_) | fail "op 7"
  try simp only [Act.put, List.setIfInBounds_toArray, List.set_cons_zero, List.set_cons_succ, List.getElem_toArray, List.getElem_cons_zero, List.getElem_cons_succ]
  refine wpAnyH_done (by kernel_rfl) ?_ _
  have HBN := Lib.hid hbo3
  clear hbo hbo2 hbo3 ho hbn hHeld
  go_wp2_with fail
  go_cut [6, 7, 8] from 29 to 35 (fun b t e wx => BoxPost busyB 6 0 WA b t e wx)
  case first =>
    refine wp_region_held_drew (S := (fun W => (W.cell? ⟨w3.heap.size, 0, none⟩ = some (.slice x1 3 d1) ∧ W.cell? ⟨w3.heap.size, 1, none⟩ = some (.slice x2 1 d2) ∧ W.cell? ⟨w3.heap.size, 2, none⟩ = some (.slice x3 2 d3) ∧ W.cell? ⟨w3.heap.size, 3, none⟩ = some (.int .i64 4) ∧ W.cell? ⟨w3.heap.size, 4, none⟩ = some (.int .i64 6) ∧ W.cell? ⟨w3.heap.size, 5, none⟩ = some (.int .i64 4) ∧ W.cell? ⟨w3.heap.size, 6, none⟩ = some (.int .i64 1) ∧ W.cell? ⟨w3.heap.size, 7, none⟩ = some (.int .i64 0)) ∧ Below WA.heap.size WA W)) (by kernel_rfl) (by exact HK.out _ HBN.out.drew) (fun hHeld => ?_)
    first | (refine wpAnyH_take (i := 1) (v := ?_) rfl (by kernel_rfl) (by kernel_rfl) (by kernel_rfl) (fun _ _ _ h => h) (Or.inl ⟨by rfl, ?_⟩) (by assumption) ?_; rotate_left; focus (intro w hSw; (try dsimp only at hSw); go_simp; (all_goals with_reducible rfl); done)) | fail "op 1"
    try simp only [Act.put, List.setIfInBounds_toArray, List.set_cons_zero, List.set_cons_succ, List.getElem_toArray, List.getElem_cons_zero]
    refine wpAnyH_ready (rs := [0, 7]) (by kernel_rfl) (by simp) ?_
    refine AllReadyH.cons rfl (fun K hK => ?_) (AllReadyH.cons rfl (fun K hK => ?_) AllReadyH.nil)
    · go_simp
      go_at_call 53; with_reducible refine (office_in _).mono ?_; rintro e wo ⟨b1, b2, b3, rfl, ho, hbo⟩; have hbo2 := since_stepC (by assumption) hbo
      refine hK.out _ _ (by exact HK.out _ hbo2) (fun hHeld => ?_)
      clear hK K
      try simp only [Act.put, List.setIfInBounds_toArray, List.set_cons_zero, List.set_cons_succ, List.getElem_toArray, List.getElem_cons_zero, List.getElem_cons_succ]
      refine wpAnyH_ready (rs := [2, 7]) (by kernel_rfl) (by simp) ?_
      refine AllReadyH.cons rfl (fun K hK => ?_) (AllReadyH.cons rfl (fun K hK => ?_) AllReadyH.nil)
      · go_simp
        go_at_call 23; refine (HD.out _ _ _ _ hbo2 ho).mono ?_; rintro e wd ⟨y1, y2, y3, e1, e2, e3, ry, rfl, hsd, hbd⟩; rw [show stateV busyB y1 y2 y3 e1 e2 e3 = .agg #[.slice y1 3 e1, .slice y2 2 e2, .slice y3 2 e3, .int .i64 4, .int .i64 7, .int .i64 4, .int .i64 1, .int .i64 0] from rfl]; have hbo3 := hbo2.trans (hbd.mono hbo2.size)
        refine hK.out _ _ (by exact HK.out _ hbo3) (fun hHeld => ?_)
        clear hK K
        try simp only [Act.put, List.setIfInBounds_toArray, List.set_cons_zero, List.set_cons_succ, List.getElem_toArray, List.getElem_cons_zero, List.getElem_cons_succ]
        first | (refine wpAnyH_take (i := 3) (v := ?_) rfl (by kernel_rfl) (by kernel_rfl) (by kernel_rfl) (fun _ _ _ h => h) (Or.inl ⟨by rfl, ?_⟩) (by assumption) ?_; rotate_left; focus (intro w hSw; (try dsimp only at hSw); go_simp; (all_goals with_reducible rfl); done)) | fail "op 3"
        try simp only [Act.put, List.setIfInBounds_toArray, List.set_cons_zero, List.set_cons_succ, List.getElem_toArray, List.getElem_cons_zero, List.getElem_cons_succ]
        first | (refine wpAnyH_take (i := 4) (v := ?_) rfl (by kernel_rfl) (by kernel_rfl) (by kernel_rfl) (fun _ _ _ h => h) (Or.inl ⟨by rfl, ?_⟩) (by assumption) ?_; rotate_left; focus (intro w hSw; (try dsimp only at hSw); go_simp; (all_goals with_reducible rfl); done)) | fail "op 4"
        try simp only [Act.put, List.setIfInBounds_toArray, List.set_cons_zero, List.set_cons_succ, List.getElem_toArray, List.getElem_cons_zero, List.getElem_cons_succ]
        first | (refine wpAnyH_take (i := 5) (v := ?_) rfl (by kernel_rfl) (by kernel_rfl) (by kernel_rfl) (fun _ _ _ h => h) (Or.inl ⟨by rfl, ?_⟩) (by assumption) ?_; rotate_left; focus (intro w hSw; (try dsimp only at hSw); go_simp; (all_goals with_reducible rfl); done)) | fail "op 5"
        try simp only [Act.put, List.setIfInBounds_toArray, List.set_cons_zero, List.set_cons_succ, List.getElem_toArray, List.getElem_cons_zero, List.getElem_cons_succ]
        first | (refine wpAnyH_take (i := 6) (v := ?_) rfl (by kernel_rfl) (by kernel_rfl) (by kernel_rfl) (fun _ _ _ h => h) (Or.inl ⟨by rfl, ?_⟩) (by assumption) ?_; rotate_left; focus (intro w hSw; (try dsimp only at hSw); go_simp; (all_goals with_reducible rfl); done)) | fail "op 6"
        try simp only [Act.put, List.setIfInBounds_toArray, List.set_cons_zero, List.set_cons_succ, List.getElem_toArray, List.getElem_cons_zero, List.getElem_cons_succ]
        refine wpAnyH_ready (rs := [7]) (by kernel_rfl) (by simp) ?_
        refine AllReadyH.cons rfl (fun K hK => ?_) AllReadyH.nil
        go_simp
        have hbk := Bk.new wd 43 #[.slice none 0 0, .slice none 0 0, .slice none 0 0, .int .i64 0, .int .i64 0, .int .i64 0, .int .i64 0, .int .i64 0]
        refine hK.out _ _ (by exact HK.out _ (kb_alloc (And.intro trivial hbo3) _)) (fun hHeld => ?_)
        clear hK K
        try simp only [Act.put, List.setIfInBounds_toArray, List.set_cons_zero, List.set_cons_succ, List.getElem_toArray, List.getElem_cons_zero, List.getElem_cons_succ]
        refine wpAnyH_ready (rs := [8]) (by kernel_rfl) (by simp) ?_
        refine AllReadyH.cons rfl (fun K hK => ?_) AllReadyH.nil
        obtain ⟨c0, c1, c2, c3, c4, c5, c6, c7, f0, f1, f2, f3, f4, f5, f6, f7, hlg⟩ := zero_cells hbk; have hS8 := HK.out _ (hbo3.alloc hbo3.size (.cells #[.slice y1 3 e1, .slice y2 2 e2, .slice y3 2 e3, .int .i64 4, .int .i64 7, .int .i64 4, .int .i64 1, .int .i64 0] 43))
        go_simp
        refine hK.out _ _ (by exact hS8) (fun hHeld => ?_)
        clear hK K
        try simp only [Act.put, List.setIfInBounds_toArray, List.set_cons_zero, List.set_cons_succ, List.getElem_toArray, List.getElem_cons_zero, List.getElem_cons_succ]
        first | (refine wpAnyH_take (i := 9) (v := ?_) rfl (by kernel_rfl) (by kernel_rfl) (by kernel_rfl) (fun _ _ _ h => h) (Or.inl ⟨by rfl, ?_⟩) (by assumption) ?_; rotate_left; focus (intro w hSw; (try dsimp only at hSw); go_simp; (all_goals with_reducible rfl); done)) | fail "op 9"
        try simp only [Act.put, List.setIfInBounds_toArray, List.set_cons_zero, List.set_cons_succ, List.getElem_toArray, List.getElem_cons_zero, List.getElem_cons_succ]
        first | (refine wpAnyH_take (i := 10) (v := ?_) rfl (by kernel_rfl) (by kernel_rfl) (by kernel_rfl) (fun _ _ _ h => h) (Or.inl ⟨by rfl, ?_⟩) (by assumption) ?_; rotate_left; focus (intro w hSw; (try dsimp only at hSw); go_simp; (all_goals with_reducible rfl); done)) | fail "op 10"
        try simp only [Act.put, List.setIfInBounds_toArray, List.set_cons_zero, List.set_cons_succ, List.getElem_toArray, List.getElem_cons_zero, List.getElem_cons_succ]
        refine wpAnyH_done (by kernel_rfl) ?_ _
        go_wp2_with fail
        go_meet
        exact box_post_new 6 0 e1 e2 e3 hsd hbo3
      · go_simp
        have hbk := Bk.new wo 43 #[.slice none 0 0, .slice none 0 0, .slice none 0 0, .int .i64 0, .int .i64 0, .int .i64 0, .int .i64 0, .int .i64 0]; have hbo2a := hbo2; have hg8 : WA.heap.size ≤ wo.heap.size := hbo2.size; have hgl : wo.heap.size < (wo.alloc (.cells #[.slice none 0 0, .slice none 0 0, .slice none 0 0, .int .i64 0, .int .i64 0, .int .i64 0, .int .i64 0, .int .i64 0] 43)).heap.size := hbk.lt; have ho := ho.below ((Below.refl wo.heap.size wo).alloc (Nat.le_refl _) (.cells #[.slice none 0 0, .slice none 0 0, .slice none 0 0, .int .i64 0, .int .i64 0, .int .i64 0, .int .i64 0, .int .i64 0] 43)); have hbo2 := hbo2.alloc hbo2.size (.cells #[.slice none 0 0, .slice none 0 0, .slice none 0 0, .int .i64 0, .int .i64 0, .int .i64 0, .int .i64 0, .int .i64 0] 43)
        refine hK.out _ _ (by exact HK.out _ (kb_alloc (And.intro trivial hbo2a) _)) (fun hHeld => ?_)
        clear hK K
        try simp only [Act.put, List.setIfInBounds_toArray, List.set_cons_zero, List.set_cons_succ, List.getElem_toArray, List.getElem_cons_zero, List.getElem_cons_succ]
        refine wpAnyH_ready (rs := [2]) (by kernel_rfl) (by simp) ?_
        refine AllReadyH.cons rfl (fun K hK => ?_) AllReadyH.nil
        go_simp
        go_at_call 23; refine (HD.out _ _ _ _ hbo2 ho).mono ?_; rintro e wd ⟨y1, y2, y3, e1, e2, e3, ry, rfl, hsd, hbd⟩; rw [show stateV busyB y1 y2 y3 e1 e2 e3 = .agg #[.slice y1 3 e1, .slice y2 2 e2, .slice y3 2 e3, .int .i64 4, .int .i64 7, .int .i64 4, .int .i64 1, .int .i64 0] from rfl]; have hbo3 := hbo2.trans (hbd.mono hbo2.size); have hbk := Bk.below hbk hbd hbk.lt
        refine hK.out _ _ (by exact HK.out _ hbo3) (fun hHeld => ?_)
        clear hK K
        try simp only [Act.put, List.setIfInBounds_toArray, List.set_cons_zero, List.set_cons_succ, List.getElem_toArray, List.getElem_cons_zero, List.getElem_cons_succ]
        first | (refine wpAnyH_take (i := 3) (v := ?_) rfl (by kernel_rfl) (by kernel_rfl) (by kernel_rfl) (fun _ _ _ h => h) (Or.inl ⟨by rfl, ?_⟩) (by assumption) ?_; rotate_left; focus (intro w hSw; (try dsimp only at hSw); go_simp; (all_goals with_reducible rfl); done)) | fail "op 3"
        try simp only [Act.put, List.setIfInBounds_toArray, List.set_cons_zero, List.set_cons_succ, List.getElem_toArray, List.getElem_cons_zero, List.getElem_cons_succ]
        first | (refine wpAnyH_take (i := 4) (v := ?_) rfl (by kernel_rfl) (by kernel_rfl) (by kernel_rfl) (fun _ _ _ h => h) (Or.inl ⟨by rfl, ?_⟩) (by assumption) ?_; rotate_left; focus (intro w hSw; (try dsimp only at hSw); go_simp; (all_goals with_reducible rfl); done)) | fail "op 4"
        try simp only [Act.put, List.setIfInBounds_toArray, List.set_cons_zero, List.set_cons_succ, List.getElem_toArray, List.getElem_cons_zero, List.getElem_cons_succ]
        first | (refine wpAnyH_take (i := 5) (v := ?_) rfl (by kernel_rfl) (by kernel_rfl) (by kernel_rfl) (fun _ _ _ h => h) (Or.inl ⟨by rfl, ?_⟩) (by assumption) ?_; rotate_left; focus (intro w hSw; (try dsimp only at hSw); go_simp; (all_goals with_reducible rfl); done)) | fail "op 5"
        try simp only [Act.put, List.setIfInBounds_toArray, List.set_cons_zero, List.set_cons_succ, List.getElem_toArray, List.getElem_cons_zero, List.getElem_cons_succ]
        first | (refine wpAnyH_take (i := 6) (v := ?_) rfl (by kernel_rfl) (by kernel_rfl) (by kernel_rfl) (fun _ _ _ h => h) (Or.inl ⟨by rfl, ?_⟩) (by assumption) ?_; rotate_left; focus (intro w hSw; (try dsimp only at hSw); go_simp; (all_goals with_reducible rfl); done)) | fail "op 6"
        try simp only [Act.put, List.setIfInBounds_toArray, List.set_cons_zero, List.set_cons_succ, List.getElem_toArray, List.getElem_cons_zero, List.getElem_cons_succ]
        refine wpAnyH_ready (rs := [8]) (by kernel_rfl) (by simp) ?_
        refine AllReadyH.cons rfl (fun K hK => ?_) AllReadyH.nil
        obtain ⟨c0, c1, c2, c3, c4, c5, c6, c7, f0, f1, f2, f3, f4, f5, f6, f7, hlg⟩ := zero_cells hbk; have hS8 := HK.out _ (below_set8 hbo3 hg8 (.slice y1 3 e1) (.slice y2 2 e2) (.slice y3 2 e3) (.int .i64 4) (.int .i64 7) (.int .i64 4) (.int .i64 1) (.int .i64 0))
        go_simp
        refine hK.out _ _ (by exact hS8) (fun hHeld => ?_)
        clear hK K
        try simp only [Act.put, List.setIfInBounds_toArray, List.set_cons_zero, List.set_cons_succ, List.getElem_toArray, List.getElem_cons_zero, List.getElem_cons_succ]
        first | (refine wpAnyH_take (i := 9) (v := ?_) rfl (by kernel_rfl) (by kernel_rfl) (by kernel_rfl) (fun _ _ _ h => h) (Or.inl ⟨by rfl, ?_⟩) (by assumption) ?_; rotate_left; focus (intro w hSw; (try dsimp only at hSw); go_simp; (all_goals with_reducible rfl); done)) | fail "op 9"
        try simp only [Act.put, List.setIfInBounds_toArray, List.set_cons_zero, List.set_cons_succ, List.getElem_toArray, List.getElem_cons_zero, List.getElem_cons_succ]
        first | (refine wpAnyH_take (i := 10) (v := ?_) rfl (by kernel_rfl) (by kernel_rfl) (by kernel_rfl) (fun _ _ _ h => h) (Or.inl ⟨by rfl, ?_⟩) (by assumption) ?_; rotate_left; focus (intro w hSw; (try dsimp only at hSw); go_simp; (all_goals with_reducible rfl); done)) | fail "op 10"
        try simp only [Act.put, List.setIfInBounds_toArray, List.set_cons_zero, List.set_cons_succ, List.getElem_toArray, List.getElem_cons_zero, List.getElem_cons_succ]
        refine wpAnyH_done (by kernel_rfl) ?_ _
        go_wp2_with fail
        go_meet
        exact box_post (lo := _) hsd (Below.refl _ _) hbk (Or.inl hgl) hbo3 hg8
    · go_simp
      have hbk : Bk (wn.drew.alloc (.cells #[.slice none 0 0, .slice none 0 0, .slice none 0 0, .int .i64 0, .int .i64 0, .int .i64 0, .int .i64 0, .int .i64 0] 43)) wn.heap.size 43 #[.slice none 0 0, .slice none 0 0, .slice none 0 0, .int .i64 0, .int .i64 0, .int .i64 0, .int .i64 0, .int .i64 0] := Bk.new wn.drew _ _; have hg8 : WA.heap.size ≤ wn.heap.size := HBN.out.size; have hgl0 : wn.heap.size < (wn.drew.alloc (.cells #[.slice none 0 0, .slice none 0 0, .slice none 0 0, .int .i64 0, .int .i64 0, .int .i64 0, .int .i64 0, .int .i64 0] 43)).heap.size := hbk.lt
      refine hK.out _ _ (by exact HK.out _ (kb_alloc (And.intro trivial HBN.out.drew) _)) (fun hHeld => ?_)
      clear hK K
      try simp only [Act.put, List.setIfInBounds_toArray, List.set_cons_zero, List.set_cons_succ, List.getElem_toArray, List.getElem_cons_zero, List.getElem_cons_succ]
      refine wpAnyH_ready (rs := [0]) (by kernel_rfl) (by simp) ?_
      refine AllReadyH.cons rfl (fun K hK => ?_) AllReadyH.nil
      go_simp
      go_at_call 53; with_reducible refine (office_in _).mono ?_; rintro e wo ⟨b1, b2, b3, rfl, ho, hbo⟩; have hbo2 := since_stepC (by assumption) hbo; have hgl := Nat.lt_of_lt_of_le hgl0 hbo.size; have hbk := Bk.below hbk hbo hbk.lt
      refine hK.out _ _ (by exact HK.out _ hbo2) (fun hHeld => ?_)
      clear hK K
      try simp only [Act.put, List.setIfInBounds_toArray, List.set_cons_zero, List.set_cons_succ, List.getElem_toArray, List.getElem_cons_zero, List.getElem_cons_succ]
      refine wpAnyH_ready (rs := [2]) (by kernel_rfl) (by simp) ?_
      refine AllReadyH.cons rfl (fun K hK => ?_) AllReadyH.nil
      go_simp
      go_at_call 23; refine (HD.out _ _ _ _ hbo2 ho).mono ?_; rintro e wd ⟨y1, y2, y3, e1, e2, e3, ry, rfl, hsd, hbd⟩; rw [show stateV busyB y1 y2 y3 e1 e2 e3 = .agg #[.slice y1 3 e1, .slice y2 2 e2, .slice y3 2 e3, .int .i64 4, .int .i64 7, .int .i64 4, .int .i64 1, .int .i64 0] from rfl]; have hbo3 := hbo2.trans (hbd.mono hbo2.size); have hbk := Bk.below hbk hbd hbk.lt
      refine hK.out _ _ (by exact HK.out _ hbo3) (fun hHeld => ?_)
      clear hK K
      try simp only [Act.put, List.setIfInBounds_toArray, List.set_cons_zero, List.set_cons_succ, List.getElem_toArray, List.getElem_cons_zero, List.getElem_cons_succ]
      first | (refine wpAnyH_take (i := 3) (v := ?_) rfl (by kernel_rfl) (by kernel_rfl) (by kernel_rfl) (fun _ _ _ h => h) (Or.inl ⟨by rfl, ?_⟩) (by assumption) ?_; rotate_left; focus (intro w hSw; (try dsimp only at hSw); go_simp; (all_goals with_reducible rfl); done)) | fail "op 3"
      try simp only [Act.put, List.setIfInBounds_toArray, List.set_cons_zero, List.set_cons_succ, List.getElem_toArray, List.getElem_cons_zero, List.getElem_cons_succ]
      first | (refine wpAnyH_take (i := 4) (v := ?_) rfl (by kernel_rfl) (by kernel_rfl) (by kernel_rfl) (fun _ _ _ h => h) (Or.inl ⟨by rfl, ?_⟩) (by assumption) ?_; rotate_left; focus (intro w hSw; (try dsimp only at hSw); go_simp; (all_goals with_reducible rfl); done)) | fail "op 4"
      try simp only [Act.put, List.setIfInBounds_toArray, List.set_cons_zero, List.set_cons_succ, List.getElem_toArray, List.getElem_cons_zero, List.getElem_cons_succ]
      first | (refine wpAnyH_take (i := 5) (v := ?_) rfl (by kernel_rfl) (by kernel_rfl) (by kernel_rfl) (fun _ _ _ h => h) (Or.inl ⟨by rfl, ?_⟩) (by assumption) ?_; rotate_left; focus (intro w hSw; (try dsimp only at hSw); go_simp; (all_goals with_reducible rfl); done)) | fail "op 5"
      try simp only [Act.put, List.setIfInBounds_toArray, List.set_cons_zero, List.set_cons_succ, List.getElem_toArray, List.getElem_cons_zero, List.getElem_cons_succ]
      first | (refine wpAnyH_take (i := 6) (v := ?_) rfl (by kernel_rfl) (by kernel_rfl) (by kernel_rfl) (fun _ _ _ h => h) (Or.inl ⟨by rfl, ?_⟩) (by assumption) ?_; rotate_left; focus (intro w hSw; (try dsimp only at hSw); go_simp; (all_goals with_reducible rfl); done)) | fail "op 6"
      try simp only [Act.put, List.setIfInBounds_toArray, List.set_cons_zero, List.set_cons_succ, List.getElem_toArray, List.getElem_cons_zero, List.getElem_cons_succ]
      refine wpAnyH_ready (rs := [8]) (by kernel_rfl) (by simp) ?_
      refine AllReadyH.cons rfl (fun K hK => ?_) AllReadyH.nil
      obtain ⟨c0, c1, c2, c3, c4, c5, c6, c7, f0, f1, f2, f3, f4, f5, f6, f7, hlg⟩ := zero_cells hbk; have hS8 := HK.out _ (below_set8 hbo3 hg8 (.slice y1 3 e1) (.slice y2 2 e2) (.slice y3 2 e3) (.int .i64 4) (.int .i64 7) (.int .i64 4) (.int .i64 1) (.int .i64 0))
      go_simp
      refine hK.out _ _ (by exact hS8) (fun hHeld => ?_)
      clear hK K
      try simp only [Act.put, List.setIfInBounds_toArray, List.set_cons_zero, List.set_cons_succ, List.getElem_toArray, List.getElem_cons_zero, List.getElem_cons_succ]
      first | (refine wpAnyH_take (i := 9) (v := ?_) rfl (by kernel_rfl) (by kernel_rfl) (by kernel_rfl) (fun _ _ _ h => h) (Or.inl ⟨by rfl, ?_⟩) (by assumption) ?_; rotate_left; focus (intro w hSw; (try dsimp only at hSw); go_simp; (all_goals with_reducible rfl); done)) | fail "op 9"
      try simp only [Act.put, List.setIfInBounds_toArray, List.set_cons_zero, List.set_cons_succ, List.getElem_toArray, List.getElem_cons_zero, List.getElem_cons_succ]
      first | (refine wpAnyH_take (i := 10) (v := ?_) rfl (by kernel_rfl) (by kernel_rfl) (by kernel_rfl) (fun _ _ _ h => h) (Or.inl ⟨by rfl, ?_⟩) (by assumption) ?_; rotate_left; focus (intro w hSw; (try dsimp only at hSw); go_simp; (all_goals with_reducible rfl); done)) | fail "op 10"
      try simp only [Act.put, List.setIfInBounds_toArray, List.set_cons_zero, List.set_cons_succ, List.getElem_toArray, List.getElem_cons_zero, List.getElem_cons_succ]
      refine wpAnyH_done (by kernel_rfl) ?_ _
      go_wp2_with fail
      go_meet
      exact box_post (lo := wo.heap.size) hsd (Below.refl _ _) hbk (Or.inl hgl) hbo3 hg8
  case rest =>
    obtain ⟨g, y1, y2, y3, e1, e2, e3, ry, rfl, rfl, rfl, hbB, hbW⟩ := hcut
    have HB : Hid (∀ W, Below wc.heap.size wc W → BoxS W g busyB y1 y2 y3 e1 e2 e3 ry ∧ BoxS W w3.heap.size busyA x1 x2 x3 d1 d2 d3 rx ∧ Below w.heap.size w W) := fun W hW => ⟨hbB.below hW, HA.out W (hbW.trans (hW.mono hbW.size))⟩
    clear hbB hbW HBN HN HD HK HA
    go_wp2_with fail
    refine (office_in _).mono ?_
    rintro e w5 ⟨p1, p2, p3, rfl, ho5, hb5⟩
    go_wp2_with fail
    refine (busy_any _).mono ?_
    rintro e w6 ⟨g0, g1, g2, g3, rfl, hy6, hb6⟩
    have hb6' := hb5.trans (hb6.mono hb5.size)
    have ho6 := ho5.below hb6
    go_wp2_with fail
    refine (cNext busyS 1 0 8 next_office1 busy_small busy_ints p1 p2 p3 (some ⟨g1, 0, none⟩) (some ⟨g2, 0, none⟩) (some ⟨g3, 0, none⟩) 3 1 2 (busyRowD g0) w6 (below_env (HB.out _ hb6').2.2 HE.out) ho6 hy6.state).mono ?_
    rintro e w7 ⟨rfl, hb7⟩
    have HB7 := Lib.hid (hb6'.trans (hb7.mono hb6'.size))
    clear hb5 hb6 hb6' hb7 ho5 ho6 hy6
    go_wp2_with fail
    refine (office_in _).mono ?_
    rintro e w8 ⟨p1, p2, p3, rfl, ho8, hb8⟩
    go_wp2_with fail
    refine (busy_any _).mono ?_
    rintro e w9 ⟨g0, g1, g2, g3, rfl, hy9, hb9⟩
    have hb9' := HB7.out.trans ((hb8.trans (hb9.mono hb8.size)).mono HB7.out.size)
    have ho9 := ho8.below hb9
    go_wp2_with fail
    refine (cJoin 5 zeroS 0 3 join_office5 p1 p2 p3 _ g0 g1 g2 g3 w9 (below_env (HB.out _ hb9').2.2 HE.out) ho9 hy9).mono ?_
    rintro e wa ⟨z1, z2, z3, f1, f2, f3, rz, rfl, _, hba⟩
    rw [show stateV zeroS z1 z2 z3 f1 f2 f3 = .agg #[.slice z1 0 f1, .slice z2 0 f2, .slice z3 0 f3, .int .i64 0, .int .i64 0, .int .i64 0, .int .i64 0, .int .i64 0] from rfl]
    have HBA := Lib.hid (hb9'.trans (hba.mono hb9'.size))
    clear hb8 hb9 hb9' hba ho8 ho9 hy9 HB7
    go_wp2_with fail
    have hbb := HBA.out.alloc HBA.out.size (.cells #[.slice z1 0 f1, .slice z2 0 f2, .slice z3 0 f3, .int .i64 0, .int .i64 0, .int .i64 0, .int .i64 0, .int .i64 0] 43)
    obtain ⟨wb, hwb⟩ : ∃ wb, wa.alloc (.cells #[.slice z1 0 f1, .slice z2 0 f2, .slice z3 0 f3, .int .i64 0, .int .i64 0, .int .i64 0, .int .i64 0, .int .i64 0] 43) = wb := ⟨_, rfl⟩
    rw [hwb] at hbb
    rw [hwb]
    clear hwb HBA
    have HBB := Lib.hid hbb
    clear hbb
    refine (office_in _).mono ?_
    rintro e wd ⟨p1, p2, p3, rfl, hod, hbd⟩
    go_wp2_with fail
    refine (busy_any _).mono ?_
    rintro e we ⟨g0, g1, g2, g3, rfl, hye, hbe⟩
    have hbe' := HBB.out.trans ((hbd.trans (hbe.mono hbd.size)).mono HBB.out.size)
    have hoe := hod.below hbe
    go_wp2_with fail
    refine (cNext busyS 0 1 0 next_office0 busy_small busy_ints p1 p2 p3 (some ⟨g1, 0, none⟩) (some ⟨g2, 0, none⟩) (some ⟨g3, 0, none⟩) 3 1 2 (busyRowD g0) we (below_env (HB.out _ hbe').2.2 HE.out) hoe hye.state).mono ?_
    rintro e wf ⟨rfl, hbf⟩
    have HBF := Lib.hid (hbe'.trans (hbf.mono hbe'.size))
    clear hbd hbe hbe' hbf hod hoe hye HBB
    obtain ⟨hB, hA, _⟩ := HB.out _ HBF.out
    have n0 : wf.cell? ⟨g, 0, none⟩ = some (.slice y1 3 e1) := hB.cells.1
    have n1 : wf.cell? ⟨g, 1, none⟩ = some (.slice y2 2 e2) := hB.cells.2.1
    have n2 : wf.cell? ⟨w3.heap.size, 2, none⟩ = some (.slice x3 2 d3) := hA.cells.2.2.1
    obtain ⟨ob, oo, rfl, _, _, hco⟩ := sl_elem vOut_len (by decide) hB.at_.outs (k := 1) (by decide)
    have o1 : wf.cell? ⟨ob, oo + 8 + 1, none⟩ = some (.int .i64 0) := hco 1 _ rfl
    have o5 : wf.cell? ⟨ob, oo + 8 + 3 + 2, none⟩ = some (.string ⟨#[116, 119, 111]⟩) := hco 5 _ rfl
    obtain ⟨tb, tt, rfl, _, _, hct⟩ := sl_elem vTaker_len (by decide) hA.at_.takers (k := 0) (by decide)
    have k0 : wf.cell? ⟨tb, tt, none⟩ = some (.int .i64 0) := hct 0 _ rfl
    have k1 : wf.cell? ⟨tb, tt + 1, none⟩ = some (.int .i64 3) := hct 1 _ rfl
    have hrl : ry.length = 3 := by have := congrArg List.length hB.at_.same; simpa [busyB] using this
    obtain ⟨rb, ro, rfl, _, _, hcr⟩ := sl_elem vRow_len (by decide) hB.at_.ready (k := 0) (by omega)
    have hri : (ry[0]'(by omega)).items.length = 1 := by
      have h := congrArg (fun l => l[0]?) hB.at_.same
      simp only [List.getElem?_map, List.getElem?_eq_getElem (show 0 < ry.length by omega)] at h
      have h2 : some ((ry[0]'(by omega)).items) = some [letterP 3 bThree] := h
      simp only [Option.some.injEq] at h2
      rw [h2]; rfl
    have r0 : wf.cell? ⟨rb, ro, none⟩ = some (.slice (ry[0]'(by omega)).at_ 1 (ry[0]'(by omega)).cap) := by have := hcr 0 _ rfl; rw [hri] at this; simpa using this
    generalize (ry[0]'(by omega)).at_ = ra at r0
    generalize (ry[0]'(by omega)).cap = rc at r0
    have heq : ∀ w, (binOp .eql 61 (.agg #[.int .i64 0, .int .i64 3]) (.agg #[.int .i64 0, .int .i64 3])).run Tryd.prog w = .ok (.bool true) w := fun w => eqlTaker ⟨0, 3⟩ ⟨0, 3⟩ w
    clear hco hct hcr hri hrl hB hA
    go_wp2_with fail
    go_ret
    exact ⟨rfl, (HB.out _ HBF.out).2.2⟩

end Go.Proofs.YtapimpmpjighmaaDoor

namespace Go.Proofs.YtapimpmpjighmaaDoor
open Go.RowKit
set_option maxRecDepth 100000

set_option maxHeartbeats 4000000 in
theorem takersJoin_go (p : PlanD) (s : StateD) (q m : Int) (p1 p2 p3 a1 a2 a3 : Option Addr) (q1 q2 q3 c1 c2 c3 : Nat) (rows : List RowD) (w : World) (hE : Env w) (hp : PlanAt w 0 w.heap.size p1 p2 p3 p) (hps : PlanSmall p) (hs : StateAt w 0 w.heap.size a1 a2 a3 rows s) (hss : StateSmall s) (hsi : StateInts s) :
    Calls Tryd.prog 5 #[planV p p1 p2 p3 q1 q2 q3, stateV s a1 a2 a3 c1 c2 c3, .int .i64 q, .int .i64 m] w fun e w' => e = .returned (.bool true) ∧ Below w.heap.size w w' := by
  have hbx := two_boxes q1 q2 q3 c1 c2 c3 hE hp hs 26 43
  unfold vState at hbx
  unfold stateV planV vState
  have HBX := Lib.hid hbx
  have HPS := Lib.hid hps
  have HSS := Lib.hid hss
  have HSI := Lib.hid hsi
  clear hbx hE hp hs hps hss hsi
  go_enter Tryd.func5, Tryd.ntmps5
  obtain ⟨⟨m0, m1, m2⟩, ⟨n0, n1, n2, n3, n4, n5, n6, n7⟩, _, _, _, _⟩ := HBX.out _ (Below.refl _ _)
  go_wp2_with fail
  clear m0 m1 m2 n0 n1 n2 n3 n4 n5 n6 n7
  generalize ((w.alloc (.cells #[.slice p1 p.posts.length q1, .slice p2 p.queues.length q2, .slice p3 p.binds.length q3] 26)).alloc (.cells #[Value.slice a1 s.ready.length c1, Value.slice a2 s.outs.length c2, Value.slice a3 s.takers.length c3, Value.int IntKind.i64 s.nextSeq, Value.int IntKind.i64 s.nextTag, Value.int IntKind.i64 s.came, Value.int IntKind.i64 s.acked, Value.int IntKind.i64 s.dropped] 43)) = W0 at *
  have HC1 : Hid (∀ W, Below W0.heap.size W0 W → Calls Tryd.prog 18 #[.agg #[.slice p1 p.posts.length q1, .slice p2 p.queues.length q2, .slice p3 p.binds.length q3], .agg #[.slice a1 s.ready.length c1, .slice a2 s.outs.length c2, .slice a3 s.takers.length c3, .int .i64 s.nextSeq, .int .i64 s.nextTag, .int .i64 s.came, .int .i64 s.acked, .int .i64 s.dropped], .int .i64 q, .int .i64 m] W (TkPost (joinS p s q m) (joinN p s q m) (joinErr p s q m) W)) := fun W hW =>
    Join_any p s q m p1 p2 p3 a1 a2 a3 q1 q2 q3 c1 c2 c3 rows W (HBX.out _ hW).env (HBX.out _ hW).planAt HPS.out (HBX.out _ hW).stateAt HSS.out HSI.out
  have HC2 : Hid (∀ W, Below W0.heap.size W0 W → Calls Tryd.prog 19 #[.agg #[.slice p1 p.posts.length q1, .slice p2 p.queues.length q2, .slice p3 p.binds.length q3], .agg #[.slice a1 s.ready.length c1, .slice a2 s.outs.length c2, .slice a3 s.takers.length c3, .int .i64 s.nextSeq, .int .i64 s.nextTag, .int .i64 s.came, .int .i64 s.acked, .int .i64 s.dropped], .int .i64 q, .int .i64 m] W (TkPost (joinS p s q m) (joinN p s q m) (joinErr p s q m) W)) := fun W hW =>
    JoinOf_any p s q m p1 p2 p3 a1 a2 a3 q1 q2 q3 c1 c2 c3 rows W (HBX.out _ hW).env (HBX.out _ hW).planAt HPS.out (HBX.out _ hW).stateAt HSS.out HSI.out
  have HJ : Hid (StateSmall (joinS p s q m)) := (join_small p s q m).1
  generalize joinS p s q m = X at *
  generalize joinN p s q m = n at *
  generalize joinErr p s q m = er at *
  refine (HC1.out _ (Below.refl _ _)).mono ?_
  rintro e w1 ⟨x1, x2, x3, xc1, xc2, xc3, rx, rfl, hs1, hb1⟩
  unfold stateV vState
  obtain ⟨⟨m0, m1, m2⟩, ⟨n0, n1, n2, n3, n4, n5, n6, n7⟩, _, _, _, _⟩ := HBX.out _ hb1
  go_upto_region 2 with fail
  obtain ⟨W1, hW1⟩ : ∃ W1, w1.alloc (.cells #[.slice x1 X.ready.length xc1, .slice x2 X.outs.length xc2, .slice x3 X.takers.length xc3, .int .i64 X.nextSeq, .int .i64 X.nextTag, .int .i64 X.came, .int .i64 X.acked, .int .i64 X.dropped] 43) = W1 := ⟨_, rfl⟩
  have HX := Lib.hid (box_since (x := X) xc1 xc2 xc3 hs1 hb1 hW1)
  rw [hW1]
  clear hW1
  clear hs1 hb1 m0 m1 m2 n0 n1 n2 n3 n4 n5 n6 n7
  obtain ⟨⟨m0, m1, m2⟩, ⟨n0, n1, n2, n3, n4, n5, n6, n7⟩, _, _, _, _⟩ := HBX.out _ (HX.out _ (Below.refl _ _)).2
  go_wp2_with fail
  refine (HC2.out _ (HX.out _ (Below.refl _ _)).2).mono ?_
  rintro e w2 ⟨y1, y2, y3, yc1, yc2, yc3, ry, rfl, hs2, hb2⟩
  unfold stateV vState
  clear m0 m1 m2 n0 n1 n2 n3 n4 n5 n6 n7
  go_upto_region 3 with fail
  obtain ⟨W2, hW1⟩ : ∃ W2, w2.alloc (.cells #[.slice y1 X.ready.length yc1, .slice y2 X.outs.length yc2, .slice y3 X.takers.length yc3, .int .i64 X.nextSeq, .int .i64 X.nextTag, .int .i64 X.came, .int .i64 X.acked, .int .i64 X.dropped] 43) = W2 := ⟨_, rfl⟩
  have HY := Lib.hid (box_since (x := X) yc1 yc2 yc3 hs2 hb2 hW1)
  rw [hW1]
  clear hW1
  clear hs2 hb2
  go_wp2_with fail
  refine (takersBegun_any _ (HBX.out _ (HX.out _ (HY.out _ (Below.refl _ _)).2).2).env).mono ?_
  rintro e w3 ⟨rfl, hb3⟩
  have HB3 := Lib.hid hb3
  clear hb3
  obtain ⟨n0, n1, n2, n3, n4, n5, n6, n7⟩ := (HX.out _ (HY.out _ HB3.out).2).1.cells
  obtain ⟨k0, k1, k2, k3, k4, k5, k6, k7⟩ := (HY.out _ HB3.out).1.cells
  go_wp2_with fail
  refine (SameStates_any X X x1 x2 x3 y1 y2 y3 xc1 xc2 xc3 yc1 yc2 yc3 rx ry w3 (HX.out _ (HY.out _ HB3.out).2).1.at_ HJ.out (HY.out _ HB3.out).1.at_ HJ.out).mono ?_
  rw [stateEq_refl]
  rintro e w4 ⟨rfl, hb4⟩
  have HB4 := Lib.hid (HB3.out.trans (hb4.mono HB3.out.size))
  clear hb4
  go_wp2_with fail
  go_ret
  exact ⟨rfl, (HBX.out _ (HX.out _ (HY.out _ HB4.out).2).2).below⟩

theorem takersJoin_any (p : PlanD) (p1 p2 p3 : Option Addr) (q1 q2 q3 : Nat) (s : StateD) (a1 a2 a3 : Option Addr) (c1 c2 c3 : Nat) (rows : List RowD) (q m : Int) (w : World) (hp : PlanAt w 0 w.heap.size p1 p2 p3 p) (hps : PlanSmall p) (_ : PlanInts p) (hs : StateAt w 0 w.heap.size a1 a2 a3 rows s) (hss : StateSmall s) (hsi : StateInts s)
    (_ : s.ready.length ≤ c1 ∧ s.outs.length ≤ c2 ∧ s.takers.length ≤ c3) (_ : -9223372036854775808 ≤ q ∧ q ≤ 9223372036854775807) (_ : -9223372036854775808 ≤ m ∧ m ≤ 9223372036854775807) (hE : Env w) :
    Calls Tryd.prog 5 #[planV p p1 p2 p3 q1 q2 q3, stateV s a1 a2 a3 c1 c2 c3, .int .i64 q, .int .i64 m] w fun e w' => e = .returned (.bool true) ∧ Below w.heap.size w w' :=
  takersJoin_go p s q m p1 p2 p3 a1 a2 a3 q1 q2 q3 c1 c2 c3 rows w hE hp hps hs hss hsi

set_option maxHeartbeats 4000000 in
theorem takersDeliver_go (p : PlanD) (s : StateD) (q : Int) (p1 p2 p3 a1 a2 a3 : Option Addr) (q1 q2 q3 c1 c2 c3 : Nat) (rows : List RowD) (w : World) (hE : Env w) (hp : PlanAt w 0 w.heap.size p1 p2 p3 p) (hps : PlanSmall p) (hs : StateAt w 0 w.heap.size a1 a2 a3 rows s) (hss : StateSmall s) (hsi : StateInts s) :
    Calls Tryd.prog 6 #[planV p p1 p2 p3 q1 q2 q3, stateV s a1 a2 a3 c1 c2 c3, .int .i64 q] w fun e w' => e = .returned (.bool true) ∧ Below w.heap.size w w' := by
  have hbx := two_boxes q1 q2 q3 c1 c2 c3 hE hp hs 26 43
  unfold vState at hbx
  unfold stateV planV vState
  have HBX := Lib.hid hbx
  have HPS := Lib.hid hps
  have HSS := Lib.hid hss
  have HSI := Lib.hid hsi
  clear hbx hE hp hs hps hss hsi
  go_enter Tryd.func6, Tryd.ntmps6
  obtain ⟨⟨m0, m1, m2⟩, ⟨n0, n1, n2, n3, n4, n5, n6, n7⟩, _, _, _, _⟩ := HBX.out _ (Below.refl _ _)
  go_wp2_with fail
  clear m0 m1 m2 n0 n1 n2 n3 n4 n5 n6 n7
  generalize ((w.alloc (.cells #[.slice p1 p.posts.length q1, .slice p2 p.queues.length q2, .slice p3 p.binds.length q3] 26)).alloc (.cells #[Value.slice a1 s.ready.length c1, Value.slice a2 s.outs.length c2, Value.slice a3 s.takers.length c3, Value.int IntKind.i64 s.nextSeq, Value.int IntKind.i64 s.nextTag, Value.int IntKind.i64 s.came, Value.int IntKind.i64 s.acked, Value.int IntKind.i64 s.dropped] 43)) = W0 at *
  have HC1 : Hid (∀ W, Below W0.heap.size W0 W → Calls Tryd.prog 22 #[.agg #[.slice p1 p.posts.length q1, .slice p2 p.queues.length q2, .slice p3 p.binds.length q3], .agg #[.slice a1 s.ready.length c1, .slice a2 s.outs.length c2, .slice a3 s.takers.length c3, .int .i64 s.nextSeq, .int .i64 s.nextTag, .int .i64 s.came, .int .i64 s.acked, .int .i64 s.dropped], .int .i64 q] W (fun e w' => e = .returned (.tuple #[.int .i64 (nextN p s q), .int .i64 (nextErr p s q)]) ∧ Below W.heap.size W w')) := fun W hW =>
    Next_any p s q p1 p2 p3 a1 a2 a3 q1 q2 q3 c1 c2 c3 rows W (HBX.out _ hW).env (HBX.out _ hW).planAt HPS.out (HBX.out _ hW).stateAt HSS.out HSI.out
  have HC2 : Hid (∀ W, Below W0.heap.size W0 W → Calls Tryd.prog 23 #[.agg #[.slice p1 p.posts.length q1, .slice p2 p.queues.length q2, .slice p3 p.binds.length q3], .agg #[.slice a1 s.ready.length c1, .slice a2 s.outs.length c2, .slice a3 s.takers.length c3, .int .i64 s.nextSeq, .int .i64 s.nextTag, .int .i64 s.came, .int .i64 s.acked, .int .i64 s.dropped], .int .i64 q] W (TkPost (deliverS p s q) (deliverT p s q) (deliverErr p s q) W)) := fun W hW =>
    Deliver_any p s q p1 p2 p3 a1 a2 a3 q1 q2 q3 c1 c2 c3 rows W (HBX.out _ hW).env (HBX.out _ hW).planAt HPS.out (HBX.out _ hW).stateAt HSS.out HSI.out
  have HC3 : Hid (∀ W, Below W0.heap.size W0 W → Calls Tryd.prog 24 #[.agg #[.slice p1 p.posts.length q1, .slice p2 p.queues.length q2, .slice p3 p.binds.length q3], .agg #[.slice a1 s.ready.length c1, .slice a2 s.outs.length c2, .slice a3 s.takers.length c3, .int .i64 s.nextSeq, .int .i64 s.nextTag, .int .i64 s.came, .int .i64 s.acked, .int .i64 s.dropped], .int .i64 q] W (fun e w' => e = .returned (.tuple #[.int .i64 (nextN p s q), .int .i64 (nextErr p s q)]) ∧ Below W.heap.size W w')) := fun W hW =>
    NextOf_any p s q p1 p2 p3 a1 a2 a3 q1 q2 q3 c1 c2 c3 rows W (HBX.out _ hW).env (HBX.out _ hW).planAt HPS.out (HBX.out _ hW).stateAt HSS.out HSI.out
  have HC4 : Hid (∀ W, Below W0.heap.size W0 W → Calls Tryd.prog 25 #[.agg #[.slice p1 p.posts.length q1, .slice p2 p.queues.length q2, .slice p3 p.binds.length q3], .agg #[.slice a1 s.ready.length c1, .slice a2 s.outs.length c2, .slice a3 s.takers.length c3, .int .i64 s.nextSeq, .int .i64 s.nextTag, .int .i64 s.came, .int .i64 s.acked, .int .i64 s.dropped], .int .i64 q] W (TkPost (deliverS p s q) (deliverT p s q) (deliverErr p s q) W)) := fun W hW =>
    DeliverOf_any p s q p1 p2 p3 a1 a2 a3 q1 q2 q3 c1 c2 c3 rows W (HBX.out _ hW).env (HBX.out _ hW).planAt HPS.out (HBX.out _ hW).stateAt HSS.out HSI.out
  have HJ : Hid (StateSmall (deliverS p s q)) := (deliver_small p s q).1
  generalize deliverS p s q = X at *
  generalize deliverT p s q = n at *
  generalize deliverErr p s q = er at *
  generalize nextN p s q = nn at *
  generalize nextErr p s q = ne at *
  refine (HC1.out _ (Below.refl _ _)).mono ?_
  rintro e v1 ⟨rfl, hv1⟩
  obtain ⟨⟨m0, m1, m2⟩, ⟨n0, n1, n2, n3, n4, n5, n6, n7⟩, _, _, _, _⟩ := HBX.out _ hv1
  go_wp2_with fail
  refine (HC2.out _ hv1).mono ?_
  rintro e w1 ⟨x1, x2, x3, xc1, xc2, xc3, rx, rfl, hs1, hb0⟩
  have hb1 := hv1.trans (hb0.mono hv1.size)
  unfold stateV vState
  clear hb0 hv1 m0 m1 m2 n0 n1 n2 n3 n4 n5 n6 n7
  obtain ⟨⟨m0, m1, m2⟩, ⟨n0, n1, n2, n3, n4, n5, n6, n7⟩, _, _, _, _⟩ := HBX.out _ hb1
  go_upto_region 3 with fail
  obtain ⟨W1, hW1⟩ : ∃ W1, w1.alloc (.cells #[.slice x1 X.ready.length xc1, .slice x2 X.outs.length xc2, .slice x3 X.takers.length xc3, .int .i64 X.nextSeq, .int .i64 X.nextTag, .int .i64 X.came, .int .i64 X.acked, .int .i64 X.dropped] 43) = W1 := ⟨_, rfl⟩
  have HX := Lib.hid (box_since (x := X) xc1 xc2 xc3 hs1 hb1 hW1)
  rw [hW1]
  clear hW1
  clear hs1 hb1 m0 m1 m2 n0 n1 n2 n3 n4 n5 n6 n7
  obtain ⟨⟨m0, m1, m2⟩, ⟨n0, n1, n2, n3, n4, n5, n6, n7⟩, _, _, _, _⟩ := HBX.out _ (HX.out _ (Below.refl _ _)).2
  go_wp2_with fail
  refine (HC3.out _ (HX.out _ (Below.refl _ _)).2).mono ?_
  rintro e v2 ⟨rfl, hv2⟩
  have HV2 := Lib.hid hv2
  clear hv2 m0 m1 m2 n0 n1 n2 n3 n4 n5 n6 n7
  obtain ⟨⟨m0, m1, m2⟩, ⟨n0, n1, n2, n3, n4, n5, n6, n7⟩, _, _, _, _⟩ := HBX.out _ (HX.out _ HV2.out).2
  go_wp2_with fail
  refine (HC4.out _ (HX.out _ HV2.out).2).mono ?_
  rintro e w2 ⟨y1, y2, y3, yc1, yc2, yc3, ry, rfl, hs2, hb2⟩
  have hb2' := HV2.out.trans (hb2.mono HV2.out.size)
  unfold stateV vState
  clear hb2 m0 m1 m2 n0 n1 n2 n3 n4 n5 n6 n7
  go_upto_region 5 with fail
  obtain ⟨W2, hW1⟩ : ∃ W2, w2.alloc (.cells #[.slice y1 X.ready.length yc1, .slice y2 X.outs.length yc2, .slice y3 X.takers.length yc3, .int .i64 X.nextSeq, .int .i64 X.nextTag, .int .i64 X.came, .int .i64 X.acked, .int .i64 X.dropped] 43) = W2 := ⟨_, rfl⟩
  have HY := Lib.hid (box_since (x := X) yc1 yc2 yc3 hs2 hb2' hW1)
  rw [hW1]
  clear hW1
  clear hs2 hb2'
  go_wp2_with fail
  refine (takersBegun_any _ (HBX.out _ (HX.out _ (HY.out _ (Below.refl _ _)).2).2).env).mono ?_
  rintro e w3 ⟨rfl, hb3⟩
  have HB3 := Lib.hid hb3
  clear hb3
  obtain ⟨n0, n1, n2, n3, n4, n5, n6, n7⟩ := (HX.out _ (HY.out _ HB3.out).2).1.cells
  obtain ⟨k0, k1, k2, k3, k4, k5, k6, k7⟩ := (HY.out _ HB3.out).1.cells
  go_wp2_with fail
  refine (SameStates_any X X x1 x2 x3 y1 y2 y3 xc1 xc2 xc3 yc1 yc2 yc3 rx ry w3 (HX.out _ (HY.out _ HB3.out).2).1.at_ HJ.out (HY.out _ HB3.out).1.at_ HJ.out).mono ?_
  rw [stateEq_refl]
  rintro e w4 ⟨rfl, hb4⟩
  have HB4 := Lib.hid (HB3.out.trans (hb4.mono HB3.out.size))
  clear hb4
  go_wp2_with fail
  go_ret
  exact ⟨rfl, (HBX.out _ (HX.out _ (HY.out _ HB4.out).2).2).below⟩

theorem takersDeliver_any (p : PlanD) (p1 p2 p3 : Option Addr) (q1 q2 q3 : Nat) (s : StateD) (a1 a2 a3 : Option Addr) (c1 c2 c3 : Nat) (rows : List RowD) (q : Int) (w : World) (hp : PlanAt w 0 w.heap.size p1 p2 p3 p) (hps : PlanSmall p) (_ : PlanInts p) (hs : StateAt w 0 w.heap.size a1 a2 a3 rows s) (hss : StateSmall s) (hsi : StateInts s)
    (_ : s.ready.length ≤ c1 ∧ s.outs.length ≤ c2 ∧ s.takers.length ≤ c3) (_ : -9223372036854775808 ≤ q ∧ q ≤ 9223372036854775807) (hE : Env w) :
    Calls Tryd.prog 6 #[planV p p1 p2 p3 q1 q2 q3, stateV s a1 a2 a3 c1 c2 c3, .int .i64 q] w fun e w' => e = .returned (.bool true) ∧ Below w.heap.size w w' :=
  takersDeliver_go p s q p1 p2 p3 a1 a2 a3 q1 q2 q3 c1 c2 c3 rows w hE hp hps hs hss hsi

end Go.Proofs.YtapimpmpjighmaaDoor
