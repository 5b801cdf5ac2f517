/-
  Walks of the reference: HeldOf; Held.
  Walk of the reference's CheckState.
-/
import Derived.Test.YtbdikenloklhaaaDoorStateS
import Derived.Test.YtbdikenloklhaaaDoorStateA
import Derived.Test.YtbdikenloklhaaaDoorStateE
import Derived.Test.YtbdikenloklhaaaDoorPlanR
import Derived.Deep.RegionHeld3
import Derived.Deep.QuietTactic
import Derived.BigQuiet
import Derived.Deep.CutRange
namespace Go.Proofs.YtbdikenloklhaaaDoor
open Go.RowKit
set_option maxRecDepth 100000

set_option maxHeartbeats 1000000 in
theorem HeldOf_any (s : StateD) (a1 a2 a3 : Option Addr) (c1 c2 c3 : Nat) (t : Int) (lo : Nat) (w : World) (ho : Sl w lo w.heap.size a2 (s.outs.flatMap vOut)) (hl : s.outs.length ≤ 1048576) :
    Calls Tryd.prog 41 #[stateV s a1 a2 a3 c1 c2 c3, .int .i64 t] w fun e w' => e = .returned (.int .i64 (heldS s t)) ∧ Below w.heap.size w w' := by
  have hbx := boxedS_new w s a1 a2 a3 c1 c2 c3 60
  have ho0 := (ho.below ((Below.refl _ w).alloc (Nat.le_refl _) (.cells (vState s a1 a2 a3 c1 c2 c3) 60)) (Nat.le_refl _)).wider (lo' := 0) (hi' := (w.alloc (.cells (vState s a1 a2 a3 c1 c2 c3) 60)).heap.size) (Nat.zero_le _) (by simp)
  have HO := Lib.hid ho0
  have HF : Hid (heldN s.outs t = heldS s t) := (rfl : heldN s.outs t = heldS s t)
  have hbb : Hid (BoxedS w (w.alloc (.cells (vState s a1 a2 a3 c1 c2 c3) 60)) s a1 a2 a3 c1 c2 c3) := hbx
  clear hbx ho ho0
  unfold stateV
  unfold vState at *
  go_enter Tryd.func41, Tryd.ntmps41
  go_wp2_with fail
  generalize w.alloc (.cells #[Value.slice a1 s.ready.length c1, Value.slice a2 s.outs.length c2, Value.slice a3 s.takers.length c3, Value.int IntKind.i64 s.nextSeq, Value.int IntKind.i64 s.nextTag, Value.int IntKind.i64 s.came, Value.int IntKind.i64 s.acked, Value.int IntKind.i64 s.dropped] 60) = W0 at *
  generalize hou : s.outs = l at *
  go_loopw [5, 6] (fun n i wr => OfRel l t W0 n i wr) (fun _ i _ => l.length - (intOf i).toNat)
  case atStart => exact ⟨0, by omega, rfl, rfl, Below.refl _ _⟩
  case round =>
    obtain ⟨k, hk, rfl, rfl, hB⟩ := hrel
    have HB := Lib.hid hB
    have hh := held_le l t k
    obtain ⟨⟨_, f1, _⟩, _⟩ := hbb.out _ hB
    rw [hou] at f1
    generalize hN : heldN (l.take k) t = N at *
    by_cases hlt : k < l.length
    · obtain ⟨b, o, ha, _, hb, hc⟩ := sl_elem vOut_len (by decide) HO.out hlt
      subst ha
      obtain ⟨e0, e1, e2, e3, e4, e5, e6, e7⟩ := out_cells (wr := wr) (b := b) (o := o) (k := k) (x := l[k]) fun j u hu => (hB.cell (p := ⟨b, _, none⟩) hb).trans (hc j u hu)
      have HST := Lib.hid (held_step (t := t) hlt)
      rw [hN] at HST
      clear hc hB hN
      generalize l[k] = x at *
      by_cases hq : x.taker = t
      · have hqb : (x.taker == t) = true := by simp [hq]
        rw [if_pos hq] at HST
        clear hq
        go_wp2_with fail
        exact ⟨⟨k + 1, hlt, by go_num, by rw [HST.out]; go_num, HB.out⟩, by simp [intOf]; omega⟩
      · have hqb : (x.taker == t) = false := by simp [hq]
        rw [if_neg hq] at HST
        clear hq
        go_wp2_with fail
        exact ⟨⟨k + 1, hlt, by go_num, by rw [HST.out]; rfl, HB.out⟩, by simp [intOf]; omega⟩
    · obtain rfl : k = l.length := by omega
      have hF : N = heldS s t := by rw [← hN, List.take_length, ← HF.out]
      have HFN := Lib.hid hF
      clear hB hF hN
      go_wp2_with fail
      go_ret
      exact ⟨by rw [HFN.out]; rfl, (hbb.out _ HB.out).2⟩

end Go.Proofs.YtbdikenloklhaaaDoor

namespace Go.Proofs.YtbdikenloklhaaaDoor
open Go.RowKit
set_option maxRecDepth 100000

def CSRel1 (p : PlanD) (s : StateD) (W0 : World) (n i : Value) (wr : World) : Prop :=
  ∃ j : Nat, j ≤ s.ready.length ∧ i = .int .i64 j ∧ n = .int .i64 ((s.outs.length + lyK s j : Nat) : Int) ∧ (∀ (q : Nat) (l : List ItemD) (x : QueueD), q < j → s.ready[q]? = some l → p.queues[q]? = some x → (l.length : Int) ≤ x.limit) ∧ Below W0.heap.size W0 wr
def CSRel2 (s : StateD) (W0 : World) (i : Value) (wr : World) : Prop :=
  ∃ j : Nat, j ≤ s.takers.length ∧ i = .int .i64 j ∧ (∀ (k : Nat) (t : TakerD), k < j → s.takers[k]? = some t → (heldS s k : Int) ≤ t.atOnce) ∧ Below W0.heap.size W0 wr

set_option maxHeartbeats 8000000 in
theorem CheckState_any (p : PlanD) (s : StateD) (p1 p2 p3 a1 a2 a3 : Option Addr) (q1 q2 q3 c1 c2 c3 : Nat) (rows : List RowD) (w : World) (hE : Env w) (hp : PlanAt w 0 w.heap.size p1 p2 p3 p) (hps : PlanSmall p) (hs : StateAt w 0 w.heap.size a1 a2 a3 rows s) (hss : StateSmall s) (hsi : StateInts s) :
    Calls Tryd.prog 38 #[planV p p1 p2 p3 q1 q2 q3, stateV s a1 a2 a3 c1 c2 c3] w fun e w' => e = .returned (.int .i64 (stateErr p s)) ∧ Below w.heap.size w w' := by
  have hbx := two_boxes q1 q2 q3 c1 c2 c3 hE hp hs 26 60
  unfold vState at hbx
  unfold stateV planV vState
  have HBX := Lib.hid hbx
  have HPS := Lib.hid hps
  have HSS := Lib.hid hss
  have HSI := Lib.hid hsi
  clear hbx hE hp hs hps hss hsi
  go_enter Tryd.func38, Tryd.ntmps38
  go_wp2_with fail
  generalize ((w.alloc (.cells #[.slice p1 p.posts.length q1, .slice p2 p.queues.length q2, .slice p3 p.binds.length q3] 26)).alloc (.cells #[Value.slice a1 s.ready.length c1, Value.slice a2 s.outs.length c2, Value.slice a3 s.takers.length c3, Value.int IntKind.i64 s.nextSeq, Value.int IntKind.i64 s.nextTag, Value.int IntKind.i64 s.came, Value.int IntKind.i64 s.acked, Value.int IntKind.i64 s.dropped] 60)) = W0 at *
  refine (CheckPlan_any p p1 p2 p3 q1 q2 q3 0 W0 (HBX.out _ (Below.refl _ _)).planAt HPS.out).mono ?_
  rintro e W1 ⟨rfl, hb1⟩
  have HB1 := Lib.hid hb1
  obtain ⟨⟨m0, m1, m2⟩, ⟨n0, n1, n2, n3, n4, n5, n6, n7⟩, _, _, _, _⟩ := HBX.out _ hb1
  clear hb1
  by_cases h0 : checkP p = 0
  · have HP0 := Lib.hid h0
    rw [h0]
    clear h0
    by_cases hm : s.takers.length ≤ 4
    · have HM := Lib.hid hm
      have hmb : decide ((4 : Int) < (s.takers.length : Int)) = false := by simp; omega
      go_wp2_with fail
      refine (formed_any p s p1 p2 p3 a1 a2 a3 q1 q2 q3 c1 c2 c3 rows W1 (HBX.out _ HB1.out).env (HBX.out _ HB1.out).planAt HPS.out (HBX.out _ HB1.out).stateAt HSS.out HSI.out).mono ?_
      rintro e W2 ⟨rfl, hb2⟩
      have HB2 := Lib.hid (HB1.out.trans (hb2.mono HB1.out.size))
      clear hb2 m0 m1 m2 n0 n1 n2 n3 n4 n5 n6 n7 hmb
      obtain ⟨_, ⟨n0, n1, n2, n3, n4, n5, n6, n7⟩, _, _, _, _⟩ := HBX.out _ HB2.out
      cases hf : formedB p s
      · have HR := Lib.hid (stateErr_form HP0.out HM.out (by rw [← formedB_iff, hf]; decide))
        clear hf
        go_wp2_with fail
        go_ret
        exact ⟨by rw [HR.out]; rfl, (HBX.out _ HB2.out).below⟩
      · have HFORM := Lib.hid (formedB_iff.1 hf)
        clear hf
        go_wp2_with fail
        clear n0 n1 n2 n3 n4 n5 n6 n7
        go_loopw [6, 7] (fun n i wr => CSRel1 p s W0 n i wr) (fun _ i _ => s.ready.length - (intOf i).toNat)
        case atStart => exact ⟨0, by omega, rfl, rfl, fun q l x hq => absurd hq (by omega), HB2.out⟩
        case round =>
          clear HB1 HB2
          obtain ⟨j, hj, rfl, rfl, hlim, hB⟩ := hrel
          have HB := Lib.hid hB
          have HLIM := Lib.hid hlim
          have hrd := HSS.out.ready
          have hol := HSS.out.outs
          have hly4 : lyingS s ≤ 1048576 := HSS.out.lying
          have hly2 := lyK_le s j
          clear hlim
          obtain ⟨⟨m0, m1, m2⟩, ⟨n0, n1, n2, n3, n4, n5, n6, n7⟩, _, _, hpat, hsat⟩ := HBX.out _ hB
          by_cases hjl : j < s.ready.length
          · have hrl : rows.length = s.ready.length := by rw [← hsat.same, List.length_map]
            have hltr : j < rows.length := by omega
            have hltq : j < p.queues.length := by have := HFORM.out.len; omega
            obtain ⟨b, o, ha, _, hb, hc⟩ := sl_elem vRow_len (by decide) hsat.ready hltr
            have e0 : wr.cell? ⟨b, o + j, none⟩ = some (.slice rows[j].at_ rows[j].items.length rows[j].cap) := by have := hc 0 _ rfl; simpa using this
            obtain ⟨b2, o2, ha2, _, hb2, hc2⟩ := sl_elem vQueue_len (by decide) hpat.queues hltq
            have d1 : wr.cell? ⟨b2, o2 + j * 3 + 1, none⟩ = some (.int .i64 p.queues[j].limit) := hc2 1 _ rfl
            have hit : s.ready[j] = rows[j].items := by simp [← hsat.same]
            have HNR := Lib.hid (nr_limit (p := p) (s := s) hjl hltq)
            have HGQ := Lib.hid (List.getElem?_eq_getElem hltq)
            have HGR := Lib.hid (List.getElem?_eq_getElem hjl)
            have hly1 := lyK_step hjl
            have hly3 := lyK_le s (j + 1)
            rw [hit] at HNR HGR hly1
            clear hc hc2 hsat hpat hB hit
            generalize rows[j] = r at *
            obtain ⟨ra, rc, ri⟩ := r
            dsimp only at e0 HNR HGR hly1
            generalize p.queues[j] = qd at *
            have HLY := Lib.hid hly1
            have hlr : ri.length ≤ 1048576 := by omega
            clear hly1
            subst ha ha2
            by_cases hle : qd.limit < (ri.length : Int)
            · have HR := Lib.hid (stateErr_range HP0.out HM.out HFORM.out (HNR.out hle))
              go_wp2
              go_quiet (fail)
              all_goals go_wp2
              all_goals go_ret
              all_goals exact ⟨by rw [HR.out]; rfl, (HBX.out _ (below_draws HB.out _)).below⟩
            · have HLE := Lib.hid hle
              go_wp2
              go_quiet (fail)
              all_goals go_wp2
              all_goals exact ⟨⟨j + 1, hjl, by go_num, by rw [HLY.out]; go_num, fun q l' x' hq hl' hx' => by
                rcases Nat.lt_or_ge q j with h | h
                · exact HLIM.out q l' x' h hl' hx'
                · obtain rfl : q = j := by omega
                  rw [HGR.out] at hl'
                  rw [HGQ.out] at hx'
                  cases hl'; cases hx'
                  have := HLE.out; omega, below_draws HB.out _⟩, by simp [intOf]; omega⟩
          · obtain rfl : j = s.ready.length := by omega
            have HLIMIT : Hid (limitB p s = true) := limitB_iff.2 fun q l x hl hx => HLIM.out q l x (List.getElem?_eq_some_iff.1 hl).1 hl hx
            clear hB hsat hpat
            go_wp2_with fail
            clear m0 m1 m2 n0 n1 n2 n3 n4 n5 n6 n7
            go_loopw [8] (fun i wr => CSRel2 s W0 i wr) (fun i _ => s.takers.length - (intOf i).toNat)
            case atStart => exact ⟨0, by omega, rfl, fun k t hk => absurd hk (by omega), HB.out⟩
            case round =>
              clear HB HLIM
              obtain ⟨j, hj, rfl, hhe, hB⟩ := hrel
              have HB := Lib.hid hB
              have HHE := Lib.hid hhe
              have htl := HM.out
              clear hhe
              obtain ⟨⟨m0, m1, m2⟩, ⟨n0, n1, n2, n3, n4, n5, n6, n7⟩, _, _, _, hsat⟩ := HBX.out _ hB
              by_cases hjl : j < s.takers.length
              · obtain ⟨b, o, ha, _, hb, hc⟩ := sl_elem vTaker_len (by decide) hsat.takers hjl
                obtain ⟨e0, e1⟩ := taker_cells (wr := wr) (b := b) (o := o) (k := j) (x := s.takers[j]) fun q u hu => hc q u hu
                have HNR := Lib.hid (nr_held (p := p) (s := s) hjl)
                have HGT := Lib.hid (List.getElem?_eq_getElem hjl)
                clear hc hsat hB
                generalize s.takers[j] = t at *
                obtain ⟨hn, hhn⟩ : ∃ hn, heldS s j = hn := ⟨_, rfl⟩
                subst ha
                have HK : Hid (∀ W, Below wr.heap.size wr W → (W.cell? ⟨b, o + j * 2 + 1, none⟩ = some (.int .i64 t.atOnce) ∧ W.cell? ⟨w.heap.size + 1, 0, none⟩ = some (.slice a1 s.ready.length c1) ∧ W.cell? ⟨w.heap.size + 1, 1, none⟩ = some (.slice a2 s.outs.length c2) ∧ W.cell? ⟨w.heap.size + 1, 2, none⟩ = some (.slice (some ⟨b, o, none⟩) s.takers.length c3) ∧ W.cell? ⟨w.heap.size + 1, 3, none⟩ = some (.int .i64 s.nextSeq) ∧ W.cell? ⟨w.heap.size + 1, 4, none⟩ = some (.int .i64 s.nextTag) ∧ W.cell? ⟨w.heap.size + 1, 5, none⟩ = some (.int .i64 s.came) ∧ W.cell? ⟨w.heap.size + 1, 6, none⟩ = some (.int .i64 s.acked) ∧ W.cell? ⟨w.heap.size + 1, 7, none⟩ = some (.int .i64 s.dropped)) ∧ Below wr.heap.size wr W) := fun W hW => by
                  have h := (HBX.out W (HB.out.trans (hW.mono HB.out.size))).state
                  exact ⟨⟨(hW.cell (p := ⟨b, _, none⟩) hb).trans e1, h⟩, hW⟩
                have HFN : Hid (∀ W, (∃ D : Prop, D ∧ Below wr.heap.size wr W) → Calls Tryd.prog 41 #[.agg #[Value.slice a1 s.ready.length c1, Value.slice a2 s.outs.length c2, Value.slice (some ⟨b, o, none⟩) s.takers.length c3, Value.int IntKind.i64 s.nextSeq, Value.int IntKind.i64 s.nextTag, Value.int IntKind.i64 s.came, Value.int IntKind.i64 s.acked, Value.int IntKind.i64 s.dropped], .int .i64 (j : Int)] W fun e w' => e = .returned (.int .i64 (hn : Int)) ∧ Below W.heap.size W w') := fun W hW => by
                  obtain ⟨_, _, hW⟩ := hW
                  have := HeldOf_any s a1 a2 (some ⟨b, o, none⟩) c1 c2 c3 (j : Int) 0 W (HBX.out _ (HB.out.trans (hW.mono HB.out.size))).stateAt.outs HSS.out.outs
                  rw [hhn] at this
                  exact this
                rw [hhn] at HNR
                have HHN := Lib.hid hhn
                clear hhn
                go_upto_region 18 with fail
                clear m0 m1 m2 n0 n1 n2 n3 n4 n5 n6 n7 e0 e1
                by_cases hgt : t.atOnce < (hn : Int)
                · have HR := Lib.hid (stateErr_range HP0.out HM.out HFORM.out (HNR.out hgt))
                  refine wp_region_held_drew (S := (fun W => (W.cell? ⟨b, o + j * 2 + 1, none⟩ = some (.int .i64 t.atOnce) ∧ W.cell? ⟨w.heap.size + 1, 0, none⟩ = some (.slice a1 s.ready.length c1) ∧ W.cell? ⟨w.heap.size + 1, 1, none⟩ = some (.slice a2 s.outs.length c2) ∧ W.cell? ⟨w.heap.size + 1, 2, none⟩ = some (.slice (some ⟨b, o, none⟩) s.takers.length c3) ∧ W.cell? ⟨w.heap.size + 1, 3, none⟩ = some (.int .i64 s.nextSeq) ∧ W.cell? ⟨w.heap.size + 1, 4, none⟩ = some (.int .i64 s.nextTag) ∧ W.cell? ⟨w.heap.size + 1, 5, none⟩ = some (.int .i64 s.came) ∧ W.cell? ⟨w.heap.size + 1, 6, none⟩ = some (.int .i64 s.acked) ∧ W.cell? ⟨w.heap.size + 1, 7, none⟩ = some (.int .i64 s.dropped)) ∧ Below wr.heap.size wr W)) (by kernel_rfl) (by first | assumption | exact HK.out _ (Below.refl _ _).drew | exact HK.out _ (kb_alloc (by assumption) _) | exact HK.out _ (by assumption)) (fun hHeld => ?_)
                  first | (refine wpAnyH_take (i := 0) (v := ?_) rfl (by kernel_rfl) (by kernel_rfl) (by kernel_rfl) (fun _ _ _ h => h) (Or.inl ⟨by rfl, ?_⟩) (by assumption) ?_; rotate_left; focus (intro w hSw; (try dsimp only at hSw); go_simp; (all_goals with_reducible rfl); done)) | (refine wpAnyH_take (i := 0) rfl (by kernel_rfl) (by kernel_rfl) (by kernel_rfl) (fun _ _ _ h => h) (Or.inr ⟨by rfl, rfl⟩) (by assumption) ?_) | fail "op 0"
                  try simp only [Act.put, List.setIfInBounds_toArray, List.set_cons_zero, List.set_cons_succ, List.getElem_toArray, List.getElem_cons_zero]
                  first | (refine wpAnyH_take (i := 1) (v := ?_) rfl (by kernel_rfl) (by kernel_rfl) (by kernel_rfl) (fun _ _ _ h => h) (Or.inl ⟨by rfl, ?_⟩) (by assumption) ?_; rotate_left; focus (intro w hSw; (try dsimp only at hSw); go_simp; (all_goals with_reducible rfl); done)) | (refine wpAnyH_take (i := 1) rfl (by kernel_rfl) (by kernel_rfl) (by kernel_rfl) (fun _ _ _ h => h) (Or.inr ⟨by rfl, rfl⟩) (by assumption) ?_) | fail "op 1"
                  try simp only [Act.put, List.setIfInBounds_toArray, List.set_cons_zero, List.set_cons_succ, List.getElem_toArray, List.getElem_cons_zero, List.getElem_cons_succ]
                  first | (refine wpAnyH_take (i := 3) (v := ?_) rfl (by kernel_rfl) (by kernel_rfl) (by kernel_rfl) (fun _ _ _ h => h) (Or.inl ⟨by rfl, ?_⟩) (by assumption) ?_; rotate_left; focus (intro w hSw; (try dsimp only at hSw); go_simp; (all_goals with_reducible rfl); done)) | (refine wpAnyH_take (i := 3) rfl (by kernel_rfl) (by kernel_rfl) (by kernel_rfl) (fun _ _ _ h => h) (Or.inr ⟨by rfl, rfl⟩) (by assumption) ?_) | fail "op 3"
                  try simp only [Act.put, List.setIfInBounds_toArray, List.set_cons_zero, List.set_cons_succ, List.getElem_toArray, List.getElem_cons_zero, List.getElem_cons_succ]
                  first | (refine wpAnyH_take (i := 4) (v := ?_) rfl (by kernel_rfl) (by kernel_rfl) (by kernel_rfl) (fun _ _ _ h => h) (Or.inl ⟨by rfl, ?_⟩) (by assumption) ?_; rotate_left; focus (intro w hSw; (try dsimp only at hSw); go_simp; (all_goals with_reducible rfl); done)) | (refine wpAnyH_take (i := 4) rfl (by kernel_rfl) (by kernel_rfl) (by kernel_rfl) (fun _ _ _ h => h) (Or.inr ⟨by rfl, rfl⟩) (by assumption) ?_) | fail "op 4"
                  try simp only [Act.put, List.setIfInBounds_toArray, List.set_cons_zero, List.set_cons_succ, List.getElem_toArray, List.getElem_cons_zero, List.getElem_cons_succ]
                  first | (refine wpAnyH_take (i := 5) (v := ?_) rfl (by kernel_rfl) (by kernel_rfl) (by kernel_rfl) (fun _ _ _ h => h) (Or.inl ⟨by rfl, ?_⟩) (by assumption) ?_; rotate_left; focus (intro w hSw; (try dsimp only at hSw); go_simp; (all_goals with_reducible rfl); done)) | (refine wpAnyH_take (i := 5) rfl (by kernel_rfl) (by kernel_rfl) (by kernel_rfl) (fun _ _ _ h => h) (Or.inr ⟨by rfl, rfl⟩) (by assumption) ?_) | fail "op 5"
                  try simp only [Act.put, List.setIfInBounds_toArray, List.set_cons_zero, List.set_cons_succ, List.getElem_toArray, List.getElem_cons_zero, List.getElem_cons_succ]
                  first | (refine wpAnyH_take (i := 6) (v := ?_) rfl (by kernel_rfl) (by kernel_rfl) (by kernel_rfl) (fun _ _ _ h => h) (Or.inl ⟨by rfl, ?_⟩) (by assumption) ?_; rotate_left; focus (intro w hSw; (try dsimp only at hSw); go_simp; (all_goals with_reducible rfl); done)) | (refine wpAnyH_take (i := 6) rfl (by kernel_rfl) (by kernel_rfl) (by kernel_rfl) (fun _ _ _ h => h) (Or.inr ⟨by rfl, rfl⟩) (by assumption) ?_) | fail "op 6"
                  try simp only [Act.put, List.setIfInBounds_toArray, List.set_cons_zero, List.set_cons_succ, List.getElem_toArray, List.getElem_cons_zero, List.getElem_cons_succ]
                  first | (refine wpAnyH_take (i := 7) (v := ?_) rfl (by kernel_rfl) (by kernel_rfl) (by kernel_rfl) (fun _ _ _ h => h) (Or.inl ⟨by rfl, ?_⟩) (by assumption) ?_; rotate_left; focus (intro w hSw; (try dsimp only at hSw); go_simp; (all_goals with_reducible rfl); done)) | (refine wpAnyH_take (i := 7) rfl (by kernel_rfl) (by kernel_rfl) (by kernel_rfl) (fun _ _ _ h => h) (Or.inr ⟨by rfl, rfl⟩) (by assumption) ?_) | fail "op 7"
                  try simp only [Act.put, List.setIfInBounds_toArray, List.set_cons_zero, List.set_cons_succ, List.getElem_toArray, List.getElem_cons_zero, List.getElem_cons_succ]
                  first | (refine wpAnyH_take (i := 8) (v := ?_) rfl (by kernel_rfl) (by kernel_rfl) (by kernel_rfl) (fun _ _ _ h => h) (Or.inl ⟨by rfl, ?_⟩) (by assumption) ?_; rotate_left; focus (intro w hSw; (try dsimp only at hSw); go_simp; (all_goals with_reducible rfl); done)) | (refine wpAnyH_take (i := 8) rfl (by kernel_rfl) (by kernel_rfl) (by kernel_rfl) (fun _ _ _ h => h) (Or.inr ⟨by rfl, rfl⟩) (by assumption) ?_) | fail "op 8"
                  try simp only [Act.put, List.setIfInBounds_toArray, List.set_cons_zero, List.set_cons_succ, List.getElem_toArray, List.getElem_cons_zero, List.getElem_cons_succ]
                  first
                    | refine wpAnyH_take (i := 2) rfl (by kernel_rfl) (by kernel_rfl) (by kernel_rfl) (fun _ _ _ h => h) (Or.inr ⟨by rfl, rfl⟩) (by assumption) ?_
                    | (refine wpAnyH_ready (rs := [2]) (by kernel_rfl) (by simp) ?_; refine AllReadyH.cons rfl (fun K hK => ?_) AllReadyH.nil; go_simp; ((go_at_call 41; have hfn := HFN.out _ ⟨_, by assumption⟩; with_reducible refine hfn.mono ?_; clear hfn; rintro e wf ⟨rfl, hbf⟩; have hbf2 := since_stepC (by assumption) hbf; clear hbf)); refine hK.out _ _ (by first | assumption | exact HK.out _ (Below.refl _ _).drew | exact HK.out _ (kb_alloc (by assumption) _) | exact HK.out _ (by assumption)) (fun hHeld => ?_); clear hK K)
                    | fail "call 2"
                  try simp only [Act.put, List.setIfInBounds_toArray, List.set_cons_zero, List.set_cons_succ, List.getElem_toArray, List.getElem_cons_zero, List.getElem_cons_succ]
                  first | (refine wpAnyH_take (i := 9) (v := ?_) rfl (by kernel_rfl) (by kernel_rfl) (by kernel_rfl) (fun _ _ _ h => h) (Or.inl ⟨by rfl, ?_⟩) (by assumption) ?_; rotate_left; focus (intro w hSw; (try dsimp only at hSw); go_simp; (all_goals with_reducible rfl); done)) | (refine wpAnyH_take (i := 9) rfl (by kernel_rfl) (by kernel_rfl) (by kernel_rfl) (fun _ _ _ h => h) (Or.inr ⟨by rfl, rfl⟩) (by assumption) ?_) | fail "op 9"
                  try simp only [Act.put, List.setIfInBounds_toArray, List.set_cons_zero, List.set_cons_succ, List.getElem_toArray, List.getElem_cons_zero, List.getElem_cons_succ]
                  refine wpAnyH_done (by kernel_rfl) ?_ _
                  go_wp2_with fail
                  go_ret
                  exact ⟨by rw [HR.out]; rfl, (HBX.out _ (HB.out.trans (hbf2.mono HB.out.size))).below⟩
                · have HGT2 := Lib.hid hgt
                  refine wp_region_held_drew (S := (fun W => (W.cell? ⟨b, o + j * 2 + 1, none⟩ = some (.int .i64 t.atOnce) ∧ W.cell? ⟨w.heap.size + 1, 0, none⟩ = some (.slice a1 s.ready.length c1) ∧ W.cell? ⟨w.heap.size + 1, 1, none⟩ = some (.slice a2 s.outs.length c2) ∧ W.cell? ⟨w.heap.size + 1, 2, none⟩ = some (.slice (some ⟨b, o, none⟩) s.takers.length c3) ∧ W.cell? ⟨w.heap.size + 1, 3, none⟩ = some (.int .i64 s.nextSeq) ∧ W.cell? ⟨w.heap.size + 1, 4, none⟩ = some (.int .i64 s.nextTag) ∧ W.cell? ⟨w.heap.size + 1, 5, none⟩ = some (.int .i64 s.came) ∧ W.cell? ⟨w.heap.size + 1, 6, none⟩ = some (.int .i64 s.acked) ∧ W.cell? ⟨w.heap.size + 1, 7, none⟩ = some (.int .i64 s.dropped)) ∧ Below wr.heap.size wr W)) (by kernel_rfl) (by first | assumption | exact HK.out _ (Below.refl _ _).drew | exact HK.out _ (kb_alloc (by assumption) _) | exact HK.out _ (by assumption)) (fun hHeld => ?_)
                  first | (refine wpAnyH_take (i := 0) (v := ?_) rfl (by kernel_rfl) (by kernel_rfl) (by kernel_rfl) (fun _ _ _ h => h) (Or.inl ⟨by rfl, ?_⟩) (by assumption) ?_; rotate_left; focus (intro w hSw; (try dsimp only at hSw); go_simp; (all_goals with_reducible rfl); done)) | (refine wpAnyH_take (i := 0) rfl (by kernel_rfl) (by kernel_rfl) (by kernel_rfl) (fun _ _ _ h => h) (Or.inr ⟨by rfl, rfl⟩) (by assumption) ?_) | fail "op 0"
                  try simp only [Act.put, List.setIfInBounds_toArray, List.set_cons_zero, List.set_cons_succ, List.getElem_toArray, List.getElem_cons_zero]
                  first | (refine wpAnyH_take (i := 1) (v := ?_) rfl (by kernel_rfl) (by kernel_rfl) (by kernel_rfl) (fun _ _ _ h => h) (Or.inl ⟨by rfl, ?_⟩) (by assumption) ?_; rotate_left; focus (intro w hSw; (try dsimp only at hSw); go_simp; (all_goals with_reducible rfl); done)) | (refine wpAnyH_take (i := 1) rfl (by kernel_rfl) (by kernel_rfl) (by kernel_rfl) (fun _ _ _ h => h) (Or.inr ⟨by rfl, rfl⟩) (by assumption) ?_) | fail "op 1"
                  try simp only [Act.put, List.setIfInBounds_toArray, List.set_cons_zero, List.set_cons_succ, List.getElem_toArray, List.getElem_cons_zero, List.getElem_cons_succ]
                  first | (refine wpAnyH_take (i := 3) (v := ?_) rfl (by kernel_rfl) (by kernel_rfl) (by kernel_rfl) (fun _ _ _ h => h) (Or.inl ⟨by rfl, ?_⟩) (by assumption) ?_; rotate_left; focus (intro w hSw; (try dsimp only at hSw); go_simp; (all_goals with_reducible rfl); done)) | (refine wpAnyH_take (i := 3) rfl (by kernel_rfl) (by kernel_rfl) (by kernel_rfl) (fun _ _ _ h => h) (Or.inr ⟨by rfl, rfl⟩) (by assumption) ?_) | fail "op 3"
                  try simp only [Act.put, List.setIfInBounds_toArray, List.set_cons_zero, List.set_cons_succ, List.getElem_toArray, List.getElem_cons_zero, List.getElem_cons_succ]
                  first | (refine wpAnyH_take (i := 4) (v := ?_) rfl (by kernel_rfl) (by kernel_rfl) (by kernel_rfl) (fun _ _ _ h => h) (Or.inl ⟨by rfl, ?_⟩) (by assumption) ?_; rotate_left; focus (intro w hSw; (try dsimp only at hSw); go_simp; (all_goals with_reducible rfl); done)) | (refine wpAnyH_take (i := 4) rfl (by kernel_rfl) (by kernel_rfl) (by kernel_rfl) (fun _ _ _ h => h) (Or.inr ⟨by rfl, rfl⟩) (by assumption) ?_) | fail "op 4"
                  try simp only [Act.put, List.setIfInBounds_toArray, List.set_cons_zero, List.set_cons_succ, List.getElem_toArray, List.getElem_cons_zero, List.getElem_cons_succ]
                  first | (refine wpAnyH_take (i := 5) (v := ?_) rfl (by kernel_rfl) (by kernel_rfl) (by kernel_rfl) (fun _ _ _ h => h) (Or.inl ⟨by rfl, ?_⟩) (by assumption) ?_; rotate_left; focus (intro w hSw; (try dsimp only at hSw); go_simp; (all_goals with_reducible rfl); done)) | (refine wpAnyH_take (i := 5) rfl (by kernel_rfl) (by kernel_rfl) (by kernel_rfl) (fun _ _ _ h => h) (Or.inr ⟨by rfl, rfl⟩) (by assumption) ?_) | fail "op 5"
                  try simp only [Act.put, List.setIfInBounds_toArray, List.set_cons_zero, List.set_cons_succ, List.getElem_toArray, List.getElem_cons_zero, List.getElem_cons_succ]
                  first | (refine wpAnyH_take (i := 6) (v := ?_) rfl (by kernel_rfl) (by kernel_rfl) (by kernel_rfl) (fun _ _ _ h => h) (Or.inl ⟨by rfl, ?_⟩) (by assumption) ?_; rotate_left; focus (intro w hSw; (try dsimp only at hSw); go_simp; (all_goals with_reducible rfl); done)) | (refine wpAnyH_take (i := 6) rfl (by kernel_rfl) (by kernel_rfl) (by kernel_rfl) (fun _ _ _ h => h) (Or.inr ⟨by rfl, rfl⟩) (by assumption) ?_) | fail "op 6"
                  try simp only [Act.put, List.setIfInBounds_toArray, List.set_cons_zero, List.set_cons_succ, List.getElem_toArray, List.getElem_cons_zero, List.getElem_cons_succ]
                  first | (refine wpAnyH_take (i := 7) (v := ?_) rfl (by kernel_rfl) (by kernel_rfl) (by kernel_rfl) (fun _ _ _ h => h) (Or.inl ⟨by rfl, ?_⟩) (by assumption) ?_; rotate_left; focus (intro w hSw; (try dsimp only at hSw); go_simp; (all_goals with_reducible rfl); done)) | (refine wpAnyH_take (i := 7) rfl (by kernel_rfl) (by kernel_rfl) (by kernel_rfl) (fun _ _ _ h => h) (Or.inr ⟨by rfl, rfl⟩) (by assumption) ?_) | fail "op 7"
                  try simp only [Act.put, List.setIfInBounds_toArray, List.set_cons_zero, List.set_cons_succ, List.getElem_toArray, List.getElem_cons_zero, List.getElem_cons_succ]
                  first | (refine wpAnyH_take (i := 8) (v := ?_) rfl (by kernel_rfl) (by kernel_rfl) (by kernel_rfl) (fun _ _ _ h => h) (Or.inl ⟨by rfl, ?_⟩) (by assumption) ?_; rotate_left; focus (intro w hSw; (try dsimp only at hSw); go_simp; (all_goals with_reducible rfl); done)) | (refine wpAnyH_take (i := 8) rfl (by kernel_rfl) (by kernel_rfl) (by kernel_rfl) (fun _ _ _ h => h) (Or.inr ⟨by rfl, rfl⟩) (by assumption) ?_) | fail "op 8"
                  try simp only [Act.put, List.setIfInBounds_toArray, List.set_cons_zero, List.set_cons_succ, List.getElem_toArray, List.getElem_cons_zero, List.getElem_cons_succ]
                  first
                    | refine wpAnyH_take (i := 2) rfl (by kernel_rfl) (by kernel_rfl) (by kernel_rfl) (fun _ _ _ h => h) (Or.inr ⟨by rfl, rfl⟩) (by assumption) ?_
                    | (refine wpAnyH_ready (rs := [2]) (by kernel_rfl) (by simp) ?_; refine AllReadyH.cons rfl (fun K hK => ?_) AllReadyH.nil; go_simp; ((go_at_call 41; have hfn := HFN.out _ ⟨_, by assumption⟩; with_reducible refine hfn.mono ?_; clear hfn; rintro e wf ⟨rfl, hbf⟩; have hbf2 := since_stepC (by assumption) hbf; clear hbf)); refine hK.out _ _ (by first | assumption | exact HK.out _ (Below.refl _ _).drew | exact HK.out _ (kb_alloc (by assumption) _) | exact HK.out _ (by assumption)) (fun hHeld => ?_); clear hK K)
                    | fail "call 2"
                  try simp only [Act.put, List.setIfInBounds_toArray, List.set_cons_zero, List.set_cons_succ, List.getElem_toArray, List.getElem_cons_zero, List.getElem_cons_succ]
                  first | (refine wpAnyH_take (i := 9) (v := ?_) rfl (by kernel_rfl) (by kernel_rfl) (by kernel_rfl) (fun _ _ _ h => h) (Or.inl ⟨by rfl, ?_⟩) (by assumption) ?_; rotate_left; focus (intro w hSw; (try dsimp only at hSw); go_simp; (all_goals with_reducible rfl); done)) | (refine wpAnyH_take (i := 9) rfl (by kernel_rfl) (by kernel_rfl) (by kernel_rfl) (fun _ _ _ h => h) (Or.inr ⟨by rfl, rfl⟩) (by assumption) ?_) | fail "op 9"
                  try simp only [Act.put, List.setIfInBounds_toArray, List.set_cons_zero, List.set_cons_succ, List.getElem_toArray, List.getElem_cons_zero, List.getElem_cons_succ]
                  refine wpAnyH_done (by kernel_rfl) ?_ _
                  go_wp2_with fail
                  exact ⟨⟨j + 1, hjl, by go_num, fun k' t' hk' ht' => by
                    rcases Nat.lt_or_ge k' j with h | h
                    · exact HHE.out k' t' h ht'
                    · obtain rfl : k' = j := by omega
                      rw [HGT.out] at ht'
                      cases ht'
                      rw [HHN.out]
                      have := HGT2.out; omega, HB.out.trans (hbf2.mono HB.out.size)⟩, by simp [intOf]; omega⟩
              · obtain rfl : j = s.takers.length := by omega
                have HHELD : Hid (heldB s = true) := heldB_iff.2 fun k t ht => HHE.out k t (List.getElem?_eq_some_iff.1 ht).1 ht
                have HRANGE : Hid ((limitB p s && heldB s) = true) := (by rw [HLIMIT.out, HHELD.out]; rfl : (limitB p s && heldB s) = true)
                clear hB hsat
                have hak := HFORM.out.acked
                have hdk := HFORM.out.dropped
                unfold countB at hak hdk
                simp only [Bool.and_eq_true, decide_eq_true_eq] at hak hdk
                have HALL := Lib.hid (lyK_all s)
                have hw2 : wrap64 ((s.outs.length : Int) + (lyK s s.ready.length : Int) + s.acked) = (s.outs.length : Int) + (lyK s s.ready.length : Int) + s.acked := w64 (by omega) (by omega)
                have hw3 : wrap64 ((s.outs.length : Int) + (lyK s s.ready.length : Int) + s.acked + s.dropped) = (s.outs.length : Int) + (lyK s s.ready.length : Int) + s.acked + s.dropped := w64 (by omega) (by omega)
                have HSUM : Hid (∀ b1 b2 : Bool, (s.came != (s.outs.length : Int) + (lyK s s.ready.length : Int) + s.acked + s.dropped) = b1 → (s.came != s.nextSeq) = b2 → sumB s = (!b1 && !b2)) := fun b1 b2 h1 h2 => by
                  subst h1 h2
                  unfold sumB
                  rw [HALL.out, Bool.eq_iff_iff]
                  simp only [Bool.and_eq_true, decide_eq_true_eq, Bool.not_eq_true', bne_eq_false_iff_eq]
                  constructor
                  · rintro ⟨h1, h2⟩; exact ⟨by omega, h2⟩
                  · rintro ⟨h1, h2⟩; exact ⟨by omega, h2⟩
                clear hak hdk
                cases hc1 : (s.came != (s.outs.length : Int) + (lyK s s.ready.length : Int) + s.acked + s.dropped)
                · cases hc2 : (s.came != s.nextSeq)
                  · have HR := Lib.hid (stateErr_ok HP0.out HM.out HFORM.out HRANGE.out ((HSUM.out _ _ hc1 hc2).trans rfl))
                    go_wp2_with fail
                    go_ret
                    exact ⟨by rw [HR.out]; rfl, (HBX.out _ HB.out).below⟩
                  · have HR := Lib.hid (stateErr_sum HP0.out HM.out HFORM.out HRANGE.out ((HSUM.out _ _ hc1 hc2).trans rfl))
                    go_wp2_with fail
                    go_ret
                    exact ⟨by rw [HR.out]; rfl, (HBX.out _ HB.out).below⟩
                · have HR := Lib.hid (stateErr_sum HP0.out HM.out HFORM.out HRANGE.out ((HSUM.out _ _ hc1 rfl).trans (by simp)))
                  go_wp2_with fail
                  go_ret
                  exact ⟨by rw [HR.out]; rfl, (HBX.out _ HB.out).below⟩
    · have HR := Lib.hid (stateErr_many (s := s) HP0.out (by omega))
      have hmb : decide ((4 : Int) < (s.takers.length : Int)) = true := by simp; omega
      go_wp2_with fail
      go_ret
      exact ⟨by rw [HR.out]; rfl, (HBX.out _ HB1.out).below⟩
  · have HR := Lib.hid (stateErr_plan (s := s) h0)
    have h0b : (checkP p == 0) = false := by simp [h0]
    clear h0
    go_wp2_with fail
    go_ret
    exact ⟨by rw [HR.out]; rfl, (HBX.out _ HB1.out).below⟩

end Go.Proofs.YtbdikenloklhaaaDoor
