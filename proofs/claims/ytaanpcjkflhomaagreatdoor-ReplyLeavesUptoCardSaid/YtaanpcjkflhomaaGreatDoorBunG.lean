/-
  Walks of the reference: HeldOf; Held. Walk of the reference's CheckState.
  Two Outs, two takers, two states: are they the same? Walk of the reference's SameStates.
  Walk of state.Held. What the law's begin of states needs: Begin, Held and Check at the office.
-/
import Derived.Test.YtaanpcjkflhomaaGreatDoorBunA
import Derived.Test.YtaanpcjkflhomaaGreatDoorBunF
import Derived.Test.YtaanpcjkflhomaaGreatDoorStateE
import Derived.Test.YtaanpcjkflhomaaGreatDoorBunD
import Derived.Deep.RegionHeld3
import Derived.Deep.QuietTactic
import Derived.BigQuiet
import Derived.Deep.CutRange
import Derived.Test.YtaanpcjkflhomaaGreatDoorBunE
import Derived.IntWalk
import Derived.Test.YtaanpcjkflhomaaGreatDoorStateD
set_option linter.unusedSimpArgs false
set_option linter.unusedVariables false
namespace Go.Proofs.YtaanpcjkflhomaaGreatDoor
open Go.RowKit
set_option maxRecDepth 100000
set_option maxHeartbeats 1000000 in
theorem HeldOf_any (s : StateD) (a1 a2 a3 : Option Addr) (c1 c2 c3 : Nat) (t : Int) (lo : Nat) (w : World) (ho : Sl w lo w.heap.size a2 (s.outs.flatMap vOut)) (hl : s.outs.length ≤ 1048576) :
  Calls Tryz.prog 68 #[stateV s a1 a2 a3 c1 c2 c3, .int .i64 t] w fun e w' => e = .returned (.int .i64 (heldS s t)) ∧ Below w.heap.size w w' := by
 have hbx := boxedS_new w s a1 a2 a3 c1 c2 c3 31
 have ho0 := (ho.below ((Below.refl _ w).alloc (Nat.le_refl _) (.cells (vState s a1 a2 a3 c1 c2 c3) 31)) (Nat.le_refl _)).wider (lo' := 0) (hi' := (w.alloc (.cells (vState s a1 a2 a3 c1 c2 c3) 31)).heap.size) (Nat.zero_le _) (by simp)
 have HO := Lib.hid ho0
 have HF : Hid (heldN s.outs t = heldS s t) := (rfl : heldN s.outs t = heldS s t)
 have hbb : Hid (BoxedS w (w.alloc (.cells (vState s a1 a2 a3 c1 c2 c3) 31)) s a1 a2 a3 c1 c2 c3) := hbx
 clear hbx ho ho0
 unfold stateV
 unfold vState at *
 go_enter Tryz.func68, Tryz.ntmps68
 go_wp2_with fail
 generalize w.alloc (.cells #[Value.slice a1 s.ready.length c1, Value.slice a2 s.outs.length c2, Value.slice a3 s.takers.length c3, Value.int IntKind.i64 s.nextSeq, Value.int IntKind.i64 s.nextTag, Value.int IntKind.i64 s.came, Value.int IntKind.i64 s.acked, Value.int IntKind.i64 s.dropped] 31) = W0 at *
 generalize hou : s.outs = l at *
 go_loopw [5, 6] (fun n i wr => OfRel l t W0 n i wr) (fun _ i _ => l.length - (intOf i).toNat)
 case atStart => exact ⟨0, by omega, rfl, rfl, Below.refl _ _⟩
 case round =>
  obtain ⟨k, hk, rfl, rfl, hB⟩ := hrel
  have HB := Lib.hid hB
  have hh := held_le l t k
  obtain ⟨⟨_, f1, _⟩, _⟩ := hbb.out _ hB
  rw [hou] at f1
  generalize hN : heldN (l.take k) t = N at *
  by_cases hlt : k < l.length
  ·obtain ⟨b, o, ha, _, hb, hc⟩ := sl_elem vOut_len (by decide) HO.out hlt
   subst ha
   obtain ⟨e0, e1, e2, e3, e4, e5, e6, e7⟩ := out_cells (wr := wr) (b := b) (o := o) (k := k) (x := l[k]) fun j u hu => (hB.cell (p := ⟨b, _, none⟩) hb).trans (hc j u hu)
   have HST := Lib.hid (held_step (t := t) hlt)
   rw [hN] at HST
   clear hc hB hN
   generalize l[k] = x at *
   by_cases hq : x.taker = t
   ·have hqb : (x.taker == t) = true := by simp [hq]
    rw [if_pos hq] at HST
    clear hq
    go_wp2_with fail
    exact ⟨⟨k + 1, hlt, by go_num, by rw [HST.out]; go_num, HB.out⟩, by simp [intOf]; omega⟩
   ·have hqb : (x.taker == t) = false := by simp [hq]
    rw [if_neg hq] at HST
    clear hq
    go_wp2_with fail
    exact ⟨⟨k + 1, hlt, by go_num, by rw [HST.out]; rfl, HB.out⟩, by simp [intOf]; omega⟩
  ·obtain rfl : k = l.length := by omega
   have hF : N = heldS s t := by rw [← hN, List.take_length, ← HF.out]
   have HFN := Lib.hid hF
   clear hB hF hN
   go_wp2_with fail
   go_ret
   exact ⟨by rw [HFN.out]; rfl, (hbb.out _ HB.out).2⟩
end Go.Proofs.YtaanpcjkflhomaaGreatDoor
namespace Go.Proofs.YtaanpcjkflhomaaGreatDoor
open Go.RowKit
set_option maxRecDepth 100000
def CSRel1 (p : PlanD) (s : StateD) (W0 : World) (n i : Value) (wr : World) : Prop :=
 ∃ j : Nat, j ≤ s.ready.length ∧ i = .int .i64 j ∧ n = .int .i64 ((s.outs.length + lyK s j : Nat) : Int) ∧ (∀ (q : Nat) (l : List ItemD) (x : QueueD), q < j → s.ready[q]? = some l → p.queues[q]? = some x → (l.length : Int) ≤ x.limit) ∧ Below W0.heap.size W0 wr
def CSRel2 (s : StateD) (W0 : World) (i : Value) (wr : World) : Prop :=
 ∃ j : Nat, j ≤ s.takers.length ∧ i = .int .i64 j ∧ (∀ (k : Nat) (t : TakerD), k < j → s.takers[k]? = some t → (heldS s k : Int) ≤ t.atOnce) ∧ Below W0.heap.size W0 wr
set_option maxHeartbeats 8000000 in
theorem CheckState_any (p : PlanD) (s : StateD) (p1 p2 p3 a1 a2 a3 : Option Addr) (q1 q2 q3 c1 c2 c3 : Nat) (rows : List RowD) (w : World) (hE : Env w) (hp : PlanAt w 0 w.heap.size p1 p2 p3 p) (hps : PlanSmall p) (hs : StateAt w 0 w.heap.size a1 a2 a3 rows s) (hss : StateSmall s) (hsi : StateInts s) :
  Calls Tryz.prog 25 #[planV p p1 p2 p3 q1 q2 q3, stateV s a1 a2 a3 c1 c2 c3] w fun e w' => e = .returned (.int .i64 (stateErr p s)) ∧ Below w.heap.size w w' := by
 have hbx := two_boxes q1 q2 q3 c1 c2 c3 hE hp hs 26 31
 unfold vState at hbx
 unfold stateV planV vState
 have HBX := Lib.hid hbx
 have HPS := Lib.hid hps
 have HSS := Lib.hid hss
 have HSI := Lib.hid hsi
 clear hbx hE hp hs hps hss hsi
 go_enter Tryz.func25, Tryz.ntmps25
 go_wp2_with fail
 generalize ((w.alloc (.cells #[.slice p1 p.posts.length q1, .slice p2 p.queues.length q2, .slice p3 p.binds.length q3] 26)).alloc (.cells #[Value.slice a1 s.ready.length c1, Value.slice a2 s.outs.length c2, Value.slice a3 s.takers.length c3, Value.int IntKind.i64 s.nextSeq, Value.int IntKind.i64 s.nextTag, Value.int IntKind.i64 s.came, Value.int IntKind.i64 s.acked, Value.int IntKind.i64 s.dropped] 31)) = W0 at *
 refine (CheckPlan_any p p1 p2 p3 q1 q2 q3 0 W0 (HBX.out _ (Below.refl _ _)).planAt HPS.out).mono ?_
 rintro e W1 ⟨rfl, hb1⟩
 have HB1 := Lib.hid hb1
 obtain ⟨⟨m0, m1, m2⟩, ⟨n0, n1, n2, n3, n4, n5, n6, n7⟩, _, _, _, _⟩ := HBX.out _ hb1
 clear hb1
 by_cases h0 : checkP p = 0
 ·have HP0 := Lib.hid h0
  rw [h0]
  clear h0
  by_cases hm : s.takers.length ≤ 4
  ·have HM := Lib.hid hm
   have hmb : decide ((4 : Int) < (s.takers.length : Int)) = false := by simp; omega
   go_wp2_with fail
   refine (formed_any p s p1 p2 p3 a1 a2 a3 q1 q2 q3 c1 c2 c3 rows W1 (HBX.out _ HB1.out).env (HBX.out _ HB1.out).planAt HPS.out (HBX.out _ HB1.out).stateAt HSS.out HSI.out).mono ?_
   rintro e W2 ⟨rfl, hb2⟩
   have HB2 := Lib.hid (HB1.out.trans (hb2.mono HB1.out.size))
   clear hb2 m0 m1 m2 n0 n1 n2 n3 n4 n5 n6 n7 hmb
   obtain ⟨_, ⟨n0, n1, n2, n3, n4, n5, n6, n7⟩, _, _, _, _⟩ := HBX.out _ HB2.out
   cases hf : formedB p s
   ·have HR := Lib.hid (stateErr_form HP0.out HM.out (by rw [← formedB_iff, hf]; decide))
    clear hf
    go_wp2_with fail
    go_ret
    exact ⟨by rw [HR.out]; rfl, (HBX.out _ HB2.out).below⟩
   ·have HFORM := Lib.hid (formedB_iff.1 hf)
    clear hf
    go_wp2_with fail
    clear n0 n1 n2 n3 n4 n5 n6 n7
    go_loopw [6, 7] (fun n i wr => CSRel1 p s W0 n i wr) (fun _ i _ => s.ready.length - (intOf i).toNat)
    case atStart => exact ⟨0, by omega, rfl, rfl, fun q l x hq => absurd hq (by omega), HB2.out⟩
    case round =>
     clear HB1 HB2
     obtain ⟨j, hj, rfl, rfl, hlim, hB⟩ := hrel
     have HB := Lib.hid hB
     have HLIM := Lib.hid hlim
     have hrd := HSS.out.ready
     have hol := HSS.out.outs
     have hly4 : lyingS s ≤ 1048576 := HSS.out.lying
     have hly2 := lyK_le s j
     clear hlim
     obtain ⟨⟨m0, m1, m2⟩, ⟨n0, n1, n2, n3, n4, n5, n6, n7⟩, _, _, hpat, hsat⟩ := HBX.out _ hB
     by_cases hjl : j < s.ready.length
     ·have hrl : rows.length = s.ready.length := by rw [← hsat.same, List.length_map]
      have hltr : j < rows.length := by omega
      have hltq : j < p.queues.length := by have := HFORM.out.len; omega
      obtain ⟨b, o, ha, _, hb, hc⟩ := sl_elem vRow_len (by decide) hsat.ready hltr
      have e0 : wr.cell? ⟨b, o + j, none⟩ = some (.slice rows[j].at_ rows[j].items.length rows[j].cap) := by have := hc 0 _ rfl; simpa using this
      obtain ⟨b2, o2, ha2, _, hb2, hc2⟩ := sl_elem vQueue_len (by decide) hpat.queues hltq
      have d1 : wr.cell? ⟨b2, o2 + j * 3 + 1, none⟩ = some (.int .i64 p.queues[j].limit) := hc2 1 _ rfl
      have hit : s.ready[j] = rows[j].items := by simp [← hsat.same]
      have HNR := Lib.hid (nr_limit (p := p) (s := s) hjl hltq)
      have HGQ := Lib.hid (List.getElem?_eq_getElem hltq)
      have HGR := Lib.hid (List.getElem?_eq_getElem hjl)
      have hly1 := lyK_step hjl
      have hly3 := lyK_le s (j + 1)
      rw [hit] at HNR HGR hly1
      clear hc hc2 hsat hpat hB hit
      generalize rows[j] = r at *
      obtain ⟨ra, rc, ri⟩ := r
      dsimp only at e0 HNR HGR hly1
      generalize p.queues[j] = qd at *
      have HLY := Lib.hid hly1
      have hlr : ri.length ≤ 1048576 := by omega
      clear hly1
      subst ha ha2
      by_cases hle : qd.limit < (ri.length : Int)
      ·have HR := Lib.hid (stateErr_range HP0.out HM.out HFORM.out (HNR.out hle))
       go_wp2
       go_quiet (fail)
       all_goals go_wp2
       all_goals go_ret
       all_goals exact ⟨by rw [HR.out]; rfl, (HBX.out _ (below_draws HB.out _)).below⟩
      ·have HLE := Lib.hid hle
       go_wp2
       go_quiet (fail)
       all_goals go_wp2
       all_goals exact ⟨⟨j + 1, hjl, by go_num, by rw [HLY.out]; go_num, fun q l' x' hq hl' hx' => by
        rcases Nat.lt_or_ge q j with h | h
        ·exact HLIM.out q l' x' h hl' hx'
        ·obtain rfl : q = j := by omega
         rw [HGR.out] at hl'
         rw [HGQ.out] at hx'
         cases hl'; cases hx'
         have := HLE.out; omega, below_draws HB.out _⟩, by simp [intOf]; omega⟩
     ·obtain rfl : j = s.ready.length := by omega
      have HLIMIT : Hid (limitB p s = true) := limitB_iff.2 fun q l x hl hx => HLIM.out q l x (List.getElem?_eq_some_iff.1 hl).1 hl hx
      clear hB hsat hpat
      go_wp2_with fail
      clear m0 m1 m2 n0 n1 n2 n3 n4 n5 n6 n7
      go_loopw [8] (fun i wr => CSRel2 s W0 i wr) (fun i _ => s.takers.length - (intOf i).toNat)
      case atStart => exact ⟨0, by omega, rfl, fun k t hk => absurd hk (by omega), HB.out⟩
      case round =>
       clear HB HLIM
       obtain ⟨j, hj, rfl, hhe, hB⟩ := hrel
       have HB := Lib.hid hB
       have HHE := Lib.hid hhe
       have htl := HM.out
       clear hhe
       obtain ⟨⟨m0, m1, m2⟩, ⟨n0, n1, n2, n3, n4, n5, n6, n7⟩, _, _, _, hsat⟩ := HBX.out _ hB
       by_cases hjl : j < s.takers.length
       ·obtain ⟨b, o, ha, _, hb, hc⟩ := sl_elem vTaker_len (by decide) hsat.takers hjl
        obtain ⟨e0, e1⟩ := taker_cells (wr := wr) (b := b) (o := o) (k := j) (x := s.takers[j]) fun q u hu => hc q u hu
        have HNR := Lib.hid (nr_held (p := p) (s := s) hjl)
        have HGT := Lib.hid (List.getElem?_eq_getElem hjl)
        clear hc hsat hB
        generalize s.takers[j] = t at *
        obtain ⟨hn, hhn⟩ : ∃ hn, heldS s j = hn := ⟨_, rfl⟩
        subst ha
        have HK : Hid (∀ W, Below wr.heap.size wr W → (W.cell? ⟨b, o + j * 2 + 1, none⟩ = some (.int .i64 t.atOnce) ∧ W.cell? ⟨w.heap.size + 1, 0, none⟩ = some (.slice a1 s.ready.length c1) ∧ W.cell? ⟨w.heap.size + 1, 1, none⟩ = some (.slice a2 s.outs.length c2) ∧ W.cell? ⟨w.heap.size + 1, 2, none⟩ = some (.slice (some ⟨b, o, none⟩) s.takers.length c3) ∧ W.cell? ⟨w.heap.size + 1, 3, none⟩ = some (.int .i64 s.nextSeq) ∧ W.cell? ⟨w.heap.size + 1, 4, none⟩ = some (.int .i64 s.nextTag) ∧ W.cell? ⟨w.heap.size + 1, 5, none⟩ = some (.int .i64 s.came) ∧ W.cell? ⟨w.heap.size + 1, 6, none⟩ = some (.int .i64 s.acked) ∧ W.cell? ⟨w.heap.size + 1, 7, none⟩ = some (.int .i64 s.dropped)) ∧ Below wr.heap.size wr W) := fun W hW => by
         have h := (HBX.out W (HB.out.trans (hW.mono HB.out.size))).state
         exact ⟨⟨(hW.cell (p := ⟨b, _, none⟩) hb).trans e1, h⟩, hW⟩
        have HFN : Hid (∀ W, (∃ D : Prop, D ∧ Below wr.heap.size wr W) → Calls Tryz.prog 68 #[.agg #[Value.slice a1 s.ready.length c1, Value.slice a2 s.outs.length c2, Value.slice (some ⟨b, o, none⟩) s.takers.length c3, Value.int IntKind.i64 s.nextSeq, Value.int IntKind.i64 s.nextTag, Value.int IntKind.i64 s.came, Value.int IntKind.i64 s.acked, Value.int IntKind.i64 s.dropped], .int .i64 (j : Int)] W fun e w' => e = .returned (.int .i64 (hn : Int)) ∧ Below W.heap.size W w') := fun W hW => by
         obtain ⟨_, _, hW⟩ := hW
         have := HeldOf_any s a1 a2 (some ⟨b, o, none⟩) c1 c2 c3 (j : Int) 0 W (HBX.out _ (HB.out.trans (hW.mono HB.out.size))).stateAt.outs HSS.out.outs
         rw [hhn] at this
         exact this
        rw [hhn] at HNR
        have HHN := Lib.hid hhn
        clear hhn
        go_upto_region 18 with fail
        clear m0 m1 m2 n0 n1 n2 n3 n4 n5 n6 n7 e0 e1
        by_cases hgt : t.atOnce < (hn : Int)
        ·have HR := Lib.hid (stateErr_range HP0.out HM.out HFORM.out (HNR.out hgt))
         refine nw_lay [(0, false), (1, false), (3, false), (4, false), (5, false), (6, false), (7, false), (8, false), (2, true), (9, false)] (by kernel_rfl) (fun hOrd => ?_)
         refine nw_go (S := (fun W => (W.cell? ⟨b, o + j * 2 + 1, none⟩ = some (.int .i64 t.atOnce) ∧ W.cell? ⟨w.heap.size + 1, 0, none⟩ = some (.slice a1 s.ready.length c1) ∧ W.cell? ⟨w.heap.size + 1, 1, none⟩ = some (.slice a2 s.outs.length c2) ∧ W.cell? ⟨w.heap.size + 1, 2, none⟩ = some (.slice (some ⟨b, o, none⟩) s.takers.length c3) ∧ W.cell? ⟨w.heap.size + 1, 3, none⟩ = some (.int .i64 s.nextSeq) ∧ W.cell? ⟨w.heap.size + 1, 4, none⟩ = some (.int .i64 s.nextTag) ∧ W.cell? ⟨w.heap.size + 1, 5, none⟩ = some (.int .i64 s.came) ∧ W.cell? ⟨w.heap.size + 1, 6, none⟩ = some (.int .i64 s.acked) ∧ W.cell? ⟨w.heap.size + 1, 7, none⟩ = some (.int .i64 s.dropped)) ∧ Below wr.heap.size wr W)) hOrd (by kernel_rfl) (by first | assumption | exact HK.out _ (Below.refl _ _).drew | exact HK.out _ (kb_alloc (by assumption) _) | exact HK.out _ (by assumption)) (fun hHeld => ?_)
         clear hOrd
         iterate 10 ((first | (refine NW.take (v := ?_) rfl (fun _ _ _ h => h) (Or.inl ⟨by rfl, ?_⟩) ?_; rotate_left; focus (intro w hSw; (try dsimp only at hSw); go_simp; (all_goals with_reducible rfl); done)) | (refine NW.leave rfl (fun _ _ _ h => h) (by rfl) (by assumption) ?_) | (refine NW.call rfl (fun K hK => ?_); go_simp; ((go_at_call 68; have hfn := HFN.out _ ⟨_, by assumption⟩; with_reducible refine hfn.mono ?_; clear hfn; rintro e wf ⟨rfl, hbf⟩; have hbf2 := since_stepC (by assumption) hbf; clear hbf)); refine hK.out _ _ (by first | assumption | exact HK.out _ (Below.refl _ _).drew | exact HK.out _ (kb_alloc (by assumption) _) | exact HK.out _ (by assumption)) (fun hHeld => ?_); clear hK K)); try simp only [Act.put, zA, zB, zC, zD, zE, zF])
         refine NW.done ?_
         go_wp2_with fail
         go_ret
         exact ⟨by rw [HR.out]; rfl, (HBX.out _ (HB.out.trans (hbf2.mono HB.out.size))).below⟩
        ·have HGT2 := Lib.hid hgt
         refine nw_lay [(0, false), (1, false), (3, false), (4, false), (5, false), (6, false), (7, false), (8, false), (2, true), (9, false)] (by kernel_rfl) (fun hOrd => ?_)
         refine nw_go (S := (fun W => (W.cell? ⟨b, o + j * 2 + 1, none⟩ = some (.int .i64 t.atOnce) ∧ W.cell? ⟨w.heap.size + 1, 0, none⟩ = some (.slice a1 s.ready.length c1) ∧ W.cell? ⟨w.heap.size + 1, 1, none⟩ = some (.slice a2 s.outs.length c2) ∧ W.cell? ⟨w.heap.size + 1, 2, none⟩ = some (.slice (some ⟨b, o, none⟩) s.takers.length c3) ∧ W.cell? ⟨w.heap.size + 1, 3, none⟩ = some (.int .i64 s.nextSeq) ∧ W.cell? ⟨w.heap.size + 1, 4, none⟩ = some (.int .i64 s.nextTag) ∧ W.cell? ⟨w.heap.size + 1, 5, none⟩ = some (.int .i64 s.came) ∧ W.cell? ⟨w.heap.size + 1, 6, none⟩ = some (.int .i64 s.acked) ∧ W.cell? ⟨w.heap.size + 1, 7, none⟩ = some (.int .i64 s.dropped)) ∧ Below wr.heap.size wr W)) hOrd (by kernel_rfl) (by first | assumption | exact HK.out _ (Below.refl _ _).drew | exact HK.out _ (kb_alloc (by assumption) _) | exact HK.out _ (by assumption)) (fun hHeld => ?_)
         clear hOrd
         iterate 10 ((first | (refine NW.take (v := ?_) rfl (fun _ _ _ h => h) (Or.inl ⟨by rfl, ?_⟩) ?_; rotate_left; focus (intro w hSw; (try dsimp only at hSw); go_simp; (all_goals with_reducible rfl); done)) | (refine NW.leave rfl (fun _ _ _ h => h) (by rfl) (by assumption) ?_) | (refine NW.call rfl (fun K hK => ?_); go_simp; ((go_at_call 68; have hfn := HFN.out _ ⟨_, by assumption⟩; with_reducible refine hfn.mono ?_; clear hfn; rintro e wf ⟨rfl, hbf⟩; have hbf2 := since_stepC (by assumption) hbf; clear hbf)); refine hK.out _ _ (by first | assumption | exact HK.out _ (Below.refl _ _).drew | exact HK.out _ (kb_alloc (by assumption) _) | exact HK.out _ (by assumption)) (fun hHeld => ?_); clear hK K)); try simp only [Act.put, zA, zB, zC, zD, zE, zF])
         refine NW.done ?_
         go_wp2_with fail
         exact ⟨⟨j + 1, hjl, by go_num, fun k' t' hk' ht' => by
          rcases Nat.lt_or_ge k' j with h | h
          ·exact HHE.out k' t' h ht'
          ·obtain rfl : k' = j := by omega
           rw [HGT.out] at ht'
           cases ht'
           rw [HHN.out]
           have := HGT2.out; omega, HB.out.trans (hbf2.mono HB.out.size)⟩, by simp [intOf]; omega⟩
       ·obtain rfl : j = s.takers.length := by omega
        have HHELD : Hid (heldB s = true) := heldB_iff.2 fun k t ht => HHE.out k t (List.getElem?_eq_some_iff.1 ht).1 ht
        have HRANGE : Hid ((limitB p s && heldB s) = true) := (by rw [HLIMIT.out, HHELD.out]; rfl : (limitB p s && heldB s) = true)
        clear hB hsat
        have hak := HFORM.out.acked
        have hdk := HFORM.out.dropped
        unfold countB at hak hdk
        simp only [Bool.and_eq_true, decide_eq_true_eq] at hak hdk
        have HALL := Lib.hid (lyK_all s)
        have hw2 : wrap64 ((s.outs.length : Int) + (lyK s s.ready.length : Int) + s.acked) = (s.outs.length : Int) + (lyK s s.ready.length : Int) + s.acked := w64 (by omega) (by omega)
        have hw3 : wrap64 ((s.outs.length : Int) + (lyK s s.ready.length : Int) + s.acked + s.dropped) = (s.outs.length : Int) + (lyK s s.ready.length : Int) + s.acked + s.dropped := w64 (by omega) (by omega)
        have HSUM : Hid (∀ b1 b2 : Bool, (s.came != (s.outs.length : Int) + (lyK s s.ready.length : Int) + s.acked + s.dropped) = b1 → (s.came != s.nextSeq) = b2 → sumB s = (!b1 && !b2)) := fun b1 b2 h1 h2 => by
         subst h1 h2
         unfold sumB
         rw [HALL.out, Bool.eq_iff_iff]
         simp only [Bool.and_eq_true, decide_eq_true_eq, Bool.not_eq_true', bne_eq_false_iff_eq]
         constructor
         ·rintro ⟨h1, h2⟩; exact ⟨by omega, h2⟩
         ·rintro ⟨h1, h2⟩; exact ⟨by omega, h2⟩
        clear hak hdk
        cases hc1 : (s.came != (s.outs.length : Int) + (lyK s s.ready.length : Int) + s.acked + s.dropped)
        ·cases hc2 : (s.came != s.nextSeq)
         ·have HR := Lib.hid (stateErr_ok HP0.out HM.out HFORM.out HRANGE.out ((HSUM.out _ _ hc1 hc2).trans rfl))
          go_wp2_with fail
          go_ret
          exact ⟨by rw [HR.out]; rfl, (HBX.out _ HB.out).below⟩
         ·have HR := Lib.hid (stateErr_sum HP0.out HM.out HFORM.out HRANGE.out ((HSUM.out _ _ hc1 hc2).trans rfl))
          go_wp2_with fail
          go_ret
          exact ⟨by rw [HR.out]; rfl, (HBX.out _ HB.out).below⟩
        ·have HR := Lib.hid (stateErr_sum HP0.out HM.out HFORM.out HRANGE.out ((HSUM.out _ _ hc1 rfl).trans (by simp)))
         go_wp2_with fail
         go_ret
         exact ⟨by rw [HR.out]; rfl, (HBX.out _ HB.out).below⟩
  ·have HR := Lib.hid (stateErr_many (s := s) HP0.out (by omega))
   have hmb : decide ((4 : Int) < (s.takers.length : Int)) = true := by simp; omega
   go_wp2_with fail
   go_ret
   exact ⟨by rw [HR.out]; rfl, (HBX.out _ HB1.out).below⟩
 ·have HR := Lib.hid (stateErr_plan (s := s) h0)
  have h0b : (checkP p == 0) = false := by simp [h0]
  clear h0
  go_wp2_with fail
  go_ret
  exact ⟨by rw [HR.out]; rfl, (HBX.out _ HB1.out).below⟩
open Go.RowKit
set_option maxRecDepth 100000
def outEq (x y : OutD) : Bool := x.tag == y.tag && (x.taker == y.taker && (x.queue == y.queue && itemEq x.item y.item))
theorem outEq_iff {x y : OutD} : outEq x y = true ↔ x = y := by
 obtain ⟨a, b, c, d⟩ := x
 obtain ⟨a', b', c', d'⟩ := y
 simp only [outEq, Bool.and_eq_true, beq_iff_eq, OutD.mk.injEq, itemEq_iff]
def takerEq (x y : TakerD) : Bool := x.queue == y.queue && x.atOnce == y.atOnce
theorem takerEq_iff {x y : TakerD} : takerEq x y = true ↔ x = y := by
 obtain ⟨a, b⟩ := x
 obtain ⟨a', b'⟩ := y
 simp only [takerEq, Bool.and_eq_true, beq_iff_eq, TakerD.mk.injEq]
theorem eqTaker (x y : TakerD) (w : World) : (Op.equalIn 10000 79 (.agg #[.int .i64 x.queue, .int .i64 x.atOnce]) (.agg #[.int .i64 y.queue, .int .i64 y.atOnce])).run Tryz.prog w = .ok (takerEq x y) w := by
 have u1 := Tryz.underlying3
 have a1 := Tryz.isAgg3
 have z1 := Tryz.sizeOf3
 have hS : Tryz.prog.underlying 79 = some (.struct (Tryz.prog.fieldsOf 79)) := by kernel_rfl
 have hH : Tryz.prog.stoodInHeld 79 = false := by kernel_rfl
 rw [show (10000 : Nat) = 9999 + 1 from rfl, run_equalIn_agg w 9999 79 _ _ hS hH]
 simp only [Program.fieldsOf, Tryz.underlying79]
 unfold takerEq
 go_simp
 by_cases h1 : x.queue = y.queue <;> by_cases h2 : x.atOnce = y.atOnce <;> simp [h1, h2]
@[go_sem ↓] theorem neqTaker (x y : TakerD) (w : World) : (binOp .neq 79 (.agg #[.int .i64 x.queue, .int .i64 x.atOnce]) (.agg #[.int .i64 y.queue, .int .i64 y.atOnce])).run Tryz.prog w = .ok (.bool (!takerEq x y)) w := by
 rw [run_neq_struct, eqTaker]; rfl
theorem eqItemN (x y : ItemD) (w : World) : (Op.equalIn 9999 52 (.agg #[.int .i64 x.seq, .string x.key, .string x.body, .bool x.again, .int .i64 x.deaths]) (.agg #[.int .i64 y.seq, .string y.key, .string y.body, .bool y.again, .int .i64 y.deaths])).run Tryz.prog w = .ok (itemEq x y) w := by
 have u1 := Tryz.underlying3
 have a1 := Tryz.isAgg3
 have z1 := Tryz.sizeOf3
 have u2 := Tryz.underlying9
 have a2 := Tryz.isAgg9
 have z2 := Tryz.sizeOf9
 have u3 := Tryz.underlying4
 have a3 := Tryz.isAgg4
 have z3 := Tryz.sizeOf4
 have hS : Tryz.prog.underlying 52 = some (.struct (Tryz.prog.fieldsOf 52)) := by kernel_rfl
 have hH : Tryz.prog.stoodInHeld 52 = false := by kernel_rfl
 rw [show (9999 : Nat) = 9998 + 1 from rfl, run_equalIn_agg w 9998 52 _ _ hS hH]
 simp only [Program.fieldsOf, Tryz.underlying52]
 unfold itemEq
 go_simp
 by_cases h1 : x.seq = y.seq <;> by_cases h2 : x.key.toList = y.key.toList <;> by_cases h3 : x.body.toList = y.body.toList <;> by_cases h4 : x.again = y.again <;> by_cases h5 : x.deaths = y.deaths <;> simp [h1, h2, h3, h4, h5]
theorem eqOut (x y : OutD) (w : World) : (Op.equalIn 10000 77 (.agg #[.int .i64 x.tag, .int .i64 x.taker, .int .i64 x.queue, .int .i64 x.item.seq, .string x.item.key, .string x.item.body, .bool x.item.again, .int .i64 x.item.deaths]) (.agg #[.int .i64 y.tag, .int .i64 y.taker, .int .i64 y.queue, .int .i64 y.item.seq, .string y.item.key, .string y.item.body, .bool y.item.again, .int .i64 y.item.deaths])).run Tryz.prog w = .ok (outEq x y) w := by
 have u1 := Tryz.underlying3
 have a1 := Tryz.isAgg3
 have z1 := Tryz.sizeOf3
 have a4 := Tryz.isAgg52
 have z4 := Tryz.sizeOf52
 have hS : Tryz.prog.underlying 77 = some (.struct (Tryz.prog.fieldsOf 77)) := by kernel_rfl
 have hH : Tryz.prog.stoodInHeld 77 = false := by kernel_rfl
 have hI := eqItemN x.item y.item
 rw [show (10000 : Nat) = 9999 + 1 from rfl, run_equalIn_agg w 9999 77 _ _ hS hH]
 simp only [Program.fieldsOf, Tryz.underlying77]
 unfold outEq
 go_simp
 by_cases h1 : x.tag = y.tag <;> by_cases h2 : x.taker = y.taker <;> by_cases h3 : x.queue = y.queue <;> simp [h1, h2, h3, hI] <;> cases itemEq x.item y.item <;> rfl
@[go_sem ↓] theorem neqOut (x y : OutD) (w : World) : (binOp .neq 77 (.agg #[.int .i64 x.tag, .int .i64 x.taker, .int .i64 x.queue, .int .i64 x.item.seq, .string x.item.key, .string x.item.body, .bool x.item.again, .int .i64 x.item.deaths]) (.agg #[.int .i64 y.tag, .int .i64 y.taker, .int .i64 y.queue, .int .i64 y.item.seq, .string y.item.key, .string y.item.body, .bool y.item.again, .int .i64 y.item.deaths])).run Tryz.prog w = .ok (.bool (!outEq x y)) w := by
 rw [run_neq_struct, eqOut]; rfl
end Go.Proofs.YtaanpcjkflhomaaGreatDoor
namespace Go.Proofs.YtaanpcjkflhomaaGreatDoor
open Go.RowKit
set_option maxRecDepth 100000
def listEq {α : Type} (eq : α → α → Bool) : List α → List α → Bool
 | [], [] => true
 | x :: xs, y :: ys => eq x y && listEq eq xs ys
 | _, _ => false
theorem listEq_iff {α : Type} {eq : α → α → Bool} (h : ∀ x y, eq x y = true ↔ x = y) : ∀ {l m : List α}, listEq eq l m = true ↔ l = m
 | [], [] => by simp [listEq]
 | [], y :: ys => by simp [listEq]
 | x :: xs, [] => by simp [listEq]
 | x :: xs, y :: ys => by
  simp only [listEq, Bool.and_eq_true, List.cons.injEq, h, listEq_iff h]
def stateEq (s t : StateD) : Bool := listEq itemsEq s.ready t.ready && (listEq outEq s.outs t.outs && (listEq takerEq s.takers t.takers && (s.nextSeq == t.nextSeq && (s.nextTag == t.nextTag && (s.came == t.came && (s.acked == t.acked && s.dropped == t.dropped))))))
theorem stateEq_iff {s t : StateD} : stateEq s t = true ↔ s = t := by
 obtain ⟨a, b, c, d, e, f, g, h⟩ := s
 obtain ⟨a', b', c', d', e', f', g', h'⟩ := t
 simp only [stateEq, Bool.and_eq_true, beq_iff_eq, StateD.mk.injEq, listEq_iff (fun x y => itemsEq_iff), listEq_iff (fun x y => outEq_iff), listEq_iff (fun x y => takerEq_iff)]
theorem stateEq_refl (s : StateD) : stateEq s s = true := stateEq_iff.2 rfl
theorem stateEq_ne {s t : StateD} (h : s ≠ t) : stateEq s t = false := by rw [← Bool.not_eq_true, stateEq_iff]; exact h
structure SSIn (w : World) (s t : StateD) (a1 a2 a3 b1 b2 b3 : Option Addr) (c1 c2 c3 d1 d2 d3 : Nat) (rows rowt : List RowD) (W : World) : Prop where
 one : W.cell? ⟨w.heap.size, 0, none⟩ = some (.slice a1 s.ready.length c1) ∧ W.cell? ⟨w.heap.size, 1, none⟩ = some (.slice a2 s.outs.length c2) ∧ W.cell? ⟨w.heap.size, 2, none⟩ = some (.slice a3 s.takers.length c3) ∧ W.cell? ⟨w.heap.size, 3, none⟩ = some (.int .i64 s.nextSeq) ∧ W.cell? ⟨w.heap.size, 4, none⟩ = some (.int .i64 s.nextTag) ∧ W.cell? ⟨w.heap.size, 5, none⟩ = some (.int .i64 s.came) ∧ W.cell? ⟨w.heap.size, 6, none⟩ = some (.int .i64 s.acked) ∧ W.cell? ⟨w.heap.size, 7, none⟩ = some (.int .i64 s.dropped)
 two : W.cell? ⟨w.heap.size + 1, 0, none⟩ = some (.slice b1 t.ready.length d1) ∧ W.cell? ⟨w.heap.size + 1, 1, none⟩ = some (.slice b2 t.outs.length d2) ∧ W.cell? ⟨w.heap.size + 1, 2, none⟩ = some (.slice b3 t.takers.length d3) ∧ W.cell? ⟨w.heap.size + 1, 3, none⟩ = some (.int .i64 t.nextSeq) ∧ W.cell? ⟨w.heap.size + 1, 4, none⟩ = some (.int .i64 t.nextTag) ∧ W.cell? ⟨w.heap.size + 1, 5, none⟩ = some (.int .i64 t.came) ∧ W.cell? ⟨w.heap.size + 1, 6, none⟩ = some (.int .i64 t.acked) ∧ W.cell? ⟨w.heap.size + 1, 7, none⟩ = some (.int .i64 t.dropped)
 below : Below w.heap.size w W
 oneAt : StateAt W 0 W.heap.size a1 a2 a3 rows s
 twoAt : StateAt W 0 W.heap.size b1 b2 b3 rowt t
theorem two_states {w : World} {s t : StateD} {a1 a2 a3 b1 b2 b3 : Option Addr} {rows rowt : List RowD} (c1 c2 c3 d1 d2 d3 : Nat) (hs : StateAt w 0 w.heap.size a1 a2 a3 rows s) (ht : StateAt w 0 w.heap.size b1 b2 b3 rowt t) (t1 t2 : TypeId) (W : World)
  (hW : Below ((w.alloc (.cells (vState s a1 a2 a3 c1 c2 c3) t1)).alloc (.cells (vState t b1 b2 b3 d1 d2 d3) t2)).heap.size ((w.alloc (.cells (vState s a1 a2 a3 c1 c2 c3) t1)).alloc (.cells (vState t b1 b2 b3 d1 d2 d3) t2)) W) :
  SSIn w s t a1 a2 a3 b1 b2 b3 c1 c2 c3 d1 d2 d3 rows rowt W := by
 generalize hA : w.alloc (.cells (vState s a1 a2 a3 c1 c2 c3) t1) = wA at hW
 have hsA : wA.heap.size = w.heap.size + 1 := by rw [← hA]; simp
 have kA : Bk wA w.heap.size t1 (vState s a1 a2 a3 c1 c2 c3) := by rw [← hA]; exact Bk.new _ _ _
 have bA : Below w.heap.size w wA := by rw [← hA]; exact (Below.refl _ _).alloc (Nat.le_refl _) _
 have kB := Bk.new wA t2 (vState t b1 b2 b3 d1 d2 d3)
 have bB : Below wA.heap.size wA (wA.alloc (.cells (vState t b1 b2 b3 d1 d2 d3) t2)) := (Below.refl _ _).alloc (Nat.le_refl _) _
 have hsB : (wA.alloc (.cells (vState t b1 b2 b3 d1 d2 d3) t2)).heap.size = wA.heap.size + 1 := by simp
 have bW := bB.trans (hW.mono bB.size)
 have k1 := kA.below bW (by omega)
 have k2 := kB.below hW (by omega)
 rw [hsA] at k2
 have bw : Below w.heap.size w W := bA.trans (bW.mono (by omega))
 exact ⟨⟨k1.cell 0, k1.cell 1, k1.cell 2, k1.cell 3, k1.cell 4, k1.cell 5, k1.cell 6, k1.cell 7⟩, ⟨k2.cell 0, k2.cell 1, k2.cell 2, k2.cell 3, k2.cell 4, k2.cell 5, k2.cell 6, k2.cell 7⟩, bw, (hs.below bw (Nat.le_refl _)).wider (Nat.le_refl _) bw.size, (ht.below bw (Nat.le_refl _)).wider (Nat.le_refl _) bw.size⟩
theorem take_next {α : Type} {l m : List α} {k : Nat} (h1 : k < l.length) (h2 : k < m.length) (h : l.take k = m.take k) (he : l[k] = m[k]) : l.take (k + 1) = m.take (k + 1) := by
 rw [List.take_succ_eq_append_getElem h1, List.take_succ_eq_append_getElem h2, h, he]
theorem take_whole {α : Type} {l m : List α} (hl : l.length = m.length) (h : l.take l.length = m.take l.length) : l = m := by
 rw [List.take_length] at h
 rw [h, hl, List.take_length]
theorem len_of {n m : Nat} (h : ((n : Int) != (m : Int)) = false) : n = m := by
 have h : (n : Int) = (m : Int) := by simpa using h
 omega
def SSRel {α : Type} (l m : List α) (W0 : World) (i : Value) (wr : World) : Prop :=
 ∃ k : Nat, k ≤ l.length ∧ i = .int .i64 k ∧ l.take k = m.take k ∧ Below W0.heap.size W0 wr
set_option maxHeartbeats 20000000 in
theorem SameStates_any (s t : StateD) (a1 a2 a3 b1 b2 b3 : Option Addr) (c1 c2 c3 d1 d2 d3 : Nat) (rows rowt : List RowD) (w : World) (hs : StateAt w 0 w.heap.size a1 a2 a3 rows s) (hss : StateSmall s) (ht : StateAt w 0 w.heap.size b1 b2 b3 rowt t) (hts : StateSmall t) :
  Calls Tryz.prog 20 #[stateV s a1 a2 a3 c1 c2 c3, stateV t b1 b2 b3 d1 d2 d3] w fun e w' => e = .returned (.bool (stateEq s t)) ∧ Below w.heap.size w w' := by
 have hbx := two_states c1 c2 c3 d1 d2 d3 hs ht 31 31
 unfold vState at hbx
 unfold stateV vState
 have HBX := Lib.hid hbx
 have HSS := Lib.hid hss
 have HTS := Lib.hid hts
 have hl1 := hss.ready; have hl2 := hss.outs; have hl3 := hss.takers
 have hl4 := hts.ready; have hl5 := hts.outs; have hl6 := hts.takers
 clear hbx hs ht hss hts
 go_enter Tryz.func20, Tryz.ntmps20
 obtain ⟨⟨m0, m1, m2, m3, m4, m5, m6, m7⟩, ⟨n0, n1, n2, n3, n4, n5, n6, n7⟩, _, _, _⟩ := HBX.out _ (Below.refl _ _)
 cases g0 : ((s.ready.length : Int) != (t.ready.length : Int))
 ·cases g1 : ((s.outs.length : Int) != (t.outs.length : Int))
  ·cases g2 : ((s.takers.length : Int) != (t.takers.length : Int))
   ·cases g3 : (s.nextSeq != t.nextSeq)
    ·cases g4 : (s.nextTag != t.nextTag)
     ·cases g5 : (s.came != t.came)
      ·cases g6 : (s.acked != t.acked)
       ·cases g7 : (s.dropped != t.dropped)
        ·have HG := Lib.hid (And.intro (len_of g0) (And.intro (len_of g1) (And.intro (len_of g2) (And.intro (show s.nextSeq = t.nextSeq by simpa using g3) (And.intro (show s.nextTag = t.nextTag by simpa using g4) (And.intro (show s.came = t.came by simpa using g5) (And.intro (show s.acked = t.acked by simpa using g6) (show s.dropped = t.dropped by simpa using g7))))))))
         go_wp2_with fail
         clear m0 m1 m2 m3 m4 m5 m6 m7 n0 n1 n2 n3 n4 n5 n6 n7 g0 g1 g2 g3 g4 g5 g6 g7
         generalize ((w.alloc (.cells #[Value.slice a1 s.ready.length c1, Value.slice a2 s.outs.length c2, Value.slice a3 s.takers.length c3, Value.int IntKind.i64 s.nextSeq, Value.int IntKind.i64 s.nextTag, Value.int IntKind.i64 s.came, Value.int IntKind.i64 s.acked, Value.int IntKind.i64 s.dropped] 31)).alloc (.cells #[Value.slice b1 t.ready.length d1, Value.slice b2 t.outs.length d2, Value.slice b3 t.takers.length d3, Value.int IntKind.i64 t.nextSeq, Value.int IntKind.i64 t.nextTag, Value.int IntKind.i64 t.came, Value.int IntKind.i64 t.acked, Value.int IntKind.i64 t.dropped] 31)) = W0 at *
         go_loopw [5] (fun i wr => SSRel s.ready t.ready W0 i wr) (fun i _ => s.ready.length - (intOf i).toNat)
         case atStart => exact ⟨0, by omega, rfl, rfl, Below.refl _ _⟩
         case round =>
          obtain ⟨k, hk, rfl, hq, hB⟩ := hrel
          have HQ := Lib.hid hq
          have HB := Lib.hid hB
          clear hq
          obtain ⟨⟨m0, _, _, _, _, _, _, _⟩, ⟨n0, _, _, _, _, _, _, _⟩, _, hsat, htat⟩ := HBX.out _ hB
          by_cases hlt : k < s.ready.length
          ·have hlt2 : k < t.ready.length := by have := HG.out.1; omega
           have hltr : k < rows.length := by have h := congrArg List.length hsat.same; rw [List.length_map] at h; omega
           have hltt : k < rowt.length := by have h := congrArg List.length htat.same; rw [List.length_map] at h; omega
           obtain ⟨b, o, ha, _, hb, hc⟩ := sl_elem vRow_len (by decide) hsat.ready hltr
           obtain ⟨b', o', ha', _, hb', hc'⟩ := sl_elem vRow_len (by decide) htat.ready hltt
           have e0 : wr.cell? ⟨b, o + k, none⟩ = some (.slice rows[k].at_ rows[k].items.length rows[k].cap) := by have := hc 0 _ rfl; simpa using this
           have f0 : wr.cell? ⟨b', o' + k, none⟩ = some (.slice rowt[k].at_ rowt[k].items.length rowt[k].cap) := by have := hc' 0 _ rfl; simpa using this
           have hit : s.ready[k] = rows[k].items := by simp [← hsat.same]
           have hit' : t.ready[k] = rowt[k].items := by simp [← htat.same]
           have HIT := Lib.hid hit; have HIT' := Lib.hid hit'
           have HR1 := Lib.hid (hsat.row _ (List.getElem_mem hltr)).1
           have HR2 := Lib.hid (htat.row _ (List.getElem_mem hltt)).1
           have hn1 := (HSS.out.row _ (List.getElem_mem hlt)).len
           have hn2 := (HTS.out.row _ (List.getElem_mem hlt2)).len
           rw [hit] at hn1
           rw [hit'] at hn2
           clear hc hc' hit hit' hsat htat hB
           generalize rows[k] = r at *
           obtain ⟨ra, rc, ri⟩ := r
           generalize rowt[k] = r2 at *
           obtain ⟨ta, tc, ti⟩ := r2
           dsimp only at e0 f0 HIT HIT' HR1 HR2 hn1 hn2
           subst ha ha'
           have HK : Hid (∀ W, Below wr.heap.size wr W → (W.cell? ⟨w.heap.size, 0, none⟩ = some (.slice (some ⟨b, o, none⟩) s.ready.length c1) ∧ W.cell? ⟨w.heap.size + 1, 0, none⟩ = some (.slice (some ⟨b', o', none⟩) t.ready.length d1) ∧ W.cell? ⟨b, o + k, none⟩ = some (.slice ra ri.length rc) ∧ W.cell? ⟨b', o' + k, none⟩ = some (.slice ta ti.length tc)) ∧ Below wr.heap.size wr W) := fun W hW => by
            have h := HBX.out W (HB.out.trans (hW.mono HB.out.size))
            exact ⟨⟨h.one.1, h.two.1, (hW.cell (p := ⟨b, _, none⟩) hb).trans e0, (hW.cell (p := ⟨b', _, none⟩) hb').trans f0⟩, hW⟩
           obtain ⟨q, hq⟩ : ∃ q, itemsEq ri ti = q := ⟨_, rfl⟩
           have HCALL : Hid (∀ W, (∃ C : Prop, C ∧ Below wr.heap.size wr W) → Calls Tryz.prog 33 #[.slice ra ri.length rc, .slice ta ti.length tc] W fun e w' => e = .returned (.bool q) ∧ Below W.heap.size W w') := fun W ⟨_, hW⟩ => by
            have := SameItems_any ra ta rc tc ri ti W 0 ((HR1.out.below hW.2 (Nat.le_refl _)).wider (Nat.le_refl _) hW.2.size) ((HR2.out.below hW.2 (Nat.le_refl _)).wider (Nat.le_refl _) hW.2.size) (by omega) (by omega)
            rw [hq] at this
            exact this
           have HQQ := Lib.hid hq
           clear hq
           go_upto_region 6 with fail
           clear m0 n0 e0 f0
           cases q
           ·have HNE := Lib.hid (stateEq_ne (s := s) (t := t) (fun e => by
             have h1 := HIT.out; have h2 := HIT'.out
             subst e
             have h3 := HQQ.out
             rw [← h1, ← h2, itemsEq_refl] at h3
             cases h3))
            refine nw_lay [(0, false), (1, false), (2, false), (3, false), (4, false), (5, false), (6, false), (7, false), (8, false), (9, false), (10, true), (11, false)] (by kernel_rfl) (fun hOrd => ?_)
            refine nw_go (S := (fun W => (W.cell? ⟨w.heap.size, 0, none⟩ = some (.slice (some ⟨b, o, none⟩) s.ready.length c1) ∧ W.cell? ⟨w.heap.size + 1, 0, none⟩ = some (.slice (some ⟨b', o', none⟩) t.ready.length d1) ∧ W.cell? ⟨b, o + k, none⟩ = some (.slice ra ri.length rc) ∧ W.cell? ⟨b', o' + k, none⟩ = some (.slice ta ti.length tc)) ∧ Below wr.heap.size wr W)) hOrd (by kernel_rfl) (by first | assumption | exact HK.out _ (Below.refl _ _).drew | exact HK.out _ (kb_alloc (by assumption) _) | exact HK.out _ (by assumption)) (fun hHeld => ?_)
            clear hOrd
            iterate 12 ((first | (refine NW.take (v := ?_) rfl (fun _ _ _ h => h) (Or.inl ⟨by rfl, ?_⟩) ?_; rotate_left; focus (intro w hSw; (try dsimp only at hSw); go_simp; (all_goals with_reducible rfl); done)) | (refine NW.leave rfl (fun _ _ _ h => h) (by rfl) (by assumption) ?_) | (refine NW.call rfl (fun K hK => ?_); go_simp; ((go_at_call 33; have hfn := HCALL.out _ ⟨_, by assumption⟩; with_reducible refine hfn.mono ?_; clear hfn; rintro e wf ⟨rfl, hbf⟩; have hbf2 := since_stepC (by assumption) hbf; clear hbf)); refine hK.out _ _ (by first | assumption | exact HK.out _ (Below.refl _ _).drew | exact HK.out _ (kb_alloc (by assumption) _) | exact HK.out _ (by assumption)) (fun hHeld => ?_); clear hK K)); try simp only [Act.put, zA, zB, zC, zD, zE, zF])
            refine NW.done ?_
            go_wp2_with fail
            go_ret
            exact ⟨by rw [HNE.out]; rfl, (HBX.out _ (HB.out.trans (hbf2.mono HB.out.size))).below⟩
           ·have HNEXT : Hid (s.ready.take (k + 1) = t.ready.take (k + 1)) := take_next hlt hlt2 HQ.out (by rw [HIT.out, HIT'.out]; exact itemsEq_iff.1 HQQ.out)
            refine nw_lay [(0, false), (1, false), (2, false), (3, false), (4, false), (5, false), (6, false), (7, false), (8, false), (9, false), (10, true), (11, false)] (by kernel_rfl) (fun hOrd => ?_)
            refine nw_go (S := (fun W => (W.cell? ⟨w.heap.size, 0, none⟩ = some (.slice (some ⟨b, o, none⟩) s.ready.length c1) ∧ W.cell? ⟨w.heap.size + 1, 0, none⟩ = some (.slice (some ⟨b', o', none⟩) t.ready.length d1) ∧ W.cell? ⟨b, o + k, none⟩ = some (.slice ra ri.length rc) ∧ W.cell? ⟨b', o' + k, none⟩ = some (.slice ta ti.length tc)) ∧ Below wr.heap.size wr W)) hOrd (by kernel_rfl) (by first | assumption | exact HK.out _ (Below.refl _ _).drew | exact HK.out _ (kb_alloc (by assumption) _) | exact HK.out _ (by assumption)) (fun hHeld => ?_)
            clear hOrd
            iterate 12 ((first | (refine NW.take (v := ?_) rfl (fun _ _ _ h => h) (Or.inl ⟨by rfl, ?_⟩) ?_; rotate_left; focus (intro w hSw; (try dsimp only at hSw); go_simp; (all_goals with_reducible rfl); done)) | (refine NW.leave rfl (fun _ _ _ h => h) (by rfl) (by assumption) ?_) | (refine NW.call rfl (fun K hK => ?_); go_simp; ((go_at_call 33; have hfn := HCALL.out _ ⟨_, by assumption⟩; with_reducible refine hfn.mono ?_; clear hfn; rintro e wf ⟨rfl, hbf⟩; have hbf2 := since_stepC (by assumption) hbf; clear hbf)); refine hK.out _ _ (by first | assumption | exact HK.out _ (Below.refl _ _).drew | exact HK.out _ (kb_alloc (by assumption) _) | exact HK.out _ (by assumption)) (fun hHeld => ?_); clear hK K)); try simp only [Act.put, zA, zB, zC, zD, zE, zF])
            refine NW.done ?_
            go_wp2_with fail
            exact ⟨⟨k + 1, hlt, by go_num, HNEXT.out, HB.out.trans (hbf2.mono HB.out.size)⟩, by simp [intOf]; omega⟩
          ·obtain rfl : k = s.ready.length := by omega
           have HREADY : Hid (s.ready = t.ready) := take_whole HG.out.1 HQ.out
           clear hsat htat hB
           go_wp2_with fail
           clear m0 n0
           go_loopw [6] (fun i wr => SSRel s.outs t.outs W0 i wr) (fun i _ => s.outs.length - (intOf i).toNat)
           case atStart => exact ⟨0, by omega, rfl, rfl, HB.out⟩
           case round =>
            clear HQ HB
            obtain ⟨k, hk, rfl, hq, hB⟩ := hrel
            have HQ := Lib.hid hq
            have HB := Lib.hid hB
            clear hq
            obtain ⟨⟨_, m1, _, _, _, _, _, _⟩, ⟨_, n1, _, _, _, _, _, _⟩, _, hsat, htat⟩ := HBX.out _ hB
            by_cases hlt : k < s.outs.length
            ·have hlt2 : k < t.outs.length := by have := HG.out.2.1; omega
             obtain ⟨b, o, ha, _, hb, hc⟩ := sl_elem vOut_len (by decide) hsat.outs hlt
             obtain ⟨b', o', ha', _, hb', hc'⟩ := sl_elem vOut_len (by decide) htat.outs hlt2
             obtain ⟨e0, e1, e2, e3, e4, e5, e6, e7⟩ := out_cells (wr := wr) (b := b) (o := o) (k := k) (x := s.outs[k]) fun q u hu => hc q u hu
             obtain ⟨f0, f1, f2, f3, f4, f5, f6, f7⟩ := out_cells (wr := wr) (b := b') (o := o') (k := k) (x := t.outs[k]) fun q u hu => hc' q u hu
             have HX : Hid (∀ h1 h2, (s.outs[k]'h1) = s.outs[k] ∧ (t.outs[k]'h2) = t.outs[k]) := fun _ _ => ⟨rfl, rfl⟩
             clear hc hc' hsat htat hB
             generalize hx : s.outs[k] = x at *
             generalize hy : t.outs[k] = y at *
             have HXY := Lib.hid (And.intro hx hy)
             clear hx hy HX
             subst ha ha'
             cases hq : outEq x y
             ·have HNE := Lib.hid (stateEq_ne (s := s) (t := t) (fun e => by
               have h1 := HXY.out
               subst e
               have h2 := h1.1.symm.trans h1.2
               subst h2
               rw [outEq_iff.2 rfl] at hq
               cases hq))
              go_wp2
              go_quiet (fail)
              all_goals go_wp2
              all_goals go_ret
              all_goals exact ⟨by rw [HNE.out]; rfl, (HBX.out _ (below_draws HB.out _)).below⟩
             ·have HNEXT : Hid (s.outs.take (k + 1) = t.outs.take (k + 1)) := take_next hlt hlt2 HQ.out (by rw [HXY.out.1, HXY.out.2]; exact outEq_iff.1 hq)
              go_wp2
              go_quiet (fail)
              all_goals go_wp2
              all_goals exact ⟨⟨k + 1, hlt, by go_num, HNEXT.out, below_draws HB.out _⟩, by simp [intOf]; omega⟩
            ·obtain rfl : k = s.outs.length := by omega
             have HOUTS : Hid (s.outs = t.outs) := take_whole HG.out.2.1 HQ.out
             clear hsat htat hB
             go_wp2_with fail
             clear m1 n1
             go_loopw [7] (fun i wr => SSRel s.takers t.takers W0 i wr) (fun i _ => s.takers.length - (intOf i).toNat)
             case atStart => exact ⟨0, by omega, rfl, rfl, HB.out⟩
             case round =>
              clear HQ HB
              obtain ⟨k, hk, rfl, hq, hB⟩ := hrel
              have HQ := Lib.hid hq
              have HB := Lib.hid hB
              clear hq
              obtain ⟨⟨_, _, m2, _, _, _, _, _⟩, ⟨_, _, n2, _, _, _, _, _⟩, _, hsat, htat⟩ := HBX.out _ hB
              by_cases hlt : k < s.takers.length
              ·have hlt2 : k < t.takers.length := by have := HG.out.2.2.1; omega
               obtain ⟨b, o, ha, _, hb, hc⟩ := sl_elem vTaker_len (by decide) hsat.takers hlt
               obtain ⟨b', o', ha', _, hb', hc'⟩ := sl_elem vTaker_len (by decide) htat.takers hlt2
               obtain ⟨e0, e1⟩ := taker_cells (wr := wr) (b := b) (o := o) (k := k) (x := s.takers[k]) fun q u hu => hc q u hu
               obtain ⟨f0, f1⟩ := taker_cells (wr := wr) (b := b') (o := o') (k := k) (x := t.takers[k]) fun q u hu => hc' q u hu
               clear hc hc' hsat htat hB
               generalize hx : s.takers[k] = x at *
               generalize hy : t.takers[k] = y at *
               have HXY := Lib.hid (And.intro hx hy)
               clear hx hy
               subst ha ha'
               cases hq : takerEq x y
               ·have HNE := Lib.hid (stateEq_ne (s := s) (t := t) (fun e => by
                 have h1 := HXY.out
                 subst e
                 have h2 := h1.1.symm.trans h1.2
                 subst h2
                 rw [takerEq_iff.2 rfl] at hq
                 cases hq))
                go_wp2
                go_quiet (fail)
                all_goals go_wp2
                all_goals go_ret
                all_goals exact ⟨by rw [HNE.out]; rfl, (HBX.out _ (below_draws HB.out _)).below⟩
               ·have HNEXT : Hid (s.takers.take (k + 1) = t.takers.take (k + 1)) := take_next hlt hlt2 HQ.out (by rw [HXY.out.1, HXY.out.2]; exact takerEq_iff.1 hq)
                go_wp2
                go_quiet (fail)
                all_goals go_wp2
                all_goals exact ⟨⟨k + 1, hlt, by go_num, HNEXT.out, below_draws HB.out _⟩, by simp [intOf]; omega⟩
              ·obtain rfl : k = s.takers.length := by omega
               have HEQ : Hid (stateEq s t = true) := stateEq_iff.2 (by
                have ht := take_whole HG.out.2.2.1 HQ.out
                have h1 := HREADY.out; have h2 := HOUTS.out
                obtain ⟨_, _, _, h3, h4, h5, h6, h7⟩ := HG.out
                cases s; cases t
                simp_all)
               clear hsat htat hB
               go_wp2_with fail
               go_ret
               exact ⟨by rw [HEQ.out]; rfl, (HBX.out _ HB.out).below⟩
        ·have HNE := Lib.hid (stateEq_ne (s := s) (t := t) (fun e => by subst e; simp at g7))
         have HB0 := Lib.hid (HBX.out _ (Below.refl _ _)).below
         clear HBX HSS HTS
         go_wp2_with fail
         go_ret
         exact ⟨by rw [HNE.out]; rfl, HB0.out⟩
       ·have HNE := Lib.hid (stateEq_ne (s := s) (t := t) (fun e => by subst e; simp at g6))
        have HB0 := Lib.hid (HBX.out _ (Below.refl _ _)).below
        clear HBX HSS HTS
        go_wp2_with fail
        go_ret
        exact ⟨by rw [HNE.out]; rfl, HB0.out⟩
      ·have HNE := Lib.hid (stateEq_ne (s := s) (t := t) (fun e => by subst e; simp at g5))
       have HB0 := Lib.hid (HBX.out _ (Below.refl _ _)).below
       clear HBX HSS HTS
       go_wp2_with fail
       go_ret
       exact ⟨by rw [HNE.out]; rfl, HB0.out⟩
     ·have HNE := Lib.hid (stateEq_ne (s := s) (t := t) (fun e => by subst e; simp at g4))
      have HB0 := Lib.hid (HBX.out _ (Below.refl _ _)).below
      clear HBX HSS HTS
      go_wp2_with fail
      go_ret
      exact ⟨by rw [HNE.out]; rfl, HB0.out⟩
    ·have HNE := Lib.hid (stateEq_ne (s := s) (t := t) (fun e => by subst e; simp at g3))
     have HB0 := Lib.hid (HBX.out _ (Below.refl _ _)).below
     clear HBX HSS HTS
     go_wp2_with fail
     go_ret
     exact ⟨by rw [HNE.out]; rfl, HB0.out⟩
   ·have HNE := Lib.hid (stateEq_ne (s := s) (t := t) (fun e => by subst e; simp at g2))
    have HB0 := Lib.hid (HBX.out _ (Below.refl _ _)).below
    clear HBX HSS HTS
    go_wp2_with fail
    go_ret
    exact ⟨by rw [HNE.out]; rfl, HB0.out⟩
  ·have HNE := Lib.hid (stateEq_ne (s := s) (t := t) (fun e => by subst e; simp at g1))
   have HB0 := Lib.hid (HBX.out _ (Below.refl _ _)).below
   clear HBX HSS HTS
   go_wp2_with fail
   go_ret
   exact ⟨by rw [HNE.out]; rfl, HB0.out⟩
 ·have HNE := Lib.hid (stateEq_ne (s := s) (t := t) (fun e => by subst e; simp at g0))
  have HB0 := Lib.hid (HBX.out _ (Below.refl _ _)).below
  clear HBX HSS HTS
  go_wp2_with fail
  go_ret
  exact ⟨by rw [HNE.out]; rfl, HB0.out⟩
open Go.RowKit
set_option maxRecDepth 100000
end Go.Proofs.YtaanpcjkflhomaaGreatDoor
namespace Go.Proofs.YtaanpcjkflhomaaGreatDoor
open Go.RowKit
set_option maxRecDepth 100000
instance (n : Int) : Decidable (i64 n) := inferInstanceAs (Decidable (_ ∧ _))
theorem busy_ints : StateInts busyS := by
 refine ⟨by decide, by decide, by decide, by decide, by decide, ?_, ?_⟩
 ·intro x hx
  simp only [busyS, List.mem_cons, List.not_mem_nil, or_false] at hx
  rcases hx with rfl | rfl <;> decide
 ·intro x hx
  simp only [busyS, List.mem_singleton] at hx
  subst hx
  exact ⟨by decide, by decide, by decide⟩
end Go.Proofs.YtaanpcjkflhomaaGreatDoor
