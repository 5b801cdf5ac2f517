/-
  Walk of the reference's PushOf.
-/
import Derived.Test.YtbdikenloklhaaaDoorLinesD
import Derived.Test.YtbdikenloklhaaaDoorPlanR
namespace Go.Proofs.YtbdikenloklhaaaDoor
open Go.RowKit
set_option maxRecDepth 100000

def PushPost (l : List ItemD) (x : ItemD) (w : World) (e : Ending) (w' : World) : Prop :=
  ∃ a c, e = .returned (.tuple #[.slice a (pushOut l x).length c, .int .i64 (pushErr l x)]) ∧ Sl w' w.heap.size w'.heap.size a ((pushOut l x).flatMap vItem) ∧ (pushOut l x).length ≤ c ∧ Below w.heap.size w w'

/-- A letter that a call has boxed. -/
def BoxedI (w W0 : World) (x : ItemD) : Prop := ∀ W, Below W0.heap.size W0 W → (W.cell? ⟨w.heap.size, 0, none⟩ = some (.int .i64 x.seq) ∧ W.cell? ⟨w.heap.size, 1, none⟩ = some (.string x.key) ∧ W.cell? ⟨w.heap.size, 2, none⟩ = some (.string x.body) ∧ W.cell? ⟨w.heap.size, 3, none⟩ = some (.bool x.again) ∧ W.cell? ⟨w.heap.size, 4, none⟩ = some (.int .i64 x.deaths)) ∧ Below w.heap.size w W
theorem boxedI_new (w : World) (x : ItemD) (t : TypeId) : BoxedI w (w.alloc (.cells #[.int .i64 x.seq, .string x.key, .string x.body, .bool x.again, .int .i64 x.deaths] t)) x := fun W hW => by
  have hb := (Bk.new w t #[.int .i64 x.seq, .string x.key, .string x.body, .bool x.again, .int .i64 x.deaths]).below hW (by simp)
  refine ⟨⟨?_, ?_, ?_, ?_, ?_⟩, ((Below.refl _ w).alloc (Nat.le_refl _) _).trans (hW.mono (by simp))⟩
  · have := hb.cell 0; simpa using this
  · have := hb.cell 1; simpa using this
  · have := hb.cell 2; simpa using this
  · have := hb.cell 3; simpa using this
  · have := hb.cell 4; simpa using this

theorem push_bad {l : List ItemD} {x : ItemD} (h : lineFine l = false ∨ itemFine x = false) : pushErr l x = 1 ∧ pushOut l x = [] := by
  have : pushErr l x = 1 := by unfold pushErr; rw [if_pos h]
  exact ⟨this, by simp [pushOut, this]⟩
theorem push_there {l : List ItemD} {x : ItemD} (h1 : lineFine l = true) (h2 : itemFine x = true) (h3 : l.any (fun y => decide (y.seq = x.seq)) = true) : pushErr l x = 6 ∧ pushOut l x = [] := by
  have : pushErr l x = 6 := by unfold pushErr; rw [if_neg (by simp [h1, h2]), if_pos h3]
  exact ⟨this, by simp [pushOut, this]⟩
theorem push_ok {l : List ItemD} {x : ItemD} (h1 : lineFine l = true) (h2 : itemFine x = true) (h3 : l.any (fun y => decide (y.seq = x.seq)) = false) : pushErr l x = 0 ∧ pushOut l x = pushL l x := by
  have : pushErr l x = 0 := by unfold pushErr; rw [if_neg (by simp [h1, h2]), if_neg (by simp [h3])]
  exact ⟨this, by simp [pushOut, this]⟩

set_option maxHeartbeats 2000000 in
theorem PushOf_any (a : Option Addr) (c : Nat) (l : List ItemD) (x : ItemD) (lo : Nat) (w : World) (hl : Sl w lo w.heap.size a (l.flatMap vItem)) (hs : LineSmall l) (hx : ItemSmall x) :
    Calls Tryd.prog 27 #[.slice a l.length c, .agg (vItem x).toArray] w (PushPost l x w) := by
  have hll := hs.len
  have HS := Lib.hid hs; clear hs
  have HXS := Lib.hid hx; clear hx
  have hbx := boxedI_new w x 45
  have hz : (w.alloc (.cells #[.int .i64 x.seq, .string x.key, .string x.body, .bool x.again, .int .i64 x.deaths] 45)).heap.size = w.heap.size + 1 := by simp
  have hl0 := (hl.below ((Below.refl _ w).alloc (Nat.le_refl _) (.cells #[.int .i64 x.seq, .string x.key, .string x.body, .bool x.again, .int .i64 x.deaths] 45)) (Nat.le_refl _)).wider (lo' := 0) (hi' := (w.alloc (.cells #[.int .i64 x.seq, .string x.key, .string x.body, .bool x.again, .int .i64 x.deaths] 45)).heap.size) (Nat.zero_le _) (by simp)
  have HL0 := Lib.hid hl0
  have HBX := Lib.hid hbx
  clear hl hbx hl0
  unfold vItem
  go_enter Tryd.func27, Tryd.ntmps27
  go_wp2_with fail
  generalize w.alloc (.cells #[.int .i64 x.seq, .string x.key, .string x.body, .bool x.again, .int .i64 x.deaths] 45) = W0 at *
  have HZ := Lib.hid hz; clear hz
  have hwz : w.heap.size ≤ W0.heap.size := by have := HZ.out; omega
  refine (LineFine_any a c l 0 W0 HL0.out HS.out).mono ?_
  rintro e W1 ⟨rfl, hb1⟩
  have HB1 := Lib.hid hb1; clear hb1
  cases hq : lineFine l
  · have HR := Lib.hid (push_bad (x := x) (.inl hq)); clear hq
    go_wp2_with fail
    go_ret2
    exact ⟨none, 0, by rw [HR.out.1, HR.out.2]; rfl, by rw [HR.out.2]; exact Sl.nil _ _ _ _, by rw [HR.out.2]; simp, (HBX.out _ HB1.out).2⟩
  · have HQ := Lib.hid hq; clear hq
    obtain ⟨⟨e0, e1, e2, e3, e4⟩, _⟩ := HBX.out W1 HB1.out
    go_wp2_with fail
    refine (ItemFine_any x W1 HXS.out).mono ?_
    rintro e W2 ⟨rfl, hb2⟩
    have HB2 := Lib.hid (HB1.out.trans (hb2.mono HB1.out.size)); clear hb2 HB1 e0 e1 e2 e3 e4
    cases hq : itemFine x
    · have HR := Lib.hid (push_bad (l := l) (.inr hq)); clear hq
      go_wp2_with fail
      go_ret2
      exact ⟨none, 0, by rw [HR.out.1, HR.out.2]; rfl, by rw [HR.out.2]; exact Sl.nil _ _ _ _, by rw [HR.out.2]; simp, (HBX.out _ HB2.out).2⟩
    · have HQ2 := Lib.hid hq; clear hq
      go_wp2_with fail
      go_loopw [6] (fun i wr => IdxRel (fun y : ItemD => decide (y.seq = x.seq)) l W0.heap.size W0 i wr) (fun i _ => l.length - (intOf i).toNat)
      case atStart => exact ⟨0, by omega, rfl, HB2.out, fun j y hj => absurd hj (by omega)⟩
      case round =>
        obtain ⟨k, hk, rfl, hB, hall⟩ := hrel
        have HA := Lib.hid hall; clear hall
        obtain ⟨⟨e0, e1, e2, e3, e4⟩, _⟩ := HBX.out wr hB
        have HB := Lib.hid hB
        by_cases hlt : k < l.length
        · obtain ⟨b, o, ha, _, hb, hc⟩ := sl_elem (enc := vItem) vItem_len (by decide) HL0.out hlt
          subst ha
          obtain ⟨d0, d1, d2, d3, d4⟩ := item_cells (wr := wr) (b := b) (o := o) (k := k) (x := l[k]) fun j u hu => (hB.cell (p := ⟨b, _, none⟩) hb).trans (hc j u hu)
          clear hc hB
          by_cases hs : l[k].seq = x.seq
          · have hs' : (l[k].seq == x.seq) = true := by simp [hs]
            have HR := Lib.hid (push_there HQ.out HQ2.out (any_hit hlt (by simp [hs])))
            clear hs
            go_wp2_with fail
            go_quiet (fail)
            all_goals go_wp2
            all_goals go_ret2
            all_goals exact ⟨none, 0, by rw [HR.out.1, HR.out.2]; rfl, by rw [HR.out.2]; exact Sl.nil _ _ _ _, by rw [HR.out.2]; simp, (HBX.out _ (below_draws HB.out _)).2⟩
          · have hs' : (l[k].seq == x.seq) = false := by simp [hs]
            have HR : Hid (decide (l[k].seq = x.seq) = false) := (by simp [hs] : decide (l[k].seq = x.seq) = false)
            clear hs
            go_wp2_with fail
            go_quiet (fail)
            all_goals go_wp2
            all_goals exact ⟨idxRel_step (p := fun y : ItemD => decide (y.seq = x.seq)) HA.out hlt HR.out (below_draws HB.out _), by simp [intOf]; omega⟩
        · have HR := Lib.hid (push_ok HQ.out HQ2.out (any_done HA.out (by omega)))
          clear hB
          go_wp2_with fail
          refine (refpush_any a c l x 0 wr ((HL0.out.below HB.out (Nat.le_refl _)).wider (Nat.le_refl _) HB.out.size) hll).mono ?_
          rintro e W3 ⟨v, rfl, hown, hb3⟩
          obtain ⟨va, vc, rfl, hvc⟩ := own_slice hown
          have HO := Lib.hid (And.intro (Sl.of_own (own_mono hown (Nat.le_trans hwz HB.out.size))) hvc)
          have HB3 := Lib.hid (HB.out.trans (hb3.mono HB.out.size)); clear hb3 hown hvc e0 e1 e2 e3 e4
          go_wp2_with fail
          go_ret2
          exact ⟨va, vc, by rw [HR.out.1, HR.out.2]; rfl, by rw [HR.out.2]; exact HO.out.1, by rw [HR.out.2]; exact HO.out.2, (HBX.out _ HB3.out).2⟩

end Go.Proofs.YtbdikenloklhaaaDoor
