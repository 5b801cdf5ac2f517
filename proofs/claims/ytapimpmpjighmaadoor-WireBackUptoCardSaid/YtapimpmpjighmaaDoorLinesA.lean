/-
  Walks of the lines: Fine, Check; the reference's ItemFine, LineFine.
-/
import Derived.Test.YtapimpmpjighmaaDoorLinesP
import Derived.Test.YtapimpmpjighmaaDoorPlanB
import Derived.Test.YtapimpmpjighmaaDoorWalkB
import Derived.Deep.RegionHeld3
import Derived.Deep.QuietTactic
import Derived.BigQuiet
import Derived.StillTailTactics
namespace Go.Proofs.YtapimpmpjighmaaDoor
open Go.RowKit
set_option maxRecDepth 100000

set_option maxHeartbeats 1000000 in
theorem Fine_any (x : ItemD) (w : World) (hv : Env w) (hx : ItemSmall x) : Calls Tryd.prog 70 #[.agg (vItem x).toArray] w fun e w' => e = .returned (.bool (itemFine x)) ∧ Below w.heap.size w w' := by
  obtain ⟨seq, key, body, again, deaths⟩ := x
  obtain ⟨k1, k2, _⟩ := hx
  simp only at k1 k2
  unfold vItem
  have hbk := Bk.new w 53 #[.int .i64 seq, .string key, .string body, .bool again, .int .i64 deaths]
  have hbl : Below w.heap.size w (w.alloc (.cells #[.int .i64 seq, .string key, .string body, .bool again, .int .i64 deaths] 53)) := (Below.refl _ w).alloc (Nat.le_refl _) _
  have hz : (w.alloc (.cells #[.int .i64 seq, .string key, .string body, .bool again, .int .i64 deaths] 53)).heap.size = w.heap.size + 1 := by simp
  have HB := Lib.hid hbk; clear hbk
  have HL := Lib.hid (And.intro hbl (below_env hbl hv)); clear hbl hv
  go_enter Tryd.func70, Tryd.ntmps70
  go_wp2_with fail
  generalize w.alloc (.cells #[.int .i64 seq, .string key, .string body, .bool again, .int .i64 deaths] 53) = W0 at *
  refine (Split_env key W0 (by omega) HL.out.2).mono ?_
  rintro e W1 ⟨a1, c1, rfl, _, _, hb1⟩
  have b1 := HB.out.below hb1 (by omega)
  have e0 := b1.cell 0; have e2 := b1.cell 2; have e4 := b1.cell 4
  simp only [List.getElem?_toArray, List.getElem?_cons_zero, List.getElem?_cons_succ] at e0 e2 e4
  have HB1 := Lib.hid (HL.out.1.trans (hb1.mono HL.out.1.size)); clear hb1 b1
  have HF : Hid (itemFine ⟨seq, key, body, again, deaths⟩ = (decide (splitErr isWord key = 0) && decide (0 ≤ seq) && decide (seq < 1048576) && decide (body.size ≤ 12) && decide (0 ≤ deaths) && decide (deaths ≤ 2))) := (rfl : itemFine ⟨seq, key, body, again, deaths⟩ = _)
  by_cases hs : splitErr isWord key = 0
  · have b0 : (splitErr isWord key == 0) = true := by simp [hs]
    have HF2 : Hid (itemFine ⟨seq, key, body, again, deaths⟩ = (decide (0 ≤ seq) && decide (seq < 1048576) && decide (body.size ≤ 12) && decide (0 ≤ deaths) && decide (deaths ≤ 2))) := by
      refine (?_ : itemFine ⟨seq, key, body, again, deaths⟩ = _)
      rw [HF.out, decide_eq_true hs, Bool.true_and]
    clear hs
    go_wp2_with fail
    all_goals go_ret
    all_goals refine ⟨?_, HB1.out⟩
    all_goals (refine congrArg (fun b => Ending.returned (Value.bool b)) ?_; rw [HF2.out]; first | (simp [*]; done) | (simp [*]; omega))
  · have b0 : (splitErr isWord key == 0) = false := by simp [hs]
    have HF2 : Hid (itemFine ⟨seq, key, body, again, deaths⟩ = false) := by
      refine (?_ : itemFine ⟨seq, key, body, again, deaths⟩ = _)
      rw [HF.out, decide_eq_false hs]
      rfl
    clear hs
    go_wp2_with fail
    go_ret
    exact ⟨by rw [HF2.out]; rfl, HB1.out⟩

set_option maxHeartbeats 1000000 in
theorem ItemFine_any (x : ItemD) (w : World) (hx : ItemSmall x) : Calls Tryd.prog 131 #[.agg (vItem x).toArray] w fun e w' => e = .returned (.bool (itemFine x)) ∧ Below w.heap.size w w' := by
  obtain ⟨seq, key, body, again, deaths⟩ := x
  obtain ⟨k1, k2, _⟩ := hx
  simp only at k1 k2
  unfold vItem
  have hbk := Bk.new w 53 #[.int .i64 seq, .string key, .string body, .bool again, .int .i64 deaths]
  have hbl : Below w.heap.size w (w.alloc (.cells #[.int .i64 seq, .string key, .string body, .bool again, .int .i64 deaths] 53)) := (Below.refl _ w).alloc (Nat.le_refl _) _
  have hz : (w.alloc (.cells #[.int .i64 seq, .string key, .string body, .bool again, .int .i64 deaths] 53)).heap.size = w.heap.size + 1 := by simp
  have HB := Lib.hid hbk; clear hbk
  have HL := Lib.hid hbl; clear hbl
  have HF : Hid (itemFine ⟨seq, key, body, again, deaths⟩ = ((decide (0 ≤ seq) && decide (seq ≤ 1048575)) && decide (splitErr isWord key = 0) && decide (body.size ≤ 12) && (decide (0 ≤ deaths) && decide (deaths ≤ 2)))) := by
    refine (?_ : itemFine ⟨seq, key, body, again, deaths⟩ = _)
    unfold itemFine
    simp only
    rw [Bool.eq_iff_iff]
    simp only [Bool.and_eq_true, decide_eq_true_eq]
    constructor
    · rintro ⟨⟨⟨⟨⟨h1, h2⟩, h3⟩, h4⟩, h5⟩, h6⟩
      exact ⟨⟨⟨⟨h2, by omega⟩, h1⟩, h4⟩, h5, h6⟩
    · rintro ⟨⟨⟨⟨h2, h3⟩, h1⟩, h4⟩, h5, h6⟩
      exact ⟨⟨⟨⟨⟨h1, h2⟩, by omega⟩, h4⟩, h5⟩, h6⟩
  go_enter Tryd.func131, Tryd.ntmps131
  have e0 := HB.out.cell 0
  simp only [List.getElem?_toArray, List.getElem?_cons_zero] at e0
  go_wp2_with fail
  generalize w.alloc (.cells #[.int .i64 seq, .string key, .string body, .bool again, .int .i64 deaths] 53) = W0 at *
  refine (within_any _ _ _ _).mono ?_
  rintro e w1 ⟨rfl, rfl⟩
  cases hq : (decide (0 ≤ seq) && decide (seq ≤ 1048575))
  · have HR : Hid (itemFine ⟨seq, key, body, again, deaths⟩ = false) := by
      refine (?_ : itemFine ⟨seq, key, body, again, deaths⟩ = _)
      rw [HF.out, hq]; rfl
    clear hq
    go_wp2_with fail
    go_ret
    exact ⟨by rw [HR.out]; rfl, HL.out⟩
  · have HQ := Lib.hid hq; clear hq
    have e1 := HB.out.cell 1
    simp only [List.getElem?_toArray, List.getElem?_cons_zero, List.getElem?_cons_succ] at e1
    go_wp2_with fail
    refine (KeyError_any key W0 (by omega)).mono ?_
    rintro e W1 ⟨rfl, hb1⟩
    have b1 := HB.out.below hb1 (by omega)
    clear e0 e1
    have e2 := b1.cell 2; have e4 := b1.cell 4
    simp only [List.getElem?_toArray, List.getElem?_cons_zero, List.getElem?_cons_succ] at e2 e4
    have HB1 := Lib.hid (HL.out.trans (hb1.mono HL.out.size)); clear hb1 b1
    by_cases hs : splitErr isWord key = 0
    · have b0 : (splitErr isWord key == 0) = true := by simp [hs]
      have HS := Lib.hid hs; clear hs
      by_cases hl : body.size ≤ 12
      · have HL2 := Lib.hid (decide_eq_true hl)
        go_wp2_with fail
        refine (within_any _ _ _ _).mono ?_
        rintro e w1 ⟨rfl, rfl⟩
        have HR : Hid (itemFine ⟨seq, key, body, again, deaths⟩ = (decide (0 ≤ deaths) && decide (deaths ≤ 2))) := by
          refine (?_ : itemFine ⟨seq, key, body, again, deaths⟩ = _)
          rw [HF.out, HQ.out, decide_eq_true HS.out, HL2.out]; rfl
        go_wp2_with fail
        go_ret
        exact ⟨by rw [HR.out]; rfl, HB1.out⟩
      · have hl' : 12 < body.size := by omega
        have HL2 := Lib.hid (decide_eq_false hl); clear hl
        have HR : Hid (itemFine ⟨seq, key, body, again, deaths⟩ = false) := by
          refine (?_ : itemFine ⟨seq, key, body, again, deaths⟩ = _)
          rw [HF.out, HL2.out, Bool.and_false]; rfl
        go_wp2_with fail
        go_ret
        exact ⟨by rw [HR.out]; rfl, HB1.out⟩
    · have b0 : (splitErr isWord key == 0) = false := by simp [hs]
      have HR : Hid (itemFine ⟨seq, key, body, again, deaths⟩ = false) := by
        refine (?_ : itemFine ⟨seq, key, body, again, deaths⟩ = _)
        rw [HF.out, decide_eq_false hs, Bool.and_false]; rfl
      clear hs
      go_wp2_with fail
      go_ret
      exact ⟨by rw [HR.out]; rfl, HB1.out⟩

def LineRel (l : List ItemD) (w : World) (last i : Value) (wr : World) : Prop :=
  ∃ k : Nat, k ≤ l.length ∧ i = .int .i64 k ∧ last = .int .i64 (lastAt l k) ∧ lineFrom (lastAt l k) (l.drop k) = lineFine l ∧ Below w.heap.size w wr

theorem item_cells {wr : World} {b o k : Nat} {x : ItemD} (hc : ∀ j u, (vItem x)[j]? = some u → wr.cell? ⟨b, o + k * 5 + j, none⟩ = some u) :
    wr.cell? ⟨b, o + k * 5, none⟩ = some (.int .i64 x.seq) ∧ wr.cell? ⟨b, o + k * 5 + 1, none⟩ = some (.string x.key) ∧ wr.cell? ⟨b, o + k * 5 + 2, none⟩ = some (.string x.body) ∧ wr.cell? ⟨b, o + k * 5 + 3, none⟩ = some (.bool x.again) ∧ wr.cell? ⟨b, o + k * 5 + 4, none⟩ = some (.int .i64 x.deaths) :=
  ⟨hc 0 _ rfl, hc 1 _ rfl, hc 2 _ rfl, hc 3 _ rfl, hc 4 _ rfl⟩

set_option maxHeartbeats 1000000 in
theorem LCheck_any (a : Option Addr) (c : Nat) (l : List ItemD) (lo : Nat) (w : World) (hv : Env w) (hl : Sl w lo w.heap.size a (l.flatMap vItem)) (hs : LineSmall l) :
    Calls Tryd.prog 69 #[.slice a l.length c] w fun e w' => e = .returned (.int .i64 (lineErr l)) ∧ Below w.heap.size w w' := by
  have hll := hs.len
  have HL := Lib.hid hl; clear hl
  have HV := Lib.hid hv; clear hv
  have HS := Lib.hid hs.item; clear hs
  go_enter Tryd.func69, Tryd.ntmps69
  go_wp2_with fail
  go_loopw [3, 8] (fun last i wr => LineRel l w last i wr) (fun _ i _ => l.length - (intOf i).toNat)
  case atStart => exact ⟨0, by omega, rfl, rfl, rfl, Below.refl _ _⟩
  case round =>
    obtain ⟨k, hk, rfl, rfl, hlf, hB⟩ := hrel
    have HF := Lib.hid hlf; clear hlf
    have HB := Lib.hid hB
    by_cases hlt : k < l.length
    · obtain ⟨b, o, ha, _, hb, hc⟩ := sl_elem vItem_len (by decide) HL.out hlt
      subst ha
      obtain ⟨e0, e1, e2, e3, e4⟩ := item_cells (wr := wr) (b := b) (o := o) (k := k) (x := l[k]) fun j u hu => (hB.cell (p := ⟨b, _, none⟩) hb).trans (hc j u hu)
      have HSM := Lib.hid (HS.out _ (List.getElem_mem hlt))
      have hbk := Bk.new wr 53 (vItem l[k]).toArray
      have hbl : Below wr.heap.size wr (wr.alloc (.cells (vItem l[k]).toArray 53)) := (Below.refl _ wr).alloc (Nat.le_refl _) _
      have hz : (wr.alloc (.cells (vItem l[k]).toArray 53)).heap.size = wr.heap.size + 1 := by simp
      have HBK := Lib.hid hbk; have HBL := Lib.hid hbl; have HZ := Lib.hid hz
      clear hc hB hbk hbl hz
      go_wp2_with fail
      refine (Fine_any l[k] _ (below_env (HB.out.trans (HBL.out.mono HB.out.size)) HV.out) HSM.out).mono ?_
      rintro e w1 ⟨rfl, hb1⟩
      have hb1' := HBK.out.below hb1 (by have := HZ.out; unfold vItem at this; simp)
      have f0 := hb1'.cell 0
      rw [show ((vItem l[k]).toArray)[0]? = some (.int .i64 l[k].seq) from rfl] at f0
      have HB1 := Lib.hid (HB.out.trans ((HBL.out.trans (hb1.mono (by have := HZ.out; unfold vItem at this; simp))).mono HB.out.size))
      clear hb1 hb1' e0 e1 e2 e3 e4
      cases hq : itemFine l[k]
      · have HR : Hid (lineErr l = 1) := by
          refine (?_ : lineErr l = 1)
          unfold lineErr
          rw [line_bad1 hlt HF.out hq]
          rfl
        clear hq
        go_wp2_with fail
        go_ret
        exact ⟨by rw [HR.out]; rfl, HB1.out⟩
      · by_cases hs : lastAt l k < l[k].seq
        · have HR := Lib.hid (line_step hlt HF.out hq hs)
          have HQ := Lib.hid (lastAt_succ hlt)
          clear hq
          go_wp2_with fail
          exact ⟨⟨k + 1, hlt, by go_num, by rw [HQ.out], HR.out, HB1.out⟩, by simp [intOf]; omega⟩
        · have hs' : l[k].seq ≤ lastAt l k := by omega
          have HR : Hid (lineErr l = 1) := by
            refine (?_ : lineErr l = 1)
            unfold lineErr
            rw [line_bad2 hlt HF.out hs']
            rfl
          clear hq hs
          go_wp2_with fail
          go_ret
          exact ⟨by rw [HR.out]; rfl, HB1.out⟩
    · obtain rfl : k = l.length := by omega
      have HR : Hid (lineErr l = 0) := by
        refine (?_ : lineErr l = 0)
        unfold lineErr
        rw [line_done HF.out]
        rfl
      clear hB
      go_wp2_with fail
      go_ret
      exact ⟨by rw [HR.out]; rfl, HB.out⟩

end Go.Proofs.YtapimpmpjighmaaDoor
