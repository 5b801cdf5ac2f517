/-
  Walks of package state: must, count, Of; the reference's HeldOf.
-/
import Derived.Test.YtbdikenloklhaaaDoorStateP
import Derived.Test.YtbdikenloklhaaaDoorLinesA
import Derived.Defers
namespace Go.Proofs.YtbdikenloklhaaaDoor
open Go.RowKit
set_option maxRecDepth 100000

def idxB (bs : List Bool) (b : Bool) : Int := match bs.findIdx? (fun x => b == x) with | some k => k | none => -1
def IndexBRel (bs : List Bool) (b : Bool) (w : World) (i : Value) (wr : World) : Prop := ∃ k : Nat, k ≤ bs.length ∧ i = .int .i64 k ∧ (∀ j x, j < k → bs[j]? = some x → (b == x) = false) ∧ wr = w

theorem find_none {bs : List Bool} {b : Bool} (h : ∀ j x, j < bs.length → bs[j]? = some x → (b == x) = false) : bs.contains b = false := by
  rw [← Bool.not_eq_true, List.contains_iff_mem]
  intro hm
  obtain ⟨j, hj⟩ := List.getElem?_of_mem hm
  have := h j b (List.getElem?_eq_some_iff.1 hj).1 hj
  simp at this
theorem find_some {bs : List Bool} {b x : Bool} {k : Nat} (h : bs[k]? = some x) (e : (b == x) = true) : bs.contains b = true := by
  rw [List.contains_iff_mem, beq_iff_eq.1 e]
  exact List.mem_of_getElem? h

set_option maxHeartbeats 400000 in
theorem IndexB_any (a : Option Addr) (c : Nat) (bs : List Bool) (b : Bool) (lo : Nat) (w : World) (hl : Sl w lo w.heap.size a (bs.map Value.bool)) (hll : bs.length ≤ 1000) :
    Calls Tryd.prog 124 #[.slice a bs.length c, .bool b] w fun e w' => ∃ i : Int, e = .returned (.int .i64 i) ∧ decide (0 ≤ i) = bs.contains b ∧ w' = w := by
  have HL := Lib.hid hl; clear hl
  go_enter Tryd.func124, Tryd.ntmps124
  go_wp2_with fail
  go_loopw [8] (fun i wr => IndexBRel bs b w i wr) (fun i _ => bs.length - (intOf i).toNat)
  case atStart => exact ⟨0, by omega, rfl, fun j x hj => absurd hj (by omega), rfl⟩
  case round =>
    obtain ⟨k, hk, rfl, hall, rfl⟩ := hrel
    have HA := Lib.hid hall; clear hall
    by_cases hlt : k < bs.length
    · obtain ⟨g, o, rfl, _, hb, hc⟩ := HL.out.at_ (k := k) (by simpa using hlt)
      have e0 : wr.cell? ⟨g, o + k, none⟩ = some (.bool bs[k]) := hc k _ (by simp [hlt])
      have HG := Lib.hid (List.getElem?_eq_getElem hlt)
      clear hc
      generalize bs[k] = x at *
      cases hq : (b == x)
      · go_wp2_with fail
        exact ⟨⟨k + 1, hlt, by go_num, fun j y hj hy => by
          rcases Nat.lt_or_ge j k with h | h
          · exact HA.out j y h hy
          · obtain rfl : j = k := by omega
            rw [HG.out] at hy
            cases hy
            exact hq, rfl⟩, by simp [intOf]; omega⟩
      · have HR := Lib.hid (find_some HG.out hq)
        go_wp2_with fail
        go_ret
        exact ⟨_, rfl, by rw [HR.out]; simp, rfl⟩
    · obtain rfl : k = bs.length := by omega
      have HR := Lib.hid (find_none HA.out)
      go_wp2_with fail
      go_ret
      exact ⟨_, rfl, by rw [HR.out]; rfl, rfl⟩

set_option maxHeartbeats 400000 in
theorem ContainsB_any (a : Option Addr) (c : Nat) (bs : List Bool) (b : Bool) (lo : Nat) (w : World) (hl : Sl w lo w.heap.size a (bs.map Value.bool)) (hll : bs.length ≤ 1000) :
    Calls Tryd.prog 113 #[.slice a bs.length c, .bool b] w fun e w' => e = .returned (.bool (bs.contains b)) ∧ w' = w := by
  have HI := Lib.hid (IndexB_any a c bs b lo w hl hll); clear hl
  go_enter Tryd.func113, Tryd.ntmps113
  go_wp2_with fail
  refine HI.out.mono ?_
  rintro e w1 ⟨i, rfl, hi, rfl⟩
  have H := Lib.hid hi; clear hi
  go_wp2_with fail
  go_ret
  exact ⟨by rw [← H.out]; rfl, rfl⟩

/-- What 'must' throws. -/
def refusedE (e : Int) : PanicEntry := { v := .iface 134 (.agg #[.int .i64 e]), recovered := false }

set_option maxHeartbeats 400000 in
theorem must_ok (e : Int) (a : Option Addr) (c : Nat) (bs : List Bool) (lo : Nat) (w : World) (hl : Sl w lo w.heap.size a (bs.map Value.bool)) (hll : bs.length ≤ 1000) (hb : bs.contains false = false) :
    Calls Tryd.prog 91 #[.int .i64 e, .slice a bs.length c] w fun en w' => en = .returned (.tuple #[]) ∧ w' = w := by
  have HC := ContainsB_any a c bs false lo w hl hll
  rw [hb] at HC
  have HC' := Lib.hid HC; clear HC hl
  go_enter Tryd.func91, Tryd.ntmps91
  go_wp2_with fail
  refine HC'.out.mono ?_
  rintro en w1 ⟨rfl, rfl⟩
  go_wp2_with fail
  go_end0
  exact ⟨rfl, rfl⟩

set_option maxHeartbeats 400000 in
theorem must_no (e : Int) (a : Option Addr) (c : Nat) (bs : List Bool) (lo : Nat) (w : World) (hl : Sl w lo w.heap.size a (bs.map Value.bool)) (hll : bs.length ≤ 1000) (hb : bs.contains false = true) :
    Calls Tryd.prog 91 #[.int .i64 e, .slice a bs.length c] w fun en w' => en = .panicked [refusedE e] ∧ w' = w := by
  have HC := ContainsB_any a c bs false lo w hl hll
  rw [hb] at HC
  have HC' := Lib.hid HC; clear HC hl
  go_enter Tryd.func91, Tryd.ntmps91
  go_wp2_with fail
  refine HC'.out.mono ?_
  rintro en w1 ⟨rfl, rfl⟩
  go_wp2_with fail
  exact ⟨rfl, rfl, rfl⟩

set_option maxHeartbeats 400000 in
theorem count_any (n : Int) (w : World) : Calls Tryd.prog 92 #[.int .i64 n] w fun e w' => e = .returned (.bool (countB n)) ∧ w' = w := by
  unfold countB
  by_cases h1 : 0 ≤ n <;> by_cases h2 : n ≤ 1048576
  all_goals
    go_enter Tryd.func92, Tryd.ntmps92
    go_wp2_with fail
    go_ret
    exact ⟨by simp [h1, h2], rfl⟩

/-- A state that a call has boxed: its cells, and the call's world. -/
def BoxedS (w W0 : World) (s : StateD) (a1 a2 a3 : Option Addr) (c1 c2 c3 : Nat) : Prop := ∀ W, Below W0.heap.size W0 W →
  (W.cell? ⟨w.heap.size, 0, none⟩ = some (.slice a1 s.ready.length c1) ∧ W.cell? ⟨w.heap.size, 1, none⟩ = some (.slice a2 s.outs.length c2) ∧ W.cell? ⟨w.heap.size, 2, none⟩ = some (.slice a3 s.takers.length c3) ∧
    W.cell? ⟨w.heap.size, 3, none⟩ = some (.int .i64 s.nextSeq) ∧ W.cell? ⟨w.heap.size, 4, none⟩ = some (.int .i64 s.nextTag) ∧ W.cell? ⟨w.heap.size, 5, none⟩ = some (.int .i64 s.came) ∧ W.cell? ⟨w.heap.size, 6, none⟩ = some (.int .i64 s.acked) ∧ W.cell? ⟨w.heap.size, 7, none⟩ = some (.int .i64 s.dropped)) ∧ Below w.heap.size w W
theorem boxedS_new (w : World) (s : StateD) (a1 a2 a3 : Option Addr) (c1 c2 c3 : Nat) (t : TypeId) : BoxedS w (w.alloc (.cells (vState s a1 a2 a3 c1 c2 c3) t)) s a1 a2 a3 c1 c2 c3 := fun W hW => by
  have hb := (Bk.new w t (vState s a1 a2 a3 c1 c2 c3)).below hW (by simp)
  refine ⟨⟨hb.cell 0, hb.cell 1, hb.cell 2, hb.cell 3, hb.cell 4, hb.cell 5, hb.cell 6, hb.cell 7⟩, ((Below.refl _ w).alloc (Nat.le_refl _) _).trans (hW.mono (by simp))⟩

theorem out_cells {wr : World} {b o k : Nat} {x : OutD} (hc : ∀ j u, (vOut x)[j]? = some u → wr.cell? ⟨b, o + k * 8 + j, none⟩ = some u) :
    wr.cell? ⟨b, o + k * 8, none⟩ = some (.int .i64 x.tag) ∧ wr.cell? ⟨b, o + k * 8 + 1, none⟩ = some (.int .i64 x.taker) ∧ wr.cell? ⟨b, o + k * 8 + 2, none⟩ = some (.int .i64 x.queue) ∧ wr.cell? ⟨b, o + k * 8 + 3, none⟩ = some (.int .i64 x.item.seq) ∧
      wr.cell? ⟨b, o + k * 8 + 4, none⟩ = some (.string x.item.key) ∧ wr.cell? ⟨b, o + k * 8 + 5, none⟩ = some (.string x.item.body) ∧ wr.cell? ⟨b, o + k * 8 + 6, none⟩ = some (.bool x.item.again) ∧ wr.cell? ⟨b, o + k * 8 + 7, none⟩ = some (.int .i64 x.item.deaths) :=
  ⟨hc 0 _ rfl, hc 1 _ rfl, hc 2 _ rfl, hc 3 _ rfl, hc 4 _ rfl, hc 5 _ rfl, hc 6 _ rfl, hc 7 _ rfl⟩

def heldN (l : List OutD) (t : Int) : Nat := l.countP fun x => decide (x.taker = t)
theorem held_step {l : List OutD} {t : Int} {k : Nat} (h : k < l.length) : heldN (l.take (k + 1)) t = heldN (l.take k) t + if l[k].taker = t then 1 else 0 := by
  unfold heldN
  rw [List.take_succ_eq_append_getElem h, List.countP_append]
  simp [List.countP_cons]
theorem held_le (l : List OutD) (t : Int) (k : Nat) : heldN (l.take k) t ≤ k := by
  unfold heldN
  exact Nat.le_trans List.countP_le_length (by rw [List.length_take]; omega)
def OfRel (l : List OutD) (t : Int) (W0 : World) (n i : Value) (wr : World) : Prop := ∃ k : Nat, k ≤ l.length ∧ i = .int .i64 k ∧ n = .int .i64 (heldN (l.take k) t) ∧ Below W0.heap.size W0 wr

set_option maxHeartbeats 1000000 in
theorem Of_any (s : StateD) (a1 a2 a3 : Option Addr) (c1 c2 c3 : Nat) (t : Int) (lo : Nat) (w : World) (ho : Sl w lo w.heap.size a2 (s.outs.flatMap vOut)) (hl : s.outs.length ≤ 1048576) :
    Calls Tryd.prog 94 #[stateV s a1 a2 a3 c1 c2 c3, .int .i64 t] w fun e w' => e = .returned (.int .i64 (heldS s t)) ∧ Below w.heap.size w w' := by
  have hbx := boxedS_new w s a1 a2 a3 c1 c2 c3 60
  have ho0 := (ho.below ((Below.refl _ w).alloc (Nat.le_refl _) (.cells (vState s a1 a2 a3 c1 c2 c3) 60)) (Nat.le_refl _)).wider (lo' := 0) (hi' := (w.alloc (.cells (vState s a1 a2 a3 c1 c2 c3) 60)).heap.size) (Nat.zero_le _) (by simp)
  have HO := Lib.hid ho0
  have HF : Hid (heldN s.outs t = heldS s t) := (rfl : heldN s.outs t = heldS s t)
  have hbb : Hid (BoxedS w (w.alloc (.cells (vState s a1 a2 a3 c1 c2 c3) 60)) s a1 a2 a3 c1 c2 c3) := hbx
  clear hbx ho ho0
  unfold stateV
  unfold vState at *
  go_enter Tryd.func94, Tryd.ntmps94
  obtain ⟨⟨f0, f1, f2, f3, f4, f5, f6, f7⟩, _⟩ := hbb.out _ (Below.refl _ _)
  go_wp2_with fail
  generalize w.alloc (.cells #[Value.slice a1 s.ready.length c1, Value.slice a2 s.outs.length c2, Value.slice a3 s.takers.length c3, Value.int IntKind.i64 s.nextSeq, Value.int IntKind.i64 s.nextTag, Value.int IntKind.i64 s.came, Value.int IntKind.i64 s.acked, Value.int IntKind.i64 s.dropped] 60) = W0 at *
  clear f0 f1 f2 f3 f4 f5 f6 f7
  generalize hou : s.outs = l at *
  go_loopw [5, 11] (fun n i wr => OfRel l t W0 n i wr) (fun _ i _ => l.length - (intOf i).toNat)
  case atStart => exact ⟨0, by omega, rfl, rfl, Below.refl _ _⟩
  case round =>
    obtain ⟨k, hk, rfl, rfl, hB⟩ := hrel
    have HB := Lib.hid hB
    have hh := held_le l t k
    generalize hN : heldN (l.take k) t = N at *
    by_cases hlt : k < l.length
    · obtain ⟨b, o, ha, _, hb, hc⟩ := sl_elem vOut_len (by decide) HO.out hlt
      subst ha
      obtain ⟨e0, e1, e2, e3, e4, e5, e6, e7⟩ := out_cells (wr := wr) (b := b) (o := o) (k := k) (x := l[k]) fun j u hu => (hB.cell (p := ⟨b, _, none⟩) hb).trans (hc j u hu)
      have HST := Lib.hid (held_step (t := t) hlt)
      rw [hN] at HST
      have HN := Lib.hid hN
      clear hc hB hN
      generalize l[k] = x at *
      by_cases hq : x.taker = t
      · have hqb : (x.taker == t) = true := by simp [hq]
        rw [if_pos hq] at HST
        clear hq
        go_wp2_with fail
        exact ⟨⟨k + 1, hlt, by go_num, by rw [HST.out]; go_num, (HB.out.alloc HB.out.size _)⟩, by simp [intOf]; omega⟩
      · have hqb : (x.taker == t) = false := by simp [hq]
        rw [if_neg hq] at HST
        clear hq
        go_wp2_with fail
        exact ⟨⟨k + 1, hlt, by go_num, by rw [HST.out]; rfl, (HB.out.alloc HB.out.size _)⟩, by simp [intOf]; omega⟩
    · obtain rfl : k = l.length := by omega
      have hF : N = heldS s t := by rw [← hN, List.take_length, ← HF.out]
      have HFN := Lib.hid hF
      clear hB hF hN
      go_wp2_with fail
      go_ret
      exact ⟨by rw [HFN.out]; rfl, (hbb.out _ HB.out).2⟩

end Go.Proofs.YtbdikenloklhaaaDoor
