/-
  Arguments opened: letters, lines of letters, states.
-/
import Derived.Test.YtbdikenloklhaaaDoorOpenB
namespace Go.Proofs.YtbdikenloklhaaaDoor
open Go.RowKit Go.ChangeShapes Go.WideShapes Go.Deep
set_option maxRecDepth 100000

theorem len8 {α : Type} {l : List α} (h : l.length = 8) : ∃ a b c d e f g i, l = [a, b, c, d, e, f, g, i] := by
  match l, h with
  | [a, b, c, d, e, f, g, i], _ => exact ⟨a, b, c, d, e, f, g, i, rfl⟩

section
variable {H : Type} {encH : TypeId × Value → H} {w : World} {base : Nat} {spare : Nat → Bool} {held : Bool} {n : Nat} {cs : List Value} {y : DataW H × List MemPlace}

def ItemR (d : DataW H) (x : ItemD) : Prop := x.key.size < Rows.uptoBulk d ∧ x.body.size < Rows.uptoBulk d ∧ i64 x.seq ∧ i64 x.deaths
def TakerR (_ : DataW H) (x : TakerD) : Prop := i64 x.queue ∧ i64 x.atOnce
def OutR (d : DataW H) (x : OutD) : Prop := ItemR d x.item ∧ i64 x.tag ∧ i64 x.taker ∧ i64 x.queue
def ArrivalR (d : DataW H) (x : ArrivalD) : Prop := x.key.size < Rows.uptoBulk d ∧ x.body.size < Rows.uptoBulk d ∧ i64 x.queue ∧ i64 x.deaths
def ActR (d : DataW H) (x : ActD) : Prop := x.key.size < Rows.uptoBulk d ∧ x.body.size < Rows.uptoBulk d ∧ i64 x.kind ∧ i64 x.a ∧ i64 x.b
theorem ItemR.small {d : DataW H} {x : ItemD} (h : ItemR d x) (hB : Rows.uptoBulk d ≤ 1048576) : ItemSmall x := by
  obtain ⟨h1, h2, h3, h4⟩ := h
  unfold i64 at h3 h4
  unfold ItemSmall
  omega

theorem cItem : Tryd.prog.cellsOf 45 = 5 := by kernel_rfl
theorem cOut : Tryd.prog.cellsOf 132 = 8 := by kernel_rfl
theorem cTaker : Tryd.prog.cellsOf 72 = 2 := by kernel_rfl
theorem cState : Tryd.prog.cellsOf 60 = 8 := by kernel_rfl
theorem cItems : Tryd.prog.cellsOf 43 = 1 := by kernel_rfl
theorem cReady : Tryd.prog.cellsOf 56 = 1 := by kernel_rfl
theorem cOuts : Tryd.prog.cellsOf 57 = 1 := by kernel_rfl
theorem cTakers : Tryd.prog.cellsOf 58 = 1 := by kernel_rfl

theorem item_in (h : DataW.trod encH Tryd.prog w base spare held n 45 cs = some y) : ∃ x, cs = vItem x ∧ ItemR y.1 x := by
  obtain ⟨xs, m, hx, hl, hlen, hf⟩ := cells_struct Tryd.underlying45 h
  obtain ⟨c0, c1, c2, c3, c4, rfl⟩ := len5 (hl.trans cItem)
  obtain ⟨y0, m0, h0⟩ := field_of hf 0 rfl cInt
  obtain ⟨y1, m1, h1⟩ := field_of hf 1 rfl cString
  obtain ⟨y2, m2, h2⟩ := field_of hf 2 rfl cString
  obtain ⟨y3, m3, h3⟩ := field_of hf 3 rfl cBool
  obtain ⟨y4, m4, h4⟩ := field_of hf 4 rfl cInt
  obtain ⟨i, rfl, hi⟩ := int_in h0
  obtain ⟨k, rfl, hk⟩ := string_in h1
  obtain ⟨b, rfl, hb⟩ := string_in h2
  obtain ⟨g, rfl⟩ := bool_in h3
  obtain ⟨j, rfl, hj⟩ := int_in h4
  rw [hx]
  exact ⟨⟨i, k, b, g, j⟩, rfl, Nat.lt_trans hk (bulk_agg m1), Nat.lt_trans hb (bulk_agg m2), hi, hj⟩

theorem taker_in (h : DataW.trod encH Tryd.prog w base spare held n 72 cs = some y) : ∃ x, cs = vTaker x ∧ TakerR y.1 x := by
  obtain ⟨xs, m, hx, hl, hlen, hf⟩ := cells_struct Tryd.underlying72 h
  obtain ⟨c0, c1, rfl⟩ := len2 (hl.trans cTaker)
  obtain ⟨y0, m0, h0⟩ := field_of hf 0 rfl cInt
  obtain ⟨y1, m1, h1⟩ := field_of hf 1 rfl cInt
  obtain ⟨i, rfl, hi⟩ := int_in h0
  obtain ⟨j, rfl, hj⟩ := int_in h1
  exact ⟨⟨i, j⟩, rfl, hi, hj⟩

theorem out_in (h : DataW.trod encH Tryd.prog w base spare held n 132 cs = some y) : ∃ x, cs = vOut x ∧ OutR y.1 x := by
  obtain ⟨xs, m, hx, hl, hlen, hf⟩ := cells_struct Tryd.underlying132 h
  obtain ⟨c0, c1, c2, c3, c4, c5, c6, c7, rfl⟩ := len8 (hl.trans cOut)
  obtain ⟨y0, m0, h0⟩ := field_of hf 0 rfl cInt
  obtain ⟨y1, m1, h1⟩ := field_of hf 1 rfl cInt
  obtain ⟨y2, m2, h2⟩ := field_of hf 2 rfl cInt
  obtain ⟨y3, m3, h3⟩ := field_of hf 3 rfl cItem
  obtain ⟨i, rfl, hi⟩ := int_in h0
  obtain ⟨j, rfl, hj⟩ := int_in h1
  obtain ⟨k, rfl, hk⟩ := int_in h2
  obtain ⟨x, hc, hr⟩ := item_in h3
  have hc' : [c3, c4, c5, c6, c7] = vItem x := hc
  unfold vItem at hc'
  simp only [List.cons.injEq, and_true] at hc'
  obtain ⟨rfl, rfl, rfl, rfl, rfl⟩ := hc'
  rw [hx]
  have hb := bulk_agg m3
  exact ⟨⟨i, j, k, x⟩, rfl, ⟨Nat.lt_trans hr.1 hb, Nat.lt_trans hr.2.1 hb, hr.2.2⟩, hi, hj, hk⟩

/-- A line of letters. -/
def RowR (w : World) (d : DataW H) (r : RowD) : Prop := r.items.length ≤ r.cap ∧ Sl w 0 w.heap.size r.at_ (r.items.flatMap vItem) ∧ r.items.length < Rows.uptoBulk d ∧ ∀ x ∈ r.items, ∃ d' : DataW H, ItemR d' x ∧ Rows.uptoBulk d' ≤ Rows.uptoBulk d
theorem row_in (h : DataW.trod encH Tryd.prog w base spare held n 43 cs = some y) : ∃ r, cs = vRow r ∧ RowR w y.1 r := by
  obtain ⟨a, c, xs, e, k, _, s, m, r, _⟩ := open_list (enc := vItem) ItemR Tryd.underlying43 cItem (by decide) vItem_len (fun _ _ _ => item_in) h
  exact ⟨⟨a, c, xs⟩, e, k, s, m, r⟩
theorem RowR.small {d : DataW H} {r : RowD} (h : RowR w d r) (hB : Rows.uptoBulk d ≤ 1048576) : LineSmall r.items := by
  obtain ⟨_, _, h3, h4⟩ := h
  refine ⟨by omega, fun x hx => ?_⟩
  obtain ⟨d', hd, hb⟩ := h4 x hx
  exact hd.small (by omega)

/-- The ints of a state that came in are ints. -/
structure StateInts (s : StateD) : Prop where
  nextSeq : i64 s.nextSeq
  nextTag : i64 s.nextTag
  came : i64 s.came
  acked : i64 s.acked
  dropped : i64 s.dropped
  taker : ∀ x ∈ s.takers, i64 x.queue ∧ i64 x.atOnce
  out : ∀ x ∈ s.outs, i64 x.tag ∧ i64 x.taker ∧ i64 x.queue

theorem state_cells (h : DataW.trod encH Tryd.prog w base spare held n 60 cs = some y) (hB : Rows.uptoBulk y.1 ≤ 1048576) :
    ∃ (s : StateD) (a1 a2 a3 : Option Addr) (c1 c2 c3 : Nat) (rows : List RowD), cs = (vState s a1 a2 a3 c1 c2 c3).toList ∧ StateAt w 0 w.heap.size a1 a2 a3 rows s ∧ StateSmall s ∧ StateInts s ∧
      s.ready.length ≤ c1 ∧ s.outs.length ≤ c2 ∧ s.takers.length ≤ c3 := by
  obtain ⟨xs, m, hx, hl, hlen, hf⟩ := cells_struct Tryd.underlying60 h
  obtain ⟨v0, v1, v2, v3, v4, v5, v6, v7, rfl⟩ := len8 (hl.trans cState)
  obtain ⟨y0, m0, h0⟩ := field_of hf 0 rfl cReady
  obtain ⟨y1, m1, h1⟩ := field_of hf 1 rfl cOuts
  obtain ⟨y2, m2, h2⟩ := field_of hf 2 rfl cTakers
  obtain ⟨y3, m3, h3⟩ := field_of hf 3 rfl cInt
  obtain ⟨y4, m4, h4⟩ := field_of hf 4 rfl cInt
  obtain ⟨y5, m5, h5⟩ := field_of hf 5 rfl cInt
  obtain ⟨y6, m6, h6⟩ := field_of hf 6 rfl cInt
  obtain ⟨y7, m7, h7⟩ := field_of hf 7 rfl cInt
  rw [hx] at hB
  have b0 := bulk_agg m0
  have b1 := bulk_agg m1
  have b2 := bulk_agg m2
  obtain ⟨a1, c1, rs, e1, k1, _, s1, n1, r1, ds, dl, db, dr⟩ := open_list (enc := vRow) (RowR w) Tryd.underlying56 cItems (by decide) vRow_len (fun _ _ _ => row_in) h0
  obtain ⟨a2, c2, os, e2, k2, _, s2, n2, r2, _⟩ := open_list (enc := vOut) OutR Tryd.underlying57 cOut (by decide) vOut_len (fun _ _ _ => out_in) h1
  obtain ⟨a3, c3, ts, e3, k3, _, s3, n3, r3, _⟩ := open_list (enc := vTaker) TakerR Tryd.underlying58 cTaker (by decide) vTaker_len (fun _ _ _ => taker_in) h2
  obtain ⟨i3, rfl, hi3⟩ := int_in h3
  obtain ⟨i4, rfl, hi4⟩ := int_in h4
  obtain ⟨i5, rfl, hi5⟩ := int_in h5
  obtain ⟨i6, rfl, hi6⟩ := int_in h6
  obtain ⟨i7, rfl, hi7⟩ := int_in h7
  have e1' : v0 = .slice a1 rs.length c1 := by simpa using e1
  have e2' : v1 = .slice a2 os.length c2 := by simpa using e2
  have e3' : v2 = .slice a3 ts.length c3 := by simpa using e3
  subst e1' e2' e3'
  have hrl : (rs.map (·.items)).length = rs.length := List.length_map _
  refine ⟨⟨rs.map (·.items), os, ts, i3, i4, i5, i6, i7⟩, a1, a2, a3, c1, c2, c3, rs, by simp [vState], ⟨rfl, s1, fun r hr => ?_, s2, s3⟩, ⟨?_, ?_, ?_, ?_, ?_, ?_⟩, ⟨hi3, hi4, hi5, hi6, hi7, fun x hx => ?_, fun x hx => ?_⟩, by rw [hrl]; exact k1, k2, k3⟩
  · obtain ⟨d, hd, _⟩ := r1 r hr
    exact ⟨hd.2.1, hd.1⟩
  · show (rs.map (·.items)).length ≤ _
    rw [hrl]
    exact Nat.le_trans (Nat.le_of_lt (Nat.lt_trans n1 b0)) hB
  · exact Nat.le_trans (Nat.le_of_lt (Nat.lt_trans n2 b1)) hB
  · exact Nat.le_trans (Nat.le_of_lt (Nat.lt_trans n3 b2)) hB
  · intro l hl
    obtain ⟨r, hr, rfl⟩ := List.mem_map.1 hl
    obtain ⟨d, hd, hb⟩ := r1 r hr
    exact hd.small (by omega)
  · intro x hx
    obtain ⟨d, hd, hb⟩ := r2 x hx
    exact hd.1.small (by omega)
  · have := bulk_sum (f := fun r : RowD => r.items.length) ds rs dl fun i d r hd hr => Nat.le_of_lt (dr i d r hd hr).2.2.1
    show ((rs.map (·.items)).map List.length).sum ≤ _
    rw [List.map_map]
    exact Nat.le_trans this (by omega)
  · obtain ⟨d, hd, hb⟩ := r3 x hx
    exact hd
  · obtain ⟨d, hd, hb⟩ := r2 x hx
    exact hd.2

/-- A state among the arguments. -/
theorem open_state {r : Reach} {b0 : Nat} {v : Value} {d : DataW H} {p : List MemPlace} (hv : Value.okWide Tryd.prog w r b0 60 v) (h : DataW.Trod encH Tryd.prog w base spare held 60 v d p) (hB : Rows.uptoBulk d ≤ 1048576) :
    ∃ (s : StateD) (a1 a2 a3 : Option Addr) (c1 c2 c3 : Nat) (rows : List RowD), v = stateV s a1 a2 a3 c1 c2 c3 ∧ StateAt w 0 w.heap.size a1 a2 a3 rows s ∧ StateSmall s ∧ StateInts s ∧ s.ready.length ≤ c1 ∧ s.outs.length ≤ c2 ∧ s.takers.length ≤ c3 := by
  obtain ⟨cs, rfl, hsz⟩ := okWide_struct Tryd.underlying60 hv
  obtain ⟨fuel, hf⟩ := h
  obtain ⟨s, a1, a2, a3, c1, c2, c3, rows, hc, k⟩ := state_cells hf hB
  exact ⟨s, a1, a2, a3, c1, c2, c3, rows, congrArg Value.agg (Array.toList_inj.1 hc), k⟩

/-- A letter among the arguments. -/
theorem open_item {r : Reach} {b0 : Nat} {v : Value} {d : DataW H} {p : List MemPlace} (hv : Value.okWide Tryd.prog w r b0 45 v) (h : DataW.Trod encH Tryd.prog w base spare held 45 v d p) (hB : Rows.uptoBulk d ≤ 1048576) :
    ∃ x : ItemD, v = .agg (vItem x).toArray ∧ ItemSmall x := by
  obtain ⟨cs, rfl, hsz⟩ := okWide_struct Tryd.underlying45 hv
  obtain ⟨fuel, hf⟩ := h
  obtain ⟨x, hc, hr⟩ := item_in hf
  refine ⟨x, congrArg Value.agg (Array.toList_inj.1 ?_), hr.small hB⟩
  exact hc

/-- A line of letters among the arguments. -/
theorem open_items {r : Reach} {b0 : Nat} {v : Value} {d : DataW H} {p : List MemPlace} (hv : Value.okWide Tryd.prog w r b0 43 v) (h : DataW.Trod encH Tryd.prog w base spare held 43 v d p) (hB : Rows.uptoBulk d ≤ 1048576) :
    ∃ (a : Option Addr) (c : Nat) (l : List ItemD), v = .slice a l.length c ∧ l.length ≤ c ∧ Sl w 0 w.heap.size a (l.flatMap vItem) ∧ LineSmall l ∧ l.length ≤ 1048575 := by
  obtain ⟨a0, len, cap, rfl⟩ := okWide_slice Tryd.underlying43 hv
  obtain ⟨fuel, hf⟩ := h
  obtain ⟨r, hc, hr⟩ := row_in hf
  have hc' : Value.slice a0 len cap = .slice r.at_ r.items.length r.cap := by simpa [vRow, Value.cells] using hc
  exact ⟨r.at_, r.cap, r.items, hc', hr.1, hr.2.1, hr.small hB, by have h : r.items.length < Rows.uptoBulk d := hr.2.2.1; omega⟩

end
end Go.Proofs.YtbdikenloklhaaaDoor
