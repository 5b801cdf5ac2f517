/-
  Walk of the reference's SameItems.
-/
import Derived.Test.YtbdikenloklhaaaDoorLinesA
import Derived.Laws.StructEq
import Derived.IntWalk
namespace Go.Proofs.YtbdikenloklhaaaDoor
open Go.RowKit
set_option maxRecDepth 100000

/-- Are two letters one? -/
def itemEq (x y : ItemD) : Bool := x.seq == y.seq && (x.key.toList == y.key.toList && (x.body.toList == y.body.toList && (x.again == y.again && x.deaths == y.deaths)))
theorem itemEq_iff {x y : ItemD} : itemEq x y = true ↔ x = y := by
  obtain ⟨a, b, c, d, e⟩ := x
  obtain ⟨a', b', c', d', e'⟩ := y
  simp only [itemEq, Bool.and_eq_true, beq_iff_eq, ItemD.mk.injEq]
  constructor
  · rintro ⟨h1, h2, h3, h4, h5⟩
    exact ⟨h1, toList_inj h2, toList_inj h3, h4, h5⟩
  · rintro ⟨h1, h2, h3, h4, h5⟩
    exact ⟨h1, by rw [h2], by rw [h3], h4, h5⟩

def itemsEq : List ItemD → List ItemD → Bool
  | [], [] => true
  | x :: xs, y :: ys => itemEq x y && itemsEq xs ys
  | _, _ => false
theorem itemsEq_iff : ∀ {xs ys : List ItemD}, itemsEq xs ys = true ↔ xs = ys
  | [], [] => by simp [itemsEq]
  | [], y :: ys => by simp [itemsEq]
  | x :: xs, [] => by simp [itemsEq]
  | x :: xs, y :: ys => by
    simp only [itemsEq, Bool.and_eq_true, List.cons.injEq, itemEq_iff, itemsEq_iff]
theorem itemsEq_refl (xs : List ItemD) : itemsEq xs xs = true := itemsEq_iff.2 rfl
theorem itemsEq_len {xs ys : List ItemD} (h : xs.length ≠ ys.length) : itemsEq xs ys = false := by
  rw [← Bool.not_eq_true, itemsEq_iff]
  rintro rfl
  exact h rfl
theorem itemsEq_drop {xs ys : List ItemD} {k : Nat} (h1 : k < xs.length) (h2 : k < ys.length) : itemsEq (xs.drop k) (ys.drop k) = (itemEq xs[k] ys[k] && itemsEq (xs.drop (k + 1)) (ys.drop (k + 1))) := by
  rw [List.drop_eq_getElem_cons h1, List.drop_eq_getElem_cons h2]
  rfl

theorem eqItem (x y : ItemD) (w : World) : (Op.equalIn 10000 45 (.agg #[.int .i64 x.seq, .string x.key, .string x.body, .bool x.again, .int .i64 x.deaths]) (.agg #[.int .i64 y.seq, .string y.key, .string y.body, .bool y.again, .int .i64 y.deaths])).run Tryd.prog w = .ok (itemEq x y) w := by
  have u1 := Tryd.underlying3
  have a1 := Tryd.isAgg3
  have z1 := Tryd.sizeOf3
  have u2 := Tryd.underlying9
  have a2 := Tryd.isAgg9
  have z2 := Tryd.sizeOf9
  have u3 := Tryd.underlying4
  have a3 := Tryd.isAgg4
  have z3 := Tryd.sizeOf4
  have hS : Tryd.prog.underlying 45 = some (.struct (Tryd.prog.fieldsOf 45)) := by kernel_rfl
  have hH : Tryd.prog.stoodInHeld 45 = false := by kernel_rfl
  rw [show (10000 : Nat) = 9999 + 1 from rfl, run_equalIn_agg w 9999 45 _ _ hS hH]
  simp only [Program.fieldsOf, Tryd.underlying45]
  unfold itemEq
  go_simp
  by_cases h1 : x.seq = y.seq <;> by_cases h2 : x.key.toList = y.key.toList <;> by_cases h3 : x.body.toList = y.body.toList <;> by_cases h4 : x.again = y.again <;> by_cases h5 : x.deaths = y.deaths <;> simp [h1, h2, h3, h4, h5]

@[go_sem ↓] theorem neqItem (x y : ItemD) (w : World) : (binOp .neq 45 (.agg #[.int .i64 x.seq, .string x.key, .string x.body, .bool x.again, .int .i64 x.deaths]) (.agg #[.int .i64 y.seq, .string y.key, .string y.body, .bool y.again, .int .i64 y.deaths])).run Tryd.prog w = .ok (.bool (!itemEq x y)) w := by
  rw [run_neq_struct, eqItem]; rfl
@[go_sem ↓] theorem eqlItem (x y : ItemD) (w : World) : (binOp .eql 45 (.agg #[.int .i64 x.seq, .string x.key, .string x.body, .bool x.again, .int .i64 x.deaths]) (.agg #[.int .i64 y.seq, .string y.key, .string y.body, .bool y.again, .int .i64 y.deaths])).run Tryd.prog w = .ok (.bool (itemEq x y)) w := by
  rw [run_eql_struct, eqItem]; rfl
@[go_sem] theorem eqGuardItem : Tryd.prog.eqGuardType Tryd.prog.depth 45 = false := by kernel_rfl

def SameRel (xs ys : List ItemD) (B : Nat) (w : World) (i : Value) (wr : World) : Prop :=
  ∃ k : Nat, k ≤ xs.length ∧ i = .int .i64 k ∧ itemsEq (xs.drop k) (ys.drop k) = itemsEq xs ys ∧ Below B w wr

set_option maxHeartbeats 1000000 in
theorem SameItems_any (a b : Option Addr) (c d : Nat) (xs ys : List ItemD) (w : World) (lo : Nat) (hx : Sl w lo w.heap.size a (xs.flatMap vItem)) (hy : Sl w lo w.heap.size b (ys.flatMap vItem))
    (h1 : xs.length ≤ 4294967296) (_h2 : ys.length ≤ 4294967296) :
    Calls Tryd.prog 31 #[.slice a xs.length c, .slice b ys.length d] w fun e w' => e = .returned (.bool (itemsEq xs ys)) ∧ Below w.heap.size w w' := by
  have HX := Lib.hid hx; clear hx
  have HY := Lib.hid hy; clear hy
  by_cases hl : xs.length = ys.length
  · have hxy : (((xs.length : Int)) != (ys.length : Int)) = false := by simp [hl]
    have HL := Lib.hid hl; clear hl
    go_enter Tryd.func31, Tryd.ntmps31
    go_wp2_with fail
    go_loopw [5] (fun i wr => SameRel xs ys w.heap.size w i wr) (fun i _ => xs.length - (intOf i).toNat)
    case atStart => exact ⟨0, by omega, rfl, rfl, Below.refl _ _⟩
    case round =>
      obtain ⟨k, hk, rfl, hq, hB⟩ := hrel
      have HQ := Lib.hid hq; clear hq
      by_cases hlt : k < xs.length
      · have hlt2 : k < ys.length := by rw [← HL.out]; exact hlt
        obtain ⟨g, o, ha, _, hb, hc⟩ := sl_elem vItem_len (by decide) HX.out hlt
        obtain ⟨g2, o2, ha2, _, hb2, hc2⟩ := sl_elem vItem_len (by decide) HY.out hlt2
        subst ha ha2
        obtain ⟨e0, e1, e2, e3, e4⟩ := item_cells (wr := wr) (b := g) (o := o) (k := k) (x := xs[k]) fun j u hu => (hB.cell (p := ⟨g, _, none⟩) hb).trans (hc j u hu)
        obtain ⟨d0, d1, d2, d3, d4⟩ := item_cells (wr := wr) (b := g2) (o := o2) (k := k) (x := ys[k]) fun j u hu => (hB.cell (p := ⟨g2, _, none⟩) hb2).trans (hc2 j u hu)
        have hd := itemsEq_drop hlt hlt2
        have HD := Lib.hid hd; clear hd hc hc2
        have HB := Lib.hid hB; clear hB
        generalize xs[k] = x at *
        generalize ys[k] = y at *
        cases hq : itemEq x y
        · have HR : Hid (itemsEq xs ys = false) := (by rw [← HQ.out, HD.out, hq]; rfl : itemsEq xs ys = false)
          go_wp2
          go_quiet (fail)
          all_goals go_wp2
          all_goals go_ret
          all_goals exact ⟨by rw [HR.out]; rfl, below_draws HB.out _⟩
        · have HR : Hid (itemsEq (xs.drop (k + 1)) (ys.drop (k + 1)) = itemsEq xs ys) := (by rw [← HQ.out, HD.out, hq]; rfl : itemsEq (xs.drop (k + 1)) (ys.drop (k + 1)) = itemsEq xs ys)
          go_wp2
          go_quiet (fail)
          all_goals go_wp2
          all_goals exact ⟨⟨k + 1, hlt, by go_num, HR.out, below_draws HB.out _⟩, by simp [intOf]; omega⟩
      · obtain rfl : k = xs.length := by omega
        have HR : Hid (itemsEq xs ys = true) := by
          refine (?_ : itemsEq xs ys = true)
          rw [← HQ.out, List.drop_eq_nil_of_le (Nat.le_refl _), List.drop_eq_nil_of_le (by rw [HL.out]; exact Nat.le_refl _)]
          rfl
        go_wp2
        go_ret
        exact ⟨by rw [HR.out]; rfl, hB⟩
  · have hxy : (((xs.length : Int)) != (ys.length : Int)) = true := by simp; omega
    have HR := Lib.hid (itemsEq_len hl); clear hl
    go_enter Tryd.func31, Tryd.ntmps31
    go_wp2_with fail
    go_ret
    exact ⟨by rw [HR.out]; rfl, Below.refl _ _⟩

end Go.Proofs.YtbdikenloklhaaaDoor
