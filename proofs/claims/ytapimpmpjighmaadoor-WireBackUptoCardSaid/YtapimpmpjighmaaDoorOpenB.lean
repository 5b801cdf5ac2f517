/-
  Arguments opened: posts, queues, binds; a plan.
-/
import Derived.Test.YtapimpmpjighmaaDoorOpenA
import Derived.Test.YtapimpmpjighmaaDoorBase
import Derived.Lib.SmallJoins
namespace Go.Proofs.YtapimpmpjighmaaDoor
open Go.RowKit Go.ChangeShapes Go.WideShapes Go.Deep
set_option maxRecDepth 100000

def i64 (n : Int) : Prop := -9223372036854775808 ≤ n ∧ n ≤ 9223372036854775807
theorem i64_of {n : Int} (h : (Lit.int .i64 n).wf = true) : i64 n := by
  have := bounds_i64 h
  unfold i64
  omega

theorem len2 {α : Type} {l : List α} (h : l.length = 2) : ∃ a b, l = [a, b] := by
  match l, h with
  | [a, b], _ => exact ⟨a, b, rfl⟩
theorem len3 {α : Type} {l : List α} (h : l.length = 3) : ∃ a b c, l = [a, b, c] := by
  match l, h with
  | [a, b, c], _ => exact ⟨a, b, c, rfl⟩
theorem len4 {α : Type} {l : List α} (h : l.length = 4) : ∃ a b c d, l = [a, b, c, d] := by
  match l, h with
  | [a, b, c, d], _ => exact ⟨a, b, c, d, rfl⟩
theorem len5 {α : Type} {l : List α} (h : l.length = 5) : ∃ a b c d e, l = [a, b, c, d, e] := by
  match l, h with
  | [a, b, c, d, e], _ => exact ⟨a, b, c, d, e, rfl⟩

theorem cInt : Tryd.prog.cellsOf 3 = 1 := by kernel_rfl
theorem cString : Tryd.prog.cellsOf 9 = 1 := by kernel_rfl
theorem cBool : Tryd.prog.cellsOf 4 = 1 := by kernel_rfl

theorem field_of {H : Type} {encH : TypeId × Value → H} {P : Program} {w : World} {base : Nat} {spare : Nat → Bool} {held : Bool} {m : Nat} {fs : Array Field} {cs : List Value} {ds : List (DataW H)}
    (hf : ∀ (j : Nat) (f : Field), fs[j]? = some f → ∃ y, y.1 ∈ ds ∧ DataW.trod encH P w base spare held m f.type ((cs.drop f.offset).take (P.cellsOf f.type)) = some y) (j : Nat) {t o k : Nat} (hj : fs[j]?.map (fun f => (f.type, f.offset)) = some (t, o)) (hk : P.cellsOf t = k) :
    ∃ y, y.1 ∈ ds ∧ DataW.trod encH P w base spare held m t ((cs.drop o).take k) = some y := by
  cases hfj : fs[j]? with
  | none => rw [hfj] at hj; cases hj
  | some f =>
    rw [hfj] at hj
    simp only [Option.map_some, Option.some.injEq, Prod.mk.injEq] at hj
    obtain ⟨rfl, rfl⟩ := hj
    rw [← hk]
    exact hf j f hfj

section
variable {H : Type} {encH : TypeId × Value → H} {w : World} {base : Nat} {spare : Nat → Bool} {held : Bool} {n : Nat} {cs : List Value} {y : DataW H × List MemPlace}

theorem int_in {c : Value} (h : DataW.trod encH Tryd.prog w base spare held n 3 [c] = some y) : ∃ i, c = .int .i64 i ∧ i64 i := by
  obtain ⟨i, hc, _, hw⟩ := DataW.trod_int Tryd.underlying3 h
  simp only [List.cons.injEq, and_true] at hc
  exact ⟨i, hc, i64_of hw⟩
theorem bool_in {c : Value} (h : DataW.trod encH Tryd.prog w base spare held n 4 [c] = some y) : ∃ b, c = .bool b := by
  obtain ⟨b, hc, _⟩ := DataW.trod_bool Tryd.underlying4 h
  simp only [List.cons.injEq, and_true] at hc
  exact ⟨b, hc⟩
theorem string_in {c : Value} (h : DataW.trod encH Tryd.prog w base spare held n 9 [c] = some y) : ∃ s : ByteArray, c = .string s ∧ s.size < Rows.uptoBulk y.1 := by
  obtain ⟨s, hc, hy, hw⟩ := DataW.trod_string Tryd.underlying9 h
  simp only [List.cons.injEq, and_true] at hc
  refine ⟨s, hc, ?_⟩
  rw [hy, bulk_text]
  simp

def PostR (d : DataW H) (x : PostD) : Prop := x.name.size < Rows.uptoBulk d ∧ i64 x.kind
def QueueR (d : DataW H) (x : QueueD) : Prop := x.name.size < Rows.uptoBulk d ∧ i64 x.limit ∧ i64 x.dead
def BindR (d : DataW H) (x : BindD) : Prop := x.pattern.size < Rows.uptoBulk d ∧ i64 x.src ∧ i64 x.to

theorem post_in (h : DataW.trod encH Tryd.prog w base spare held n 81 cs = some y) : ∃ x, cs = vPost x ∧ PostR y.1 x := by
  obtain ⟨xs, m, hx, hl, hlen, hf⟩ := cells_struct Tryd.underlying81 h
  obtain ⟨c0, c1, rfl⟩ := len2 (hl.trans (show Tryd.prog.cellsOf 81 = 2 by kernel_rfl))
  obtain ⟨y0, m0, h0⟩ := field_of hf 0 rfl cString
  obtain ⟨y1, m1, h1⟩ := field_of hf 1 rfl cInt
  obtain ⟨s, rfl, hs⟩ := string_in h0
  obtain ⟨i, rfl, hi⟩ := int_in h1
  rw [hx]
  exact ⟨⟨s, i⟩, rfl, Nat.lt_trans hs (bulk_agg m0), hi⟩

theorem queue_in (h : DataW.trod encH Tryd.prog w base spare held n 83 cs = some y) : ∃ x, cs = vQueue x ∧ QueueR y.1 x := by
  obtain ⟨xs, m, hx, hl, hlen, hf⟩ := cells_struct Tryd.underlying83 h
  obtain ⟨c0, c1, c2, rfl⟩ := len3 (hl.trans (show Tryd.prog.cellsOf 83 = 3 by kernel_rfl))
  obtain ⟨y0, m0, h0⟩ := field_of hf 0 rfl cString
  obtain ⟨y1, m1, h1⟩ := field_of hf 1 rfl cInt
  obtain ⟨y2, m2, h2⟩ := field_of hf 2 rfl cInt
  obtain ⟨s, rfl, hs⟩ := string_in h0
  obtain ⟨i, rfl, hi⟩ := int_in h1
  obtain ⟨j, rfl, hj⟩ := int_in h2
  rw [hx]
  exact ⟨⟨s, i, j⟩, rfl, Nat.lt_trans hs (bulk_agg m0), hi, hj⟩

theorem bind_in (h : DataW.trod encH Tryd.prog w base spare held n 64 cs = some y) : ∃ x, cs = vBind x ∧ BindR y.1 x := by
  obtain ⟨xs, m, hx, hl, hlen, hf⟩ := cells_struct Tryd.underlying64 h
  obtain ⟨c0, c1, c2, c3, rfl⟩ := len4 (hl.trans (show Tryd.prog.cellsOf 64 = 4 by kernel_rfl))
  obtain ⟨y0, m0, h0⟩ := field_of hf 0 rfl cInt
  obtain ⟨y1, m1, h1⟩ := field_of hf 1 rfl cBool
  obtain ⟨y2, m2, h2⟩ := field_of hf 2 rfl cInt
  obtain ⟨y3, m3, h3⟩ := field_of hf 3 rfl cString
  obtain ⟨i, rfl, hi⟩ := int_in h0
  obtain ⟨b, rfl⟩ := bool_in h1
  obtain ⟨j, rfl, hj⟩ := int_in h2
  obtain ⟨s, rfl, hs⟩ := string_in h3
  rw [hx]
  exact ⟨⟨i, b, j, s⟩, rfl, Nat.lt_trans hs (bulk_agg m3), hi, hj⟩

/-- The ints of a plan that came in are ints. -/
structure PlanInts (p : PlanD) : Prop where
  post : ∀ x ∈ p.posts, i64 x.kind
  queue : ∀ x ∈ p.queues, i64 x.limit ∧ i64 x.dead
  bind : ∀ x ∈ p.binds, i64 x.src ∧ i64 x.to

theorem plan_cells (h : DataW.trod encH Tryd.prog w base spare held n 26 cs = some y) (hB : Rows.uptoBulk y.1 ≤ 1048576) :
    ∃ (p : PlanD) (a1 a2 a3 : Option Addr) (c1 c2 c3 : Nat), cs = [.slice a1 p.posts.length c1, .slice a2 p.queues.length c2, .slice a3 p.binds.length c3] ∧ PlanAt w 0 w.heap.size a1 a2 a3 p ∧ PlanSmall p ∧ PlanInts p ∧
      p.posts.length ≤ c1 ∧ p.queues.length ≤ c2 ∧ p.binds.length ≤ c3 := by
  obtain ⟨xs, m, hx, hl, hlen, hf⟩ := cells_struct Tryd.underlying26 h
  obtain ⟨v0, v1, v2, rfl⟩ := len3 (hl.trans (show Tryd.prog.cellsOf 26 = 3 by kernel_rfl))
  obtain ⟨y0, m0, h0⟩ := field_of hf 0 rfl (show Tryd.prog.cellsOf 22 = 1 by kernel_rfl)
  obtain ⟨y1, m1, h1⟩ := field_of hf 1 rfl (show Tryd.prog.cellsOf 23 = 1 by kernel_rfl)
  obtain ⟨y2, m2, h2⟩ := field_of hf 2 rfl (show Tryd.prog.cellsOf 24 = 1 by kernel_rfl)
  rw [hx] at hB
  have b0 := bulk_agg m0
  have b1 := bulk_agg m1
  have b2 := bulk_agg m2
  obtain ⟨a1, c1, ps, e1, k1, _, s1, n1, r1, _⟩ := open_list (enc := vPost) PostR Tryd.underlying22 (show Tryd.prog.cellsOf 81 = 2 by kernel_rfl) (by decide) vPost_len (fun _ _ _ => post_in) h0
  obtain ⟨a2, c2, qs, e2, k2, _, s2, n2, r2, _⟩ := open_list (enc := vQueue) QueueR Tryd.underlying23 (show Tryd.prog.cellsOf 83 = 3 by kernel_rfl) (by decide) vQueue_len (fun _ _ _ => queue_in) h1
  obtain ⟨a3, c3, bs, e3, k3, _, s3, n3, r3, _⟩ := open_list (enc := vBind) BindR Tryd.underlying24 (show Tryd.prog.cellsOf 64 = 4 by kernel_rfl) (by decide) vBind_len (fun _ _ _ => bind_in) h2
  have e1' : v0 = .slice a1 ps.length c1 := by simpa using e1
  have e2' : v1 = .slice a2 qs.length c2 := by simpa using e2
  have e3' : v2 = .slice a3 bs.length c3 := by simpa using e3
  subst e1' e2' e3'
  refine ⟨⟨ps, qs, bs⟩, a1, a2, a3, c1, c2, c3, rfl, ⟨s1, s2, s3⟩, ⟨?_, ?_, ?_, ?_, ?_, ?_⟩, ⟨?_, ?_, ?_⟩, k1, k2, k3⟩
  · exact Nat.le_trans (Nat.le_of_lt (Nat.lt_trans n1 b0)) hB
  · exact Nat.le_trans (Nat.le_of_lt (Nat.lt_trans n2 b1)) hB
  · exact Nat.le_trans (Nat.le_of_lt (Nat.lt_trans n3 b2)) hB
  · intro x hx
    obtain ⟨d, hd, hb⟩ := r1 x hx
    have := hd.1
    omega
  · intro x hx
    obtain ⟨d, hd, hb⟩ := r2 x hx
    have := hd.1
    omega
  · intro x hx
    obtain ⟨d, hd, hb⟩ := r3 x hx
    have := hd.1
    omega
  · intro x hx
    obtain ⟨d, hd, hb⟩ := r1 x hx
    exact hd.2
  · intro x hx
    obtain ⟨d, hd, hb⟩ := r2 x hx
    exact hd.2
  · intro x hx
    obtain ⟨d, hd, hb⟩ := r3 x hx
    exact hd.2

/-- A plan among the arguments. -/
theorem open_plan {r : Reach} {b0 : Nat} {v : Value} {d : DataW H} {p : List MemPlace} (hv : Value.okWide Tryd.prog w r b0 26 v) (h : DataW.Trod encH Tryd.prog w base spare held 26 v d p) (hB : Rows.uptoBulk d ≤ 1048576) :
    ∃ (p : PlanD) (a1 a2 a3 : Option Addr) (c1 c2 c3 : Nat), v = planV p a1 a2 a3 c1 c2 c3 ∧ PlanAt w 0 w.heap.size a1 a2 a3 p ∧ PlanSmall p ∧ PlanInts p ∧ p.posts.length ≤ c1 ∧ p.queues.length ≤ c2 ∧ p.binds.length ≤ c3 := by
  obtain ⟨cs, rfl, hsz⟩ := okWide_struct Tryd.underlying26 hv
  obtain ⟨fuel, hf⟩ := h
  obtain ⟨p, a1, a2, a3, c1, c2, c3, hc, k⟩ := plan_cells hf hB
  refine ⟨p, a1, a2, a3, c1, c2, c3, ?_, k⟩
  have : cs.toList = _ := hc
  obtain ⟨l⟩ := cs
  simp only at this
  subst this
  rfl

end
end Go.Proofs.YtapimpmpjighmaaDoor
