/-
  A bind among the arguments; a plan among them, to which binds are added.
-/
import Derived.Test.YtapimpmpjighmaaDoorBunA
set_option linter.unusedSimpArgs false
set_option linter.unusedVariables false
namespace Go.Proofs.YtapimpmpjighmaaDoor
open Go.RowKit Go.ChangeShapes Go.WideShapes Go.Deep
set_option maxRecDepth 100000
section
variable {H : Type} {encH : TypeId × Value → H} {w : World} {base : Nat} {spare : Nat → Bool} {held : Bool} {n : Nat} {cs : List Value} {y : DataW H × List MemPlace}

theorem plan_cellsN (h : DataW.trod encH Tryd.prog w base spare held n 26 cs = some y) (hB : Rows.uptoBulk y.1 ≤ 1048576) :
    ∃ (p : PlanD) (a1 a2 a3 : Option Addr) (c1 c2 c3 : Nat), cs = [.slice a1 p.posts.length c1, .slice a2 p.queues.length c2, .slice a3 p.binds.length c3] ∧ PlanAt w 0 w.heap.size a1 a2 a3 p ∧ PlanSmall p ∧ PlanInts p ∧
      p.posts.length ≤ c1 ∧ p.queues.length ≤ c2 ∧ p.binds.length ≤ c3 ∧ p.binds.length + 2 ≤ 1048576 := by
  obtain ⟨xs, m, hx, hl, hlen, hf⟩ := cells_struct Tryd.underlying26 h
  obtain ⟨v0, v1, v2, rfl⟩ := len3 (hl.trans (show Tryd.prog.cellsOf 26 = 3 by kernel_rfl))
  obtain ⟨y0, m0, h0⟩ := field_of hf 0 rfl (show Tryd.prog.cellsOf 22 = 1 by kernel_rfl)
  obtain ⟨y1, m1, h1⟩ := field_of hf 1 rfl (show Tryd.prog.cellsOf 23 = 1 by kernel_rfl)
  obtain ⟨y2, m2, h2⟩ := field_of hf 2 rfl (show Tryd.prog.cellsOf 24 = 1 by kernel_rfl)
  rw [hx] at hB
  have b0 := bulk_agg m0
  have b1 := bulk_agg m1
  have b2 := bulk_agg m2
  obtain ⟨a1, c1, ps, e1, k1, _, s1, n1, r1, _⟩ := open_list (enc := vPost) PostR Tryd.underlying22 (show Tryd.prog.cellsOf 81 = 2 by kernel_rfl) (by decide) vPost_len (fun _ _ _ => post_in) h0
  obtain ⟨a2, c2, qs, e2, k2, _, s2, n2, r2, _⟩ := open_list (enc := vQueue) QueueR Tryd.underlying23 (show Tryd.prog.cellsOf 83 = 3 by kernel_rfl) (by decide) vQueue_len (fun _ _ _ => queue_in) h1
  obtain ⟨a3, c3, bs, e3, k3, _, s3, n3, r3, _⟩ := open_list (enc := vBind) BindR Tryd.underlying24 (show Tryd.prog.cellsOf 64 = 4 by kernel_rfl) (by decide) vBind_len (fun _ _ _ => bind_in) h2
  have e1' : v0 = .slice a1 ps.length c1 := by simpa using e1
  have e2' : v1 = .slice a2 qs.length c2 := by simpa using e2
  have e3' : v2 = .slice a3 bs.length c3 := by simpa using e3
  subst e1' e2' e3'
  refine ⟨⟨ps, qs, bs⟩, a1, a2, a3, c1, c2, c3, rfl, ⟨s1, s2, s3⟩, ⟨?_, ?_, ?_, ?_, ?_, ?_⟩, ⟨?_, ?_, ?_⟩, k1, k2, k3, by simp only; omega⟩
  · exact Nat.le_trans (Nat.le_of_lt (Nat.lt_trans n1 b0)) hB
  · exact Nat.le_trans (Nat.le_of_lt (Nat.lt_trans n2 b1)) hB
  · exact Nat.le_trans (Nat.le_of_lt (Nat.lt_trans n3 b2)) hB
  · intro x hx
    obtain ⟨d, hd, hb⟩ := r1 x hx
    have := hd.1
    omega
  · intro x hx
    obtain ⟨d, hd, hb⟩ := r2 x hx
    have := hd.1
    omega
  · intro x hx
    obtain ⟨d, hd, hb⟩ := r3 x hx
    have := hd.1
    omega
  · intro x hx
    obtain ⟨d, hd, hb⟩ := r1 x hx
    exact hd.2
  · intro x hx
    obtain ⟨d, hd, hb⟩ := r2 x hx
    exact hd.2
  · intro x hx
    obtain ⟨d, hd, hb⟩ := r3 x hx
    exact hd.2

/-- A plan among the arguments, whose binds are not quite as many as may be. -/
theorem open_planN {r : Reach} {b0 : Nat} {v : Value} {d : DataW H} {p : List MemPlace} (hv : Value.okWide Tryd.prog w r b0 26 v) (h : DataW.Trod encH Tryd.prog w base spare held 26 v d p) (hB : Rows.uptoBulk d ≤ 1048576) :
    ∃ (p : PlanD) (a1 a2 a3 : Option Addr) (c1 c2 c3 : Nat), v = planV p a1 a2 a3 c1 c2 c3 ∧ PlanAt w 0 w.heap.size a1 a2 a3 p ∧ PlanSmall p ∧ PlanInts p ∧ p.posts.length ≤ c1 ∧ p.queues.length ≤ c2 ∧ p.binds.length ≤ c3 ∧ p.binds.length + 2 ≤ 1048576 := by
  obtain ⟨cs, rfl, hsz⟩ := okWide_struct Tryd.underlying26 hv
  obtain ⟨fuel, hf⟩ := h
  obtain ⟨p, a1, a2, a3, c1, c2, c3, hc, k⟩ := plan_cellsN hf hB
  refine ⟨p, a1, a2, a3, c1, c2, c3, ?_, k⟩
  have : cs.toList = _ := hc
  obtain ⟨l⟩ := cs
  simp only at this
  subst this
  rfl

/-- A bind among the arguments. -/
theorem open_bind {r : Reach} {b0 : Nat} {v : Value} {d : DataW H} {p : List MemPlace} (hv : Value.okWide Tryd.prog w r b0 64 v) (h : DataW.Trod encH Tryd.prog w base spare held 64 v d p) (hB : Rows.uptoBulk d ≤ 1048576) :
    ∃ x : BindD, v = .agg (vBind x).toArray ∧ x.pattern.size ≤ 1048576 := by
  obtain ⟨cs, rfl, hsz⟩ := okWide_struct Tryd.underlying64 hv
  obtain ⟨fuel, hf⟩ := h
  obtain ⟨x, hc, hr⟩ := bind_in hf
  refine ⟨x, congrArg Value.agg (Array.toList_inj.1 ?_), by have := hr.1; simp only at this; omega⟩
  exact hc

end
end Go.Proofs.YtapimpmpjighmaaDoor
