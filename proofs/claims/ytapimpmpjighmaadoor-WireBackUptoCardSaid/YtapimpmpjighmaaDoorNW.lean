/-
  A region that draws its order, walked in one named order: what the order needs is checked once, for all ways through the region.
-/
import Derived.Deep.RegionHeld3
namespace Go.Proofs.YtapimpmpjighmaaDoor

section
variable {P : Program} {ops : Array Oper} {Q : Exit → Act → World → Prop} {md : Region.Mode} {S : World → Prop}

/-- May the operations be taken in this order? (true: the operation is carried out, as the only one that may come up.) -/
def ordOK (md : Region.Mode) (ops : Array Oper) : Array Bool → List (Nat × Bool) → Bool
  | listed, [] => (Region.ready md ops listed).isEmpty
  | listed, (i, true) :: r => (Region.ready md ops listed == [i]) && ordOK md ops (listed.setIfInBounds i true) r
  | listed, (i, false) :: r => Region.free md ops listed i && (Region.ready md ops listed).contains i && ordOK md ops (listed.setIfInBounds i true) r

/-- The walk in that order. -/
def NW (P : Program) (ops : Array Oper) (Q : Exit → Act → World → Prop) (S : World → Prop) : List (Nat × Bool) → Act → World → Prop
  | [], a, w => Q .normal a w
  | (i, false) :: r, a, w => ∃ oi v, ops[i]? = some oi ∧ (∀ c a w, Q (.panic c) (a.put oi.dst v) w → Q (.panic c) a w) ∧ YieldsIf P ops S oi v a ∧ NW P ops Q S r (a.put oi.dst v) w
  | (i, true) :: r, a, w => wpOp P ops Q i (fun a' w' => S w' ∧ NW P ops Q S r a' w') a w

theorem NW.any (hs : Region.noSelect ops = true) : ∀ (order : List (Nat × Bool)) (listed : Array Bool) (a : Act) (w : World), ordOK md ops listed order = true → S w → NW P ops Q S order a w → wpAnyH P md ops Q S order.length listed a w
  | [], listed, a, w, hok, _, h => wpAnyH_done (List.isEmpty_iff.1 hok) h _
  | (i, false) :: r, listed, a, w, hok, hS, h => by
    obtain ⟨oi, v, hi, hQ, hy, h⟩ := h
    simp only [ordOK, Bool.and_eq_true] at hok
    exact wpAnyH_take hi hs hok.1.1 hok.1.2 hQ hy hS (NW.any hs r _ _ w hok.2 hS h)
  | (i, true) :: r, listed, a, w, hok, hS, h => by
    simp only [ordOK, Bool.and_eq_true, beq_iff_eq] at hok
    refine wpAnyH_all hok.1 (by simp) fun j hj => ?_
    obtain rfl := List.mem_singleton.1 hj
    exact wpOp_mono (fun a' w' h' => ⟨h'.1, NW.any hs r _ a' w' hok.2 h'.1 h'.2⟩) h

/-- What the order needs, laid ahead of the ways. -/
def OrdFits (ops : Array Oper) (order : List (Nat × Bool)) : Prop := Region.noSelect ops = true ∧ ordOK .any ops (Array.replicate ops.size false) order = true ∧ order.length = ops.size
theorem nw_lay (order : List (Nat × Bool)) {id : Nat} {a : Act} {w : World} (h1 : (Region.noSelect ops && ordOK .any ops (Array.replicate ops.size false) order && decide (order.length = ops.size)) = true)
    (h : Shut (OrdFits ops order) → (Code.region id ops true).wp P Q a w) : (Code.region id ops true).wp P Q a w := by
  simp only [Bool.and_eq_true, decide_eq_true_eq] at h1
  exact h ⟨h1.1.1, h1.1.2, h1.2⟩
theorem nw_go {order : List (Nat × Bool)} {id : Nat} {a : Act} {w : World} (ho : Shut (OrdFits ops order)) (hm : P.follows .mixedOrders = true) (hS : S w.drew)
    (h : S w.drew → NW P ops Q S order a w.drew) : (Code.region id ops true).wp P Q a w := by
  obtain ⟨h1, h2, h3⟩ := ho.out
  refine wp_region_held_drew hm hS fun hS => ?_
  have := NW.any h1 order _ a _ h2 hS (h hS)
  rw [h3] at this
  exact this

theorem NW.take {i : Nat} {oi : Oper} {v : Value} {r : List (Nat × Bool)} {a : Act} {w : World} (hi : ops[i]? = some oi) (hQ : ∀ c a w, Q (.panic c) (a.put oi.dst v) w → Q (.panic c) a w) (hy : YieldsIf P ops S oi v a)
    (h : NW P ops Q S r (a.put oi.dst v) w) : NW P ops Q S ((i, false) :: r) a w := ⟨oi, v, hi, hQ, hy, h⟩
theorem NW.leave {i : Nat} {oi : Oper} {c : Bool} {r : List (Nat × Bool)} {a : Act} {w : World} (hi : ops[i]? = some oi) (hQ : ∀ c a w, Q (.panic c) (a.put oi.dst undef) w → Q (.panic c) a w) (hw : Region.wanted oi (yielded ops a.tmps) = false) (hS : S w)
    (h : NW P ops Q S r (a.put oi.dst undef) w) : NW P ops Q S ((i, c) :: r) a w := by
  cases c
  · exact ⟨oi, undef, hi, hQ, .inr ⟨hw, rfl⟩, h⟩
  · show wpOp P ops Q i _ a w
    unfold wpOp
    simp only [hi, hw, Bool.false_eq_true, if_false]
    exact ⟨hS, h⟩
theorem NW.call {i : Nat} {o : Oper} {r : List (Nat × Bool)} {a : Act} {w : World} (hi : ops[i]? = some o)
    (h : ∀ K' : Act → World → Prop, Shut (∀ a w, S w → (S w → NW P ops Q S r a w) → K' a w) → if Region.wanted o (yielded ops a.tmps) = true then Oper.wp P o a w K' Q else K' (a.put o.dst undef) w) : NW P ops Q S ((i, true) :: r) a w :=
  wpOp_step hi (fun K' hK => h K' (fun a w hS hW => hK a w ⟨hS, hW hS⟩))
theorem NW.done {a : Act} {w : World} (h : Q .normal a w) : NW P ops Q S [] a w := h
end

end Go.Proofs.YtapimpmpjighmaaDoor
