/-
  route.Way: one round of the range over the binds.
  route.Way: the loop over the roads of one length.
  route.Way: the walk.
  SameInts; routeBegun answers true: what must be in any case of routes.
-/
import Derived.Test.YtapimpmpjighmaaGreatDoorBunO
import Derived.Test.YtapimpmpjighmaaGreatDoorBunD
import Derived.Deep.QuietTactic
import Derived.BigQuiet
set_option linter.unusedSimpArgs false
set_option linter.unusedVariables false
namespace Go.Proofs.YtapimpmpjighmaaGreatDoor
open Go Go.RowKit Go.Shelf Go.Sort
set_option maxRecDepth 100000
attribute [local go_sem] Oper.semAt_some

theorem bk_ty {w : World} {g : Nat} {t t' : TypeId} {cs cs' : Array Value} (h : Bk w g t cs) (h' : Bk w g t' cs') : t = t' := by
  have := (show w.heap[g]? = _ from h).symm.trans h'
  simp only [Option.some.injEq, Obj.cells.injEq] at this
  exact this.2.1
theorem own_bkR {w : World} {B k size n : Nat} {e t : TypeId} {v : Value} {us : List Value} {cs : Array Value} (h : w.ownsRow B e size v n us) (hb : Bk w k t cs) (ht : e ≠ t) : some k ≠ v.ownBlock := by
  rcases h.2 with ⟨rfl, _⟩ | ⟨g2, cap, cur, rfl, _, h3, _⟩
  · simp [Value.ownBlock]
  · intro e'
    obtain rfl : k = g2 := by simpa [Value.ownBlock] using e'
    exact ht (bk_ty h3 hb)

/-- What one step of the round leaves: but for the map, the box of the next roads and their row all that lay below B1; ints wherever they lie. -/
structure Stp (B1 g bn : Nat) (vn0 : Value) (W W' : World) : Prop where
  kept : ∀ b, b < B1 → b ≠ g → b ≠ bn → vn0.ownBlock ≠ some b → W'.heap[b]? = W.heap[b]?
  keeps : KeepsFrom B1 W W'
  ints : ∀ b cs, Bk W b 3 cs → Bk W' b 3 cs
  size : W.heap.size ≤ W'.heap.size
theorem Stp.refl (B1 g bn : Nat) (vn0 : Value) (W : World) : Stp B1 g bn vn0 W W := ⟨fun _ _ _ _ _ => rfl, KeepsFrom.refl _ _, fun _ _ h => h, Nat.le_refl _⟩
theorem Stp.trans {B1 g bn : Nat} {vn0 : Value} {A B C : World} (h : Stp B1 g bn vn0 A B) (k : Stp B1 g bn vn0 B C) : Stp B1 g bn vn0 A C :=
  ⟨fun b h1 h2 h3 h4 => (k.kept b h1 h2 h3 h4).trans (h.kept b h1 h2 h3 h4), h.keeps.trans k.keeps, fun b cs hb => k.ints b cs (h.ints b cs hb), Nat.le_trans h.size k.size⟩
theorem Stp.of_below {B1 g bn : Nat} {vn0 : Value} {W W' : World} (hB : B1 ≤ W.heap.size) (h : Below W.heap.size W W') : Stp B1 g bn vn0 W W' :=
  ⟨fun b hb _ _ _ => h.block b (by omega), ⟨h.size, fun k o _ h1 _ => (h.block k (Array.getElem?_eq_some_iff.1 h1).1).trans h1⟩, fun _ _ hb => hb.below h hb.lt, h.size⟩
theorem Stp.of_map {B1 g bn : Nat} {vn0 : Value} {W W' : World} (hB : B1 ≤ W.heap.size) (hg : W.grownBy W' (some g)) (hlt : g < B1) (hm : ∃ o : Obj, W.heap[g]? = some o ∧ o.isCells = false) : Stp B1 g bn vn0 W W' :=
  ⟨fun b hb h1 _ _ => hg.block b (by omega) (fun e => h1 (by cases e; rfl)), ⟨hg.size, fun k o hk h1 _ => (hg.block k (Array.getElem?_eq_some_iff.1 h1).1 (fun e => by cases e; omega)).trans h1⟩, fun b cs hb => hb.grown hg (fun e => by
      obtain rfl : b = g := by simpa using e
      obtain ⟨o, ho, hc⟩ := hm
      rw [show W.heap[b]? = _ from hb] at ho
      obtain rfl : _ = o := by simpa using ho
      cases hc), hg.size⟩
/-- A store into the box of the next roads. -/
theorem Stp.of_set {B1 g bn : Nat} {vn0 : Value} {W : World} {t : TypeId} {cs : Array Value} (hb : Bk W bn t cs) (ht : t ≠ 3) (v : Value) : Stp B1 g bn vn0 W (W.setCell ⟨bn, 0, none⟩ v) :=
  ⟨fun b _ _ h2 _ => Below.heap_setCell W ⟨bn, 0, none⟩ v b h2, (KeepsOthers.setCell W _ _).from _, fun b cs' hb' => hb'.far (p := ⟨bn, 0, none⟩) (fun e : b = bn => by
      subst e
      exact ht (bk_ty hb hb')) v, by simp [World.setCell]⟩
/-- An append to the next roads. -/
theorem Stp.of_own {B1 g bn : Nat} {base n : Nat} {vn0 vn : Value} {us : List Value} {W W' : World} (hB : B1 ≤ W.heap.size) (ho : W.ownsRow base 66 2 vn n us) (hg : W.grownBy W' vn.ownBlock) (hv : ∀ b, vn.ownBlock = some b → vn0.ownBlock = some b ∨ B1 ≤ b) : Stp B1 g bn vn0 W W' :=
  ⟨fun b hb _ _ h3 => hg.block b (by omega) (fun e => by
      rcases hv b e.symm with h | h
      · exact h3 h
      · omega),
    ⟨hg.size, fun k o hk h1 hc => (hg.block k (Array.getElem?_eq_some_iff.1 h1).1 (fun e => by
      rcases ho.2 with ⟨rfl, _⟩ | ⟨g2, cap, cur, rfl, _, h3, _⟩
      · cases e
      · obtain rfl : k = g2 := by simpa [Value.ownBlock] using e
        rw [h3] at h1
        cases h1
        cases hc)).trans h1⟩,
    fun b cs hb => hb.grown hg (own_bkR ho hb (by decide)), hg.size⟩

/-- What is fixed while the binds of one road are gone through. -/
structure WFix (q : Int) (w W2 : World) (bs g bn br : Nat) (vn0 vb : Value) (r : Road) : Prop where
  queue : Bk W2 (w.heap.size + 1) 3 #[.int .i64 q]
  c8 : Bk W2 (w.heap.size + 1 + 1) 27 #[.slice none 0 0]
  c9 : Bk W2 (w.heap.size + 1 + 1 + 1) 4 #[.bool false]
  c10 : Bk W2 (w.heap.size + 1 + 1 + 1 + 1) 28 #[.int .i64 0]
  box : Bk W2 bs 64 #[.map (some g)]
  road : Bk W2 br 66 #[.int .i64 r.1, vb]
  binds : IntsO W2 w.heap.size vb r.2
  next : ∃ cs, Bk W2 bn 67 cs
  map : ∃ o : Obj, W2.heap[g]? = some o ∧ o.isCells = false
  own : ∀ b, vn0.ownBlock = some b → ∃ cs, Bk W2 b 66 cs
  ne : vn0.ownBlock ≠ some br
  far : w.heap.size + 5 ≤ g ∧ w.heap.size + 5 ≤ bn
/-- What holds when so many binds of it were gone. -/
structure WI (p : PlanD) (n0 : Nat) (q : Int) (w W2 : World) (g bn : Nat) (vn0 : Value) (r : Road) (s0 : List Int × List Road) (pre : List (Nat × BindD)) (W : World) : Prop where
  map : SeenM W g (pre.foldl (stepW r.2) s0).1
  box : ∃ vn, Bk W bn 67 #[vn] ∧ RoadsAt W w.heap.size vn (pre.foldl (stepW r.2) s0).2 ∧ ∀ b, vn.ownBlock = some b → vn0.ownBlock = some b ∨ W2.heap.size ≤ b
  kept : ∀ b, b < W2.heap.size → b ≠ g → b ≠ bn → vn0.ownBlock ≠ some b → W.heap[b]? = W2.heap[b]?
  below : Below w.heap.size w W
  size : W2.heap.size ≤ W.heap.size
  no : ∀ y ∈ pre, stopsW q y = false
  ok : WayOk p n0 (pre.foldl (stepW r.2) s0)
theorem WI.bk {p : PlanD} {n0 : Nat} {q : Int} {w W2 W : World} {bs g bn br : Nat} {vn0 vb : Value} {r : Road} {s0 : List Int × List Road} {pre : List (Nat × BindD)} (hI : WI p n0 q w W2 g bn vn0 r s0 pre W) (hF : WFix q w W2 bs g bn br vn0 vb r)
    {b : Nat} {t : TypeId} {cs : Array Value} (hb : Bk W2 b t cs) (h1 : t ≠ 67) (h2 : vn0.ownBlock ≠ some b) : Bk W b t cs := by
  refine (hI.kept b hb.lt (fun e => ?_) (fun e => ?_) h2).trans hb
  · subst e
    obtain ⟨o, ho, hc⟩ := hF.map
    rw [show W2.heap[b]? = _ from hb] at ho
    cases ho
    cases hc
  · subst e
    obtain ⟨cs', hc⟩ := hF.next
    exact h1 (bk_ty hb hc)
theorem WFix.nown {q : Int} {w W2 : World} {bs g bn br : Nat} {vn0 vb : Value} {r : Road} (hF : WFix q w W2 bs g bn br vn0 vb r) {b : Nat} {t : TypeId} {cs : Array Value} (hb : Bk W2 b t cs) (h1 : t ≠ 66) : vn0.ownBlock ≠ some b := fun e => by
  obtain ⟨cs', hc⟩ := hF.own b e
  exact h1 (bk_ty hb hc)
/-- The way is found: what lies in the results. -/
structure WX (q : Int) (w : World) (r : Road) (W2 : World) (g bn : Nat) (vn0 : Value) (pre : List (Nat × BindD)) (W : World) : Prop where
  at_ : ∃ (ps : List (Nat × BindD)) (y : Nat × BindD) (v : Value), pre = ps ++ [y] ∧ (∀ z ∈ ps, stopsW q z = false) ∧ stopsW q y = true ∧ Bk W (w.heap.size + 1 + 1) 27 #[v] ∧ IntsO W w.heap.size v (r.2 ++ [(y.1 : Int)])
  c9 : Bk W (w.heap.size + 1 + 1 + 1) 4 #[.bool true]
  c10 : Bk W (w.heap.size + 1 + 1 + 1 + 1) 28 #[.int .i64 0]
  kept : ∀ b, b < W2.heap.size → b ≠ g → b ≠ bn → vn0.ownBlock ≠ some b → (b < w.heap.size + 2 ∨ w.heap.size + 5 ≤ b) → W.heap[b]? = W2.heap[b]?
  below : Below w.heap.size w W
  size : W2.heap.size ≤ W.heap.size
def WQ (p : PlanD) (n0 : Nat) (q : Int) (w W2 : World) (g bn : Nat) (vn0 : Value) (r : Road) (s0 : List Int × List Road) (pre : List (Nat × BindD)) (W : World) : Exit → Act → World → Prop
  | .normal, _, W3 => Stp W2.heap.size g bn vn0 W W3 ∧ WI p n0 q w W2 g bn vn0 r s0 pre W3
  | .ret, _, W3 => KeepsFrom W2.heap.size W W3 ∧ WX q w r W2 g bn vn0 pre W3
  | _, _, _ => False
theorem RoadsAt.stp {B1 g bn base : Nat} {vn0 vn : Value} {W W' : World} {rs : List Road} (h : RoadsAt W base vn rs) (hs : Stp B1 g bn vn0 W W') (hv : ∀ b, vn.ownBlock = some b → W'.heap[b]? = W.heap[b]?) : RoadsAt W' base vn rs := h.stays hs.ints hv
theorem IntsO.stp {B1 g bn base : Nat} {vn0 v : Value} {W W' : World} {xs : List Int} (h : IntsO W base v xs) (hs : Stp B1 g bn vn0 W W') : IntsO W' base v xs := h.stays hs.ints
/-- Nothing that is held here changes when only new memory is made. -/
theorem WI.on {p : PlanD} {n0 : Nat} {q : Int} {w W2 W W' : World} {g bn : Nat} {vn0 : Value} {r : Road} {s0 : List Int × List Road} {pre pre' : List (Nat × BindD)} (hI : WI p n0 q w W2 g bn vn0 r s0 pre W) (hb : Below W.heap.size W W')
    (he : pre'.foldl (stepW r.2) s0 = pre.foldl (stepW r.2) s0) (hno : ∀ y ∈ pre', stopsW q y = false) : WI p n0 q w W2 g bn vn0 r s0 pre' W' := by
  obtain ⟨vn, b1, b2, b3⟩ := hI.box
  refine ⟨?_, ⟨vn, b1.below hb b1.lt, ?_, b3⟩, fun b h1 h2 h3 h4 => (hb.block b (Nat.lt_of_lt_of_le h1 hI.size)).trans (hI.kept b h1 h2 h3 h4), hI.below.trans (hb.mono hI.below.size), Nat.le_trans hI.size hb.size, hno, by rw [he]; exact hI.ok⟩
  · rw [he]
    obtain ⟨D, h1, h2⟩ := hI.map
    exact ⟨D, h1.kept (row := none) ⟨hb.os, hb.tape, hb.output, hb.size, fun k hk _ => hb.block k hk⟩ (by simp), h2⟩
  · rw [he]
    refine b2.stays (fun g cs h => h.below hb h.lt) fun g hg => ?_
    obtain ⟨bs', _, h2, _⟩ := b2
    exact hb.block g (h2.lt g hg).2

noncomputable def wayRange : Code × Code := (Tryz.f14.body.bind firstRange).getD (.skip, .skip)
theorem infoRoad : (Tryz.prog.info? 66).map (fun i => (i.zero, i.size, i.bytes)) = some (some (.agg #[.int .i64 0, .slice none 0 0]), 2, 32) := by kernel_rfl
theorem stops_yes {q : Int} {y : Nat × BindD} (h1 : y.2.toPost = false) (h2 : y.2.to = q) : stopsW q y = true := by simp [stopsW, h1, h2]
theorem stops_no {q : Int} {y : Nat × BindD} (h : y.2.toPost = true ∨ y.2.to ≠ q) : stopsW q y = false := by
  unfold stopsW
  rcases h with h | h
  · simp [h]
  · simp [h]
theorem snoc_no {q : Int} {pre : List (Nat × BindD)} {y : Nat × BindD} (h : ∀ z ∈ pre, stopsW q z = false) (hy : stopsW q y = false) : ∀ z ∈ pre ++ [y], stopsW q z = false := fun z hz => by
  rcases List.mem_append.1 hz with hz | hz
  · exact h z hz
  · obtain rfl : z = y := by simpa using hz
    exact hy
theorem snoc_step (l : List Int) (s0 : List Int × List Road) (pre : List (Nat × BindD)) (y : Nat × BindD) : (pre ++ [y]).foldl (stepW l) s0 = stepW l (pre.foldl (stepW l) s0) y := by rw [List.foldl_append]; rfl
theorem step_no {l : List Int} {s : List Int × List Road} {y : Nat × BindD} (h : y.2.toPost = false ∨ y.2.to ∈ s.1) : stepW l s y = s := by
  unfold stepW
  rw [if_neg]
  rintro ⟨h1, h2⟩
  rcases h with h | h
  · rw [h1] at h; cases h
  · exact h2 h
theorem step_yes {l : List Int} {s : List Int × List Road} {y : Nat × BindD} (h1 : y.2.toPost = true) (h2 : y.2.to ∉ s.1) : stepW l s y = (s.1 ++ [y.2.to], s.2 ++ [(y.2.to, l ++ [(y.1 : Int)])]) := by
  unfold stepW
  rw [if_pos ⟨h1, h2⟩]
/-- The row of the roads with one more. -/
theorem RoadsAt.snoc {W' : World} {base : Nat} {v' bv : Value} {rs : List Road} {r : Road} {bs : List Value} (hl : rs.length = bs.length) (hi : ∀ (j : Nat) (r : Road) (b : Value), rs[j]? = some r → bs[j]? = some b → IntsO W' base b r.2)
    (h : W'.ownsRow base 66 2 v' (rs.length + 1) (flatR rs bs ++ [.int .i64 r.1, bv])) (hb : IntsO W' base bv r.2) : RoadsAt W' base v' (rs ++ [r]) := by
  refine ⟨bs ++ [bv], by simp [hl], ?_, fun j x b hx hb' => ?_⟩
  · rw [flatR_snoc rs bs r bv hl, List.length_append]
    exact h
  · rcases Nat.lt_or_ge j rs.length with h1 | h1
    · rw [List.getElem?_append_left h1] at hx
      rw [List.getElem?_append_left (by omega)] at hb'
      exact hi j x b hx hb'
    · rw [List.getElem?_append_right h1] at hx
      rw [List.getElem?_append_right (by omega)] at hb'
      obtain ⟨e1, rfl⟩ : j - rs.length = 0 ∧ r = x := by
        cases hj : j - rs.length with
        | zero => rw [hj] at hx; simp at hx; exact ⟨rfl, hx⟩
        | succ m => rw [hj] at hx; simp at hx
      rw [show j - bs.length = 0 by omega] at hb'
      simp at hb'
      subst hb'
      exact hb

theorem way_int {W Wc w3 : World} {v v3 : Value} {xs : List Int} {i : Int} (h1 : IntsO Wc W.heap.size v xs) (h2 : Below W.heap.size W Wc) (h3 : w3.ownsRow W.heap.size 3 1 v3 (xs.length + 1) (xs.map (Value.int .i64) ++ [.int .i64 i])) (h4 : Wc.grownBy w3 v.ownBlock) :
    Hid (IntsO w3 W.heap.size v3 (xs ++ [i]) ∧ Below W.heap.size W w3) :=
  Lib.hid ⟨by unfold IntsO; rw [List.length_append, List.map_append]; exact h3, below_own h1 h4 h2 (Nat.le_refl _) h2.size⟩

theorem ints_set {W : World} {base b : Nat} {t : TypeId} {v : Value} {xs : List Int} {cs : Array Value} (h : IntsO W base v xs) (hb : Bk W b t cs) (ht : t ≠ 3) (u : Value) : IntsO (W.setCell ⟨b, 0, none⟩ u) base v xs :=
  h.stays fun g cs' hg => hg.far (p := ⟨b, 0, none⟩) (fun e : g = b => by subst e; exact ht (bk_ty hb hg)) u
theorem way_found {p : PlanD} {n0 : Nat} {q : Int} {w W2 W w3 : World} {g bn : Nat} {vn0 v : Value} {r : Road} {s0 : List Int × List Road} {pre : List (Nat × BindD)} {y : Nat × BindD} {a : Act} (hI : WI p n0 q w W2 g bn vn0 r s0 pre W) (hy : stopsW q y = true)
    (h1 : IntsO w3 W.heap.size v (r.2 ++ [(y.1 : Int)])) (h2 : Below W.heap.size W w3) (h8 : Bk W (w.heap.size + 1 + 1) 27 #[.slice none 0 0]) (h9 : Bk W (w.heap.size + 1 + 1 + 1) 4 #[.bool false]) (h10 : Bk W (w.heap.size + 1 + 1 + 1 + 1) 28 #[.int .i64 0]) :
    WQ p n0 q w W2 g bn vn0 r s0 (pre ++ [y]) W .ret a (((w3.setCell ⟨w.heap.size + 1 + 1, 0, none⟩ v).setCell ⟨w.heap.size + 1 + 1 + 1, 0, none⟩ (.bool true)).setCell ⟨w.heap.size + 1 + 1 + 1 + 1, 0, none⟩ (.int .i64 0)) := by
  have k8 := h8.below h2 h8.lt
  have k9 := h9.below h2 h9.lt
  have k10 := h10.below h2 h10.lt
  have b8 := k8.set_ 0 v
  have b9 := k9.far (p := ⟨w.heap.size + 1 + 1, 0, none⟩) (by simp) v
  have b9' := b9.set_ 0 (.bool true)
  have b10 := (k10.far (p := ⟨w.heap.size + 1 + 1, 0, none⟩) (by simp <;> omega) v).far (p := ⟨w.heap.size + 1 + 1 + 1, 0, none⟩) (by simp) (.bool true)
  have hbel := hI.below
  refine ⟨((Stp.of_below (g := g) (bn := bn) (vn0 := vn0) hI.size h2).keeps.trans ((KeepsOthers.setCell _ _ _).from _)).trans (((KeepsOthers.setCell _ _ _).from _).trans ((KeepsOthers.setCell _ _ _).from _)), ⟨⟨pre, y, v, rfl, hI.no, hy, ?_, ?_⟩, ?_, b10.set_ 0 _, fun b c1 c2 c3 c4 c5 => ?_, ?_, ?_⟩⟩
  · exact (b8.far (p := ⟨w.heap.size + 1 + 1 + 1, 0, none⟩) (by simp) _).far (p := ⟨w.heap.size + 1 + 1 + 1 + 1, 0, none⟩) (by simp <;> omega) _
  · exact IntsO.lower (ints_set (ints_set (ints_set h1 k8 (by decide) _) b9 (by decide) _) b10 (by decide) _) hbel.size
  · exact b9'.far (p := ⟨w.heap.size + 1 + 1 + 1 + 1, 0, none⟩) (by simp) _
  · rw [Below.heap_setCell _ ⟨w.heap.size + 1 + 1 + 1 + 1, 0, none⟩ _ b (by simp <;> omega), Below.heap_setCell _ ⟨w.heap.size + 1 + 1 + 1, 0, none⟩ _ b (by simp <;> omega), Below.heap_setCell _ ⟨w.heap.size + 1 + 1, 0, none⟩ _ b (by simp <;> omega)]
    exact (h2.block b (Nat.lt_of_lt_of_le c1 hI.size)).trans (hI.kept b c1 c2 c3 c4)
  · exact (((hbel.trans (h2.mono hbel.size)).setCell (p := ⟨w.heap.size + 1 + 1, 0, none⟩) (by simp <;> omega) _).setCell (p := ⟨w.heap.size + 1 + 1 + 1, 0, none⟩) (by simp <;> omega) _).setCell (p := ⟨w.heap.size + 1 + 1 + 1 + 1, 0, none⟩) (by simp <;> omega) _
  · have := h2.size
    have := hI.size
    simp [World.setCell]
    omega
open Go.Maps Go.WideMaps in
theorem way_gm {W : World} {g n : Nat} {D : DataW Unit} (h : W.ownsMap Tryz.prog 3 (plainElem Tryz.prog 3) g n D) : ∃ o : Obj, W.heap[g]? = some o ∧ o.isCells = false := by
  obtain ⟨es, clock, hb, _⟩ := h
  exact ⟨_, hb, rfl⟩
theorem way_bk {W W' : World} {g b : Nat} {t : TypeId} {cs : Array Value} (hg : W.grownBy W' (some g)) (hb : Bk W b t cs) (hm : ∃ o : Obj, W.heap[g]? = some o ∧ o.isCells = false) : Bk W' b t cs :=
  hb.grown hg fun e => by
    obtain rfl : b = g := by simpa using e
    obtain ⟨o, ho, hc⟩ := hm
    rw [show W.heap[b]? = _ from hb] at ho
    obtain rfl : _ = o := by simpa using ho
    cases hc
theorem way_four {p : PlanD} {n0 : Nat} {q : Int} {w W2 W w3 w4 : World} {g bn n : Nat} {vn0 vn : Value} {us : List Value} {r : Road} {s0 : List Int × List Road} {pre : List (Nat × BindD)} (hI : WI p n0 q w W2 g bn vn0 r s0 pre W) (h2 : Below W.heap.size W w3)
    (ho : W.ownsRow w.heap.size 66 2 vn n us) (hg : w3.grownBy w4 (some g)) (hm : ∃ o : Obj, w3.heap[g]? = some o ∧ o.isCells = false) (hk : Bk w4 bn 67 #[vn]) :
    Hid (W.heap.size ≤ w4.heap.size ∧ Bk w4 bn 67 #[vn] ∧ w4.ownsRow w.heap.size 66 2 vn n us ∧ w.heap.size ≤ w4.heap.size ∧ True) := by
  have h3 := h2.size
  have h4 := hg.size
  have h5 := hI.below.size
  refine Lib.hid ⟨by omega, hk, ?_, by omega, trivial⟩
  refine World.ownsRow.kept (own_below ho h2) hg ?_
  right
  intro e
  obtain ⟨o, h6, h7⟩ := hm
  rcases ho.2 with ⟨rfl, _⟩ | ⟨g2, cap, cur, rfl, _, h8, _⟩
  · cases e
  · obtain rfl : g2 = g := by simpa [Value.ownBlock] using e
    have h9 := (h2.block g2 (Array.getElem?_eq_some_iff.1 h8).1).trans h8
    rw [h9] at h6
    obtain rfl : _ = o := by simpa using h6
    cases h7
open Go.Maps Go.WideMaps in
theorem way_more {p : PlanD} {n0 : Nat} {q : Int} {w W2 W w3 w4 w5 : World} {g bn : Nat} {vn0 vn v3 v5 : Value} {r : Road} {s0 : List Int × List Road} {pre : List (Nat × BindD)} {y : Nat × BindD} {a : Act} {bs' : List Value} {D : DataW Unit} (hF : g < W2.heap.size ∧ w.heap.size + 5 ≤ g ∧ bn < W2.heap.size ∧ w.heap.size + 5 ≤ bn) (hI : WI p n0 q w W2 g bn vn0 r s0 pre W) (hok : WayOk p n0 (stepW r.2 (pre.foldl (stepW r.2) s0) y))
    (ht : y.2.toPost = true) (hn : y.2.to ∉ (pre.foldl (stepW r.2) s0).1)
    (hX : Bk W bn 67 #[vn] ∧ (∀ b, vn.ownBlock = some b → vn0.ownBlock = some b ∨ W2.heap.size ≤ b) ∧ (pre.foldl (stepW r.2) s0).2.length = bs'.length ∧ W.ownsRow w.heap.size 66 2 vn (pre.foldl (stepW r.2) s0).2.length (flatR (pre.foldl (stepW r.2) s0).2 bs') ∧ ∀ (j : Nat) (x : Road) (b : Value), (pre.foldl (stepW r.2) s0).2[j]? = some x → bs'[j]? = some b → IntsO W w.heap.size b x.2)
    (h3 : IntsO w3 W.heap.size v3 (r.2 ++ [(y.1 : Int)]) ∧ Below W.heap.size W w3) (hg4 : w3.grownBy w4 (some g)) (hm4 : w4.ownsMap Tryz.prog 3 (plainElem Tryz.prog 3) g ((pre.foldl (stepW r.2) s0).1.length + 1) (D.put (.int .i64 y.2.to) (.lit (.int .i64 1)))) (hD : SeenD D (pre.foldl (stepW r.2) s0).1) (hgm : ∃ o : Obj, w3.heap[g]? = some o ∧ o.isCells = false)
    (h4 : W.heap.size ≤ w4.heap.size ∧ Bk w4 bn 67 #[vn] ∧ w4.ownsRow w.heap.size 66 2 vn (pre.foldl (stepW r.2) s0).2.length (flatR (pre.foldl (stepW r.2) s0).2 bs') ∧ w.heap.size ≤ w4.heap.size ∧ True)
    (h5 : Bk w5 bn 67 #[vn] ∧ w5.ownsRow w.heap.size 66 2 v5 ((pre.foldl (stepW r.2) s0).2.length + 1) (flatR (pre.foldl (stepW r.2) s0).2 bs' ++ [.int .i64 y.2.to, v3]) ∧ w4.grownBy w5 vn.ownBlock ∧ (v5.ownBlock = vn.ownBlock ∨ v5.ownBlock = some (w4.heap.size + 1))) :
    WQ p n0 q w W2 g bn vn0 r s0 (pre ++ [y]) W .normal a (w5.setCell ⟨bn, 0, none⟩ v5) := by
  obtain ⟨x1, x3, x4, x5, x6⟩ := hX
  obtain ⟨h3a, h3b⟩ := h3
  obtain ⟨h4a, h4b, h4c, h4d, _⟩ := h4
  obtain ⟨h5a, h5b, h5c, h5d⟩ := h5
  have hs2 := hI.size
  have hs3 := h3b.size
  have s3 : Stp W2.heap.size g bn vn0 W w3 := Stp.of_below hs2 h3b
  have s4 : Stp W2.heap.size g bn vn0 w3 w4 := Stp.of_map (by omega) hg4 hF.1 hgm
  have s5 : Stp W2.heap.size g bn vn0 w4 w5 := Stp.of_own (by omega) h4c h5c x3
  have s6 : Stp W2.heap.size g bn vn0 w5 (w5.setCell ⟨bn, 0, none⟩ v5) := Stp.of_set h5a (by decide) v5
  have sA := (s3.trans s4).trans s5
  have sB := sA.trans s6
  have he : (pre ++ [y]).foldl (stepW r.2) s0 = ((pre.foldl (stepW r.2) s0).1 ++ [y.2.to], (pre.foldl (stepW r.2) s0).2 ++ [(y.2.to, r.2 ++ [(y.1 : Int)])]) := by rw [snoc_step, step_yes ht hn]
  have hv3 : IntsO w5 w.heap.size v3 (r.2 ++ [(y.1 : Int)]) := IntsO.lower ((h3a.stp s4).stp s5) hI.below.size
  have hro : RoadsAt w5 w.heap.size v5 ((pre.foldl (stepW r.2) s0).2 ++ [(y.2.to, r.2 ++ [(y.1 : Int)])]) :=
    RoadsAt.snoc (r := (y.2.to, r.2 ++ [(y.1 : Int)])) x4 (fun j x b hx hb => (x6 j x b hx hb).stp sA) h5b hv3
  have hgb : ∀ b', some b' = vn.ownBlock → b' ≠ g := fun b' e1 e2 => by
    subst e2
    obtain ⟨es, clock, hb, _⟩ := hm4
    rcases h4c.2 with ⟨rfl, _⟩ | ⟨g2, cap, cur, rfl, _, h8, _⟩
    · cases e1
    · obtain rfl : b' = g2 := by simpa [Value.ownBlock] using e1
      rw [h8] at hb
      cases hb
  have hb5 : Below w.heap.size w w5 := below_own h4c h5c (((hI.below.trans (h3b.mono hI.below.size))).grown hg4 (by omega) (fun k e => by cases e; omega)) (Nat.le_refl _) h4d
  have hmap : SeenM w5 g ((pre.foldl (stepW r.2) s0).1 ++ [y.2.to]) := by
    refine ⟨_, ?_, seen_put hD y.2.to⟩
    rw [List.length_append]
    exact hm4.kept h5c (fun e => hgb g e rfl)
  refine ⟨sB, ⟨?_, ⟨v5, h5a.set_ 0 v5, ?_, fun b hb => ?_⟩, fun b c1 c2 c3 c4 => (sB.kept b c1 c2 c3 c4).trans (hI.kept b c1 c2 c3 c4), hb5.setCell (p := ⟨bn, 0, none⟩) (by simp; omega) _, Nat.le_trans hs2 sB.size, snoc_no hI.no (stops_no (.inl ht)), by rw [snoc_step]; exact hok⟩⟩
  · rw [he]
    exact hmap.stays (Below.heap_setCell _ ⟨bn, 0, none⟩ _ g (fun e => by
      obtain ⟨es, clock, hb, _⟩ := hm4.kept h5c (fun e => hgb g e rfl)
      subst e
      rw [show w5.heap[g]? = _ from h5a] at hb
      cases hb))
  · rw [he]
    refine hro.stp s6 fun b hb => Below.heap_setCell _ ⟨bn, 0, none⟩ _ b fun e => ?_
    obtain rfl : b = bn := e
    obtain ⟨bs2, e1, e2, _⟩ := hro
    exact own_bkR e2 h5a (by decide) hb.symm
  · rcases h5d with e | e
    · exact x3 b (by rw [← e]; exact hb)
    · right
      rw [e] at hb
      obtain rfl : w4.heap.size + 1 = b := by simpa using hb
      omega

open Go.Maps Go.WideMaps in
set_option maxHeartbeats 4000000 in
theorem way_body (p : PlanD) (hr : PlanRight p) (hs : PlanSmall p) (key : ByteArray) (q : Int) (n0 : Nat) (w W2 : World) (bs g bn br bb : Nat) (vn0 vb : Value) (r : Road) (s0 : List Int × List Road) (u : Nat → Value) (l : Nat) (pre : List (Nat × BindD)) (y : Nat × BindD) (W : World)
    (hy : y ∈ onL p r.1 key) (hF : WFix q w W2 bs g bn br vn0 vb r) (hI : WI p n0 q w W2 g bn vn0 r s0 pre W) (hk : Bk W bb 61 #[.int .i64 y.2.src, .bool y.2.toPost, .int .i64 y.2.to, .string y.2.pattern]) (hrl : r.2.length ≤ 1048576) (hq : 0 ≤ q ∧ q ≤ 1048576) :
    wayRange.2.wpIn (Fence.wide.inRound l) 2 Tryz.prog (WQ p n0 q w W2 g bn vn0 r s0 (pre ++ [y]) W) ⟨#[u 0, u 1, u 2, u 3, u 4, u 5, u 6, .pointer (some ⟨w.heap.size + 1, 0, none⟩), .pointer (some ⟨w.heap.size + 1 + 1, 0, none⟩), .pointer (some ⟨w.heap.size + 1 + 1 + 1, 0, none⟩), .pointer (some ⟨w.heap.size + 1 + 1 + 1 + 1, 0, none⟩), u 11, .pointer (some ⟨bs, 0, none⟩), u 13, .pointer (some ⟨bn, 0, none⟩), u 15, .pointer (some ⟨br, 0, none⟩), .int .i64 (y.1 : Int), .pointer (some ⟨bb, 0, none⟩), u 19, u 20, u 21, u 22, u 23, u 24, u 25, u 26, u 27, u 28, u 29, u 30, u 31, u 32, u 33, u 34, u 35, u 36, u 37, u 38, u 39, u 40, u 41, u 42, u 43, u 44, u 45, u 46, u 47, u 48, u 49, u 50, u 51, u 52, u 53, u 54, u 55, u 56, u 57, u 58, u 59, u 60, u 61, u 62, u 63, u 64, u 65, u 66, u 67, u 68, u 69, u 70, u 71, u 72, u 73, u 74, u 75, u 76, u 77, u 78, u 79, u 80, u 81, u 82, u 83, u 84, u 85, u 86, u 87, u 88, u 89, u 90, u 91, u 92, u 93, u 94], []⟩ W := by
  have hyb := List.mem_of_getElem? (onTo_mem hy).2.1
  have hbr := hr.bind _ hyb
  obtain ⟨vn, x1, x2, x3⟩ := hI.box
  obtain ⟨bs', x4, x5, x6⟩ := x2
  obtain ⟨D, x7, x8⟩ := hI.map
  obtain ⟨an, cn, rfl, _⟩ := own_slice x5
  have kq := hI.bk hF hF.queue (by decide) (hF.nown hF.queue (by decide))
  have k8 := hI.bk hF hF.c8 (by decide) (hF.nown hF.c8 (by decide))
  have k9 := hI.bk hF hF.c9 (by decide) (hF.nown hF.c9 (by decide))
  have k10 := hI.bk hF hF.c10 (by decide) (hF.nown hF.c10 (by decide))
  have ks := hI.bk hF hF.box (by decide) (hF.nown hF.box (by decide))
  have kr := hI.bk hF hF.road (by decide) hF.ne
  have hib : IntsO W w.heap.size vb r.2 := by
    refine hF.binds.stays fun b cs hb => hI.bk hF hb (by decide) (hF.nown hb (by decide))
  have hgm : ∃ o : Obj, W.heap[g]? = some o ∧ o.isCells = false := by
    obtain ⟨es, clock, hb, _⟩ := x7
    exact ⟨_, hb, rfl⟩
  obtain ⟨ab, cb, rfl, _⟩ := own_slice hib
  have hok := hI.ok.step hr (l := r.2) (y := y) hyb
  have hsl := hI.ok.ok.len
  have hps := hs.posts
  have hlen := hI.ok.len
  have hbb := hk.lt
  have hrl' := hrl
  have hF2 : g < W2.heap.size ∧ w.heap.size + 5 ≤ g ∧ bn < W2.heap.size ∧ w.heap.size + 5 ≤ bn := by
    obtain ⟨o, ho, _⟩ := hF.map
    obtain ⟨cs, hc⟩ := hF.next
    exact ⟨(Array.getElem?_eq_some_iff.1 ho).1, hF.far.1, hc.lt, hF.far.2⟩
  have HI := Lib.hid hI
  have HF := Lib.hid hF
  have HX := Lib.hid (And.intro x1 (And.intro x3 (And.intro x4 (And.intro x5 x6))))
  have HM := Lib.hid (And.intro x7 x8)
  have HK := Lib.hid (And.intro kq (And.intro k8 (And.intro k9 (And.intro k10 (And.intro ks (And.intro kr hk))))))
  have HIB := Lib.hid hib
  have HGM := Lib.hid hgm
  have HOK := Lib.hid hok
  have HTO : Hid (-9223372036854775808 ≤ y.2.to ∧ y.2.to ≤ 9223372036854775807) := by
    have h1 := hbr.2.2.1
    have h2 := hbr.2.2.2
    have := hr.posts
    have := hr.queues
    refine Lib.hid ⟨by omega, ?_⟩
    split at h2 <;> omega
  have HBR := Lib.hid hbr
  have HLS : Hid ((pre.foldl (stepW r.2) s0).2.length < 4294967296 ∧ (pre.foldl (stepW r.2) s0).1.length < maxLen) := by
    exact Lib.hid ⟨by omega, by unfold maxLen; omega⟩
  have e0 := kr.cell 1
  simp only [List.getElem?_toArray, List.getElem?_cons_zero, List.getElem?_cons_succ] at e0
  clear hI hF x1 x3 x4 x5 x6 x7 x8 kq k8 k9 k10 ks kr hk hib hgm hok hbr hsl hps hlen hyb hrl'
  conv => arg 4; whnf
  cases ht : y.2.toPost
  · have HT := Lib.hid ht
    by_cases hqq : y.2.to = q
    · have HQ := Lib.hid hqq
      gi_wp2
      refine ⟨trivial, ?_⟩
      refine (callsIn_wide.2 (clone_own w.heap.size _ r.2 W HIB.out hrl)).mono ?_
      rintro e Wc ⟨vc, rfl, hc1, hc2⟩
      obtain ⟨ac, cc, rfl, _⟩ := own_slice hc1
      have HC := Lib.hid (And.intro hc1 hc2)
      clear hc1 hc2 e0
      gi_wp2_with (
         gi_at_builtin
         refine append1_in rfl _ _ 27 rfl W.heap.size 3 infoInt Tryz.underlying27 rfl (by decide) (by decide) Wc _ _ _ rfl HC.out.1 [.int .i64 (y.1 : Int)] rfl rfl rfl (by simp [Value.oneCell']) (by omega) HC.out.2.size ?_
         intro v3 w3 hown' hgrow hat
         obtain ⟨a3, C3, rfl, _⟩ := own_slice hown'
         have HW3 : Hid (IntsO w3 W.heap.size (.slice a3 (r.2.length + 1) C3) (r.2 ++ [(y.1 : Int)]) ∧ Below W.heap.size W w3) := way_int HC.out.1 HC.out.2 hown' hgrow
         have m0 := (HK.out.2.2.2.2.2.2.below HW3.out.2 HK.out.2.2.2.2.2.2.lt).cell 1; have m1 := (HK.out.2.2.2.2.2.2.below HW3.out.2 HK.out.2.2.2.2.2.2.lt).cell 2; have m2 := (HK.out.1.below HW3.out.2 HK.out.1.lt).cell 0
         simp only [List.getElem?_toArray, List.getElem?_cons_zero, List.getElem?_cons_succ, HT.out] at m0 m1 m2
         have k8 := HK.out.2.1.below HW3.out.2 HK.out.2.1.lt; have k9 := HK.out.2.2.1.below HW3.out.2 HK.out.2.2.1.lt; have k10 := HK.out.2.2.2.1.below HW3.out.2 HK.out.2.2.2.1.lt
         have m8 := k8.cell 0; have f8 := k8.frozen 0; have m9 := k9.cell 0; have f9 := k9.frozen 0; have m10 := k10.cell 0; have f10 := k10.frozen 0; have hz3 := k10.lt
         simp only [List.getElem?_toArray, List.getElem?_cons_zero, HQ.out] at m8 m9 m10 m1
         have hz4 : w.heap.size + 1 + 1 < w3.heap.size := by omega
         have hz5 : w.heap.size + 1 + 1 + 1 < w3.heap.size := by omega
         clear k8 k9 k10
         clear hown' hgrow hat)
      exact way_found HI.out (stops_yes HT.out HQ.out) HW3.out.1 HW3.out.2 HK.out.2.1 HK.out.2.2.1 HK.out.2.2.2.1
    · have hqb : (y.2.to == q) = false := by simp [hqq]
      have HQ := Lib.hid hqq
      clear hqq
      gi_wp2
      refine ⟨trivial, ?_⟩
      refine (callsIn_wide.2 (clone_own w.heap.size _ r.2 W HIB.out hrl)).mono ?_
      rintro e Wc ⟨vc, rfl, hc1, hc2⟩
      obtain ⟨ac, cc, rfl, _⟩ := own_slice hc1
      have HC := Lib.hid (And.intro hc1 hc2)
      clear hc1 hc2 e0
      gi_wp2_with (
         gi_at_builtin
         refine append1_in rfl _ _ 27 rfl W.heap.size 3 infoInt Tryz.underlying27 rfl (by decide) (by decide) Wc _ _ _ rfl HC.out.1 [.int .i64 (y.1 : Int)] rfl rfl rfl (by simp [Value.oneCell']) (by omega) HC.out.2.size ?_
         intro v3 w3 hown' hgrow hat
         obtain ⟨a3, C3, rfl, _⟩ := own_slice hown'
         have HW3 : Hid (IntsO w3 W.heap.size (.slice a3 (r.2.length + 1) C3) (r.2 ++ [(y.1 : Int)]) ∧ Below W.heap.size W w3) := way_int HC.out.1 HC.out.2 hown' hgrow
         have m0 := (HK.out.2.2.2.2.2.2.below HW3.out.2 HK.out.2.2.2.2.2.2.lt).cell 1; have m1 := (HK.out.2.2.2.2.2.2.below HW3.out.2 HK.out.2.2.2.2.2.2.lt).cell 2; have m2 := (HK.out.1.below HW3.out.2 HK.out.1.lt).cell 0
         simp only [List.getElem?_toArray, List.getElem?_cons_zero, List.getElem?_cons_succ, HT.out] at m0 m1 m2

         clear hown' hgrow hat)
      exact ⟨Stp.of_below HI.out.size HW3.out.2, HI.out.on HW3.out.2 (by rw [snoc_step, step_no (.inl HT.out)]) (snoc_no HI.out.no (stops_no (.inr HQ.out)))⟩
  · have HT := Lib.hid ht
    have HKEY : Hid (keyOf Tryz.prog 3 (.int .i64 y.2.to) = some (.int .i64 y.2.to)) := Lib.hid (keyOf_int_mk Tryz.underlying3 (i64wf HTO.out.1 HTO.out.2))
    by_cases hmem : y.2.to ∈ (pre.foldl (stepW r.2) s0).1
    · have HE := Lib.hid hmem
      clear hmem
      gi_wp2
      refine ⟨trivial, ?_⟩
      refine (callsIn_wide.2 (clone_own w.heap.size _ r.2 W HIB.out hrl)).mono ?_
      rintro e Wc ⟨vc, rfl, hc1, hc2⟩
      obtain ⟨ac, cc, rfl, _⟩ := own_slice hc1
      have HC := Lib.hid (And.intro hc1 hc2)
      clear hc1 hc2 e0
      gi_wp2_with (
         gi_at_builtin
         refine append1_in rfl _ _ 27 rfl W.heap.size 3 infoInt Tryz.underlying27 rfl (by decide) (by decide) Wc _ _ _ rfl HC.out.1 [.int .i64 (y.1 : Int)] rfl rfl rfl (by simp [Value.oneCell']) (by omega) HC.out.2.size ?_
         intro v3 w3 hown' hgrow hat
         obtain ⟨a3, C3, rfl, _⟩ := own_slice hown'
         have HW3 : Hid (IntsO w3 W.heap.size (.slice a3 (r.2.length + 1) C3) (r.2 ++ [(y.1 : Int)]) ∧ Below W.heap.size W w3) := way_int HC.out.1 HC.out.2 hown' hgrow
         have m0 := (HK.out.2.2.2.2.2.2.below HW3.out.2 HK.out.2.2.2.2.2.2.lt).cell 1; have m1 := (HK.out.2.2.2.2.2.2.below HW3.out.2 HK.out.2.2.2.2.2.2.lt).cell 2; have m2 := (HK.out.1.below HW3.out.2 HK.out.1.lt).cell 0
         simp only [List.getElem?_toArray, List.getElem?_cons_zero, List.getElem?_cons_succ, HT.out] at m0 m1 m2
         have m3 := (HK.out.2.2.2.2.1.below HW3.out.2 HK.out.2.2.2.2.1.lt).cell 0
         simp only [List.getElem?_toArray, List.getElem?_cons_zero] at m3
         have HM3 : Hid (w3.ownsMap Tryz.prog 3 (plainElem Tryz.prog 3) g (pre.foldl (stepW r.2) s0).1.length D) := HM.out.1.kept (row := none) ⟨HW3.out.2.os, HW3.out.2.tape, HW3.out.2.output, HW3.out.2.size, fun k hk _ => HW3.out.2.block k hk⟩ (by simp)
         obtain ⟨c, hlk, hat', _⟩ := HM3.out.lookup_int (t := 64) (int_keyed Tryz.underlying3) Tryz.underlying64 Tryz.underlying3 (by kernel_rfl) HKEY.out
         obtain rfl := (seen_look HM.out.2 hat').2 HE.out
         clear hat'
         clear hown' hgrow hat)
      exact ⟨Stp.of_below HI.out.size HW3.out.2, HI.out.on HW3.out.2 (by rw [snoc_step, step_no (.inr HE.out)]) (snoc_no HI.out.no (stops_no (.inl HT.out)))⟩
    · have HE := Lib.hid hmem
      clear hmem
      gi_wp2
      refine ⟨trivial, ?_⟩
      refine (callsIn_wide.2 (clone_own w.heap.size _ r.2 W HIB.out hrl)).mono ?_
      rintro e Wc ⟨vc, rfl, hc1, hc2⟩
      obtain ⟨ac, cc, rfl, _⟩ := own_slice hc1
      have HC := Lib.hid (And.intro hc1 hc2)
      clear hc1 hc2 e0
      gi_wp2_with (first
          | (
               gi_at_builtin
               refine append1_in rfl _ _ 67 rfl w.heap.size 66 infoRoad Tryz.underlying67 rfl (by decide) (by decide) w4 _ _ _ rfl H4.out.2.2.1 [.int .i64 y.2.to, .slice a3 (r.2.length + 1) C3] rfl rfl rfl (by simp [Value.oneCell']) HLS.out.1 H4.out.2.2.2.1 ?_
               intro v5 w5 hown5 hg5 hat5
               obtain ⟨a5, C5, rfl, _⟩ := own_slice hown5
               have b5 := H4.out.2.1.grown hg5 (own_bkR H4.out.2.2.1 H4.out.2.1 (by decide))
               have m5 := b5.cell 0; have f5 := b5.frozen 0; have l5 := b5.lt
               simp only [List.getElem?_toArray, List.getElem?_cons_zero] at m5
               have H5 := Lib.hid (And.intro b5 (And.intro hown5 (And.intro hg5 hat5)))
               clear b5 hown5 hg5 hat5)
          | (
               gi_at_builtin
               refine append1_in rfl _ _ 27 rfl W.heap.size 3 infoInt Tryz.underlying27 rfl (by decide) (by decide) Wc _ _ _ rfl HC.out.1 [.int .i64 (y.1 : Int)] rfl rfl rfl (by simp [Value.oneCell']) (by omega) HC.out.2.size ?_
               intro v3 w3 hown' hgrow hat
               obtain ⟨a3, C3, rfl, _⟩ := own_slice hown'
               have HW3 : Hid (IntsO w3 W.heap.size (.slice a3 (r.2.length + 1) C3) (r.2 ++ [(y.1 : Int)]) ∧ Below W.heap.size W w3) := way_int HC.out.1 HC.out.2 hown' hgrow
               have m0 := (HK.out.2.2.2.2.2.2.below HW3.out.2 HK.out.2.2.2.2.2.2.lt).cell 1; have m1 := (HK.out.2.2.2.2.2.2.below HW3.out.2 HK.out.2.2.2.2.2.2.lt).cell 2; have m2 := (HK.out.1.below HW3.out.2 HK.out.1.lt).cell 0
               simp only [List.getElem?_toArray, List.getElem?_cons_zero, List.getElem?_cons_succ, HT.out] at m0 m1 m2
               have m3 := (HK.out.2.2.2.2.1.below HW3.out.2 HK.out.2.2.2.2.1.lt).cell 0
               simp only [List.getElem?_toArray, List.getElem?_cons_zero] at m3
               have HM3 : Hid (w3.ownsMap Tryz.prog 3 (plainElem Tryz.prog 3) g (pre.foldl (stepW r.2) s0).1.length D) := HM.out.1.kept (row := none) ⟨HW3.out.2.os, HW3.out.2.tape, HW3.out.2.output, HW3.out.2.size, fun k hk _ => HW3.out.2.block k hk⟩ (by simp)
               obtain ⟨c, hlk, hat', _⟩ := HM3.out.lookup_int (t := 64) (int_keyed Tryz.underlying3) Tryz.underlying64 Tryz.underlying3 (by kernel_rfl) HKEY.out
               obtain rfl := (seen_look HM.out.2 hat').1 HE.out
               obtain ⟨w4, hup, hown4, hg4⟩ := HM3.out.update (t := 64) (int_keyed Tryz.underlying3) Tryz.underlying64 HLS.out.2 HKEY.out (plainElem_int Tryz.underlying3 (by decide) : plainElem (H := Unit) Tryz.prog 3 (.int .i64 1) = _)
               have HG4 := Lib.hid hg4
               have HO4 := Lib.hid hown4
               have n1 := (way_bk HG4.out (HK.out.2.2.2.2.2.2.below HW3.out.2 HK.out.2.2.2.2.2.2.lt) (way_gm HM3.out)).cell 2
               have n3 := (way_bk HG4.out (HK.out.2.2.2.2.1.below HW3.out.2 HK.out.2.2.2.2.1.lt) (way_gm HM3.out)).cell 0
               have k4 := way_bk HG4.out (HX.out.1.below HW3.out.2 HX.out.1.lt) (way_gm HM3.out)
               have n4 := k4.cell 0
               simp only [List.getElem?_toArray, List.getElem?_cons_zero, List.getElem?_cons_succ] at n1 n3 n4
               have H4 := way_four HI.out HW3.out.2 HX.out.2.2.2.1 HG4.out (way_gm HM3.out) k4
               clear hat' hg4 hown4 k4
               clear hown' hgrow hat))
      exact way_more hF2 HI.out HOK.out HT.out HE.out HX.out HW3.out HG4.out HO4.out HM.out.2 (way_gm HM3.out) H4.out H5.out
end Go.Proofs.YtapimpmpjighmaaGreatDoor

namespace Go.Proofs.YtapimpmpjighmaaGreatDoor
open Go Go.RowKit Go.Shelf Go.Sort
set_option maxRecDepth 100000
attribute [local go_sem] Oper.semAt_some

/-- The state at the head of the loop over the roads. -/
structure WayIn (p : PlanD) (key : ByteArray) (q : Int) (P : Array Value) (w : World) (bs g bn : Nat) (seen0 : List Int) (roads : List Road) (D0 n0 : Nat) (vr : Value) (j : Nat) (Ds : List Nat) (W : World) : Prop where
  le : j ≤ roads.length
  ex : ∃ seen next vn, roundW p key q (roads.take j) (seen0, []) = .ok (seen, next) ∧ WayOk p n0 (seen, next) ∧ WayM q P w bs g seen Ds W ∧ Bk W bn 67 #[vn] ∧ RoadsAt W w.heap.size vn next ∧ ∀ b, vn.ownBlock = some b → vr.ownBlock ≠ some b
  roads : RoadsAt W w.heap.size vr roads
  marks : Ds.length = D0 + j
  bn : w.heap.size + 5 ≤ bn
/-- The way lies in the results. -/
structure WayFound (w : World) (l : List Int) (Ds : List Nat) (W : World) : Prop where
  ex : ∃ v, Bk W (w.heap.size + 1 + 1) 27 #[v] ∧ IntsO W w.heap.size v l
  c9 : Bk W (w.heap.size + 1 + 1 + 1) 4 #[.bool true]
  c10 : Bk W (w.heap.size + 1 + 1 + 1 + 1) 28 #[.int .i64 0]
  marks : MarksOk w.heap.size W Ds
  below : Below w.heap.size w W

theorem frameB_ax {w : World} {bs bn br bb : Nat} {y : Nat × BindD} {t : Array Value} {P1 P2 : Prop} (p1 : P1) (p2 : P2) (h : t = #[t.getD 0 undef, t.getD 1 undef, t.getD 2 undef, t.getD 3 undef, t.getD 4 undef, t.getD 5 undef, t.getD 6 undef, .pointer (some ⟨w.heap.size + 1, 0, none⟩), .pointer (some ⟨w.heap.size + 1 + 1, 0, none⟩), .pointer (some ⟨w.heap.size + 1 + 1 + 1, 0, none⟩), .pointer (some ⟨w.heap.size + 1 + 1 + 1 + 1, 0, none⟩), t.getD 11 undef, .pointer (some ⟨bs, 0, none⟩), t.getD 13 undef, .pointer (some ⟨bn, 0, none⟩), t.getD 15 undef, .pointer (some ⟨br, 0, none⟩), .int .i64 (y.1 : Int), .pointer (some ⟨bb, 0, none⟩), t.getD 19 undef, t.getD 20 undef, t.getD 21 undef, t.getD 22 undef, t.getD 23 undef, t.getD 24 undef, t.getD 25 undef, t.getD 26 undef, t.getD 27 undef, t.getD 28 undef, t.getD 29 undef, t.getD 30 undef, t.getD 31 undef, t.getD 32 undef, t.getD 33 undef, t.getD 34 undef, t.getD 35 undef, t.getD 36 undef, t.getD 37 undef, t.getD 38 undef, t.getD 39 undef, t.getD 40 undef, t.getD 41 undef, t.getD 42 undef, t.getD 43 undef, t.getD 44 undef, t.getD 45 undef, t.getD 46 undef, t.getD 47 undef, t.getD 48 undef, t.getD 49 undef, t.getD 50 undef, t.getD 51 undef, t.getD 52 undef, t.getD 53 undef, t.getD 54 undef, t.getD 55 undef, t.getD 56 undef, t.getD 57 undef, t.getD 58 undef, t.getD 59 undef, t.getD 60 undef, t.getD 61 undef, t.getD 62 undef, t.getD 63 undef, t.getD 64 undef, t.getD 65 undef, t.getD 66 undef, t.getD 67 undef, t.getD 68 undef, t.getD 69 undef, t.getD 70 undef, t.getD 71 undef, t.getD 72 undef, t.getD 73 undef, t.getD 74 undef, t.getD 75 undef, t.getD 76 undef, t.getD 77 undef, t.getD 78 undef, t.getD 79 undef, t.getD 80 undef, t.getD 81 undef, t.getD 82 undef, t.getD 83 undef, t.getD 84 undef, t.getD 85 undef, t.getD 86 undef, t.getD 87 undef, t.getD 88 undef, t.getD 89 undef, t.getD 90 undef, t.getD 91 undef, t.getD 92 undef, t.getD 93 undef, t.getD 94 undef]) : ∃ u : Nat → Value, P1 ∧ P2 ∧ (⟨t, []⟩ : Act) = ⟨#[u 0, u 1, u 2, u 3, u 4, u 5, u 6, .pointer (some ⟨w.heap.size + 1, 0, none⟩), .pointer (some ⟨w.heap.size + 1 + 1, 0, none⟩), .pointer (some ⟨w.heap.size + 1 + 1 + 1, 0, none⟩), .pointer (some ⟨w.heap.size + 1 + 1 + 1 + 1, 0, none⟩), u 11, .pointer (some ⟨bs, 0, none⟩), u 13, .pointer (some ⟨bn, 0, none⟩), u 15, .pointer (some ⟨br, 0, none⟩), .int .i64 (y.1 : Int), .pointer (some ⟨bb, 0, none⟩), u 19, u 20, u 21, u 22, u 23, u 24, u 25, u 26, u 27, u 28, u 29, u 30, u 31, u 32, u 33, u 34, u 35, u 36, u 37, u 38, u 39, u 40, u 41, u 42, u 43, u 44, u 45, u 46, u 47, u 48, u 49, u 50, u 51, u 52, u 53, u 54, u 55, u 56, u 57, u 58, u 59, u 60, u 61, u 62, u 63, u 64, u 65, u 66, u 67, u 68, u 69, u 70, u 71, u 72, u 73, u 74, u 75, u 76, u 77, u 78, u 79, u 80, u 81, u 82, u 83, u 84, u 85, u 86, u 87, u 88, u 89, u 90, u 91, u 92, u 93, u 94], []⟩ := ⟨fun i => t.getD i undef, p1, p2, by rw [← h]⟩
theorem frameR_of {w : World} {bs bn : Nat} {key : ByteArray} {t : Array Value} (h : t = #[t.getD 0 undef, t.getD 1 undef, .string key, t.getD 3 undef, .pointer (some ⟨w.heap.size, 0, none⟩), t.getD 5 undef, t.getD 6 undef, .pointer (some ⟨w.heap.size + 1, 0, none⟩), .pointer (some ⟨w.heap.size + 1 + 1, 0, none⟩), .pointer (some ⟨w.heap.size + 1 + 1 + 1, 0, none⟩), .pointer (some ⟨w.heap.size + 1 + 1 + 1 + 1, 0, none⟩), t.getD 11 undef, .pointer (some ⟨bs, 0, none⟩), t.getD 13 undef, .pointer (some ⟨bn, 0, none⟩), t.getD 15 undef, t.getD 16 undef, t.getD 17 undef, t.getD 18 undef, t.getD 19 undef, t.getD 20 undef, t.getD 21 undef, t.getD 22 undef, t.getD 23 undef, t.getD 24 undef, t.getD 25 undef, t.getD 26 undef, t.getD 27 undef, t.getD 28 undef, t.getD 29 undef, t.getD 30 undef, t.getD 31 undef, t.getD 32 undef, t.getD 33 undef, t.getD 34 undef, t.getD 35 undef, t.getD 36 undef, t.getD 37 undef, t.getD 38 undef, t.getD 39 undef, t.getD 40 undef, t.getD 41 undef, t.getD 42 undef, t.getD 43 undef, t.getD 44 undef, t.getD 45 undef, t.getD 46 undef, t.getD 47 undef, t.getD 48 undef, t.getD 49 undef, t.getD 50 undef, t.getD 51 undef, t.getD 52 undef, t.getD 53 undef, t.getD 54 undef, t.getD 55 undef, t.getD 56 undef, t.getD 57 undef, t.getD 58 undef, t.getD 59 undef, t.getD 60 undef, t.getD 61 undef, t.getD 62 undef, t.getD 63 undef, t.getD 64 undef, t.getD 65 undef, t.getD 66 undef, t.getD 67 undef, t.getD 68 undef, t.getD 69 undef, t.getD 70 undef, t.getD 71 undef, t.getD 72 undef, t.getD 73 undef, t.getD 74 undef, t.getD 75 undef, t.getD 76 undef, t.getD 77 undef, t.getD 78 undef, t.getD 79 undef, t.getD 80 undef, t.getD 81 undef, t.getD 82 undef, t.getD 83 undef, t.getD 84 undef, t.getD 85 undef, t.getD 86 undef, t.getD 87 undef, t.getD 88 undef, t.getD 89 undef, t.getD 90 undef, t.getD 91 undef, t.getD 92 undef, t.getD 93 undef, t.getD 94 undef]) : ∃ u : Nat → Value, t = #[u 0, u 1, .string key, u 3, .pointer (some ⟨w.heap.size, 0, none⟩), u 5, u 6, .pointer (some ⟨w.heap.size + 1, 0, none⟩), .pointer (some ⟨w.heap.size + 1 + 1, 0, none⟩), .pointer (some ⟨w.heap.size + 1 + 1 + 1, 0, none⟩), .pointer (some ⟨w.heap.size + 1 + 1 + 1 + 1, 0, none⟩), u 11, .pointer (some ⟨bs, 0, none⟩), u 13, .pointer (some ⟨bn, 0, none⟩), u 15, u 16, u 17, u 18, u 19, u 20, u 21, u 22, u 23, u 24, u 25, u 26, u 27, u 28, u 29, u 30, u 31, u 32, u 33, u 34, u 35, u 36, u 37, u 38, u 39, u 40, u 41, u 42, u 43, u 44, u 45, u 46, u 47, u 48, u 49, u 50, u 51, u 52, u 53, u 54, u 55, u 56, u 57, u 58, u 59, u 60, u 61, u 62, u 63, u 64, u 65, u 66, u 67, u 68, u 69, u 70, u 71, u 72, u 73, u 74, u 75, u 76, u 77, u 78, u 79, u 80, u 81, u 82, u 83, u 84, u 85, u 86, u 87, u 88, u 89, u 90, u 91, u 92, u 93, u 94] := ⟨fun i => t.getD i undef, h⟩
theorem frameI_of {w : World} {bs bn j : Nat} {key : ByteArray} {vr : Value} {roads : List Road} {t : Array Value} (h : t = #[t.getD 0 undef, t.getD 1 undef, .string key, t.getD 3 undef, .pointer (some ⟨w.heap.size, 0, none⟩), t.getD 5 undef, t.getD 6 undef, .pointer (some ⟨w.heap.size + 1, 0, none⟩), .pointer (some ⟨w.heap.size + 1 + 1, 0, none⟩), .pointer (some ⟨w.heap.size + 1 + 1 + 1, 0, none⟩), .pointer (some ⟨w.heap.size + 1 + 1 + 1 + 1, 0, none⟩), t.getD 11 undef, .pointer (some ⟨bs, 0, none⟩), t.getD 13 undef, .pointer (some ⟨bn, 0, none⟩), t.getD 15 undef, t.getD 16 undef, t.getD 17 undef, t.getD 18 undef, t.getD 19 undef, t.getD 20 undef, t.getD 21 undef, t.getD 22 undef, t.getD 23 undef, t.getD 24 undef, t.getD 25 undef, t.getD 26 undef, t.getD 27 undef, t.getD 28 undef, t.getD 29 undef, t.getD 30 undef, t.getD 31 undef, t.getD 32 undef, t.getD 33 undef, t.getD 34 undef, t.getD 35 undef, t.getD 36 undef, t.getD 37 undef, t.getD 38 undef, t.getD 39 undef, t.getD 40 undef, t.getD 41 undef, t.getD 42 undef, t.getD 43 undef, t.getD 44 undef, vr, .int .i64 (roads.length : Int), .int .i64 (j : Int), t.getD 48 undef, t.getD 49 undef, t.getD 50 undef, t.getD 51 undef, t.getD 52 undef, t.getD 53 undef, t.getD 54 undef, t.getD 55 undef, t.getD 56 undef, t.getD 57 undef, t.getD 58 undef, t.getD 59 undef, t.getD 60 undef, t.getD 61 undef, t.getD 62 undef, t.getD 63 undef, t.getD 64 undef, t.getD 65 undef, t.getD 66 undef, t.getD 67 undef, t.getD 68 undef, t.getD 69 undef, t.getD 70 undef, t.getD 71 undef, t.getD 72 undef, t.getD 73 undef, t.getD 74 undef, t.getD 75 undef, t.getD 76 undef, t.getD 77 undef, t.getD 78 undef, t.getD 79 undef, t.getD 80 undef, t.getD 81 undef, t.getD 82 undef, t.getD 83 undef, t.getD 84 undef, t.getD 85 undef, t.getD 86 undef, t.getD 87 undef, t.getD 88 undef, t.getD 89 undef, t.getD 90 undef, t.getD 91 undef, t.getD 92 undef, t.getD 93 undef, t.getD 94 undef]) : ∃ u : Nat → Value, t = #[u 0, u 1, .string key, u 3, .pointer (some ⟨w.heap.size, 0, none⟩), u 5, u 6, .pointer (some ⟨w.heap.size + 1, 0, none⟩), .pointer (some ⟨w.heap.size + 1 + 1, 0, none⟩), .pointer (some ⟨w.heap.size + 1 + 1 + 1, 0, none⟩), .pointer (some ⟨w.heap.size + 1 + 1 + 1 + 1, 0, none⟩), u 11, .pointer (some ⟨bs, 0, none⟩), u 13, .pointer (some ⟨bn, 0, none⟩), u 15, u 16, u 17, u 18, u 19, u 20, u 21, u 22, u 23, u 24, u 25, u 26, u 27, u 28, u 29, u 30, u 31, u 32, u 33, u 34, u 35, u 36, u 37, u 38, u 39, u 40, u 41, u 42, u 43, u 44, vr, .int .i64 (roads.length : Int), .int .i64 (j : Int), u 48, u 49, u 50, u 51, u 52, u 53, u 54, u 55, u 56, u 57, u 58, u 59, u 60, u 61, u 62, u 63, u 64, u 65, u 66, u 67, u 68, u 69, u 70, u 71, u 72, u 73, u 74, u 75, u 76, u 77, u 78, u 79, u 80, u 81, u 82, u 83, u 84, u 85, u 86, u 87, u 88, u 89, u 90, u 91, u 92, u 93, u 94] := ⟨fun i => t.getD i undef, h⟩
theorem wayIn_close {p : PlanD} {key : ByteArray} {q : Int} {P : Array Value} {w W : World} {bs g bn D0 n0 j : Nat} {seen0 : List Int} {roads : List Road} {vr : Value} {Ds : List Nat} {t : Array Value} {ds : List Deferred} (h : WayIn p key q P w bs g bn seen0 roads D0 n0 vr j Ds W) (ht : t = #[t.getD 0 undef, t.getD 1 undef, .string key, t.getD 3 undef, .pointer (some ⟨w.heap.size, 0, none⟩), t.getD 5 undef, t.getD 6 undef, .pointer (some ⟨w.heap.size + 1, 0, none⟩), .pointer (some ⟨w.heap.size + 1 + 1, 0, none⟩), .pointer (some ⟨w.heap.size + 1 + 1 + 1, 0, none⟩), .pointer (some ⟨w.heap.size + 1 + 1 + 1 + 1, 0, none⟩), t.getD 11 undef, .pointer (some ⟨bs, 0, none⟩), t.getD 13 undef, .pointer (some ⟨bn, 0, none⟩), t.getD 15 undef, t.getD 16 undef, t.getD 17 undef, t.getD 18 undef, t.getD 19 undef, t.getD 20 undef, t.getD 21 undef, t.getD 22 undef, t.getD 23 undef, t.getD 24 undef, t.getD 25 undef, t.getD 26 undef, t.getD 27 undef, t.getD 28 undef, t.getD 29 undef, t.getD 30 undef, t.getD 31 undef, t.getD 32 undef, t.getD 33 undef, t.getD 34 undef, t.getD 35 undef, t.getD 36 undef, t.getD 37 undef, t.getD 38 undef, t.getD 39 undef, t.getD 40 undef, t.getD 41 undef, t.getD 42 undef, t.getD 43 undef, t.getD 44 undef, vr, .int .i64 (roads.length : Int), .int .i64 (j : Int), t.getD 48 undef, t.getD 49 undef, t.getD 50 undef, t.getD 51 undef, t.getD 52 undef, t.getD 53 undef, t.getD 54 undef, t.getD 55 undef, t.getD 56 undef, t.getD 57 undef, t.getD 58 undef, t.getD 59 undef, t.getD 60 undef, t.getD 61 undef, t.getD 62 undef, t.getD 63 undef, t.getD 64 undef, t.getD 65 undef, t.getD 66 undef, t.getD 67 undef, t.getD 68 undef, t.getD 69 undef, t.getD 70 undef, t.getD 71 undef, t.getD 72 undef, t.getD 73 undef, t.getD 74 undef, t.getD 75 undef, t.getD 76 undef, t.getD 77 undef, t.getD 78 undef, t.getD 79 undef, t.getD 80 undef, t.getD 81 undef, t.getD 82 undef, t.getD 83 undef, t.getD 84 undef, t.getD 85 undef, t.getD 86 undef, t.getD 87 undef, t.getD 88 undef, t.getD 89 undef, t.getD 90 undef, t.getD 91 undef, t.getD 92 undef, t.getD 93 undef, t.getD 94 undef]) (hd : ds = Ds.map mark) :
    ∃ (u : Nat → Value) (j : Nat) (Ds : List Nat), WayIn p key q P w bs g bn seen0 roads D0 n0 vr j Ds W ∧ (⟨t, ds⟩ : Act) = ⟨#[u 0, u 1, .string key, u 3, .pointer (some ⟨w.heap.size, 0, none⟩), u 5, u 6, .pointer (some ⟨w.heap.size + 1, 0, none⟩), .pointer (some ⟨w.heap.size + 1 + 1, 0, none⟩), .pointer (some ⟨w.heap.size + 1 + 1 + 1, 0, none⟩), .pointer (some ⟨w.heap.size + 1 + 1 + 1 + 1, 0, none⟩), u 11, .pointer (some ⟨bs, 0, none⟩), u 13, .pointer (some ⟨bn, 0, none⟩), u 15, u 16, u 17, u 18, u 19, u 20, u 21, u 22, u 23, u 24, u 25, u 26, u 27, u 28, u 29, u 30, u 31, u 32, u 33, u 34, u 35, u 36, u 37, u 38, u 39, u 40, u 41, u 42, u 43, u 44, vr, .int .i64 (roads.length : Int), .int .i64 (j : Int), u 48, u 49, u 50, u 51, u 52, u 53, u 54, u 55, u 56, u 57, u 58, u 59, u 60, u 61, u 62, u 63, u 64, u 65, u 66, u 67, u 68, u 69, u 70, u 71, u 72, u 73, u 74, u 75, u 76, u 77, u 78, u 79, u 80, u 81, u 82, u 83, u 84, u 85, u 86, u 87, u 88, u 89, u 90, u 91, u 92, u 93, u 94], Ds.map mark⟩ := ⟨fun i => t.getD i undef, j, Ds, h, by rw [← ht, hd]⟩
theorem RoadsAt.row' {W W' : World} {base : Nat} {v : Value} {rs : List Road} {row : Option Nat} (h : RoadsAt W base v rs) (hg : W.grownBy W' row) (hr : ∀ r, row = some r → ∃ o : Obj, W.heap[r]? = some o ∧ o.isCells = false) : RoadsAt W' base v rs :=
  h.stays (fun g cs hb => hb.row hg hr) fun g hv => by
    obtain ⟨bs, _, h2, _⟩ := h
    refine hg.block g (h2.lt g hv).2 fun e => ?_
    obtain ⟨o, ho, hc⟩ := hr g e.symm
    rcases h2.2 with ⟨rfl, _⟩ | ⟨g2, cap, cur, rfl, _, h8, _⟩
    · cases hv
    · obtain rfl : g2 = g := by simpa [Value.ownBlock] using hv
      rw [h8] at ho
      cases ho
      cases hc
theorem WI.own {p : PlanD} {n0 : Nat} {q : Int} {w W2 A B : World} {g bn : Nat} {vn0 : Value} {r : Road} {s0 : List Int × List Road} {pre : List (Nat × BindD)} {row : Option Nat} (h : WI p n0 q w W2 g bn vn0 r s0 pre A) (hb : w.heap.size ≤ W2.heap.size) (hgl : g < W2.heap.size) (hg : A.grownBy B row)
    (hr : ∀ r, row = some r → W2.heap.size ≤ r ∧ ∃ o : Obj, A.heap[r]? = some o ∧ o.isCells = false) : WI p n0 q w W2 g bn vn0 r s0 pre B := by
  obtain ⟨vn, b1, b2, b3⟩ := h.box
  have hs := h.size
  have hr' := fun r e => (hr r e).2
  exact ⟨h.map.stays (hg.block g (by omega) fun e => by have := (hr g e.symm).1; omega), ⟨vn, b1.row hg hr', b2.row' hg hr', b3⟩, fun b h1 h2 h3 h4 => (hg.block b (by omega) fun e => by have := (hr b e.symm).1; omega).trans (h.kept b h1 h2 h3 h4),
    h.below.grown hg (by omega) fun k e => Nat.le_trans hb (hr k e).1, Nat.le_trans hs hg.size, h.no, h.ok⟩
theorem WX.own {q : Int} {w W2 A B : World} {g bn : Nat} {vn0 : Value} {r : Road} {pre : List (Nat × BindD)} {row : Option Nat} (h : WX q w r W2 g bn vn0 pre A) (hb : w.heap.size ≤ W2.heap.size) (hg : A.grownBy B row)
    (hr : ∀ r, row = some r → W2.heap.size ≤ r ∧ ∃ o : Obj, A.heap[r]? = some o ∧ o.isCells = false) : WX q w r W2 g bn vn0 pre B := by
  obtain ⟨ps, y, v, e1, e2, e3, e4, e5⟩ := h.at_
  have hs := h.size
  have hr' := fun r e => (hr r e).2
  exact ⟨⟨ps, y, v, e1, e2, e3, e4.row hg hr', e5.row hg hr'⟩, h.c9.row hg hr', h.c10.row hg hr', fun b h1 h2 h3 h4 h5 => (hg.block b (by omega) fun e => by have := (hr b e.symm).1; omega).trans (h.kept b h1 h2 h3 h4 h5),
    h.below.grown hg (by omega) fun k e => Nat.le_trans hb (hr k e).1, Nat.le_trans hs hg.size⟩
noncomputable def wayOuter : Code := (Tryz.f14.body.bind firstLoop).getD .skip
noncomputable def wayInner : Code := (firstLoop wayOuter).getD .skip
theorem way_wfix {q : Int} {P : Array Value} {w W W2 : World} {bs g bn br : Nat} {seen : List Int} {next : List Road} {Ds : List Nat} {vn vb : Value} {r : Road} (hM : WayM q P w bs g seen Ds W) (hbn : Bk W bn 67 #[vn]) (hn : RoadsAt W w.heap.size vn next) (hb : Below W.heap.size W W2) (hbl : w.heap.size + 5 ≤ bn)
    (hbr : W.heap.size ≤ br) (hr : Bk W2 br 66 #[.int .i64 r.1, vb]) (hi : IntsO W w.heap.size vb r.2) : WFix q w W2 bs g bn br vn vb r := by
  obtain ⟨D, hm, _⟩ := hM.map
  obtain ⟨o, ho, hc⟩ := way_gm hm
  refine ⟨hM.queue.below hb hM.queue.lt, hM.c8.below hb hM.c8.lt, hM.c9.below hb hM.c9.lt, hM.c10.below hb hM.c10.lt, hM.box.below hb hM.box.lt, hr, hi.stays fun g cs h => h.below hb h.lt, ⟨_, hbn.below hb hbn.lt⟩, ⟨o, (hb.block g (Array.getElem?_eq_some_iff.1 ho).1).trans ho, hc⟩, fun b e => ?_, fun e => ?_, hM.far.1, hbl⟩
  · obtain ⟨bs', _, h2, _⟩ := hn
    rcases h2.2 with ⟨rfl, _⟩ | ⟨g2, cap, cur, rfl, _, h8, _⟩
    · cases e
    · obtain rfl : g2 = b := by simpa [Value.ownBlock] using e
      exact ⟨cur, Bk.below (w := W) (t := 66) (cs := cur) h8 hb (Array.getElem?_eq_some_iff.1 h8).1⟩
  · obtain ⟨bs', _, h2, _⟩ := hn
    have := (h2.lt br e).2
    omega
theorem way_wi0 {p : PlanD} {q : Int} {P : Array Value} {w W W2 : World} {bs g bn n0 : Nat} {seen : List Int} {next : List Road} {Ds : List Nat} {vn : Value} {r : Road} (hM : WayM q P w bs g seen Ds W) (hbn : Bk W bn 67 #[vn]) (hn : RoadsAt W w.heap.size vn next) (hok : WayOk p n0 (seen, next)) (hb : Below W.heap.size W W2) : WI p n0 q w W2 g bn vn r (seen, next) [] W2 := by
  obtain ⟨D, hm, hd⟩ := hM.map
  refine ⟨⟨D, hm.kept (row := none) ⟨hb.os, hb.tape, hb.output, hb.size, fun k hk _ => hb.block k hk⟩ (by simp), hd⟩, ⟨vn, hbn.below hb hbn.lt, hn.stays (fun g cs h => h.below hb h.lt) (fun b e => ?_), fun b e => .inl e⟩, fun _ _ _ _ _ => rfl, hM.below.trans (hb.mono hM.below.size), Nat.le_refl _, fun y h => (by cases h), hok⟩
  obtain ⟨bs', _, h2, _⟩ := hn
  exact hb.block b (h2.lt b e).2
/-- Behind the binds of one road: the state at the loop's head. -/
theorem way_next {p : PlanD} {key : ByteArray} {q : Int} {P : Array Value} {w W W2 W3 : World} {bs g bn n0 D0 j D : Nat} {seen0 seen : List Int} {next roads : List Road} {Ds : List Nat} {vn vr : Value} {r : Road} (hlt : j < roads.length) (hj : roads[j]? = some r) (hrel : WayIn p key q P w bs g bn seen0 roads D0 n0 vr j Ds W)
    (hM : WayM q P w bs g seen Ds W) (hround : roundW p key q (roads.take j) (seen0, []) = .ok (seen, next)) (hbn : Bk W bn 67 #[vn]) (hn : RoadsAt W w.heap.size vn next) (hvn : ∀ b, vn.ownBlock = some b → vr.ownBlock ≠ some b) (hb : Below W.heap.size W W2) (hI : WI p n0 q w W2 g bn vn r (seen, next) (onL p r.1 key) W3)
    (hD : W2.heap.size ≤ D) (hDe : W3.heap[D]? = some (.deferred (some []))) : WayIn p key q P w bs g bn seen0 roads D0 n0 vr (j + 1) (D :: Ds) W3 := by
  obtain ⟨vn', b1, b2, b3⟩ := hI.box
  have hbs := hb.size
  have hws := hM.below.size
  have hno : (onL p r.1 key).find? (stopsW q) = none := by
    rw [List.find?_eq_none]
    intro y hy
    rw [hI.no y hy]
    decide
  have hk2 : ∀ b, b < W.heap.size → b ≠ g → b ≠ bn → vn.ownBlock ≠ some b → W3.heap[b]? = W.heap[b]? := fun b h1 h2 h3 h4 => (hI.kept b (by omega) h2 h3 h4).trans (hb.block b h1)
  have hgm : ∃ o : Obj, W.heap[g]? = some o ∧ o.isCells = false := by
    obtain ⟨D, hm, _⟩ := hM.map
    exact way_gm hm
  have hbk : ∀ b t cs, t ≠ 67 → t ≠ 66 → Bk W b t cs → Bk W3 b t cs := fun b t cs h1 h2 h3 => by
    refine (hk2 b h3.lt (fun e => ?_) (fun e => ?_) (fun e => ?_)).trans h3
    · subst e
      obtain ⟨o, ho, hc⟩ := hgm
      rw [show W.heap[b]? = _ from h3] at ho
      obtain rfl : _ = o := by simpa using ho
      cases hc
    · subst e
      exact h1 (bk_ty h3 hbn)
    · obtain ⟨bs', _, h4, _⟩ := hn
      exact own_bkR h4 h3 (fun e => h2 e.symm) e.symm
  refine ⟨by omega, ⟨_, _, vn', ?_, hI.ok, ?_, b1, b2, fun b e e2 => ?_⟩, ?_, by rw [List.length_cons, hrel.marks]; omega, hrel.bn⟩
  · rw [List.take_succ_eq_append_getElem hlt, roundW_snoc, hround]
    have : roads[j] = r := by rw [List.getElem?_eq_getElem hlt] at hj; exact Option.some.inj hj
    rw [this]
    simp only [roadW, hno]
  · refine ⟨hbk _ _ _ (by decide) (by decide) hM.plan, hbk _ _ _ (by decide) (by decide) hM.queue, hbk _ _ _ (by decide) (by decide) hM.c8, hbk _ _ _ (by decide) (by decide) hM.c9, hbk _ _ _ (by decide) (by decide) hM.c10, hbk _ _ _ (by decide) (by decide) hM.box, hI.map, hI.below, ?_, hM.far⟩
    refine (hM.marks.kept fun E hE => ?_).cons (by omega) (fun hE => by have := hM.marks.lt hE; omega) hDe
    have hE2 := (hM.marks.2 E hE).2
    refine hk2 E (hM.marks.lt hE) (fun e => ?_) (fun e => ?_) (fun e => ?_)
    · subst e
      obtain ⟨D', hm, _⟩ := hM.map
      obtain ⟨es, clock, h5, _⟩ := hm
      rw [hE2] at h5
      cases h5
    · subst e
      rw [show W.heap[E]? = _ from hbn] at hE2
      cases hE2
    · obtain ⟨bs', _, h4, _⟩ := hn
      rcases h4.2 with ⟨rfl, _⟩ | ⟨g2, cap, cur, rfl, _, h8, _⟩
      · cases e
      · obtain rfl : g2 = E := by simpa [Value.ownBlock] using e
        rw [h8] at hE2
        cases hE2
  · obtain ⟨bs', _, h4, _⟩ := hrel.roads
    have hl := (h4.lt b e2).2
    rcases b3 b e with h | h
    · exact hvn b h e2
    · omega
  · refine hrel.roads.stays (fun b cs h => hbk b _ cs (by decide) (by decide) h) fun b e => ?_
    obtain ⟨bs', _, h4, _⟩ := hrel.roads
    refine hk2 b (h4.lt b e).2 (fun e3 => ?_) (fun e3 => ?_) (fun e3 => hvn b e3 e)
    · subst e3
      obtain ⟨o, ho, hc⟩ := hgm
      rcases h4.2 with ⟨rfl, _⟩ | ⟨g2, cap, cur, rfl, _, h8, _⟩
      · cases e
      · obtain rfl : g2 = b := by simpa [Value.ownBlock] using e
        rw [h8] at ho
        cases ho
        cases hc
    · subst e3
      exact own_bkR h4 hbn (by decide) e.symm
/-- The way was found among the binds of this road. -/
theorem way_end {p : PlanD} {key : ByteArray} {q : Int} {P : Array Value} {w W W2 W3 : World} {bs g bn n0 D0 j D : Nat} {seen0 seen : List Int} {next roads : List Road} {Ds : List Nat} {vn vr : Value} {r : Road} {pre : List (Nat × BindD)} (hlt : j < roads.length) (hj : roads[j]? = some r) (hrel : WayIn p key q P w bs g bn seen0 roads D0 n0 vr j Ds W)
    (hM : WayM q P w bs g seen Ds W) (hround : roundW p key q (roads.take j) (seen0, []) = .ok (seen, next)) (hbn : Bk W bn 67 #[vn]) (hn : RoadsAt W w.heap.size vn next) (hb : Below W.heap.size W W2) (hpre : pre <+: onL p r.1 key) (hX : WX q w r W2 g bn vn pre W3)
    (hD : W2.heap.size ≤ D) (hDe : W3.heap[D]? = some (.deferred (some []))) : ∃ l, roundW p key q roads (seen0, []) = .error l ∧ WayFound w l (D :: Ds) W3 := by
  obtain ⟨ps, y, v, rfl, e2, e3, e4, e5⟩ := hX.at_
  have hbs := hb.size
  have hws := hM.below.size
  have hfind : (onL p r.1 key).find? (stopsW q) = some y := by
    obtain ⟨ts, ht⟩ := hpre
    rw [← ht, List.append_assoc, List.find?_append, List.find?_eq_none.2 (fun z hz => by rw [e2 z hz]; decide)]
    simp [e3]
  have hk2 : ∀ b, b < W.heap.size → b ≠ g → b ≠ bn → vn.ownBlock ≠ some b → (b < w.heap.size + 2 ∨ w.heap.size + 5 ≤ b) → W3.heap[b]? = W.heap[b]? := fun b h1 h2 h3 h4 h5 => (hX.kept b (by omega) h2 h3 h4 h5).trans (hb.block b h1)
  refine ⟨r.2 ++ [(y.1 : Int)], ?_, ⟨v, e4, e5⟩, hX.c9, hX.c10, ?_, hX.below⟩
  · have h1 : roundW p key q (roads.take (j + 1)) (seen0, []) = .error (r.2 ++ [(y.1 : Int)]) := by
      rw [List.take_succ_eq_append_getElem hlt, roundW_snoc, hround]
      have : roads[j] = r := by rw [List.getElem?_eq_getElem hlt] at hj; exact Option.some.inj hj
      rw [this]
      simp only [roadW, hfind]
    have h2 := roundW_error (roads.drop (j + 1)) h1
    rwa [List.take_append_drop] at h2
  · refine (hM.marks.kept fun E hE => ?_).cons (by omega) (fun hE => by have := hM.marks.lt hE; omega) hDe
    have hE2 := (hM.marks.2 E hE).2
    refine hk2 E (hM.marks.lt hE) (fun e => ?_) (fun e => ?_) (fun e => ?_) ?_
    · subst e
      obtain ⟨D', hm, _⟩ := hM.map
      obtain ⟨es, clock, h5, _⟩ := hm
      rw [hE2] at h5
      cases h5
    · subst e
      rw [show W.heap[E]? = _ from hbn] at hE2
      cases hE2
    · obtain ⟨bs', _, h4, _⟩ := hn
      rcases h4.2 with ⟨rfl, _⟩ | ⟨g2, cap, cur, rfl, _, h8, _⟩
      · cases e
      · obtain rfl : g2 = E := by simpa [Value.ownBlock] using e
        rw [h8] at hE2
        cases hE2
    · by_cases c1 : E = w.heap.size + 1 + 1
      · subst c1
        rw [show W.heap[w.heap.size + 1 + 1]? = _ from hM.c8] at hE2
        cases hE2
      · by_cases c2 : E = w.heap.size + 1 + 1 + 1
        · subst c2
          rw [show W.heap[w.heap.size + 1 + 1 + 1]? = _ from hM.c9] at hE2
          cases hE2
        · by_cases c3 : E = w.heap.size + 1 + 1 + 1 + 1
          · subst c3
            rw [show W.heap[w.heap.size + 1 + 1 + 1 + 1]? = _ from hM.c10] at hE2
            cases hE2
          · omega

open Go.Maps Go.WideMaps in
set_option maxHeartbeats 4000000 in
theorem way_inner (p : PlanD) (hr : PlanRight p) (hs : PlanSmall p) (key : ByteArray) (hkey : key.size ≤ 1048576) (q : Int) (hq : 0 ≤ q ∧ q ≤ 1048576) (a1 a2 a3 : Option Addr) (c1 c2 c3 n0 D0 : Nat) (w : World) (bs g bn : Nat) (seen0 : List Int) (roads : List Road) (vr : Value)
    (hpl : PlanAt w 0 w.heap.size a1 a2 a3 p) (hv : EnvB w.heap.size w) (hroads : ∀ r ∈ roads, (0 ≤ r.1 ∧ r.1 < (p.posts.length : Int)) ∧ r.2.length ≤ 1048576) (hrl : roads.length ≤ 1048576)
    (Q0 : Exit → Act → World → Prop) (hend : ∀ (t : Array Value) (j : Nat) (Ds : List Nat) (W : World), t = #[t.getD 0 undef, t.getD 1 undef, .string key, t.getD 3 undef, .pointer (some ⟨w.heap.size, 0, none⟩), t.getD 5 undef, t.getD 6 undef, .pointer (some ⟨w.heap.size + 1, 0, none⟩), .pointer (some ⟨w.heap.size + 1 + 1, 0, none⟩), .pointer (some ⟨w.heap.size + 1 + 1 + 1, 0, none⟩), .pointer (some ⟨w.heap.size + 1 + 1 + 1 + 1, 0, none⟩), t.getD 11 undef, .pointer (some ⟨bs, 0, none⟩), t.getD 13 undef, .pointer (some ⟨bn, 0, none⟩), t.getD 15 undef, t.getD 16 undef, t.getD 17 undef, t.getD 18 undef, t.getD 19 undef, t.getD 20 undef, t.getD 21 undef, t.getD 22 undef, t.getD 23 undef, t.getD 24 undef, t.getD 25 undef, t.getD 26 undef, t.getD 27 undef, t.getD 28 undef, t.getD 29 undef, t.getD 30 undef, t.getD 31 undef, t.getD 32 undef, t.getD 33 undef, t.getD 34 undef, t.getD 35 undef, t.getD 36 undef, t.getD 37 undef, t.getD 38 undef, t.getD 39 undef, t.getD 40 undef, t.getD 41 undef, t.getD 42 undef, t.getD 43 undef, t.getD 44 undef, vr, .int .i64 (roads.length : Int), .int .i64 (j : Int), t.getD 48 undef, t.getD 49 undef, t.getD 50 undef, t.getD 51 undef, t.getD 52 undef, t.getD 53 undef, t.getD 54 undef, t.getD 55 undef, t.getD 56 undef, t.getD 57 undef, t.getD 58 undef, t.getD 59 undef, t.getD 60 undef, t.getD 61 undef, t.getD 62 undef, t.getD 63 undef, t.getD 64 undef, t.getD 65 undef, t.getD 66 undef, t.getD 67 undef, t.getD 68 undef, t.getD 69 undef, t.getD 70 undef, t.getD 71 undef, t.getD 72 undef, t.getD 73 undef, t.getD 74 undef, t.getD 75 undef, t.getD 76 undef, t.getD 77 undef, t.getD 78 undef, t.getD 79 undef, t.getD 80 undef, t.getD 81 undef, t.getD 82 undef, t.getD 83 undef, t.getD 84 undef, t.getD 85 undef, t.getD 86 undef, t.getD 87 undef, t.getD 88 undef, t.getD 89 undef, t.getD 90 undef, t.getD 91 undef, t.getD 92 undef, t.getD 93 undef, t.getD 94 undef] → j = roads.length → WayIn p key q #[.slice a1 p.posts.length c1, .slice a2 p.queues.length c2, .slice a3 p.binds.length c3] w bs g bn seen0 roads D0 n0 vr j Ds W → Q0 (.exit 2) ⟨t, Ds.map mark⟩ W)
    (hret : ∀ (t : Array Value) (Ds : List Nat) (W : World) (l : List Int), t = #[t.getD 0 undef, t.getD 1 undef, .string key, t.getD 3 undef, .pointer (some ⟨w.heap.size, 0, none⟩), t.getD 5 undef, t.getD 6 undef, .pointer (some ⟨w.heap.size + 1, 0, none⟩), .pointer (some ⟨w.heap.size + 1 + 1, 0, none⟩), .pointer (some ⟨w.heap.size + 1 + 1 + 1, 0, none⟩), .pointer (some ⟨w.heap.size + 1 + 1 + 1 + 1, 0, none⟩), t.getD 11 undef, .pointer (some ⟨bs, 0, none⟩), t.getD 13 undef, .pointer (some ⟨bn, 0, none⟩), t.getD 15 undef, t.getD 16 undef, t.getD 17 undef, t.getD 18 undef, t.getD 19 undef, t.getD 20 undef, t.getD 21 undef, t.getD 22 undef, t.getD 23 undef, t.getD 24 undef, t.getD 25 undef, t.getD 26 undef, t.getD 27 undef, t.getD 28 undef, t.getD 29 undef, t.getD 30 undef, t.getD 31 undef, t.getD 32 undef, t.getD 33 undef, t.getD 34 undef, t.getD 35 undef, t.getD 36 undef, t.getD 37 undef, t.getD 38 undef, t.getD 39 undef, t.getD 40 undef, t.getD 41 undef, t.getD 42 undef, t.getD 43 undef, t.getD 44 undef, t.getD 45 undef, t.getD 46 undef, t.getD 47 undef, t.getD 48 undef, t.getD 49 undef, t.getD 50 undef, t.getD 51 undef, t.getD 52 undef, t.getD 53 undef, t.getD 54 undef, t.getD 55 undef, t.getD 56 undef, t.getD 57 undef, t.getD 58 undef, t.getD 59 undef, t.getD 60 undef, t.getD 61 undef, t.getD 62 undef, t.getD 63 undef, t.getD 64 undef, t.getD 65 undef, t.getD 66 undef, t.getD 67 undef, t.getD 68 undef, t.getD 69 undef, t.getD 70 undef, t.getD 71 undef, t.getD 72 undef, t.getD 73 undef, t.getD 74 undef, t.getD 75 undef, t.getD 76 undef, t.getD 77 undef, t.getD 78 undef, t.getD 79 undef, t.getD 80 undef, t.getD 81 undef, t.getD 82 undef, t.getD 83 undef, t.getD 84 undef, t.getD 85 undef, t.getD 86 undef, t.getD 87 undef, t.getD 88 undef, t.getD 89 undef, t.getD 90 undef, t.getD 91 undef, t.getD 92 undef, t.getD 93 undef, t.getD 94 undef] → roundW p key q roads (seen0, []) = .error l → WayFound w l Ds W → Q0 .ret ⟨t, Ds.map mark⟩ W)
    (u : Nat → Value) (j : Nat) (Ds : List Nat) (W : World) (h : WayIn p key q #[.slice a1 p.posts.length c1, .slice a2 p.queues.length c2, .slice a3 p.binds.length c3] w bs g bn seen0 roads D0 n0 vr j Ds W) : (Code.loop wayInner).wp Tryz.prog Q0 ⟨#[u 0, u 1, .string key, u 3, .pointer (some ⟨w.heap.size, 0, none⟩), u 5, u 6, .pointer (some ⟨w.heap.size + 1, 0, none⟩), .pointer (some ⟨w.heap.size + 1 + 1, 0, none⟩), .pointer (some ⟨w.heap.size + 1 + 1 + 1, 0, none⟩), .pointer (some ⟨w.heap.size + 1 + 1 + 1 + 1, 0, none⟩), u 11, .pointer (some ⟨bs, 0, none⟩), u 13, .pointer (some ⟨bn, 0, none⟩), u 15, u 16, u 17, u 18, u 19, u 20, u 21, u 22, u 23, u 24, u 25, u 26, u 27, u 28, u 29, u 30, u 31, u 32, u 33, u 34, u 35, u 36, u 37, u 38, u 39, u 40, u 41, u 42, u 43, u 44, vr, .int .i64 (roads.length : Int), .int .i64 (j : Int), u 48, u 49, u 50, u 51, u 52, u 53, u 54, u 55, u 56, u 57, u 58, u 59, u 60, u 61, u 62, u 63, u 64, u 65, u 66, u 67, u 68, u 69, u 70, u 71, u 72, u 73, u 74, u 75, u 76, u 77, u 78, u 79, u 80, u 81, u 82, u 83, u 84, u 85, u 86, u 87, u 88, u 89, u 90, u 91, u 92, u 93, u 94], Ds.map mark⟩ W := by
  refine wp_loop (fun a' wr => ∃ (u : Nat → Value) (j : Nat) (Ds : List Nat), WayIn p key q #[.slice a1 p.posts.length c1, .slice a2 p.queues.length c2, .slice a3 p.binds.length c3] w bs g bn seen0 roads D0 n0 vr j Ds wr ∧ a' = ⟨#[u 0, u 1, .string key, u 3, .pointer (some ⟨w.heap.size, 0, none⟩), u 5, u 6, .pointer (some ⟨w.heap.size + 1, 0, none⟩), .pointer (some ⟨w.heap.size + 1 + 1, 0, none⟩), .pointer (some ⟨w.heap.size + 1 + 1 + 1, 0, none⟩), .pointer (some ⟨w.heap.size + 1 + 1 + 1 + 1, 0, none⟩), u 11, .pointer (some ⟨bs, 0, none⟩), u 13, .pointer (some ⟨bn, 0, none⟩), u 15, u 16, u 17, u 18, u 19, u 20, u 21, u 22, u 23, u 24, u 25, u 26, u 27, u 28, u 29, u 30, u 31, u 32, u 33, u 34, u 35, u 36, u 37, u 38, u 39, u 40, u 41, u 42, u 43, u 44, vr, .int .i64 (roads.length : Int), .int .i64 (j : Int), u 48, u 49, u 50, u 51, u 52, u 53, u 54, u 55, u 56, u 57, u 58, u 59, u 60, u 61, u 62, u 63, u 64, u 65, u 66, u 67, u 68, u 69, u 70, u 71, u 72, u 73, u 74, u 75, u 76, u 77, u 78, u 79, u 80, u 81, u 82, u 83, u 84, u 85, u 86, u 87, u 88, u 89, u 90, u 91, u 92, u 93, u 94], Ds.map mark⟩) (fun a' _ => roads.length - (intOf (a'.tmps.getD 47 undef)).toNat) ⟨u, j, Ds, h, rfl⟩ ?_
  clear h u j Ds W
  rintro a' wr ⟨u, j, Ds, hrel, rfl⟩
  have HV := Lib.hid (And.intro hpl hv)
  have HEND := Lib.hid hend
  have HRET := Lib.hid hret
  have HREL := Lib.hid hrel
  obtain ⟨seen, next, vn, x1, x2, x3, x4, x5, x6⟩ := hrel.ex
  obtain ⟨avr, cvr, rfl, _⟩ := own_slice hrel.roads.choose_spec.2.1
  have hjl := hrel.le
  have HX := Lib.hid (And.intro x1 (And.intro x2 (And.intro x3 (And.intro x4 (And.intro x5 x6)))))
  have hro := hrel.roads
  clear x1 x2 x3 x4 x5 x6 hpl hv hend hret hrel
  conv => arg 2; whnf
  by_cases hlt : j < roads.length
  · obtain ⟨r, hj⟩ : ∃ r, roads[j]? = some r := ⟨_, List.getElem?_eq_getElem hlt⟩
    have hrr := hroads r (List.mem_of_getElem? hj)
    obtain ⟨k, hk⟩ : ∃ k : Nat, r.1 = (k : Int) := ⟨r.1.toNat, by omega⟩
    have HK := Lib.hid (And.intro hk (show k < p.posts.length by omega))
    obtain ⟨bsv, y1, y2, y3⟩ := hro
    obtain ⟨vb, hvb⟩ : ∃ vb, bsv[j]? = some vb := ⟨_, List.getElem?_eq_getElem (by omega)⟩
    have hi := y3 j r vb hj hvb
    obtain ⟨f1, f2⟩ := flatR_at roads bsv j r vb hj hvb
    obtain ⟨gr, rfl⟩ : ∃ gr, avr = some ⟨gr, 0, none⟩ := by
      rcases y2.2 with ⟨_, h⟩ | ⟨g2, cap, cur, h, _⟩
      · omega
      · cases h
        exact ⟨g2, rfl⟩
    have d0 := (y2.cellAt (j * 2) (by omega)).trans f1
    have d1 := (y2.cellAt (j * 2 + 1) (by omega)).trans f2
    obtain ⟨ab, cb, rfl, _⟩ := own_slice hi
    have hgl := World.block_lt_of_cell? _ _ d0
    obtain ⟨W1, hW1⟩ : ∃ W1, wr.alloc (.cells #[.int .i64 r.1, .slice ab r.2.length cb] 66) = W1 := ⟨_, rfl⟩
    have hb1 : Below wr.heap.size wr W1 := by rw [← hW1]; exact (Below.refl _ _).alloc (Nat.le_refl _) _
    have hbr : Bk W1 wr.heap.size 66 #[.int .i64 r.1, .slice ab r.2.length cb] := by rw [← hW1]; exact Bk.new _ _ _
    have hz1 : W1.heap.size = wr.heap.size + 1 := by rw [← hW1]; simp
    have kp := HX.out.2.2.1.plan.below hb1 HX.out.2.2.1.plan.lt
    have m0 := kp.cell 0
    have m1 := kp.cell 1
    have m2 := kp.cell 2
    have e0 := hbr.cell 0
    simp only [List.getElem?_toArray, List.getElem?_cons_zero, List.getElem?_cons_succ] at m0 m1 m2 e0
    have HW := Lib.hid (And.intro hb1 (And.intro hbr hz1))
    have HI := Lib.hid hi
    have HJ := Lib.hid hj
    clear hi hj f1 f2 y1 y2 y3 hvb hb1 hbr hz1 kp hk hrr
    have HLT := Lib.hid hlt
    have hjn : (j : Int) < (roads.length : Int) := by omega
    go_wp2_with (go_at_call 32; (with_reducible refine (on_any _ _ _ _ _ W1 ⟨_, rfl⟩).mono ?_); rintro e W2 ⟨rfl, n1, n2, n3, hb⟩; have HN := Lib.hid (And.intro n1 (And.intro n2 (And.intro n3 hb))); clear n1 n2 n3 hb)
    clear d0 d1 m0 m1 m2 e0 hW1
    have HB2 : Hid (Below wr.heap.size wr W2) := Lib.hid (HW.out.1.trans (HN.out.2.2.2.mono HW.out.1.size))
    have HBB : Hid (w.heap.size ≤ W2.heap.size ∧ w.heap.size ≤ wr.heap.size) := by
      have h1 := HX.out.2.2.1.below.size
      have h2 := HB2.out.size
      exact Lib.hid ⟨by omega, h1⟩
    obtain ⟨Rd, hRd⟩ : ∃ Rd, Rd = OnRd w.heap.size W1.heap.size (W1.heap.size + 1) (W1.heap.size + 2) := ⟨_, rfl⟩
    have HFX : Hid (WFix q w W2 bs g bn wr.heap.size vn (.slice ab r.2.length cb) r) := Lib.hid (way_wfix HX.out.2.2.1 HX.out.2.2.2.1 HX.out.2.2.2.2.1 HB2.out HREL.out.bn (Nat.le_refl _) (HW.out.2.1.below HN.out.2.2.2 HW.out.2.1.lt) HI.out)
    have HRd : Hid (∀ r, Rd r → r < W2.heap.size ∧ r ≠ g ∧ r ≠ bn ∧ vn.ownBlock ≠ some r) := by
      refine Lib.hid fun x h => ?_
      have h1 := HN.out.1.lt
      have h2 := HN.out.2.1.lt
      have h3 := HN.out.2.2.1.lt
      have h4 := HBB.out
      have h5 := HW.out.2.2
      have h6 := HREL.out.bn
      have h7 := HX.out.2.2.1.far.1
      have h8 := HX.out.2.2.2.1.lt
      obtain ⟨D, hm, _⟩ := HX.out.2.2.1.map
      obtain ⟨o, ho, hc⟩ := way_gm hm
      have h9 := (Array.getElem?_eq_some_iff.1 ho).1
      obtain ⟨bs', _, h10, _⟩ := HX.out.2.2.2.2.1
      rw [hRd] at h
      unfold OnRd at h
      refine ⟨by omega, by omega, by omega, fun e => ?_⟩
      have h11 := h10.lt x e
      omega
    have HST := Lib.hid (on_stops_sub 3 (by decide) p k key a1 a2 a3 c1 c2 c3 w.heap.size W1.heap.size (W1.heap.size + 1) (W1.heap.size + 2) W2 HK.out.2 hs hkey HN.out.1 (by have := HN.out.2.1; rwa [HK.out.1] at this) HN.out.2.2.1
      (PlanAt.keep' HV.out.1 fun x hx => (HX.out.2.2.1.below.trans (HB2.out.mono HBB.out.2)).cell (p := x) hx) (HV.out.2.keep fun x hx => (HX.out.2.2.1.below.trans (HB2.out.mono HBB.out.2)).cell (p := x) hx) HBB.out.1)
    rw [← hRd] at HST
    have HI0 : Hid (WI p n0 q w W2 g bn vn r (seen, next) [] W2) := Lib.hid (way_wi0 HX.out.2.2.1 HX.out.2.2.2.1 HX.out.2.2.2.2.1 HX.out.2.1 HB2.out)
    have HG : Hid (g < W2.heap.size) := by
      obtain ⟨o, ho, _⟩ := HFX.out.map
      exact Lib.hid (Array.getElem?_eq_some_iff.1 ho).1
    have HON : Hid ((∀ z, z ∈ onL p (k : Int) key → z ∈ onL p r.1 key) ∧ (∀ z, z <+: onL p (k : Int) key → z <+: onL p r.1 key) ∧ onL p (k : Int) key = onL p r.1 key) := Lib.hid (by rw [HK.out.1]; exact ⟨fun _ h => h, fun _ h => h, rfl⟩)
    clear hRd
    refine (wpIn_wide (n := 4)).1 ?_
    refine wpIn_rangeFunc_ownH rfl (by decide) (gf := 60) (lb := #[.pointer (some ⟨W1.heap.size, 0, none⟩), .pointer (some ⟨W1.heap.size + 1, 0, none⟩), .pointer (some ⟨W1.heap.size + 2, 0, none⟩)]) rfl trivial (enters_of Tryz.func60 (by kernel_rfl) rfl)
      HST.out (fun h k => KpS.trans h k) (fun W l o o' hl _ _ _ => ⟨KpAt.putObj (B := W2.heap.size) (fun r hr => (HRd.out r hr).1) W l o' hl, by simp⟩) (Below.refl _ _) (fun _ => rfl)
      (fun pre W => WI p n0 q w W2 g bn vn r (seen, next) (pre.map Subtype.val) W) (fun c pre W => c = .ret ∧ WX q w r W2 g bn vn (pre.map Subtype.val) W)
      (fun pre A B row h hg hr => WI.own h HBB.out.1 HG.out hg hr) (fun c pre A B row h hg hr => ⟨h.1, WX.own h.2 HBB.out.1 hg hr⟩) HI0.out
      (fun y a' W => ∃ (bb : Nat) (u : Nat → Value), W2.heap.size ≤ bb ∧ Bk W bb 61 #[.int .i64 y.1.2.src, .bool y.1.2.toPost, .int .i64 y.1.2.to, .string y.1.2.pattern] ∧ a' = ⟨#[u 0, u 1, u 2, u 3, u 4, u 5, u 6, .pointer (some ⟨w.heap.size + 1, 0, none⟩), .pointer (some ⟨w.heap.size + 1 + 1, 0, none⟩), .pointer (some ⟨w.heap.size + 1 + 1 + 1, 0, none⟩), .pointer (some ⟨w.heap.size + 1 + 1 + 1 + 1, 0, none⟩), u 11, .pointer (some ⟨bs, 0, none⟩), u 13, .pointer (some ⟨bn, 0, none⟩), u 15, .pointer (some ⟨wr.heap.size, 0, none⟩), .int .i64 (y.1.1 : Int), .pointer (some ⟨bb, 0, none⟩), u 19, u 20, u 21, u 22, u 23, u 24, u 25, u 26, u 27, u 28, u 29, u 30, u 31, u 32, u 33, u 34, u 35, u 36, u 37, u 38, u 39, u 40, u 41, u 42, u 43, u 44, u 45, u 46, u 47, u 48, u 49, u 50, u 51, u 52, u 53, u 54, u 55, u 56, u 57, u 58, u 59, u 60, u 61, u 62, u 63, u 64, u 65, u 66, u 67, u 68, u 69, u 70, u 71, u 72, u 73, u 74, u 75, u 76, u 77, u 78, u 79, u 80, u 81, u 82, u 83, u 84, u 85, u 86, u 87, u 88, u 89, u 90, u 91, u 92, u 93, u 94], []⟩) ?ax ?assign ?body ?done ?stop
    case ax =>
      rintro y a' _ A B row ⟨bb, u', h1, h2, h3⟩ hg hrow
      exact ⟨bb, u', h1, h2.row hg (fun r e => (hrow r e).2), h3⟩
    case assign =>
      intro l pre y W K hC hK
      have hCs := hC.size
      unfold vBind
      gi_wp2
      refine hK _ _ ?_ ?_ ?_ ?_
      · exact (KeepsOthers.alloc W _).from _
      · exact ⟨(KpAt.refl _ _).alloc (fun r hr => (HRd.out r hr).1) hCs _, by simp⟩
      · exact hC.on ((Below.refl _ _).alloc (Nat.le_refl _) _) rfl hC.no
      · exact ⟨W.heap.size, frameB_ax hCs (Bk.new _ _ _) rfl⟩
    case body =>
      rintro l pre y a' W hl - hC ⟨bb, u', hb1, hb2, rfl⟩ hlen
      have hyn := HON.out.1 y.1 y.2
      refine wpIn_mono (way_body p hr hs key q n0 w W2 bs g bn wr.heap.size bb vn _ r (seen, next) u' l (pre.map Subtype.val) y.1 W hyn HFX.out hC hb2 (hroads r (List.mem_of_getElem? HJ.out)).2 hq) ?_
      rintro e a3 W3 h
      cases e with
      | normal =>
        refine ⟨h.1.keeps, ⟨fun x hx => ?_, h.1.size⟩, by show WI p n0 q w W2 g bn vn r (seen, next) ((pre ++ [y]).map Subtype.val) W3; rw [List.map_append]; exact h.2⟩
        have := HRd.out x hx
        exact h.1.kept x this.1 this.2.1 this.2.2.1 this.2.2.2
      | ret => exact ⟨h.1, rfl, by show WX q w r W2 g bn vn ((pre ++ [y]).map Subtype.val) W3; rw [List.map_append]; exact h.2⟩
      | exit id => exact h.elim
      | goto t => exact h.elim
      | panic c => exact h.elim
      | outgrown => exact h.elim
    case done =>
      rintro D ys W hD hys hC hDe
      rw [hys, HON.out.2.2] at hC
      have HREL2 := Lib.hid (way_next HLT.out HJ.out HREL.out HX.out.2.2.1 HX.out.1 HX.out.2.2.2.1 HX.out.2.2.2.2.1 HX.out.2.2.2.2.2 HB2.out hC hD hDe)
      clear hC hDe hD hys
      go_wp2
      exact ⟨wayIn_close HREL2.out rfl rfl, by simp [intOf]; omega⟩
    case stop =>
      rintro D c pre W hD hSp ⟨rfl, hX⟩ hDe
      have hSp := HON.out.2.1 _ hSp
      obtain ⟨l, e1, e2⟩ := way_end HLT.out HJ.out HREL.out HX.out.2.2.1 HX.out.1 HX.out.2.2.2.1 HX.out.2.2.2.2.1 HB2.out hSp hX hD hDe
      have HE := Lib.hid (And.intro e1 e2)
      clear hX hDe hD hSp e1 e2
      refine wpIn_ret ?_
      go_wp2
      exact HRET.out _ (D :: Ds) _ l rfl HE.out.1 HE.out.2
  · obtain rfl : j = roads.length := by omega
    clear hro
    go_wp2
    exact HEND.out _ _ _ _ rfl rfl HREL.out
theorem way_inner_at (p : PlanD) (hr : PlanRight p) (hs : PlanSmall p) (key : ByteArray) (hkey : key.size ≤ 1048576) (q : Int) (hq : 0 ≤ q ∧ q ≤ 1048576) (a1 a2 a3 : Option Addr) (c1 c2 c3 n0 D0 : Nat) (w : World) (bs g bn : Nat) (seen0 : List Int) (roads : List Road) (vr : Value)
    (hpl : PlanAt w 0 w.heap.size a1 a2 a3 p) (hv : EnvB w.heap.size w) (hroads : ∀ r ∈ roads, (0 ≤ r.1 ∧ r.1 < (p.posts.length : Int)) ∧ r.2.length ≤ 1048576) (hrl : roads.length ≤ 1048576)
    (Q0 : Exit → Act → World → Prop) (t : Array Value) (j : Nat) (Ds : List Nat) (W : World) (ds : List Deferred) (ht : t = #[t.getD 0 undef, t.getD 1 undef, .string key, t.getD 3 undef, .pointer (some ⟨w.heap.size, 0, none⟩), t.getD 5 undef, t.getD 6 undef, .pointer (some ⟨w.heap.size + 1, 0, none⟩), .pointer (some ⟨w.heap.size + 1 + 1, 0, none⟩), .pointer (some ⟨w.heap.size + 1 + 1 + 1, 0, none⟩), .pointer (some ⟨w.heap.size + 1 + 1 + 1 + 1, 0, none⟩), t.getD 11 undef, .pointer (some ⟨bs, 0, none⟩), t.getD 13 undef, .pointer (some ⟨bn, 0, none⟩), t.getD 15 undef, t.getD 16 undef, t.getD 17 undef, t.getD 18 undef, t.getD 19 undef, t.getD 20 undef, t.getD 21 undef, t.getD 22 undef, t.getD 23 undef, t.getD 24 undef, t.getD 25 undef, t.getD 26 undef, t.getD 27 undef, t.getD 28 undef, t.getD 29 undef, t.getD 30 undef, t.getD 31 undef, t.getD 32 undef, t.getD 33 undef, t.getD 34 undef, t.getD 35 undef, t.getD 36 undef, t.getD 37 undef, t.getD 38 undef, t.getD 39 undef, t.getD 40 undef, t.getD 41 undef, t.getD 42 undef, t.getD 43 undef, t.getD 44 undef, vr, .int .i64 (roads.length : Int), .int .i64 (j : Int), t.getD 48 undef, t.getD 49 undef, t.getD 50 undef, t.getD 51 undef, t.getD 52 undef, t.getD 53 undef, t.getD 54 undef, t.getD 55 undef, t.getD 56 undef, t.getD 57 undef, t.getD 58 undef, t.getD 59 undef, t.getD 60 undef, t.getD 61 undef, t.getD 62 undef, t.getD 63 undef, t.getD 64 undef, t.getD 65 undef, t.getD 66 undef, t.getD 67 undef, t.getD 68 undef, t.getD 69 undef, t.getD 70 undef, t.getD 71 undef, t.getD 72 undef, t.getD 73 undef, t.getD 74 undef, t.getD 75 undef, t.getD 76 undef, t.getD 77 undef, t.getD 78 undef, t.getD 79 undef, t.getD 80 undef, t.getD 81 undef, t.getD 82 undef, t.getD 83 undef, t.getD 84 undef, t.getD 85 undef, t.getD 86 undef, t.getD 87 undef, t.getD 88 undef, t.getD 89 undef, t.getD 90 undef, t.getD 91 undef, t.getD 92 undef, t.getD 93 undef, t.getD 94 undef]) (hd : ds = Ds.map mark) (h : WayIn p key q #[.slice a1 p.posts.length c1, .slice a2 p.queues.length c2, .slice a3 p.binds.length c3] w bs g bn seen0 roads D0 n0 vr j Ds W)
    (hend : ∀ (t : Array Value) (j : Nat) (Ds : List Nat) (W : World), t = #[t.getD 0 undef, t.getD 1 undef, .string key, t.getD 3 undef, .pointer (some ⟨w.heap.size, 0, none⟩), t.getD 5 undef, t.getD 6 undef, .pointer (some ⟨w.heap.size + 1, 0, none⟩), .pointer (some ⟨w.heap.size + 1 + 1, 0, none⟩), .pointer (some ⟨w.heap.size + 1 + 1 + 1, 0, none⟩), .pointer (some ⟨w.heap.size + 1 + 1 + 1 + 1, 0, none⟩), t.getD 11 undef, .pointer (some ⟨bs, 0, none⟩), t.getD 13 undef, .pointer (some ⟨bn, 0, none⟩), t.getD 15 undef, t.getD 16 undef, t.getD 17 undef, t.getD 18 undef, t.getD 19 undef, t.getD 20 undef, t.getD 21 undef, t.getD 22 undef, t.getD 23 undef, t.getD 24 undef, t.getD 25 undef, t.getD 26 undef, t.getD 27 undef, t.getD 28 undef, t.getD 29 undef, t.getD 30 undef, t.getD 31 undef, t.getD 32 undef, t.getD 33 undef, t.getD 34 undef, t.getD 35 undef, t.getD 36 undef, t.getD 37 undef, t.getD 38 undef, t.getD 39 undef, t.getD 40 undef, t.getD 41 undef, t.getD 42 undef, t.getD 43 undef, t.getD 44 undef, vr, .int .i64 (roads.length : Int), .int .i64 (j : Int), t.getD 48 undef, t.getD 49 undef, t.getD 50 undef, t.getD 51 undef, t.getD 52 undef, t.getD 53 undef, t.getD 54 undef, t.getD 55 undef, t.getD 56 undef, t.getD 57 undef, t.getD 58 undef, t.getD 59 undef, t.getD 60 undef, t.getD 61 undef, t.getD 62 undef, t.getD 63 undef, t.getD 64 undef, t.getD 65 undef, t.getD 66 undef, t.getD 67 undef, t.getD 68 undef, t.getD 69 undef, t.getD 70 undef, t.getD 71 undef, t.getD 72 undef, t.getD 73 undef, t.getD 74 undef, t.getD 75 undef, t.getD 76 undef, t.getD 77 undef, t.getD 78 undef, t.getD 79 undef, t.getD 80 undef, t.getD 81 undef, t.getD 82 undef, t.getD 83 undef, t.getD 84 undef, t.getD 85 undef, t.getD 86 undef, t.getD 87 undef, t.getD 88 undef, t.getD 89 undef, t.getD 90 undef, t.getD 91 undef, t.getD 92 undef, t.getD 93 undef, t.getD 94 undef] → j = roads.length → WayIn p key q #[.slice a1 p.posts.length c1, .slice a2 p.queues.length c2, .slice a3 p.binds.length c3] w bs g bn seen0 roads D0 n0 vr j Ds W → Q0 (.exit 2) ⟨t, Ds.map mark⟩ W)
    (hret : ∀ (t : Array Value) (Ds : List Nat) (W : World) (l : List Int), t = #[t.getD 0 undef, t.getD 1 undef, .string key, t.getD 3 undef, .pointer (some ⟨w.heap.size, 0, none⟩), t.getD 5 undef, t.getD 6 undef, .pointer (some ⟨w.heap.size + 1, 0, none⟩), .pointer (some ⟨w.heap.size + 1 + 1, 0, none⟩), .pointer (some ⟨w.heap.size + 1 + 1 + 1, 0, none⟩), .pointer (some ⟨w.heap.size + 1 + 1 + 1 + 1, 0, none⟩), t.getD 11 undef, .pointer (some ⟨bs, 0, none⟩), t.getD 13 undef, .pointer (some ⟨bn, 0, none⟩), t.getD 15 undef, t.getD 16 undef, t.getD 17 undef, t.getD 18 undef, t.getD 19 undef, t.getD 20 undef, t.getD 21 undef, t.getD 22 undef, t.getD 23 undef, t.getD 24 undef, t.getD 25 undef, t.getD 26 undef, t.getD 27 undef, t.getD 28 undef, t.getD 29 undef, t.getD 30 undef, t.getD 31 undef, t.getD 32 undef, t.getD 33 undef, t.getD 34 undef, t.getD 35 undef, t.getD 36 undef, t.getD 37 undef, t.getD 38 undef, t.getD 39 undef, t.getD 40 undef, t.getD 41 undef, t.getD 42 undef, t.getD 43 undef, t.getD 44 undef, t.getD 45 undef, t.getD 46 undef, t.getD 47 undef, t.getD 48 undef, t.getD 49 undef, t.getD 50 undef, t.getD 51 undef, t.getD 52 undef, t.getD 53 undef, t.getD 54 undef, t.getD 55 undef, t.getD 56 undef, t.getD 57 undef, t.getD 58 undef, t.getD 59 undef, t.getD 60 undef, t.getD 61 undef, t.getD 62 undef, t.getD 63 undef, t.getD 64 undef, t.getD 65 undef, t.getD 66 undef, t.getD 67 undef, t.getD 68 undef, t.getD 69 undef, t.getD 70 undef, t.getD 71 undef, t.getD 72 undef, t.getD 73 undef, t.getD 74 undef, t.getD 75 undef, t.getD 76 undef, t.getD 77 undef, t.getD 78 undef, t.getD 79 undef, t.getD 80 undef, t.getD 81 undef, t.getD 82 undef, t.getD 83 undef, t.getD 84 undef, t.getD 85 undef, t.getD 86 undef, t.getD 87 undef, t.getD 88 undef, t.getD 89 undef, t.getD 90 undef, t.getD 91 undef, t.getD 92 undef, t.getD 93 undef, t.getD 94 undef] → roundW p key q roads (seen0, []) = .error l → WayFound w l Ds W → Q0 .ret ⟨t, Ds.map mark⟩ W) : (Code.loop wayInner).wp Tryz.prog Q0 ⟨t, ds⟩ W := by
  subst hd
  obtain ⟨u, hu⟩ := frameI_of ht
  rw [hu]
  exact way_inner p hr hs key hkey q hq a1 a2 a3 c1 c2 c3 n0 D0 w bs g bn seen0 roads vr hpl hv hroads hrl Q0 hend hret u j Ds W h
end Go.Proofs.YtapimpmpjighmaaGreatDoor

namespace Go.Proofs.YtapimpmpjighmaaGreatDoor
open Go Go.RowKit Go.Shelf Go.Sort
set_option maxRecDepth 100000
attribute [local go_sem] Oper.semAt_some

def wayErr (p : PlanD) (x : Int) (key : ByteArray) (q : Int) : Int := if routeErr p x key ≠ 0 then routeErr p x key else if q < 0 ∨ (p.queues.length : Int) ≤ q then 5 else 0
def wayR (p : PlanD) (x : Int) (key : ByteArray) (q : Int) : Option (List Int) := if wayErr p x key q = 0 then wayF p x key q else none

/-- What Way leaves. -/
def WayPost (p : PlanD) (x : Int) (key : ByteArray) (q : Int) (w : World) (e : Ending) (w' : World) : Prop :=
  ∃ v, e = .returned (.tuple #[v, .bool (wayR p x key q).isSome, .int .i64 (wayErr p x key q)]) ∧ IntsO w' w.heap.size v ((wayR p x key q).getD []) ∧ Below w.heap.size w w'

theorem way_results (tmps : Array Value) (w : World) (b8 b9 b10 : Nat) (v : Value) (b : Bool) (e : Int) (hv : ∃ a n c, v = .slice a n c) (h8 : tmps.getD 8 undef = .pointer (some ⟨b8, 0, none⟩)) (h9 : tmps.getD 9 undef = .pointer (some ⟨b9, 0, none⟩)) (h10 : tmps.getD 10 undef = .pointer (some ⟨b10, 0, none⟩))
    (c8 : w.cell? ⟨b8, 0, none⟩ = some v) (c9 : w.cell? ⟨b9, 0, none⟩ = some (.bool b)) (c10 : w.cell? ⟨b10, 0, none⟩ = some (.int .i64 e)) :
    (results Tryz.f14 tmps).run Tryz.prog w = .ok (.tuple #[v, .bool b, .int .i64 e]) w := by
  obtain ⟨a, n, c, rfl⟩ := hv
  simp only [Array.getD_eq_getD_getElem?] at h8 h9 h10
  simp [results, Tryz.results14, go_sem, h8, h9, h10, c8, c9, c10]
/-- Way ends: the marks are taken, the three results read. -/
theorem way_leaves {p : PlanD} {x q : Int} {key : ByteArray} {w W : World} {F : Fence} {n : Nat} {tmps : Array Value} {Ds : List Nat} (b8 b9 b10 : Nat) (v : Value) (b : Bool) (e : Int) (hv : ∃ a n c, v = .slice a n c)
    (h8 : tmps.getD 8 undef = .pointer (some ⟨b8, 0, none⟩)) (h9 : tmps.getD 9 undef = .pointer (some ⟨b9, 0, none⟩)) (h10 : tmps.getD 10 undef = .pointer (some ⟨b10, 0, none⟩))
    (c8 : Bk W b8 27 #[v]) (c9 : Bk W b9 4 #[.bool b]) (c10 : Bk W b10 28 #[.int .i64 e]) (hM : MarksOk w.heap.size W Ds) (hB : Below w.heap.size w W)
    (hb : b = (wayR p x key q).isSome) (he : e = wayErr p x key q) (hI : IntsO W w.heap.size v ((wayR p x key q).getD [])) :
    LeavesInM F n Tryz.prog Tryz.f14 tmps (WayPost p x key q w) (Ds.map mark) .returning W := by
  subst hb he
  refine leaves_marks Ds W hM fun W' hs => ⟨_, way_results tmps W' b8 b9 b10 v _ _ hv h8 h9 h10 ((hs.bk c8).cell 0) ((hs.bk c9).cell 0) ((hs.bk c10).cell 0), ?_⟩
  exact ⟨v, rfl, hs.own hI, hB.trans hs.below⟩

/-- The state at the head of the outer loop. -/
def OutRel (p : PlanD) (k : Int) (key : ByteArray) (q : Int) (P : Array Value) (w : World) (bs g : Nat) (v : Value) (ds : List Deferred) (wr : World) : Prop :=
  ∃ (i : Nat) (seen : List Int) (roads : List Road) (Ds : List Nat), ds = Ds.map mark ∧ wayAt p k key q i = .ok (seen, roads) ∧ WayOk p Ds.length (seen, roads) ∧ i ≤ Ds.length ∧
    WayM q P w bs g seen Ds wr ∧ RoadsAt wr w.heap.size v roads

theorem marks_set {B : Nat} {W : World} {Ds : List Nat} (h : MarksOk B W Ds) {b : Nat} {t : TypeId} {cs : Array Value} (hb : Bk W b t cs) (i : Nat) (u : Value) : MarksOk B (W.setCell ⟨b, i, none⟩ u) Ds :=
  h.kept fun D hD => Below.heap_setCell _ _ _ _ (fun e => by
    have h1 := (h.2 D hD).2
    have h2 : W.heap[b]? = _ := hb
    subst e
    rw [h1] at h2
    cases h2)

/-- Way ends without a way. -/
theorem way_stop {p : PlanD} {x q : Int} {key : ByteArray} {w W : World} {F : Fence} {n : Nat} {tmps : Array Value} (e : Int)
    (h8 : tmps.getD 8 undef = .pointer (some ⟨w.heap.size + 1 + 1, 0, none⟩)) (h9 : tmps.getD 9 undef = .pointer (some ⟨w.heap.size + 1 + 1 + 1, 0, none⟩)) (h10 : tmps.getD 10 undef = .pointer (some ⟨w.heap.size + 1 + 1 + 1 + 1, 0, none⟩))
    (c8 : Bk W (w.heap.size + 1 + 1) 27 #[.slice none 0 0]) (c9 : Bk W (w.heap.size + 1 + 1 + 1) 4 #[.bool false]) (c10 : Bk W (w.heap.size + 1 + 1 + 1 + 1) 28 #[.int .i64 0]) (hB : Below w.heap.size w W)
    (hr : wayR p x key q = none) (he : e = wayErr p x key q) {Ds : List Nat} (hM : MarksOk w.heap.size W Ds) :
    LeavesInM F n Tryz.prog Tryz.f14 tmps (WayPost p x key q w) (Ds.map mark) .returning (((W.setCell ⟨w.heap.size + 1 + 1, 0, none⟩ (.slice none 0 0)).setCell ⟨w.heap.size + 1 + 1 + 1, 0, none⟩ (.bool false)).setCell ⟨w.heap.size + 1 + 1 + 1 + 1, 0, none⟩ (.int .i64 e)) :=
  way_leaves (Ds := Ds) _ _ _ (.slice none 0 0) false e ⟨_, _, _, rfl⟩ h8 h9 h10 ((((c8.set_ 0 _).far (p := ⟨w.heap.size + 1 + 1 + 1, 0, none⟩) (by simp) _).far (p := ⟨w.heap.size + 1 + 1 + 1 + 1, 0, none⟩) (by simp <;> omega) _)) (((c9.far (p := ⟨w.heap.size + 1 + 1, 0, none⟩) (by simp) _).set_ 0 _).far (p := ⟨w.heap.size + 1 + 1 + 1 + 1, 0, none⟩) (by simp) _) (((c10.far (p := ⟨w.heap.size + 1 + 1, 0, none⟩) (by simp <;> omega) _).far (p := ⟨w.heap.size + 1 + 1 + 1, 0, none⟩) (by simp) _).set_ 0 _) (marks_set (marks_set (marks_set hM c8 _ _) (c9.far (p := ⟨w.heap.size + 1 + 1, 0, none⟩) (by simp) _) _ _) ((c10.far (p := ⟨w.heap.size + 1 + 1, 0, none⟩) (by simp <;> omega) _).far (p := ⟨w.heap.size + 1 + 1 + 1, 0, none⟩) (by simp) _) _ _)
    (((hB.setCell (p := ⟨w.heap.size + 1 + 1, 0, none⟩) (by simp <;> omega) _).setCell (p := ⟨w.heap.size + 1 + 1 + 1, 0, none⟩) (by simp <;> omega) _).setCell (p := ⟨w.heap.size + 1 + 1 + 1 + 1, 0, none⟩) (by simp <;> omega) _) (by rw [hr]; rfl) he (by rw [hr]; exact World.ownsRow_nil _ _ _ _)

theorem outer_close {p : PlanD} {k : Int} {key : ByteArray} {q : Int} {P : Array Value} {w W : World} {bs g : Nat} {v : Value} {t : Array Value} {ds : List Deferred} (h : OutRel p k key q P w bs g v ds W) (ht : t = #[t.getD 0 undef, t.getD 1 undef, .string key, t.getD 3 undef, .pointer (some ⟨w.heap.size, 0, none⟩), t.getD 5 undef, t.getD 6 undef, .pointer (some ⟨w.heap.size + 1, 0, none⟩), .pointer (some ⟨w.heap.size + 1 + 1, 0, none⟩), .pointer (some ⟨w.heap.size + 1 + 1 + 1, 0, none⟩), .pointer (some ⟨w.heap.size + 1 + 1 + 1 + 1, 0, none⟩), t.getD 11 undef, .pointer (some ⟨bs, 0, none⟩), v, t.getD 14 undef, t.getD 15 undef, t.getD 16 undef, t.getD 17 undef, t.getD 18 undef, t.getD 19 undef, t.getD 20 undef, t.getD 21 undef, t.getD 22 undef, t.getD 23 undef, t.getD 24 undef, t.getD 25 undef, t.getD 26 undef, t.getD 27 undef, t.getD 28 undef, t.getD 29 undef, t.getD 30 undef, t.getD 31 undef, t.getD 32 undef, t.getD 33 undef, t.getD 34 undef, t.getD 35 undef, t.getD 36 undef, t.getD 37 undef, t.getD 38 undef, t.getD 39 undef, t.getD 40 undef, t.getD 41 undef, t.getD 42 undef, t.getD 43 undef, t.getD 44 undef, t.getD 45 undef, t.getD 46 undef, t.getD 47 undef, t.getD 48 undef, t.getD 49 undef, t.getD 50 undef, t.getD 51 undef, t.getD 52 undef, t.getD 53 undef, t.getD 54 undef, t.getD 55 undef, t.getD 56 undef, t.getD 57 undef, t.getD 58 undef, t.getD 59 undef, t.getD 60 undef, t.getD 61 undef, t.getD 62 undef, t.getD 63 undef, t.getD 64 undef, t.getD 65 undef, t.getD 66 undef, t.getD 67 undef, t.getD 68 undef, t.getD 69 undef, t.getD 70 undef, t.getD 71 undef, t.getD 72 undef, t.getD 73 undef, t.getD 74 undef, t.getD 75 undef, t.getD 76 undef, t.getD 77 undef, t.getD 78 undef, t.getD 79 undef, t.getD 80 undef, t.getD 81 undef, t.getD 82 undef, t.getD 83 undef, t.getD 84 undef, t.getD 85 undef, t.getD 86 undef, t.getD 87 undef, t.getD 88 undef, t.getD 89 undef, t.getD 90 undef, t.getD 91 undef, t.getD 92 undef, t.getD 93 undef, t.getD 94 undef]) :
    ∃ (u : Nat → Value) (v13 : Value) (ds' : List Deferred), OutRel p k key q P w bs g v13 ds' W ∧ (⟨t, ds⟩ : Act) = ⟨#[u 0, u 1, .string key, u 3, .pointer (some ⟨w.heap.size, 0, none⟩), u 5, u 6, .pointer (some ⟨w.heap.size + 1, 0, none⟩), .pointer (some ⟨w.heap.size + 1 + 1, 0, none⟩), .pointer (some ⟨w.heap.size + 1 + 1 + 1, 0, none⟩), .pointer (some ⟨w.heap.size + 1 + 1 + 1 + 1, 0, none⟩), u 11, .pointer (some ⟨bs, 0, none⟩), v13, u 14, u 15, u 16, u 17, u 18, u 19, u 20, u 21, u 22, u 23, u 24, u 25, u 26, u 27, u 28, u 29, u 30, u 31, u 32, u 33, u 34, u 35, u 36, u 37, u 38, u 39, u 40, u 41, u 42, u 43, u 44, u 45, u 46, u 47, u 48, u 49, u 50, u 51, u 52, u 53, u 54, u 55, u 56, u 57, u 58, u 59, u 60, u 61, u 62, u 63, u 64, u 65, u 66, u 67, u 68, u 69, u 70, u 71, u 72, u 73, u 74, u 75, u 76, u 77, u 78, u 79, u 80, u 81, u 82, u 83, u 84, u 85, u 86, u 87, u 88, u 89, u 90, u 91, u 92, u 93, u 94], ds'⟩ := ⟨fun i => t.getD i undef, v, ds, h, by rw [← ht]⟩
open Go.Maps Go.WideMaps in
set_option maxHeartbeats 4000000 in
theorem Way_any (p : PlanD) (n q : Int) (key : ByteArray) (a1 a2 a3 : Option Addr) (c1 c2 c3 : Nat) (w : World) (hv : Env w) (hp : PlanAt w 0 w.heap.size a1 a2 a3 p) (hs : PlanSmall p) (h2 : key.size ≤ 1048576) :
    Calls Tryz.prog 14 #[planV p a1 a2 a3 c1 c2 c3, .int .i64 n, .string key, .int .i64 q] w (WayPost p n key q w) := by
  refine (callsIn_wide (n := 4)).1 ?_
  refine callsIn_of_wp_marks Tryz.func14 rfl trivial ?_ rfl
  unfold planV
  simp only [Tryz.ntmps14, List.size_toArray, List.length_cons, List.length_nil, Nat.reduceAdd, Nat.reduceSub, Array.replicate_succ, Array.replicate_zero, List.push_toArray, List.append_toArray, List.nil_append, List.cons_append]
  have hql := hs.queues
  have HS := Lib.hid hs
  have HB := Lib.hid (And.intro hp (And.intro (EnvB.mk' hv) hv))
  clear hp hv hs
  refine wpIn_wide.2 ?_
  obtain ⟨W1, hW1⟩ : ∃ W1, ((((w.alloc (.cells #[.slice a1 p.posts.length c1, .slice a2 p.queues.length c2, .slice a3 p.binds.length c3] 26)).alloc (.cells #[.int .i64 q] 3)).alloc (.cells #[.slice none 0 0] 27)).alloc (.cells #[.bool false] 4)).alloc (.cells #[.int .i64 0] 28) = W1 := ⟨_, rfl⟩
  have k1 : Bk W1 w.heap.size 26 #[.slice a1 p.posts.length c1, .slice a2 p.queues.length c2, .slice a3 p.binds.length c3] := by rw [← hW1]; exact ((((Bk.new _ _ _).alloc _).alloc _).alloc _).alloc _
  have k2 : Bk W1 (w.heap.size + 1) 3 #[.int .i64 q] := by rw [← hW1]; exact (((Bk.new_at _ _ _ (by simp)).alloc _).alloc _).alloc _
  have k3 : Bk W1 (w.heap.size + 1 + 1) 27 #[.slice none 0 0] := by rw [← hW1]; exact ((Bk.new_at _ _ _ (by simp)).alloc _).alloc _
  have k4 : Bk W1 (w.heap.size + 1 + 1 + 1) 4 #[.bool false] := by rw [← hW1]; exact (Bk.new_at _ _ _ (by simp)).alloc _
  have k5 : Bk W1 (w.heap.size + 1 + 1 + 1 + 1) 28 #[.int .i64 0] := by rw [← hW1]; exact Bk.new_at _ _ _ (by simp)
  have k6 : Below w.heap.size w W1 := by rw [← hW1]; exact ((((Below.refl _ w).alloc (Nat.le_refl _) _).alloc (by simp) _).alloc (by simp; omega) _).alloc (by simp; omega) _ |>.alloc (by simp; omega) _
  have k7 : w.heap.size + 5 ≤ W1.heap.size := by rw [← hW1]; simp
  have m0 := k1.cell 0
  have m1 := k1.cell 1
  have m2 := k1.cell 2
  simp only [List.getElem?_toArray, List.getElem?_cons_zero, List.getElem?_cons_succ] at m0 m1 m2
  have HK1 := Lib.hid (And.intro k1 (And.intro k2 (And.intro k3 (And.intro k4 (And.intro k5 (And.intro k6 k7))))))
  clear k1 k2 k3 k4 k5 k6 k7
  have HAS : Hid (Calls Tryz.prog 23 #[.agg #[.slice a1 p.posts.length c1, .slice a2 p.queues.length c2, .slice a3 p.binds.length c3], .int .i64 n, .string key] W1 fun e w' => e = .returned (.int .i64 (routeErr p n key)) ∧ Below W1.heap.size W1 w') :=
    Asked_route p n key a1 a2 a3 c1 c2 c3 0 W1 (below_env HK1.out.2.2.2.2.2.1 HB.out.2.2) ((PlanAt.keep' HB.out.1 fun q hq => HK1.out.2.2.2.2.2.1.cell (p := q) hq).wider (Nat.le_refl _) HK1.out.2.2.2.2.2.1.size) HS.out h2
  go_wp2_with fail
  refine HAS.out.mono ?_
  rintro e W0 ⟨rfl, n1⟩
  have HN := Lib.hid n1
  clear n1
  clear hW1 m0 m1 m2 HAS
  have k1 := HK1.out.1.below HN.out HK1.out.1.lt
  have k2 := HK1.out.2.1.below HN.out HK1.out.2.1.lt
  have k3 := HK1.out.2.2.1.below HN.out HK1.out.2.2.1.lt
  have k4 := HK1.out.2.2.2.1.below HN.out HK1.out.2.2.2.1.lt
  have k5 := HK1.out.2.2.2.2.1.below HN.out HK1.out.2.2.2.2.1.lt
  have k6 : Below w.heap.size w W0 := HK1.out.2.2.2.2.2.1.trans (HN.out.mono HK1.out.2.2.2.2.2.1.size)
  have k7 : w.heap.size + 5 ≤ W0.heap.size := Nat.le_trans HK1.out.2.2.2.2.2.2 HN.out.size
  have m0 := k1.cell 0
  have m1 := k1.cell 1
  have m2 := k1.cell 2
  have m3 := k2.cell 0
  have m4 := k3.cell 0
  have f4 := k3.frozen 0
  have m5 := k4.cell 0
  have f5 := k4.frozen 0
  have m6 := k5.cell 0
  have f6 := k5.frozen 0
  simp only [List.getElem?_toArray, List.getElem?_cons_zero, List.getElem?_cons_succ] at m0 m1 m2 m3 m4 m5 m6
  have HK := Lib.hid (And.intro k1 (And.intro k2 (And.intro k3 (And.intro k4 (And.intro k5 (And.intro k6 k7))))))
  clear k1 k2 k3 k4 k5 k6 k7 HK1 HN
  by_cases hc : routeErr p n key = 0
  · have b1 : (routeErr p n key != 0) = false := by simp [hc]
    by_cases hq : q < 0 ∨ (p.queues.length : Int) ≤ q
    · have HR : Hid (wayErr p n key q = 5 ∧ wayR p n key q = none) := by
        have h1 : wayErr p n key q = 5 := by unfold wayErr; rw [if_neg (by simp [hc]), if_pos hq]
        exact (⟨h1, by simp [wayR, h1]⟩ : wayErr p n key q = 5 ∧ wayR p n key q = none)
      clear hc
      by_cases hn0 : q < 0
      · clear hq
        go_wp2
        exact way_stop 5 rfl rfl rfl HK.out.2.2.1 HK.out.2.2.2.1 HK.out.2.2.2.2.1 HK.out.2.2.2.2.2.1 HR.out.2 HR.out.1.symm (Ds := []) (MarksOk.nil _ _)
      · have hn1 : (p.queues.length : Int) ≤ q := by omega
        clear hq
        go_wp2
        exact way_stop 5 rfl rfl rfl HK.out.2.2.1 HK.out.2.2.2.1 HK.out.2.2.2.2.1 HK.out.2.2.2.2.2.1 HR.out.2 HR.out.1.symm (Ds := []) (MarksOk.nil _ _)
    · have hq0 : 0 ≤ q := by omega
      have hq1 : q < p.queues.length := by omega
      have HR : Hid (wayErr p n key q = 0 ∧ wayR p n key q = wayF p n key q) := by
        have h1 : wayErr p n key q = 0 := by unfold wayErr; rw [if_neg (by simp [hc]), if_neg hq]
        exact (⟨h1, by simp [wayR, h1]⟩ : wayErr p n key q = 0 ∧ wayR p n key q = wayF p n key q)
      obtain ⟨hr, k, rfl, hk, _⟩ := routeErr_ok hc
      have HRR := Lib.hid (And.intro hr hk)
      clear hc hq hr hk
      have hmm := @run_makeMap Tryz.prog
      obtain ⟨w1, hrun, hown, hgrow⟩ := ((World.ownsMap_made W0 Tryz.prog 3 (plainElem (H := Unit) Tryz.prog 3))).update (t := 64) (int_keyed Tryz.underlying3) Tryz.underlying64 (by unfold maxLen; omega) (keyOf_int_mk Tryz.underlying3 (i64wf (n := (k : Int)) (by omega) (by have := HS.out.posts; have := HRR.out.2; omega))) (plainElem_int Tryz.underlying3 (by decide) : plainElem (H := Unit) Tryz.prog 3 (.int .i64 1) = _)
      clear m4 f4 m5 f5 m6 f6
      go_wp2
      have hg1 : (W0.alloc (Obj.map #[] 0)).heap.size = W0.heap.size + 1 := by simp
      have hg2 := hgrow.size
      have hfar := HK.out.2.2.2.2.2.2
      have hB0 : Below w.heap.size w w1 := (HK.out.2.2.2.2.2.1.alloc HK.out.2.2.2.2.2.1.size _).grown hgrow (by omega) (fun r e => by cases e; omega)
      have hBk : ∀ b t cs, Bk W0 b t cs → Bk w1 b t cs := fun b t cs h => (h.alloc _).grown hgrow (fun e => by cases e; have := h.lt; omega)
      have hset : SeenM w1 W0.heap.size [(k : Int)] := ⟨_, hown, seen_put seen_empty (k : Int)⟩
      refine wp_loop (fun a' wr => ∃ (u : Nat → Value) (v13 : Value) (ds : List Deferred), OutRel p k key q #[.slice a1 p.posts.length c1, .slice a2 p.queues.length c2, .slice a3 p.binds.length c3] w w1.heap.size W0.heap.size v13 ds wr ∧ a' = ⟨#[u 0, u 1, .string key, u 3, .pointer (some ⟨w.heap.size, 0, none⟩), u 5, u 6, .pointer (some ⟨w.heap.size + 1, 0, none⟩), .pointer (some ⟨w.heap.size + 1 + 1, 0, none⟩), .pointer (some ⟨w.heap.size + 1 + 1 + 1, 0, none⟩), .pointer (some ⟨w.heap.size + 1 + 1 + 1 + 1, 0, none⟩), u 11, .pointer (some ⟨w1.heap.size, 0, none⟩), v13, u 14, u 15, u 16, u 17, u 18, u 19, u 20, u 21, u 22, u 23, u 24, u 25, u 26, u 27, u 28, u 29, u 30, u 31, u 32, u 33, u 34, u 35, u 36, u 37, u 38, u 39, u 40, u 41, u 42, u 43, u 44, u 45, u 46, u 47, u 48, u 49, u 50, u 51, u 52, u 53, u 54, u 55, u 56, u 57, u 58, u 59, u 60, u 61, u 62, u 63, u 64, u 65, u 66, u 67, u 68, u 69, u 70, u 71, u 72, u 73, u 74, u 75, u 76, u 77, u 78, u 79, u 80, u 81, u 82, u 83, u 84, u 85, u 86, u 87, u 88, u 89, u 90, u 91, u 92, u 93, u 94], ds⟩) (fun a' _ => p.posts.length - a'.defers.length) ?_ ?_
      · refine outer_close (ds := []) ?_ (by rfl)
        refine ⟨0, [(k : Int)], [((k : Int), [])], [], rfl, rfl, ⟨⟨by simp, fun x hx => ?_⟩, rfl, fun r hr => ?_⟩, Nat.le_refl _, ?_, ?_⟩
        · obtain rfl : x = k := by simpa using hx
          have := HRR.out.2
          omega
        · obtain rfl : r = ((k : Int), []) := by simpa using hr
          have := HRR.out.2
          exact ⟨by simp, by simp; omega⟩
        · have hz : w1.heap.size ≠ W0.heap.size := by omega
          refine ⟨((hBk _ _ _ HK.out.1).alloc _).alloc _, ((hBk _ _ _ HK.out.2.1).alloc _).alloc _, ((hBk _ _ _ HK.out.2.2.1).alloc _).alloc _, ((hBk _ _ _ HK.out.2.2.2.1).alloc _).alloc _, ((hBk _ _ _ HK.out.2.2.2.2.1).alloc _).alloc _, (Bk.new _ _ _).alloc _, ?_, (hB0.alloc hB0.size _).alloc (by simp; omega) _, MarksOk.nil _ _, by omega, by omega⟩
          exact hset.stays ((Below.heap_alloc _ _ _ (by simp; omega)).trans (Below.heap_alloc _ _ _ (by omega)))
        · refine ⟨[.slice none 0 0], rfl, ⟨rfl, .inr ⟨w1.heap.size + 1, 1, #[.int .i64 (k : Int), .slice none 0 0], rfl, by omega, Bk.new_at _ _ _ (by simp), Nat.le_refl _, by unfold maxLen; omega, rfl, rfl⟩⟩, fun j r b hr hb => ?_⟩
          cases j with
          | zero =>
            simp at hr hb
            subst hr hb
            exact World.ownsRow_nil _ _ _ _
          | succ j => simp at hr
      · rintro a' wr ⟨u, v13, ds, ⟨i, seen, roads, Ds, rfl, hway, hok, hi, hM, hRo⟩, rfl⟩
        clear hg1 hg2 hfar hB0 hBk hset hrun hown hgrow hmm m0 m1 m2 m3 b1
        have hsl := hok.ok.len
        have hlen := hok.len
        simp only at hsl hlen
        obtain ⟨av, cv, rfl, _⟩ := own_slice hRo.choose_spec.2.1
        have HM := Lib.hid hM
        have d0 := hM.queue.cell 0
        have d1 := hM.box.cell 0
        have e0 := hM.c8.cell 0
        have e1 := hM.c8.frozen 0
        have e2 := hM.c9.cell 0
        have e3 := hM.c9.frozen 0
        have e4 := hM.c10.cell 0
        have e5 := hM.c10.frozen 0
        simp only [List.getElem?_toArray, List.getElem?_cons_zero] at d0 d1 e0 e2 e4
        have hlr := wayAt_len HRR.out.1 HRR.out.2 hway
        have hpn := HRR.out.1.posts
        by_cases hro : roads = []
        · subst hro
          have hn := wayF_none hway (by simp only [List.length_nil] at hlen; omega)
          have HE := Lib.hid (HR.out.2.trans hn)
          clear hn hway hok hM hRo hsl hlen hlr
          go_wp2
          exact way_stop 0 rfl rfl rfl HM.out.c8 HM.out.c9 HM.out.c10 HM.out.below HE.out HR.out.1.symm HM.out.marks
        · have hl0 : 0 < roads.length := List.length_pos_iff.2 hro
          clear hro
          have HL := Lib.hid (And.intro hsl (And.intro hlen hl0))
          have HWY := Lib.hid (And.intro hway (And.intro hok (And.intro hi hRo)))
          have HIN : Hid (WayIn p key q #[.slice a1 p.posts.length c1, .slice a2 p.queues.length c2, .slice a3 p.binds.length c3] w w1.heap.size W0.heap.size wr.heap.size seen roads Ds.length seen.length (.slice av roads.length cv) 0 Ds (wr.alloc (.cells #[.slice none 0 0] 67))) := by
            have hal : Below wr.heap.size wr (wr.alloc (.cells #[.slice none 0 0] 67)) := (Below.refl _ _).alloc (Nat.le_refl _) _
            refine Lib.hid ⟨Nat.zero_le _, ⟨seen, [], .slice none 0 0, rfl, ⟨hok.ok, rfl, fun r h => by cases h⟩, hM.stays (Calm.of_below hal) ?_ (hal.mono hM.below.size), Bk.new _ _ _, RoadsAt.nil _ _, fun b h => by cases h⟩, hRo.stays (fun g cs h => h.alloc _) fun b e => ?_, rfl, ?_⟩
            · obtain ⟨D, hm, _⟩ := hM.map
              obtain ⟨o, ho, _⟩ := way_gm hm
              exact hal.block _ (Array.getElem?_eq_some_iff.1 ho).1
            · obtain ⟨bs', _, h2, _⟩ := hRo
              exact hal.block b (h2.lt b e).2
            · have h1 := HM.out.c10.lt
              omega
          have HRL : Hid (∀ r ∈ roads, (0 ≤ r.1 ∧ r.1 < (p.posts.length : Int)) ∧ r.2.length ≤ 1048576) := Lib.hid fun r hr => ⟨hok.at_ r hr, by rw [hlr r hr]; omega⟩
          clear hsl hlen hway hok hM hRo hlr d0 d1 e0 e1 e2 e3 e4 e5
          have hln : (0 : Int) < (roads.length : Int) := by omega
          go_wp2
          refine way_inner_at p HRR.out.1 HS.out key h2 q ⟨hq0, by have := HRR.out.1.queues; omega⟩ a1 a2 a3 c1 c2 c3 seen.length Ds.length w w1.heap.size W0.heap.size wr.heap.size seen roads (.slice av roads.length cv) HB.out.1 HB.out.2.1 HRL.out (by have := HL.out.2.1; have := HL.out.1; omega) _ _ 0 Ds _ _ rfl rfl HIN.out ?_ ?_
          · rintro t j Ds' W ht hj hW
            obtain ⟨u', rfl⟩ := frameI_of ht
            subst hj
            obtain ⟨seen', next, vn, x1, x2, x3, x4, x5, x6⟩ := hW.ex
            rw [List.take_length] at x1
            obtain ⟨an, cn, rfl, _⟩ := own_slice x5.choose_spec.2.1
            have f0 := x4.cell 0
            simp only [List.getElem?_toArray, List.getElem?_cons_zero] at f0
            have hDl := hW.marks
            have hws : wayAt p k key q (i + 1) = .ok (seen', next) := by rw [wayAt, HWY.out.1]; exact x1
            have HOUT : Hid (OutRel p k key q #[.slice a1 p.posts.length c1, .slice a2 p.queues.length c2, .slice a3 p.binds.length c3] w w1.heap.size W0.heap.size (.slice an next.length cn) (Ds'.map mark) W) := by
              have h1 := HL.out
              have h3 := HWY.out.2.2.1
              refine Lib.hid ⟨i + 1, seen', next, Ds', rfl, hws, ?_, by omega, x3, x5⟩
              have : Ds'.length = seen.length := by omega
              rw [this]
              exact x2
            have HDL : Hid (p.posts.length - Ds'.length < p.posts.length - Ds.length) := by
              have h1 := HL.out
              exact Lib.hid (by omega)
            clear hW x1 x2 x3 x4 x5 x6 hDl hws ht
            go_wp2
            refine ⟨outer_close HOUT.out rfl, ?_⟩
            simpa using HDL.out
          · rintro t Ds' W l ht hl hW
            obtain ⟨u', rfl⟩ := frameR_of ht
            have hws : wayAt p k key q (i + 1) = .error l := by rw [wayAt, HWY.out.1]; exact hl
            have hf : wayR p k key q = some l := HR.out.2.trans (wayF_some hws (by have := HL.out; have := HWY.out.2.2.1; omega))
            obtain ⟨v, y1, y2⟩ := hW.ex
            obtain ⟨a9, c9, rfl, _⟩ := own_slice y2
            have HE := Lib.hid (And.intro hf (And.intro y1 (And.intro y2 hW)))
            clear hws hf y1 y2 hW hl ht
            go_wp2
            exact way_leaves (Ds := Ds') _ _ _ _ true 0 ⟨_, _, _, rfl⟩ rfl rfl rfl HE.out.2.1 HE.out.2.2.2.c9 HE.out.2.2.2.c10 HE.out.2.2.2.marks HE.out.2.2.2.below (by rw [HE.out.1]; rfl) HR.out.1.symm (by rw [HE.out.1]; exact HE.out.2.2.1)
  · have b1 : (routeErr p n key != 0) = true := by simp [hc]
    have HR : Hid (wayErr p n key q = routeErr p n key ∧ wayR p n key q = none) := by
      have h1 : wayErr p n key q = routeErr p n key := by unfold wayErr; rw [if_pos hc]
      exact (⟨h1, by simp [wayR, h1, hc]⟩ : wayErr p n key q = routeErr p n key ∧ wayR p n key q = none)
    clear hc
    go_wp2
    exact way_stop _ rfl rfl rfl HK.out.2.2.1 HK.out.2.2.2.1 HK.out.2.2.2.2.1 HK.out.2.2.2.2.2.1 HR.out.2 HR.out.1.symm (Ds := []) (MarksOk.nil _ _)
end Go.Proofs.YtapimpmpjighmaaGreatDoor

namespace Go.Proofs.YtapimpmpjighmaaGreatDoor
open Go Go.RowKit
set_option maxRecDepth 100000

def SameIRel (xs ys : List Int) (B : Nat) (w : World) (i : Value) (wr : World) : Prop :=
  ∃ k : Nat, k ≤ xs.length ∧ i = .int .i64 k ∧ Below B w wr ∧ xs.take k = ys.take k
theorem take_step' {α : Type} {xs ys : List α} {k : Nat} (h : xs.take k = ys.take k) (h1 : k < xs.length) (h2 : k < ys.length) (he : xs[k] = ys[k]) : xs.take (k + 1) = ys.take (k + 1) := by
  rw [List.take_add_one, List.take_add_one, h, List.getElem?_eq_getElem h1, List.getElem?_eq_getElem h2, he]
theorem sl_int {w : World} {lo hi : Nat} {a : Option Addr} {xs : List Int} (h : Sl w lo hi a (xs.map (Value.int .i64))) {k : Nat} (hk : k < xs.length) : ∃ b o, a = some ⟨b, o, none⟩ ∧ b < hi ∧ w.cell? ⟨b, o + k, none⟩ = some (.int .i64 xs[k]) := by
  obtain ⟨b, o, rfl, _, h2, hc⟩ := h.at_ (by simpa using hk)
  exact ⟨b, o, rfl, h2, hc k _ (by simp [hk])⟩

set_option maxHeartbeats 1000000 in
theorem SameInts_any (a b : Option Addr) (c d : Nat) (xs ys : List Int) (w : World) (lo : Nat) (hx : Sl w lo w.heap.size a (xs.map (Value.int .i64))) (hy : Sl w lo w.heap.size b (ys.map (Value.int .i64)))
    (h1 : xs.length ≤ 4294967296) (h2 : ys.length ≤ 4294967296) :
    Calls Tryz.prog 13 #[.slice a xs.length c, .slice b ys.length d] w fun e w' => e = .returned (.bool (decide (xs = ys))) ∧ Below w.heap.size w w' := by
  have HX := Lib.hid hx; clear hx
  have HY := Lib.hid hy; clear hy
  by_cases hl : xs.length = ys.length
  · have hl' : ((xs.length : Int) != (ys.length : Int)) = false := by simp [hl]
    have HL := Lib.hid hl; clear hl
    go_enter Tryz.func13, Tryz.ntmps13
    go_wp2
    go_loopw [5] (fun i wr => SameIRel xs ys w.heap.size w i wr) (fun i _ => xs.length - (intOf i).toNat)
    case atStart => exact ⟨0, by omega, rfl, Below.refl _ _, rfl⟩
    case round =>
      obtain ⟨k, hk, rfl, hB, hall⟩ := hrel
      have HA := Lib.hid hall; clear hall
      by_cases hlt : k < xs.length
      · have hlt2 : k < ys.length := by have := HL.out; omega
        obtain ⟨b1, o1, rfl, hb1, hc1⟩ := sl_int HX.out hlt
        obtain ⟨b2, o2, rfl, hb2, hc2⟩ := sl_int HY.out hlt2
        have hc1' := (hB.cell (p := ⟨b1, o1 + k, none⟩) hb1).trans hc1
        have hc2' := (hB.cell (p := ⟨b2, o2 + k, none⟩) hb2).trans hc2
        have HXK := Lib.hid (Eq.refl xs[k])
        clear hc1 hc2 hb1 hb2
        by_cases he : xs[k] = ys[k]
        · have hT := Lib.hid (take_step' HA.out hlt hlt2 he)
          have heb : (xs[k] != ys[k]) = false := by simp [he]
          generalize xs[k] = x at *
          generalize ys[k] = y at *
          clear HXK
          have HE := Lib.hid he
          clear he
          go_wp2
          go_quiet (fail)
          all_goals go_wp2
          exact ⟨⟨k + 1, by omega, by go_num, below_draws hB _, hT.out⟩, by simp [intOf]; omega⟩
        · have hne : ¬ xs = ys := by
            rintro rfl
            exact he rfl
          have HN := Lib.hid hne
          have heb : (xs[k] != ys[k]) = true := by simp [he]
          clear HXK hne he
          generalize xs[k] = x at *
          generalize ys[k] = y at *
          go_wp2
          go_quiet (fail)
          all_goals go_wp2
          go_ret
          exact ⟨by rw [decide_eq_false HN.out]; rfl, below_draws hB _⟩
      · go_wp2
        go_ret
        refine ⟨?_, hB⟩
        have : xs = ys := by
          have := HA.out
          rwa [List.take_of_length_le (by omega), List.take_of_length_le (by have := HL.out; omega)] at this
        rw [decide_eq_true this]; rfl
  · have hl' : ((xs.length : Int) != (ys.length : Int)) = true := by simp; omega
    have hne : ¬ xs = ys := fun e => hl (by rw [e])
    have HN := Lib.hid hne; clear hne hl
    go_enter Tryz.func13, Tryz.ntmps13
    go_wp2
    go_ret
    exact ⟨by rw [decide_eq_false HN.out]; rfl, Below.refl _ _⟩

theorem sortI_self {l : List Int} (h : l.Pairwise (· < ·)) : sortI l = l :=
  asc_ext (sortI_asc (h.imp fun h => by omega)) h fun x => sortI_mem
theorem compact_self {l : List Int} (h : l.Pairwise (· < ·)) : Lib.compact l = l :=
  asc_ext (compact_asc (h.imp fun h => by omega)) h fun x => compact_mem (h.imp fun h => by omega)
theorem byP_list (p : PlanD) (b : BindD) (key : ByteArray) : byP p b key = if kindAt p b = 1 then (b.pattern.data.toList == key.data.toList) else if kindAt p b = 3 then laidP (dots b.pattern.data.toList) (dots key.data.toList) else true := by
  unfold byP byK
  rw [fitP_data, ByteArray.toList_eq, ByteArray.toList_eq]

abbrev kXY : ByteArray := ⟨#[120, 46, 121]⟩
abbrev kZ : ByteArray := ⟨#[122]⟩
theorem off0 : onL officeP 0 kXY = [(0, ⟨0, false, 0, ⟨#[120, 46, 35]⟩⟩), (1, ⟨0, true, 1, ⟨#[42, 46, 121]⟩⟩)] := by
  have h0 : byP officeP ⟨0, false, 0, ⟨#[120, 46, 35]⟩⟩ kXY = true := by rw [byP_list]; decide
  have h1 : byP officeP ⟨0, true, 1, ⟨#[42, 46, 121]⟩⟩ kXY = true := by rw [byP_list]; decide
  have e : officeP.binds = [⟨0, false, 0, ⟨#[120, 46, 35]⟩⟩, ⟨0, true, 1, ⟨#[42, 46, 121]⟩⟩, ⟨1, false, 1, ⟨#[35]⟩⟩, ⟨1, true, 0, ⟨#[35]⟩⟩, ⟨2, false, 2, ⟨#[120, 46, 121]⟩⟩] := rfl
  unfold onL
  simp [onTo, e, h0, h1]
theorem off1 (key : ByteArray) : onL officeP 1 key = [(2, ⟨1, false, 1, ⟨#[35]⟩⟩), (3, ⟨1, true, 0, ⟨#[35]⟩⟩)] := by
  have h0 : byP officeP ⟨1, false, 1, ⟨#[35]⟩⟩ key = true := by rw [byP_list]; rfl
  have h1 : byP officeP ⟨1, true, 0, ⟨#[35]⟩⟩ key = true := by rw [byP_list]; rfl
  have e : officeP.binds = [⟨0, false, 0, ⟨#[120, 46, 35]⟩⟩, ⟨0, true, 1, ⟨#[42, 46, 121]⟩⟩, ⟨1, false, 1, ⟨#[35]⟩⟩, ⟨1, true, 0, ⟨#[35]⟩⟩, ⟨2, false, 2, ⟨#[120, 46, 121]⟩⟩] := rfl
  unfold onL
  simp [onTo, e, h0, h1]
theorem off0z : onL officeP 0 kZ = [] := by
  have h0 : byP officeP ⟨0, false, 0, ⟨#[120, 46, 35]⟩⟩ kZ = false := by rw [byP_list]; decide
  have h1 : byP officeP ⟨0, true, 1, ⟨#[42, 46, 121]⟩⟩ kZ = false := by rw [byP_list]; decide
  have e : officeP.binds = [⟨0, false, 0, ⟨#[120, 46, 35]⟩⟩, ⟨0, true, 1, ⟨#[42, 46, 121]⟩⟩, ⟨1, false, 1, ⟨#[35]⟩⟩, ⟨1, true, 0, ⟨#[35]⟩⟩, ⟨2, false, 2, ⟨#[120, 46, 121]⟩⟩] := rfl
  unfold onL
  simp [onTo, e, h0, h1]
theorem outs0 : outs officeP 0 kXY = [0, 1] := by
  have e : officeP.posts.length = 3 := rfl
  unfold outs
  rw [e]
  simp [outAt, off0, off1, gather, addTo]
theorem outs1 : outs officeP 1 kZ = [1, 0] := by
  have e : officeP.posts.length = 3 := rfl
  unfold outs
  rw [e]
  simp [outAt, off0z, off1, gather, addTo]
theorem key_err {key : ByteArray} (h : splitErrL isWord key.data.toList = 0) : splitErr isWord key = 0 := by rw [splitErr_list, ByteArray.toList_eq, h]
theorem offErr0 : routeErr officeP 0 kXY = 0 := by
  unfold routeErr
  rw [if_neg (by rw [office_right]; decide), if_neg (by decide), key_err (by decide)]
theorem offErr1 : routeErr officeP 1 kZ = 0 := by
  unfold routeErr
  rw [if_neg (by rw [office_right]; decide), if_neg (by decide), key_err (by decide)]
theorem offErr3 : routeErr officeP 3 kZ = 5 := by
  unfold routeErr
  rw [if_neg (by rw [office_right]; decide), if_pos (by decide)]
theorem offPosts : postsR officeP 0 kXY = [0, 1] := by
  unfold postsR
  rw [if_pos offErr0, outs0, sortI_self (by decide)]
theorem offQueues0 : queuesR officeP 0 kXY = [0, 1] := by
  unfold queuesR ofL
  rw [if_pos offErr0, outs0, sortI_self (by decide : ([0, 1] : List Int).Pairwise (· < ·))]
  have : offAt officeP kXY [0, 1] ([0, 1] : List Int).length = [0, 1] := by simp [offAt, off0, off1, collect, queueTo]
  rw [this, sortI_self (by decide), compact_self (by decide)]
theorem offQueues1 : queuesR officeP 1 kZ = [1] := by
  unfold queuesR ofL
  have h1 : sortI ([1, 0] : List Int) = [0, 1] := asc_ext (sortI_asc (by decide)) (by decide) fun x => by rw [sortI_mem]; simp [or_comm]
  rw [if_pos offErr1, outs1, h1]
  have : offAt officeP kZ [0, 1] ([0, 1] : List Int).length = [1] := by simp [offAt, off0z, off1, collect, queueTo]
  rw [this, sortI_self (by decide), compact_self (by decide)]
theorem offQueues3 : queuesR officeP 3 kZ = [] := by
  unfold queuesR
  rw [if_neg (by rw [offErr3]; decide)]
theorem offWayErr1 : wayErr officeP 0 kXY 1 = 0 := by
  unfold wayErr
  rw [if_neg (by rw [offErr0]; decide), if_neg (by decide)]
theorem offWayErr2 : wayErr officeP 0 kXY 2 = 0 := by
  unfold wayErr
  rw [if_neg (by rw [offErr0]; decide), if_neg (by decide)]
theorem offWay1 : wayR officeP 0 kXY 1 = some [1, 2] := by
  unfold wayR wayF
  rw [if_pos offWayErr1]
  have e : officeP.posts.length = 3 := rfl
  rw [e]
  simp [wayAt, roundW, roadW, off0, off1, stopsW, stepW]
theorem offWay2 : wayR officeP 0 kXY 2 = none := by
  unfold wayR wayF
  rw [if_pos offWayErr2]
  have e : officeP.posts.length = 3 := rfl
  rw [e]
  simp [wayAt, roundW, roadW, off0, off1, stopsW, stepW]

/-- An answer of ints, where it lies. -/
theorem ints_sl {w : World} {base n c : Nat} {a : Option Addr} {xs : List Int} (h : IntsO w base (.slice a n c) xs) : n = xs.length ∧ Sl w 0 w.heap.size a (xs.map (Value.int .i64)) := by
  have hn : n = xs.length := by
    rcases h.2 with ⟨h1, h2⟩ | ⟨g, cap, cur, h1, _⟩
    · simp only [Value.slice.injEq] at h1; omega
    · simp only [Value.slice.injEq] at h1; omega
  subst hn
  exact ⟨rfl, (Sl.of_own (n := xs.length) h).wider (Nat.zero_le _) (Nat.le_refl _)⟩
theorem same_lit (xs : List Int) (a : Option Addr) (c : Nat) (w W : World) (h : Sl w 0 w.heap.size a (xs.map (Value.int .i64))) (hb : Below w.heap.size w W) (hl : xs.length ≤ 1000) (n : Nat) (hn : n = xs.length) (cs : Array Value) (hc : cs = (xs.map (Value.int .i64)).toArray) :
    Calls Tryz.prog 13 #[.slice a n c, .slice (some ⟨W.heap.size, 0, none⟩) n n] (W.alloc (.cells cs 3)) fun e w' => e = .returned (.bool true) ∧ Below W.heap.size W w' := by
  subst hn hc
  have h1 : Sl (W.alloc (.cells (xs.map (Value.int .i64)).toArray 3)) 0 (W.alloc (.cells (xs.map (Value.int .i64)).toArray 3)).heap.size a (xs.map (Value.int .i64)) :=
    ((h.below hb (Nat.le_refl _)).below ((Below.refl _ _).alloc (by have := hb.size; omega) _) (Nat.le_refl _)).wider (Nat.le_refl _) (by have := hb.size; simp; omega)
  have h2 : Sl (W.alloc (.cells (xs.map (Value.int .i64)).toArray 3)) 0 (W.alloc (.cells (xs.map (Value.int .i64)).toArray 3)).heap.size (some ⟨W.heap.size, 0, none⟩) (xs.map (Value.int .i64)) :=
    (Sl.new W (xs.map (Value.int .i64)) 3 (W.heap.size + 1) (by omega)).wider (Nat.zero_le _) (by simp)
  refine (SameInts_any a (some ⟨W.heap.size, 0, none⟩) c xs.length xs xs _ 0 h1 h2 (by omega) (by omega)).mono ?_
  rintro e w' ⟨rfl, hb'⟩
  exact ⟨by simp, ((Below.refl _ _).alloc (Nat.le_refl _) _).trans (hb'.mono (by simp))⟩

set_option maxHeartbeats 4000000 in
theorem routeBegun_any (w : World) (hE : Env w) : Calls Tryz.prog 12 #[] w fun e w' => e = .returned (.bool true) ∧ Below w.heap.size w w' := by
  have HE := Lib.hid hE; clear hE
  go_enter Tryz.func12, Tryz.ntmps12
  go_wp2_with fail
  refine (office_in _).mono ?_
  rintro e wa0 ⟨p0, q0, r0, rfl, ho, hb⟩
  have HD0 := Lib.hid hb
  have HA0 := Lib.hid ((Below.refl w.heap.size w).trans (hb.mono (Nat.le_trans (Nat.le_refl _) (Below.refl w.heap.size w).size)))
  have HO0 := Lib.hid ho
  clear hb ho
  unfold officeV
  go_wp2_with fail
  refine (Posts_any officeP 0 kXY _ _ _ 3 3 5 wa0 (below_env HA0.out HE.out) HO0.out.plan office_small (by decide)).mono ?_
  rintro e wb0 ⟨v0, rfl, n1, n2⟩
  rw [offPosts] at n1
  rw [offErr0]
  obtain ⟨a0, c0, rfl, _⟩ := own_slice n1
  have HS0 := Lib.hid (ints_sl n1).2
  have HC0 := Lib.hid (HD0.out.trans (n2.mono HD0.out.size))
  have HB0 := Lib.hid (HA0.out.trans (n2.mono HA0.out.size))
  clear n1 n2
  go_wp2_with fail
  refine (office_in _).mono ?_
  rintro e wa1 ⟨p1, q1, r1, rfl, ho, hb⟩
  have HD1 := Lib.hid hb
  have HA1 := Lib.hid (HB0.out.trans (hb.mono (Nat.le_trans (Nat.le_refl _) HB0.out.size)))
  have HO1 := Lib.hid ho
  clear hb ho
  unfold officeV
  go_wp2_with fail
  refine (Queues_any officeP 0 kXY _ _ _ 3 3 5 wa1 (below_env HA1.out HE.out) HO1.out.plan office_small (by decide)).mono ?_
  rintro e wb1 ⟨v1, rfl, n1, n2⟩
  rw [offQueues0] at n1
  rw [offErr0]
  obtain ⟨a1, c1, rfl, _⟩ := own_slice n1
  have HS1 := Lib.hid (ints_sl n1).2
  have HC1 := Lib.hid (HD1.out.trans (n2.mono HD1.out.size))
  have HB1 := Lib.hid (HA1.out.trans (n2.mono HA1.out.size))
  clear n1 n2
  go_wp2_with fail
  refine (office_in _).mono ?_
  rintro e wa2 ⟨p2, q2, r2, rfl, ho, hb⟩
  have HD2 := Lib.hid hb
  have HA2 := Lib.hid (HB1.out.trans (hb.mono (Nat.le_trans (Nat.le_refl _) HB1.out.size)))
  have HO2 := Lib.hid ho
  clear hb ho
  unfold officeV
  go_wp2_with fail
  refine (Way_any officeP 0 1 kXY _ _ _ 3 3 5 wa2 (below_env HA2.out HE.out) HO2.out.plan office_small (by decide)).mono ?_
  rintro e wb2 ⟨v2, rfl, n1, n2⟩
  rw [offWay1, offWayErr1] at *
  obtain ⟨a2, c2, rfl, _⟩ := own_slice n1
  have HS2 := Lib.hid (ints_sl n1).2
  have HC2 := Lib.hid (HD2.out.trans (n2.mono HD2.out.size))
  have HB2 := Lib.hid (HA2.out.trans (n2.mono HA2.out.size))
  clear n1 n2
  simp only [Option.isSome_some, Option.isSome_none, Option.getD_some, Option.getD_none] at HS2 ⊢
  go_wp2_with fail
  refine (office_in _).mono ?_
  rintro e wa3 ⟨p3, q3, r3, rfl, ho, hb⟩
  have HD3 := Lib.hid hb
  have HA3 := Lib.hid (HB2.out.trans (hb.mono (Nat.le_trans (Nat.le_refl _) HB2.out.size)))
  have HO3 := Lib.hid ho
  clear hb ho
  unfold officeV
  go_wp2_with fail
  refine (Way_any officeP 0 2 kXY _ _ _ 3 3 5 wa3 (below_env HA3.out HE.out) HO3.out.plan office_small (by decide)).mono ?_
  rintro e wb3 ⟨v3, rfl, n1, n2⟩
  rw [offWay2, offWayErr2] at *
  obtain ⟨a3, c3, rfl, _⟩ := own_slice n1
  have HS3 := Lib.hid (ints_sl n1).2
  have HC3 := Lib.hid (HD3.out.trans (n2.mono HD3.out.size))
  have HB3 := Lib.hid (HA3.out.trans (n2.mono HA3.out.size))
  clear n1 n2
  simp only [Option.isSome_some, Option.isSome_none, Option.getD_some, Option.getD_none] at HS3 ⊢
  go_wp2_with fail
  refine (office_in _).mono ?_
  rintro e wa4 ⟨p4, q4, r4, rfl, ho, hb⟩
  have HD4 := Lib.hid hb
  have HA4 := Lib.hid (HB3.out.trans (hb.mono (Nat.le_trans (Nat.le_refl _) HB3.out.size)))
  have HO4 := Lib.hid ho
  clear hb ho
  unfold officeV
  go_wp2_with fail
  refine (Queues_any officeP 1 kZ _ _ _ 3 3 5 wa4 (below_env HA4.out HE.out) HO4.out.plan office_small (by decide)).mono ?_
  rintro e wb4 ⟨v4, rfl, n1, n2⟩
  rw [offQueues1] at n1
  rw [offErr1]
  obtain ⟨a4, c4, rfl, _⟩ := own_slice n1
  have HS4 := Lib.hid (ints_sl n1).2
  have HC4 := Lib.hid (HD4.out.trans (n2.mono HD4.out.size))
  have HB4 := Lib.hid (HA4.out.trans (n2.mono HA4.out.size))
  clear n1 n2
  go_wp2_with fail
  refine (office_in _).mono ?_
  rintro e wa5 ⟨p5, q5, r5, rfl, ho, hb⟩
  have HD5 := Lib.hid hb
  have HA5 := Lib.hid (HB4.out.trans (hb.mono (Nat.le_trans (Nat.le_refl _) HB4.out.size)))
  have HO5 := Lib.hid ho
  clear hb ho
  unfold officeV
  go_wp2_with fail
  refine (Queues_any officeP 3 kZ _ _ _ 3 3 5 wa5 (below_env HA5.out HE.out) HO5.out.plan office_small (by decide)).mono ?_
  rintro e wb5 ⟨v5, rfl, n1, n2⟩
  rw [offQueues3] at n1
  rw [offErr3]
  obtain ⟨a5, c5, rfl, _⟩ := own_slice n1
  have HS5 := Lib.hid (ints_sl n1).2
  have HC5 := Lib.hid (HD5.out.trans (n2.mono HD5.out.size))
  have HB5 := Lib.hid (HA5.out.trans (n2.mono HA5.out.size))
  clear n1 n2
  have K4 := Lib.hid HC5.out
  have K3 := Lib.hid (HC4.out.trans (K4.out.mono HC4.out.size))
  have K2 := Lib.hid (HC3.out.trans (K3.out.mono HC3.out.size))
  have K1 := Lib.hid (HC2.out.trans (K2.out.mono HC2.out.size))
  have K0 := Lib.hid (HC1.out.trans (K1.out.mono HC1.out.size))
  go_wp2_with fail
  refine (same_lit [0, 1] a0 c0 wb0 wb5 HS0.out K0.out (by decide) 2 rfl _ rfl).mono ?_
  rintro e w6 ⟨rfl, n6⟩
  have N6 := Lib.hid n6; clear n6
  go_wp2_with fail
  refine (same_lit [0, 1] a1 c1 wb1 w6 HS1.out (K1.out.trans (N6.out.mono K1.out.size)) (by decide) 2 rfl _ rfl).mono ?_
  rintro e w7 ⟨rfl, n7⟩
  have N7 := Lib.hid (N6.out.trans (n7.mono N6.out.size)); clear n7
  go_wp2_with fail
  refine (same_lit [1, 2] a2 c2 wb2 w7 HS2.out (K2.out.trans (N7.out.mono K2.out.size)) (by decide) 2 rfl _ rfl).mono ?_
  rintro e w8 ⟨rfl, n8⟩
  have N8 := Lib.hid (N7.out.trans (n8.mono N7.out.size)); clear n8
  go_wp2_with fail
  refine (same_lit [1] a4 c4 wb4 w8 HS4.out (K4.out.trans (N8.out.mono K4.out.size)) (by decide) 1 rfl _ rfl).mono ?_
  rintro e w9 ⟨rfl, n9⟩
  have N9 := Lib.hid (N8.out.trans (n9.mono N8.out.size)); clear n9
  go_wp2_with fail
  go_ret
  exact ⟨rfl, HB5.out.trans (N9.out.mono HB5.out.size)⟩

end Go.Proofs.YtapimpmpjighmaaGreatDoor
