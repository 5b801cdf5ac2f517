/-
  A region walked in the order in which its operations stand: a cheaper check of what that order needs.
-/
import Derived.Test.YtaanpcjkflhomaaGreatDoorBunA
set_option linter.unusedSimpArgs false
set_option linter.unusedVariables false
namespace Go.Proofs.YtaanpcjkflhomaaGreatDoor
open Go
section
variable {P : Program} {ops : Array Oper} {Q : Exit → Act → World → Prop}
def edgesOf (o : Oper) : List Nat := (o.after.toList.filter (Region.binds .any)).map (·.on)
theorem edge_mem {o : Oper} {e : Edge} (he : e ∈ o.after) (hb : Region.binds .any e = true) : e.on ∈ edgesOf o :=
 List.mem_map.2 ⟨e, List.mem_filter.2 ⟨Array.mem_toList_iff.2 he, hb⟩, rfl⟩
theorem edge_of {o : Oper} {n : Nat} (h : n ∈ edgesOf o) : ∃ e ∈ o.after, Region.binds .any e = true ∧ e.on = n := by
 obtain ⟨e, he, hn⟩ := List.mem_map.1 h
 obtain ⟨he, hb⟩ := List.mem_filter.1 he
 exact ⟨e, Array.mem_toList_iff.1 he, hb, hn⟩
def chkF (ops : Array Oper) : Nat → List (Nat × Bool) → List Oper → Bool
 | _, [], [] => true
 | i, (k, c) :: r, x :: xs => Nat.beq k i && (edgesOf x).all (fun e => Nat.blt e i) && (match c with
   | true => xs.all (fun y => (edgesOf y).any (fun e => Nat.ble i e))
   | false => xs.all (fun y => (edgesOf y).any (fun e => Nat.beq e i) || x.apart ops y)) && chkF ops (i + 1) r xs
 | _, _, _ => false
theorem filter_one (p : Nat → Bool) (i : Nat) : ∀ n, i < n → (∀ j, j < n → (p j = true ↔ j = i)) → (List.range n).filter p = [i]
 | 0, h, _ => absurd h (by omega)
 | n + 1, h, hp => by
  rw [List.range_succ, List.filter_append]
  by_cases hi : i = n
  ·have h1 : (List.range n).filter p = [] := List.filter_eq_nil_iff.2 fun j hj hpj => by
    have hj' := List.mem_range.1 hj
    have := (hp j (by omega)).1 hpj
    omega
   have h2 : p n = true := (hp n (by omega)).2 hi.symm
   rw [h1, hi]
   simp [h2]
  ·have h2 : p n = false := by
    rw [← Bool.not_eq_true]
    intro h3
    exact hi ((hp n (by omega)).1 h3).symm
   rw [filter_one p i n (by omega) fun j hj => hp j (by omega)]
   simp [h2]
theorem chkF_ok : ∀ (order : List (Nat × Bool)) (i : Nat) (listed : Array Bool), i + order.length = ops.size → (∀ j d, listed.getD j d = if j < ops.size then decide (j < i) else d) → listed.size = ops.size → chkF ops i order (ops.toList.drop i) = true → ordOK .any ops listed order = true := by
 intro order
 induction order with
 | nil =>
  intro i listed hn hl _ _
  simp only [List.length_nil, Nat.add_zero] at hn
  show (Region.ready .any ops listed).isEmpty = true
  rw [List.isEmpty_iff]
  refine List.filter_eq_nil_iff.2 fun j hj hp => ?_
  have hj' := List.mem_range.1 hj
  rw [hl, if_pos hj'] at hp
  simp [hn, hj'] at hp
 | cons kc r ih =>
  obtain ⟨k, c⟩ := kc
  intro i listed hn hl hz hc
  simp only [List.length_cons] at hn
  have hi : i < ops.size := by omega
  have hd : ops.toList.drop i = ops[i] :: ops.toList.drop (i + 1) := by
   rw [List.drop_eq_getElem_cons (by simpa using hi)]
   simp
  rw [hd] at hc
  simp only [chkF, Bool.and_eq_true] at hc
  obtain ⟨⟨⟨hk, he⟩, hr⟩, hc⟩ := hc
  obtain rfl : k = i := Nat.eq_of_beq_eq_true hk
  have hl' : ∀ j d, (listed.setIfInBounds k true).getD j d = if j < ops.size then decide (j < k + 1) else d := by
   intro j d
   have h := hl j d
   rw [Array.getD_eq_getD_getElem?] at h ⊢
   rw [Array.getElem?_setIfInBounds]
   by_cases hjk : k = j
   ·subst hjk
    rw [if_pos rfl, if_pos (by omega), if_pos hi]
    simp
   ·rw [if_neg hjk, h]
    by_cases hj : j < ops.size
    ·rw [if_pos hj, if_pos hj]
     congr 1
     simp only [eq_iff_iff]
     omega
    ·rw [if_neg hj, if_neg hj]
  have hnext := ih (k + 1) (listed.setIfInBounds k true) (by omega) hl' (by simpa using hz) hc
  have hrk : ((List.range ops.size).filter fun i => !listed.getD i true && ((ops[i]?).map (·.after.all fun e => !Region.binds .any e || listed.getD e.on false)).getD false) = Region.ready .any ops listed := rfl
  have hin : ∀ (j : Nat) (hj : j < ops.size), (ops[j].after.all fun e => !Region.binds .any e || listed.getD e.on false) = true ↔ ∀ n ∈ edgesOf ops[j], n < k := by
   intro j hj
   rw [Array.all_eq_true_iff_forall_mem]
   constructor
   ·intro h n hn'
    obtain ⟨e, he1, he2, rfl⟩ := edge_of hn'
    have := h e he1
    rw [he2, hl] at this
    by_cases h3 : e.on < ops.size
    ·rw [if_pos h3] at this
     simpa using this
    ·rw [if_neg h3] at this
     simp at this
   ·intro h e he1
    by_cases hb : Region.binds .any e = true
    ·have h4 := h _ (edge_mem he1 hb)
     rw [hl, if_pos (by omega)]
     simp [h4]
    ·simp [hb]
  have hek : ∀ n ∈ edgesOf ops[k], n < k := fun n hn' => by
   have := List.all_eq_true.1 he n hn'
   exact Nat.le_of_ble_eq_true this
  have hp : ∀ (j : Nat) (hj : j < ops.size), (!listed.getD j true && ((ops[j]?).map (·.after.all fun e => !Region.binds .any e || listed.getD e.on false)).getD false) = true ↔ (k ≤ j ∧ ∀ n ∈ edgesOf ops[j], n < k) := by
   intro j hj
   rw [Array.getElem?_eq_getElem hj, Option.map_some, Option.getD_some, Bool.and_eq_true, hin j hj, hl, if_pos hj]
   simp
  have hmem : ∀ (j : Nat) (hj : j < ops.size), k < j → ops[j] ∈ ops.toList.drop (k + 1) := by
   intro j hj hkj
   rw [List.mem_drop_iff_getElem]
   exact ⟨j - (k + 1), by simp; omega, by simp [show k + 1 + (j - (k + 1)) = j by omega]⟩
  cases c with
  | true =>
   show ((Region.ready .any ops listed == [k]) && ordOK .any ops (listed.setIfInBounds k true) r) = true
   rw [hnext, Bool.and_true, beq_iff_eq]
   refine filter_one _ k _ hi fun j hj => ?_
   rw [hp j hj]
   constructor
   ·intro ⟨h1, h2⟩
    by_cases hjk : j = k
    ·exact hjk
    ·have h3 := List.all_eq_true.1 hr _ (hmem j hj (by omega))
     obtain ⟨n, hn1, hn2⟩ := List.any_eq_true.1 h3
     have h4 := h2 n hn1
     have h5 := Nat.le_of_ble_eq_true hn2
     omega
   ·rintro rfl
    exact ⟨Nat.le_refl _, hek⟩
  | false =>
   show (Region.free .any ops listed k && (Region.ready .any ops listed).contains k && ordOK .any ops (listed.setIfInBounds k true) r) = true
   rw [hnext, Bool.and_true, Bool.and_eq_true]
   constructor
   ·unfold Region.free
    rw [Array.getElem?_eq_getElem hi]
    simp only [List.all_eq_true, List.mem_range, Bool.or_eq_true, beq_iff_eq]
    intro j hj
    by_cases hjk : j = k
    ·exact .inl (.inl hjk)
    ·rw [hl, if_pos hj, Array.getElem?_eq_getElem hj]
     by_cases hlt : j < k
     ·exact .inl (.inr (by simpa using hlt))
     ·right
      have h3 := List.all_eq_true.1 hr _ (hmem j hj (by omega))
      simp only [Bool.or_eq_true] at h3 ⊢
      rcases h3 with h3 | h3
      ·left
       obtain ⟨n, hn1, hn2⟩ := List.any_eq_true.1 h3
       obtain ⟨e, he1, he2, rfl⟩ := edge_of hn1
       have h6 := Nat.eq_of_beq_eq_true hn2
       exact Array.any_eq_true'.2 ⟨e, he1, by rw [he2, h6]; simp⟩
      ·exact .inr h3
   ·rw [List.contains_iff_mem]
    exact List.mem_filter.2 ⟨List.mem_range.2 hi, (hp k hi).2 ⟨Nat.le_refl _, hek⟩⟩
theorem nw_layF (order : List (Nat × Bool)) {id : Nat} {a : Act} {w : World} (h1 : (Region.noSelect ops && chkF ops 0 order ops.toList && Nat.beq order.length ops.size) = true)
  (h : Shut (OrdFits ops order) → (Code.region id ops true).wp P Q a w) : (Code.region id ops true).wp P Q a w := by
 simp only [Bool.and_eq_true] at h1
 have hl := Nat.eq_of_beq_eq_true h1.2
 refine h ⟨h1.1.1, chkF_ok order 0 _ (by omega) (fun j d => ?_) (by simp) h1.1.2, hl⟩
 rw [Array.getD_eq_getD_getElem?, Array.getElem?_replicate]
 by_cases hj : j < ops.size
 ·simp [hj]
 ·simp [hj]
def idxs : Nat → List (Nat × Bool) → Prop
 | _, [] => True
 | i, (k, _) :: r => k = i ∧ idxs (i + 1) r
theorem chkF_idx : ∀ (order : List (Nat × Bool)) (i : Nat) (L : List Oper), chkF ops i order L = true → idxs i order
 | [], _, _, _ => trivial
 | (k, c) :: r, i, [], h => by simp [chkF] at h
 | (k, c) :: r, i, x :: xs, h => by
  simp only [chkF, Bool.and_eq_true] at h
  exact ⟨Nat.eq_of_beq_eq_true h.1.1.1, chkF_idx r (i + 1) xs h.2⟩
def yD (D : List (Option Tmp)) (tmps : Array Value) (j : Nat) : Option Bool :=
 match ((D[j]?).bind id).bind (tmps[·]?) with
 | some (.bool b) => some b
 | _ => none
theorem yD_eq (tmps : Array Value) : yD (ops.toList.map (·.dst)) tmps = yielded ops tmps := by
 funext j
 unfold yD yielded
 rw [List.getElem?_map, Array.getElem?_toList]
 cases ops[j]? <;> rfl
variable {S : World → Prop} {D : List (Option Tmp)}
def NWF (P : Program) (D : List (Option Tmp)) (Q : Exit → Act → World → Prop) (S : World → Prop) : List Oper → List (Nat × Bool) → Act → World → Prop
 | [], [], a, w => Q .normal a w
 | x :: xs, (_, false) :: r, a, w => ∃ v, (∀ c a w, Q (.panic c) (a.put x.dst v) w → Q (.panic c) a w) ∧ (Region.wanted x (yD D a.tmps) = true ∧ (∀ w, S w → (execOp a.eval x).run P w = .ok (.value v) w) ∨ Region.wanted x (yD D a.tmps) = false ∧ v = undef) ∧ NWF P D Q S xs r (a.put x.dst v) w
 | x :: xs, (_, true) :: r, a, w => Region.wanted x (yD D a.tmps) = true ∧ x.wp P a w (fun a' w' => S w' ∧ NWF P D Q S xs r a' w') Q ∨ Region.wanted x (yD D a.tmps) = false ∧ S w ∧ NWF P D Q S xs r (a.put x.dst undef) w
 | _, _, _, _ => False
theorem NWF_NW (hD : ops.toList.map (·.dst) = D) : ∀ (L : List Oper) (order : List (Nat × Bool)) (i : Nat) (a : Act) (w : World), ops.toList.drop i = L → idxs i order → NWF P D Q S L order a w → NW P ops Q S order a w := by
 intro L
 induction L with
 | nil =>
  intro order i a w _ _ h
  cases order with
  | nil => exact h
  | cons o r => exact False.elim (by unfold NWF at h; exact h)
 | cons x xs ih =>
  intro order i a w hd hi h
  have hx : ops[i]? = some x := by
   have := congrArg List.head? hd
   rw [List.head?_drop, Array.getElem?_toList] at this
   exact this
  have hn : ops.toList.drop (i + 1) = xs := by
   have := congrArg List.tail hd
   rw [List.tail_drop] at this
   exact this
  cases order with
  | nil => exact False.elim (by unfold NWF at h; exact h)
  | cons kc r =>
   obtain ⟨k, c⟩ := kc
   obtain ⟨rfl, hi⟩ := hi
   cases c with
   | false =>
    obtain ⟨v, hQ, hy, h⟩ := h
    rw [← hD, yD_eq] at hy
    exact ⟨x, v, hx, hQ, hy, ih r (k + 1) _ _ hn hi h⟩
   | true =>
    rcases h with ⟨hw, h⟩ | ⟨hw, hS, h⟩
    ·rw [← hD, yD_eq] at hw
     show wpOp P ops Q k _ a w
     unfold wpOp
     simp only [hx, hw, if_true]
     exact .inl (Oper.wp_mono (fun a' w' h' => ⟨h'.1, ih r (k + 1) a' w' hn hi h'.2⟩) h)
    ·rw [← hD, yD_eq] at hw
     show wpOp P ops Q k _ a w
     unfold wpOp
     simp only [hx, hw, Bool.false_eq_true, if_false]
     exact ⟨hS, ih r (k + 1) _ _ hn hi h⟩
theorem nw_layG (order : List (Nat × Bool)) {id : Nat} {a : Act} {w : World} (h1 : (Region.noSelect ops && chkF ops 0 order ops.toList && Nat.beq order.length ops.size) = true)
  (hm : P.follows .mixedOrders = true) (hS : S w.drew) {L : List Oper} (hL : ops.toList = L) (hD : L.map (·.dst) = D)
  (h : S w.drew → NWF P D Q S L order a w.drew) : (Code.region id ops true).wp P Q a w := by
 refine nw_layF order h1 fun ho => nw_go (S := S) ho hm hS fun hs => ?_
 simp only [Bool.and_eq_true] at h1
 exact NWF_NW (by rw [hL, hD]) L order 0 a _ (by rw [List.drop_zero, hL]) (chkF_idx order 0 _ h1.1.2) (h hs)
theorem NWF.take {k : Nat} {x : Oper} {xs : List Oper} {r : List (Nat × Bool)} {v : Value} {a a' : Act} {w : World} (hQ : ∀ c a w, Q (.panic c) (a.put x.dst v) w → Q (.panic c) a w) (hw : Region.wanted x (yD D a.tmps) = true)
  (hv : ∀ w, S w → (execOp a.eval x).run P w = .ok (.value v) w) (ha : a.put x.dst v = a') (h : NWF P D Q S xs r a' w) : NWF P D Q S (x :: xs) ((k, false) :: r) a w := ⟨v, hQ, .inl ⟨hw, hv⟩, ha ▸ h⟩
theorem NWF.call {k : Nat} {x : Oper} {xs : List Oper} {r : List (Nat × Bool)} {a : Act} {w : World} (hw : Region.wanted x (yD D a.tmps) = true)
  (h : ∀ K' : Act → World → Prop, Shut (∀ a w, S w → (S w → NWF P D Q S xs r a w) → K' a w) → x.wp P a w K' Q) : NWF P D Q S (x :: xs) ((k, true) :: r) a w :=
 .inl ⟨hw, h _ (fun a w hS hW => ⟨hS, hW hS⟩)⟩
theorem NWF.leave {k : Nat} {c : Bool} {x : Oper} {xs : List Oper} {r : List (Nat × Bool)} {a a' : Act} {w : World} (hQ : ∀ c a w, Q (.panic c) (a.put x.dst undef) w → Q (.panic c) a w) (hw : Region.wanted x (yD D a.tmps) = false) (hS : S w)
  (ha : a.put x.dst undef = a') (h : NWF P D Q S xs r a' w) : NWF P D Q S (x :: xs) ((k, c) :: r) a w := by
 cases c
 ·exact ⟨undef, hQ, .inr ⟨hw, rfl⟩, ha ▸ h⟩
 ·exact .inr ⟨hw, hS, ha ▸ h⟩
theorem NWF.done {a : Act} {w : World} (h : Q .normal a w) : NWF P D Q S [] [] a w := h
end
end Go.Proofs.YtaanpcjkflhomaaGreatDoor
