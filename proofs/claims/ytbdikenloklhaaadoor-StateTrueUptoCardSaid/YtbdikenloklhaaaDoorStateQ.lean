/-
  The plain law of states, for the walks: why a state is not formed, by where the walk stands.
-/
import Derived.Test.YtbdikenloklhaaaDoorStateP
namespace Go.Proofs.YtbdikenloklhaaaDoor

theorem seqsR_split {l : List (List ItemD)} {q : Nat} (h : q < l.length) : seqsR l = seqsR (l.take q) ++ (l[q].map (·.seq) ++ seqsR (l.drop (q + 1))) := by
  unfold seqsR
  conv => lhs; rw [← List.take_append_drop q l, List.drop_eq_getElem_cons h]
  rw [List.flatMap_append, List.flatMap_cons]
theorem seqs_split {l : List ItemD} {k : Nat} (h : k < l.length) : l.map (·.seq) = (l.take k).map (·.seq) ++ (l[k].seq :: (l.drop (k + 1)).map (·.seq)) := by
  conv => lhs; rw [← List.take_append_drop k l, List.drop_eq_getElem_cons h]
  rw [List.map_append, List.map_cons]
theorem seqsO_split {l : List OutD} {k : Nat} (h : k < l.length) : seqsO l = seqsO (l.take k) ++ (l[k].item.seq :: seqsO (l.drop (k + 1))) := by
  unfold seqsO
  conv => lhs; rw [← List.take_append_drop k l, List.drop_eq_getElem_cons h]
  rw [List.map_append, List.map_cons]

theorem pre_row {s : StateD} {q k : Nat} (hq : q < s.ready.length) (hk : k < s.ready[q].length) : ((seqsR (s.ready.take q) ++ (s.ready[q].take k).map (·.seq)) ++ [s.ready[q][k].seq]) <+: seqsS s := by
  unfold seqsS
  rw [seqsR_split hq, seqs_split hk]
  exact ⟨(s.ready[q].drop (k + 1)).map (·.seq) ++ seqsR (s.ready.drop (q + 1)) ++ seqsO s.outs, by simp⟩
theorem pre_out {s : StateD} {k : Nat} (hk : k < s.outs.length) : ((seqsR s.ready ++ seqsO (s.outs.take k)) ++ [s.outs[k].item.seq]) <+: seqsS s := by
  unfold seqsS
  rw [seqsO_split hk]
  exact ⟨seqsO (s.outs.drop (k + 1)), by simp⟩
theorem row_step {s : StateD} {q k : Nat} (hq : q < s.ready.length) (hk : k < s.ready[q].length) : (seqsR (s.ready.take q) ++ (s.ready[q].take k).map (·.seq)) ++ [s.ready[q][k].seq] = seqsR (s.ready.take q) ++ (s.ready[q].take (k + 1)).map (·.seq) := by
  rw [List.take_succ_eq_append_getElem hk, List.map_append, List.append_assoc]
  rfl
theorem row_next {s : StateD} {q : Nat} (hq : q < s.ready.length) : seqsR (s.ready.take q) ++ (s.ready[q].take s.ready[q].length).map (·.seq) = seqsR (s.ready.take (q + 1)) := by
  rw [List.take_length, List.take_succ_eq_append_getElem hq]
  unfold seqsR
  rw [List.flatMap_append, List.flatMap_cons, List.flatMap_nil, List.append_nil]
theorem out_step {s : StateD} {k : Nat} (hk : k < s.outs.length) : (seqsR s.ready ++ seqsO (s.outs.take k)) ++ [s.outs[k].item.seq] = seqsR s.ready ++ seqsO (s.outs.take (k + 1)) := by
  rw [List.take_succ_eq_append_getElem hk]
  unfold seqsO
  rw [List.map_append, List.append_assoc]
  rfl

theorem nf_twice {p : PlanD} {s : StateD} {l : List Int} {n : Int} (h : (l ++ [n]) <+: seqsS s) (hn : n ∈ l) : ¬ Formed p s := fun hf => by
  have := h.sublist.nodup hf.nodup
  rw [List.nodup_append] at this
  exact this.2.2 n hn n (by simp) rfl
theorem nf_below {p : PlanD} {s : StateD} {l : List Int} {n : Int} (h : (l ++ [n]) <+: seqsS s) (hn : s.nextSeq ≤ n) : ¬ Formed p s := fun hf => by
  have := hf.below n (h.subset (by simp))
  omega
theorem nf_line {p : PlanD} {s : StateD} {l : List ItemD} (h : l ∈ s.ready) (hl : lineFine l = false) : ¬ Formed p s := fun hf => by
  have := hf.line l h
  rw [hl] at this
  cases this
theorem nf_taker {p : PlanD} {s : StateD} {t : TakerD} (h : t ∈ s.takers) (ht : takerB p.queues.length t = false) : ¬ Formed p s := fun hf => by
  have := hf.taker t h
  rw [ht] at this
  cases this
theorem nf_out {p : PlanD} {s : StateD} {x : OutD} (h : x ∈ s.outs) (hx : outB s x = false) : ¬ Formed p s := fun hf => by
  have := hf.out x h
  rw [hx] at this
  cases this

/-- The last tag ahead of a place. -/
def lastTag (l : List OutD) (k : Nat) : Int := match k with
  | 0 => -1
  | k + 1 => match l[k]? with | some x => x.tag | none => -1
theorem lastTag_succ {l : List OutD} {k : Nat} (h : k < l.length) : lastTag l (k + 1) = l[k].tag := by
  show (match l[k]? with | some x => x.tag | none => -1) = _
  rw [List.getElem?_eq_getElem h]
theorem nf_order {p : PlanD} {s : StateD} {k : Nat} (h : k < s.outs.length) (ho : s.outs[k].tag ≤ lastTag s.outs k) : ¬ Formed p s := fun hf => by
  cases k with
  | zero =>
    have h0 := hf.out s.outs[0] (List.getElem_mem h)
    have ho' : s.outs[0].tag ≤ -1 := ho
    unfold outB at h0
    simp only [Bool.and_eq_true, decide_eq_true_eq] at h0
    omega
  | succ k =>
    rw [lastTag_succ (by omega)] at ho
    have := (List.pairwise_iff_getElem.1 hf.order) k (k + 1) (by omega) h (by omega)
    omega
/-- Tags that rise from place to place rise. -/
theorem tags_rise {l : List OutD} (h : ∀ (k : Nat) (hk : k < l.length), lastTag l k < l[k].tag) : l.Pairwise fun x y => x.tag < y.tag := by
  rw [List.pairwise_iff_getElem]
  intro i j hi hj hij
  induction j with
  | zero => omega
  | succ j ih =>
    have h1 := h (j + 1) hj
    rw [lastTag_succ (by omega)] at h1
    rcases Nat.lt_or_ge i j with h2 | h2
    · have := ih (by omega) h2; omega
    · obtain rfl : i = j := by omega
      exact h1

theorem lying_step {l : List (List ItemD)} {q : Nat} (h : q < l.length) : ((l.take (q + 1)).map List.length).sum = ((l.take q).map List.length).sum + l[q].length := by
  rw [List.take_succ_eq_append_getElem h]
  simp only [List.map_append, List.sum_append, List.map_cons, List.map_nil, List.sum_cons, List.sum_nil, Nat.add_zero]
theorem lying_le {l : List (List ItemD)} (q : Nat) : ((l.take q).map List.length).sum ≤ (l.map List.length).sum := by
  conv => rhs; rw [← List.take_append_drop q l]
  rw [List.map_append, List.sum_append]
  omega

/-- How many letters lie in the first rows. -/
def lyK (s : StateD) (k : Nat) : Nat := ((s.ready.take k).map List.length).sum
theorem lyK_zero (s : StateD) : lyK s 0 = 0 := rfl
theorem lyK_step {s : StateD} {q : Nat} (h : q < s.ready.length) : lyK s (q + 1) = lyK s q + s.ready[q].length := lying_step h
theorem lyK_le (s : StateD) (q : Nat) : lyK s q ≤ lyingS s := lying_le q
theorem lyK_all (s : StateD) : lyK s s.ready.length = lyingS s := by unfold lyK lyingS; rw [List.take_length]
theorem seqsR_len (l : List (List ItemD)) : (seqsR l).length = (l.map List.length).sum := by
  unfold seqsR
  rw [List.length_flatMap]
  congr 1
  simp
theorem seqs_lyK (s : StateD) (k : Nat) : (seqsR (s.ready.take k)).length = lyK s k := seqsR_len _
theorem seqsO_len (l : List OutD) : (seqsO l).length = l.length := List.length_map _

theorem list4 (a b c d : Bool) : [a, b, c, d].contains false = !(a && b && c && d) := by cases a <;> cases b <;> cases c <;> cases d <;> rfl
theorem list3 (a b c : Bool) : [a, b, c].contains false = !(a && b && c) := by cases a <;> cases b <;> cases c <;> rfl
theorem list2 (a b : Bool) : [a, b].contains false = !(a && b) := by cases a <;> cases b <;> rfl
theorem taker_list (q : Nat) (t : TakerD) : [decide (-1 ≤ t.queue), decide (t.queue < (q : Int)), decide (1 ≤ t.atOnce), decide (t.atOnce ≤ 4)].contains false = !(takerB q t) := list4 _ _ _ _
theorem out_first {p : PlanD} {s : StateD} {j : Nat} (hj : j < s.outs.length) (hf : Formed p s) :
    [decide (lastTag s.outs j < s.outs[j].tag), decide (s.outs[j].tag < s.nextTag), decide (0 ≤ s.outs[j].taker), decide (s.outs[j].taker < (s.takers.length : Int))].contains false = false := by
  have ho := hf.out _ (List.getElem_mem hj)
  unfold outB at ho
  simp only [Bool.and_eq_true, decide_eq_true_eq] at ho
  have h1 : lastTag s.outs j < s.outs[j].tag := by
    rcases Int.lt_or_le (lastTag s.outs j) s.outs[j].tag with h | h
    · exact h
    · exact absurd hf (nf_order hj h)
  rw [list4]
  simp [h1, ho.1.1.1.1.2, ho.1.1.1.2, ho.1.1.2]
theorem out_second {p : PlanD} {s : StateD} {j : Nat} (hj : j < s.outs.length) (ht : s.outs[j].taker.toNat < s.takers.length) (hf : Formed p s) :
    [decide (0 ≤ s.takers[s.outs[j].taker.toNat].queue), s.takers[s.outs[j].taker.toNat].queue == s.outs[j].queue, itemFine s.outs[j].item].contains false = false := by
  have ho := hf.out _ (List.getElem_mem hj)
  unfold outB at ho
  rw [List.getElem?_eq_getElem ht] at ho
  simp only [Bool.and_eq_true, decide_eq_true_eq] at ho
  have hq0 : 0 ≤ s.outs[j].queue := by have := ho.1.2.1; rw [ho.1.2.2] at this; exact this
  rw [list3]
  simp [ho.1.2.2, ho.2, hq0]
theorem out_both {s : StateD} {j : Nat} (hj : j < s.outs.length) (h0 : ∀ q (hq : q < s.outs.length), q < j → 0 ≤ s.outs[q].tag)
    (h1 : [decide (lastTag s.outs j < s.outs[j].tag), decide (s.outs[j].tag < s.nextTag), decide (0 ≤ s.outs[j].taker), decide (s.outs[j].taker < (s.takers.length : Int))].contains false = false) (ht : s.outs[j].taker.toNat < s.takers.length)
    (h2 : [decide (0 ≤ s.takers[s.outs[j].taker.toNat].queue), s.takers[s.outs[j].taker.toNat].queue == s.outs[j].queue, itemFine s.outs[j].item].contains false = false) : outB s s.outs[j] = true := by
  rw [list4] at h1
  rw [list3] at h2
  simp only [Bool.not_eq_false', Bool.and_eq_true, decide_eq_true_eq, beq_iff_eq] at h1 h2
  have h3 : 0 ≤ s.outs[j].tag := by
    have := h1.1.1.1
    cases j with
    | zero => have e : lastTag s.outs 0 = -1 := rfl; omega
    | succ j =>
      rw [lastTag_succ (by omega)] at this
      have := h0 j (by omega) (by omega)
      omega
  unfold outB
  rw [List.getElem?_eq_getElem ht]
  have hq0 : 0 ≤ s.outs[j].queue := by have := h2.1.1; rw [h2.1.2] at this; exact this
  simp [h3, h1.1.1.2, h1.1.2, h1.2, h2.1.2, h2.2, hq0]

theorem w64 {x : Int} (h1 : -9223372036854775808 ≤ x) (h2 : x ≤ 9223372036854775807) : RowKit.wrap64 x = x := by unfold RowKit.wrap64; omega
theorem sum_list (s : StateD) : [s.came == (lyK s s.ready.length : Int) + (s.outs.length : Int) + s.acked + s.dropped, s.came == s.nextSeq].contains false = !(sumB s) := by
  rw [list2, lyK_all]
  rfl
theorem sum_wraps {s : StateD} (ha : countB s.acked = true) (hd : countB s.dropped = true) (hl : lyingS s ≤ 1048576) (ho : s.outs.length ≤ 1048576) :
    RowKit.wrap64 ((lyK s s.ready.length : Int) + (s.outs.length : Int)) = (lyK s s.ready.length : Int) + (s.outs.length : Int) ∧ RowKit.wrap64 ((lyK s s.ready.length : Int) + (s.outs.length : Int) + s.acked) = (lyK s s.ready.length : Int) + (s.outs.length : Int) + s.acked ∧
      RowKit.wrap64 ((lyK s s.ready.length : Int) + (s.outs.length : Int) + s.acked + s.dropped) = (lyK s s.ready.length : Int) + (s.outs.length : Int) + s.acked + s.dropped := by
  unfold countB at ha hd
  simp only [Bool.and_eq_true, decide_eq_true_eq] at ha hd
  rw [lyK_all]
  exact ⟨w64 (by omega) (by omega), w64 (by omega) (by omega), w64 (by omega) (by omega)⟩

theorem taker_two (q : Nat) (t : TakerD) : ((decide (-1 ≤ t.queue) && decide (t.queue ≤ (q : Int) - 1)) && (decide (1 ≤ t.atOnce) && decide (t.atOnce ≤ 4))) = takerB q t := by
  unfold takerB
  rw [Bool.eq_iff_iff]
  simp only [Bool.and_eq_true, decide_eq_true_eq]
  constructor
  · rintro ⟨⟨h1, h2⟩, h3, h4⟩; exact ⟨⟨⟨h1, by omega⟩, h3⟩, h4⟩
  · rintro ⟨⟨⟨h1, h2⟩, h3⟩, h4⟩; exact ⟨⟨h1, by omega⟩, h3, h4⟩

theorem out_facts {p : PlanD} {s : StateD} {x : OutD} (hf : Formed p s) (hm : x ∈ s.outs) : 0 ≤ x.tag ∧ x.tag < s.nextTag ∧ (0 ≤ x.taker ∧ x.taker < (s.takers.length : Int)) ∧ itemFine x.item = true ∧ ∀ t, s.takers[x.taker.toNat]? = some t → 0 ≤ t.queue ∧ t.queue = x.queue := by
  have ho := hf.out _ hm
  unfold outB at ho
  simp only [Bool.and_eq_true, decide_eq_true_eq] at ho
  refine ⟨ho.1.1.1.1.1, ho.1.1.1.1.2, ⟨ho.1.1.1.2, ho.1.1.2⟩, ho.2, fun t ht => ?_⟩
  have h := ho.1.2
  rw [ht] at h
  simp only [Bool.and_eq_true, decide_eq_true_eq] at h
  exact h
theorem out_mk {s : StateD} {x : OutD} {t : TakerD} (ht : s.takers[x.taker.toNat]? = some t) (h1 : 0 ≤ x.tag) (h2 : x.tag < s.nextTag) (h3 : 0 ≤ x.taker) (h4 : x.taker < (s.takers.length : Int)) (h5 : 0 ≤ t.queue) (h6 : t.queue = x.queue) (h7 : itemFine x.item = true) : outB s x = true := by
  have hq0 : 0 ≤ x.queue := by omega
  unfold outB
  rw [ht]
  simp [h1, h2, h3, h4, h6, h7, hq0]

theorem formed_tail {p : PlanD} {s : StateD} (h1 : s.ready.length = p.queues.length) (h2 : ∀ l ∈ s.ready, lineFine l = true) (h3 : ∀ t ∈ s.takers, takerB p.queues.length t = true) (h4 : ∀ x ∈ s.outs, outB s x = true) (h5 : s.outs.Pairwise fun x y => x.tag < y.tag) (h6 : (seqsS s).Nodup) (h7 : ∀ n ∈ seqsS s, n < s.nextSeq) :
    formedB p s = (countB s.nextSeq && countB s.nextTag && countB s.came && countB s.acked && countB s.dropped) := by
  rw [Bool.eq_iff_iff, formedB_iff]
  simp only [Bool.and_eq_true]
  constructor
  · intro hf
    exact ⟨⟨⟨⟨hf.nextSeq, hf.nextTag⟩, hf.came⟩, hf.acked⟩, hf.dropped⟩
  · rintro ⟨⟨⟨⟨a, b⟩, c⟩, d⟩, e⟩
    exact ⟨h1, a, b, c, d, e, h2, h3, h4, h5, h6, h7⟩
theorem nf_pair {p : PlanD} {s : StateD} {i k : Nat} (hi : i < (seqsS s).length) (hk : k < i) (h : (seqsS s)[k]'(Nat.lt_trans hk hi) = (seqsS s)[i]) : ¬ Formed p s := fun hf => (List.pairwise_iff_getElem.1 hf.nodup) k i (Nat.lt_trans hk hi) hi hk h
theorem nf_great {p : PlanD} {s : StateD} {i : Nat} (hi : i < (seqsS s).length) (h : s.nextSeq ≤ (seqsS s)[i]) : ¬ Formed p s := fun hf => by
  have := hf.below _ (List.getElem_mem hi)
  omega

theorem nr_limit {p : PlanD} {s : StateD} {q : Nat} (h1 : q < s.ready.length) (h2 : q < p.queues.length) (h : p.queues[q].limit < (s.ready[q].length : Int)) : (limitB p s && heldB s) = false := by
  have : limitB p s = false := by
    rw [← Bool.not_eq_true, limitB_iff]
    intro hh
    have := hh q _ _ (List.getElem?_eq_getElem h1) (List.getElem?_eq_getElem h2)
    omega
  rw [this]; rfl
theorem nr_held {p : PlanD} {s : StateD} {k : Nat} (h1 : k < s.takers.length) (h : s.takers[k].atOnce < (heldS s k : Int)) : (limitB p s && heldB s) = false := by
  have : heldB s = false := by
    rw [← Bool.not_eq_true, heldB_iff]
    intro hh
    have := hh k _ (List.getElem?_eq_getElem h1)
    omega
  rw [this, Bool.and_false]

end Go.Proofs.YtbdikenloklhaaaDoor
