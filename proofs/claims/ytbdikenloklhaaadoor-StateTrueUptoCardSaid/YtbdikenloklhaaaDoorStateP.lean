/-
  The plain law of states: which error a state has. No program in sight.
-/
import Derived.Test.YtbdikenloklhaaaDoorLinesP
import Derived.Test.YtbdikenloklhaaaDoorPlanH
namespace Go.Proofs.YtbdikenloklhaaaDoor

def countB (n : Int) : Bool := decide (0 ≤ n) && decide (n ≤ 1048576)
def takerB (q : Nat) (t : TakerD) : Bool := decide (-1 ≤ t.queue) && decide (t.queue < (q : Int)) && decide (1 ≤ t.atOnce) && decide (t.atOnce ≤ 4)
/-- May an Out be? -/
def outB (s : StateD) (x : OutD) : Bool :=
  decide (0 ≤ x.tag) && decide (x.tag < s.nextTag) && decide (0 ≤ x.taker) && decide (x.taker < (s.takers.length : Int)) &&
    (match s.takers[x.taker.toNat]? with | some t => decide (0 ≤ t.queue) && decide (t.queue = x.queue) | none => false) && itemFine x.item
def seqsR (l : List (List ItemD)) : List Int := l.flatMap fun r => r.map (·.seq)
def seqsO (l : List OutD) : List Int := l.map (·.item.seq)
def seqsS (s : StateD) : List Int := seqsR s.ready ++ seqsO s.outs
/-- How many a taker has. -/
def heldS (s : StateD) (k : Int) : Nat := s.outs.countP fun x => decide (x.taker = k)
def lyingS (s : StateD) : Nat := (s.ready.map List.length).sum

structure Formed (p : PlanD) (s : StateD) : Prop where
  len : s.ready.length = p.queues.length
  nextSeq : countB s.nextSeq = true
  nextTag : countB s.nextTag = true
  came : countB s.came = true
  acked : countB s.acked = true
  dropped : countB s.dropped = true
  line : ∀ l ∈ s.ready, lineFine l = true
  taker : ∀ t ∈ s.takers, takerB p.queues.length t = true
  out : ∀ x ∈ s.outs, outB s x = true
  order : s.outs.Pairwise fun x y => x.tag < y.tag
  nodup : (seqsS s).Nodup
  below : ∀ n ∈ seqsS s, n < s.nextSeq

def formedB (p : PlanD) (s : StateD) : Bool :=
  decide (s.ready.length = p.queues.length) && countB s.nextSeq && countB s.nextTag && countB s.came && countB s.acked && countB s.dropped && s.ready.all lineFine && s.takers.all (takerB p.queues.length) && s.outs.all (outB s) &&
    decide (s.outs.Pairwise fun x y => x.tag < y.tag) && decide (seqsS s).Nodup && (seqsS s).all (fun n => decide (n < s.nextSeq))
theorem formedB_iff {p : PlanD} {s : StateD} : formedB p s = true ↔ Formed p s := by
  unfold formedB
  simp only [Bool.and_eq_true, decide_eq_true_eq, List.all_eq_true]
  constructor
  · rintro ⟨⟨⟨⟨⟨⟨⟨⟨⟨⟨⟨h1, h2⟩, h3⟩, h4⟩, h5⟩, h6⟩, h7⟩, h8⟩, h9⟩, h10⟩, h11⟩, h12⟩
    exact ⟨h1, h2, h3, h4, h5, h6, h7, h8, h9, h10, h11, h12⟩
  · rintro ⟨h1, h2, h3, h4, h5, h6, h7, h8, h9, h10, h11, h12⟩
    exact ⟨⟨⟨⟨⟨⟨⟨⟨⟨⟨⟨h1, h2⟩, h3⟩, h4⟩, h5⟩, h6⟩, h7⟩, h8⟩, h9⟩, h10⟩, h11⟩, h12⟩

/-- No queue has more than it may, no taker has. -/
structure Ranged (p : PlanD) (s : StateD) : Prop where
  limit : ∀ (i : Nat) (l : List ItemD) (q : QueueD), s.ready[i]? = some l → p.queues[i]? = some q → (l.length : Int) ≤ q.limit
  held : ∀ (k : Nat) (t : TakerD), s.takers[k]? = some t → (heldS s k : Int) ≤ t.atOnce
def limitB (p : PlanD) (s : StateD) : Bool := (s.ready.zip p.queues).all fun x => decide ((x.1.length : Int) ≤ x.2.limit)
def heldB (s : StateD) : Bool := s.takers.zipIdx.all fun x => decide ((heldS s x.2 : Int) ≤ x.1.atOnce)
theorem limitB_iff {p : PlanD} {s : StateD} : limitB p s = true ↔ ∀ (i : Nat) (l : List ItemD) (q : QueueD), s.ready[i]? = some l → p.queues[i]? = some q → (l.length : Int) ≤ q.limit := by
  unfold limitB
  simp only [List.all_eq_true, decide_eq_true_eq]
  constructor
  · intro h i l q hl hq
    have : (s.ready.zip p.queues)[i]? = some (l, q) := by rw [List.getElem?_zip_eq_some]; exact ⟨hl, hq⟩
    exact h _ (List.mem_of_getElem? this)
  · intro h x hx
    obtain ⟨i, hi⟩ := List.getElem?_of_mem hx
    obtain ⟨l, q⟩ := x
    rw [List.getElem?_zip_eq_some] at hi
    exact h i l q hi.1 hi.2
theorem heldB_iff {s : StateD} : heldB s = true ↔ ∀ (k : Nat) (t : TakerD), s.takers[k]? = some t → (heldS s k : Int) ≤ t.atOnce := by
  unfold heldB
  simp only [List.all_eq_true, decide_eq_true_eq]
  constructor
  · intro h k t ht
    have : s.takers.zipIdx[k]? = some (t, k) := by rw [List.getElem?_zipIdx, ht]; simp
    exact h _ (List.mem_of_getElem? this)
  · intro h x hx
    obtain ⟨i, hi⟩ := List.getElem?_of_mem hx
    rw [List.getElem?_zipIdx] at hi
    cases ht : s.takers[i]? with
    | none => rw [ht] at hi; cases hi
    | some t =>
      rw [ht] at hi
      simp only [Option.map_some, Option.some.injEq, Nat.zero_add] at hi
      subst hi
      exact h i t ht
def sumB (s : StateD) : Bool := decide (s.came = ((lyingS s : Nat) : Int) + ((s.outs.length : Nat) : Int) + s.acked + s.dropped) && decide (s.came = s.nextSeq)

/-- The error of a state. -/
def stateErr (p : PlanD) (s : StateD) : Int :=
  if checkP p ≠ 0 then checkP p else if 4 < s.takers.length then 2 else if formedB p s = false then 1 else if (limitB p s && heldB s) = false then 3 else if sumB s = false then 10 else 0

theorem stateErr_plan {p : PlanD} {s : StateD} (h : checkP p ≠ 0) : stateErr p s = checkP p := by unfold stateErr; rw [if_pos h]
theorem stateErr_many {p : PlanD} {s : StateD} (h : checkP p = 0) (h1 : 4 < s.takers.length) : stateErr p s = 2 := by unfold stateErr; rw [if_neg (by simp [h]), if_pos h1]
theorem stateErr_form {p : PlanD} {s : StateD} (h : checkP p = 0) (h1 : s.takers.length ≤ 4) (h2 : ¬ Formed p s) : stateErr p s = 1 := by
  unfold stateErr
  rw [if_neg (by simp [h]), if_neg (by omega), if_pos (by rw [← Bool.not_eq_true, formedB_iff]; exact h2)]
theorem stateErr_range {p : PlanD} {s : StateD} (h : checkP p = 0) (h1 : s.takers.length ≤ 4) (h2 : Formed p s) (h3 : (limitB p s && heldB s) = false) : stateErr p s = 3 := by
  unfold stateErr
  rw [if_neg (by simp [h]), if_neg (by omega), if_neg (by rw [formedB_iff.2 h2]; decide), if_pos h3]
theorem stateErr_sum {p : PlanD} {s : StateD} (h : checkP p = 0) (h1 : s.takers.length ≤ 4) (h2 : Formed p s) (h3 : (limitB p s && heldB s) = true) (h4 : sumB s = false) : stateErr p s = 10 := by
  unfold stateErr
  rw [if_neg (by simp [h]), if_neg (by omega), if_neg (by rw [formedB_iff.2 h2]; decide), if_neg (by rw [h3]; decide), if_pos h4]
theorem stateErr_ok {p : PlanD} {s : StateD} (h : checkP p = 0) (h1 : s.takers.length ≤ 4) (h2 : Formed p s) (h3 : (limitB p s && heldB s) = true) (h4 : sumB s = true) : stateErr p s = 0 := by
  unfold stateErr
  rw [if_neg (by simp [h]), if_neg (by omega), if_neg (by rw [formedB_iff.2 h2]; decide), if_neg (by rw [h3]; decide), if_neg (by rw [h4]; decide)]

/-- What a right state is. -/
structure Right (p : PlanD) (s : StateD) : Prop extends Formed p s, Ranged p s where
  plan : checkP p = 0
  many : s.takers.length ≤ 4
  sum : s.came = ((lyingS s : Nat) : Int) + ((s.outs.length : Nat) : Int) + s.acked + s.dropped
  same : s.came = s.nextSeq
theorem right_iff {p : PlanD} {s : StateD} : stateErr p s = 0 ↔ Right p s := by
  constructor
  · intro h
    by_cases h0 : checkP p = 0
    · by_cases h1 : s.takers.length ≤ 4
      · by_cases h2 : Formed p s
        · cases h3 : (limitB p s && heldB s)
          · rw [stateErr_range h0 h1 h2 h3] at h; cases h
          · cases h4 : sumB s
            · rw [stateErr_sum h0 h1 h2 h3 h4] at h; cases h
            · rw [Bool.and_eq_true, limitB_iff, heldB_iff] at h3
              simp only [sumB, Bool.and_eq_true, decide_eq_true_eq] at h4
              exact { h2, h3 with limit := h3.1, held := h3.2, plan := h0, many := h1, sum := h4.1, same := h4.2 }
        · rw [stateErr_form h0 h1 h2] at h; cases h
      · rw [stateErr_many h0 (by omega)] at h; cases h
    · rw [stateErr_plan h0] at h; exact absurd h h0
  · intro h
    exact stateErr_ok h.plan h.many h.toFormed (by rw [Bool.and_eq_true, limitB_iff, heldB_iff]; exact ⟨h.limit, h.held⟩) (by simp only [sumB, Bool.and_eq_true, decide_eq_true_eq]; exact ⟨h.sum, h.same⟩)

end Go.Proofs.YtbdikenloklhaaaDoor
