/-
  The plain law of takers: who joins, who is next, what is delivered.
  takers.Asked and the reference's QueueError: the error that all share.
  takers.Next and the reference's NextOf, walked.
  takers.Join and the reference's JoinOf, walked.
  The reference's JoinOf, walked.
-/
import Derived.Test.YtfbgmgadpjpdcaaGreatDoorBunF
import Derived.Test.YtfbgmgadpjpdcaaGreatDoorStateD
import Derived.Test.YtfbgmgadpjpdcaaGreatDoorBunG
import Derived.Test.YtfbgmgadpjpdcaaGreatDoorBunE
import Derived.Test.YtfbgmgadpjpdcaaGreatDoorBunH
set_option linter.unusedSimpArgs false
set_option linter.unusedVariables false
namespace Go.Proofs.YtfbgmgadpjpdcaaGreatDoor

def askErr (p : PlanD) (s : StateD) (q : Int) : Int := if stateErr p s ≠ 0 then stateErr p s else if q < 0 ∨ (p.queues.length : Int) ≤ q then 5 else 0
def bestAt (s : StateD) (q : Int) : Nat → Int × Int
  | 0 => (-1, 4)
  | k + 1 => match s.takers[k]? with
    | some t => if t.queue = q ∧ (heldS s k : Int) < min t.atOnce (bestAt s q k).2 then ((k : Int), (heldS s k : Int)) else bestAt s q k
    | none => bestAt s q k
def lineAt (s : StateD) (q : Int) : List ItemD := (s.ready[q.toNat]?).getD []
def bestN (s : StateD) (q : Int) : Int := (bestAt s q s.takers.length).1
def nextErr (p : PlanD) (s : StateD) (q : Int) : Int :=
  if askErr p s q ≠ 0 then askErr p s q else if (lineAt s q).length = 0 then 8 else if bestN s q < 0 then 9 else 0
def nextN (p : PlanD) (s : StateD) (q : Int) : Int := if nextErr p s q = 0 then bestN s q else 0
def headAt (s : StateD) (q : Int) : ItemD := ((lineAt s q)[0]?).getD ⟨0, ⟨#[]⟩, ⟨#[]⟩, false, 0⟩
def deliverErr (p : PlanD) (s : StateD) (q : Int) : Int := if nextErr p s q ≠ 0 then nextErr p s q else if s.nextTag = 1048576 then 2 else 0
def givenS (s : StateD) (q k : Int) : StateD :=
  { s with ready := s.ready.set q.toNat ((lineAt s q).drop 1), outs := s.outs ++ [⟨s.nextTag, k, q, headAt s q⟩], nextTag := s.nextTag + 1 }
def deliverS (p : PlanD) (s : StateD) (q : Int) : StateD := if deliverErr p s q = 0 then givenS s q (bestN s q) else zeroS
def deliverT (p : PlanD) (s : StateD) (q : Int) : Int := if deliverErr p s q = 0 then s.nextTag else 0

def Elig (s : StateD) (q : Int) (i : Nat) : Prop := ∃ t, s.takers[i]? = some t ∧ t.queue = q ∧ (heldS s i : Int) < t.atOnce
def Best (s : StateD) (q : Int) (k : Nat) (r : Int × Int) : Prop :=
  (r = (-1, 4) ∧ ∀ i : Nat, i < k → ¬ Elig s q i) ∨
    ∃ i : Nat, i < k ∧ r = ((i : Int), (heldS s i : Int)) ∧ Elig s q i ∧ (∀ j : Nat, j < k → Elig s q j → heldS s i ≤ heldS s j) ∧ (∀ j : Nat, j < i → Elig s q j → heldS s i < heldS s j)

theorem taker_four {p : PlanD} {s : StateD} (h : Right p s) {i : Nat} {t : TakerD} (ht : s.takers[i]? = some t) : -1 ≤ t.queue ∧ t.queue < (p.queues.length : Int) ∧ 1 ≤ t.atOnce ∧ t.atOnce ≤ 4 := by
  have := h.taker t (List.mem_of_getElem? ht)
  unfold takerB at this
  simp only [Bool.and_eq_true, decide_eq_true_eq] at this
  exact ⟨this.1.1.1, this.1.1.2, this.1.2, this.2⟩
theorem bestAt_spec {p : PlanD} {s : StateD} (h : Right p s) (q : Int) : ∀ k : Nat, Best s q k (bestAt s q k)
  | 0 => .inl ⟨rfl, fun i hi => absurd hi (Nat.not_lt_zero i)⟩
  | k + 1 => by
    have ih := bestAt_spec h q k
    unfold bestAt
    cases ht : s.takers[k]? with
    | none =>
      simp only
      have hn : ¬ Elig s q k := fun ⟨t, h1, _⟩ => by rw [ht] at h1; cases h1
      rcases ih with ⟨e, hno⟩ | ⟨i, hi, e, he, h1, h2⟩
      · exact .inl ⟨e, fun j hj hj2 => by
          rcases Nat.lt_or_ge j k with h3 | h3
          · exact hno j h3 hj2
          · exact hn (by rwa [show j = k by omega] at hj2)⟩
      · exact .inr ⟨i, by omega, e, he, fun j hj hj2 => by
          rcases Nat.lt_or_ge j k with h3 | h3
          · exact h1 j h3 hj2
          · exact absurd (by rwa [show j = k by omega] at hj2) hn, h2⟩
    | some t =>
      simp only
      have h4 := taker_four h ht
      by_cases hc : t.queue = q ∧ (heldS s k : Int) < min t.atOnce (bestAt s q k).2
      · rw [if_pos hc]
        have hE : Elig s q k := ⟨t, ht, hc.1, by have := hc.2; omega⟩
        have hlt : (heldS s k : Int) < (bestAt s q k).2 := by have := hc.2; omega
        refine .inr ⟨k, by omega, rfl, hE, ?_, ?_⟩
        · intro j hj hj2
          rcases Nat.lt_or_ge j k with h3 | h3
          · rcases ih with ⟨e, hno⟩ | ⟨i, hi, e, he, h1, h2⟩
            · exact absurd hj2 (hno j h3)
            · have := h1 j h3 hj2
              rw [e] at hlt
              simp only at hlt
              omega
          · rw [show j = k by omega]; exact Nat.le_refl _
        · intro j hj hj2
          rcases ih with ⟨e, hno⟩ | ⟨i, hi, e, he, h1, h2⟩
          · exact absurd hj2 (hno j hj)
          · have := h1 j hj hj2
            rw [e] at hlt
            simp only at hlt
            omega
      · rw [if_neg hc]
        rcases ih with ⟨e, hno⟩ | ⟨i, hi, e, he, h1, h2⟩
        · refine .inl ⟨e, fun j hj hj2 => ?_⟩
          rcases Nat.lt_or_ge j k with h3 | h3
          · exact hno j h3 hj2
          · rw [show j = k by omega] at hj2
            obtain ⟨t', h5, h6, h7⟩ := hj2
            rw [ht] at h5
            cases h5
            exact hc ⟨h6, by rw [e]; simp only; omega⟩
        · refine .inr ⟨i, by omega, e, he, fun j hj hj2 => ?_, h2⟩
          rcases Nat.lt_or_ge j k with h3 | h3
          · exact h1 j h3 hj2
          · rw [show j = k by omega] at hj2 ⊢
            obtain ⟨t', h5, h6, h7⟩ := hj2
            rw [ht] at h5
            cases h5
            rcases Nat.lt_or_ge (heldS s k) (heldS s i) with h8 | h8
            · exact absurd ⟨h6, by rw [e]; simp only; omega⟩ hc
            · exact h8
theorem Best.none {s : StateD} {q : Int} {n : Nat} {r : Int × Int} (h : Best s q n r) (hno : ∀ i : Nat, i < n → ¬ Elig s q i) : r = (-1, 4) := by
  rcases h with ⟨e, _⟩ | ⟨k, hk, e, hek, _⟩
  · exact e
  · exact absurd hek (hno k hk)
theorem Elig.lt {s : StateD} {q : Int} {i : Nat} (h : Elig s q i) : i < s.takers.length := by
  obtain ⟨t, ht, _⟩ := h
  exact (List.getElem?_eq_some_iff.1 ht).1
theorem Elig.held {p : PlanD} {s : StateD} (hr : Right p s) {q : Int} {i : Nat} (h : Elig s q i) : heldS s i < 4 := by
  obtain ⟨t, ht, _, h2⟩ := h
  have := taker_four hr ht
  omega
theorem best_elig {p : PlanD} {s : StateD} (h : Right p s) {q : Int} (hb : ¬ bestN s q < 0) : ∃ i : Nat, bestN s q = (i : Int) ∧ Elig s q i ∧ ∀ j : Nat, Elig s q j → heldS s i ≤ heldS s j := by
  unfold bestN at hb ⊢
  rcases bestAt_spec h q s.takers.length with ⟨e, _⟩ | ⟨i, hi, e, he, h1, _⟩
  · rw [e] at hb; exact absurd (by decide) hb
  · exact ⟨i, by rw [e], he, fun j hj => h1 j hj.lt hj⟩

theorem ask_ok {p : PlanD} {s : StateD} {q : Int} : askErr p s q = 0 ↔ Right p s ∧ 0 ≤ q ∧ q < (p.queues.length : Int) := by
  unfold askErr
  rw [← right_iff]
  split
  · rename_i h
    exact ⟨fun e => absurd e h, fun e => absurd e.1 h⟩
  · rename_i h
    split
    · exact ⟨fun e => (by cases e), fun e => (by omega)⟩
    · exact ⟨fun _ => ⟨by omega, by omega, by omega⟩, fun _ => rfl⟩
theorem next_ok {p : PlanD} {s : StateD} {q : Int} : nextErr p s q = 0 ↔ askErr p s q = 0 ∧ (lineAt s q).length ≠ 0 ∧ ¬ bestN s q < 0 := by
  unfold nextErr
  split
  · rename_i h
    exact ⟨fun e => absurd e h, fun e => absurd e.1 h⟩
  · rename_i h
    split
    · rename_i h1
      exact ⟨fun e => (by cases e), fun e => absurd h1 e.2.1⟩
    · rename_i h1
      split
      · rename_i h2
        exact ⟨fun e => (by cases e), fun e => absurd h2 e.2.2⟩
      · rename_i h2
        exact ⟨fun _ => ⟨by omega, h1, h2⟩, fun _ => rfl⟩
theorem deliver_ok {p : PlanD} {s : StateD} {q : Int} : deliverErr p s q = 0 ↔ nextErr p s q = 0 ∧ s.nextTag ≠ 1048576 := by
  unfold deliverErr
  split
  · rename_i h
    exact ⟨fun e => absurd e h, fun e => absurd e.1 h⟩
  · rename_i h
    split
    · rename_i h1
      exact ⟨fun e => (by cases e), fun e => absurd h1 e.2⟩
    · rename_i h1
      exact ⟨fun _ => ⟨by omega, h1⟩, fun _ => rfl⟩
theorem tk_out {p : PlanD} {s : StateD} (h : Formed p s) {x : OutD} (hx : x ∈ s.outs) : ∃ t, s.takers[x.taker.toNat]? = some t ∧ 0 ≤ t.queue ∧ t.queue = x.queue ∧ 0 ≤ x.tag ∧ x.tag < s.nextTag ∧ 0 ≤ x.taker ∧ x.taker < (s.takers.length : Int) ∧ itemFine x.item = true := by
  have := h.out x hx
  unfold outB at this
  simp only [Bool.and_eq_true, decide_eq_true_eq] at this
  obtain ⟨⟨⟨⟨⟨h1, h2⟩, h3⟩, h4⟩, h5⟩, h6⟩ := this
  cases ht : s.takers[x.taker.toNat]? with
  | none => rw [ht] at h5; cases h5
  | some t =>
    rw [ht] at h5
    simp only [Bool.and_eq_true, decide_eq_true_eq] at h5
    exact ⟨t, rfl, h5.1, h5.2, h1, h2, h3, h4, h6⟩
theorem tk_mk {s : StateD} {x : OutD} {t : TakerD} (ht : s.takers[x.taker.toNat]? = some t) (h0 : 0 ≤ t.queue) (hq : t.queue = x.queue) (h1 : 0 ≤ x.tag) (h2 : x.tag < s.nextTag) (h3 : 0 ≤ x.taker) (h6 : itemFine x.item = true) : outB s x = true := by
  have h4 := (List.getElem?_eq_some_iff.1 ht).1
  unfold outB
  rw [ht]
  simp only [Bool.and_eq_true, decide_eq_true_eq]
  exact ⟨⟨⟨⟨⟨h1, h2⟩, h3⟩, by omega⟩, h0, hq⟩, h6⟩
theorem seqs_set {l : List (List ItemD)} {n : Nat} {x : ItemD} {r : List ItemD} (h : l[n]? = some (x :: r)) : List.Perm (seqsR l) (x.seq :: seqsR (l.set n r)) := by
  induction l generalizing n with
  | nil => cases h
  | cons a l ih =>
    cases n with
    | zero =>
      simp only [List.getElem?_cons_zero, Option.some.injEq] at h
      subst h
      simp [seqsR]
    | succ n =>
      simp only [List.getElem?_cons_succ] at h
      have := ih h
      simp only [List.set_cons_succ, seqsR, List.flatMap_cons] at this ⊢
      exact (List.Perm.append_left _ this).trans List.perm_middle
theorem lying_set {l : List (List ItemD)} {n : Nat} {x : ItemD} {r : List ItemD} (h : l[n]? = some (x :: r)) : (l.map List.length).sum = ((l.set n r).map List.length).sum + 1 := by
  induction l generalizing n with
  | nil => cases h
  | cons a l ih =>
    cases n with
    | zero =>
      simp only [List.getElem?_cons_zero, Option.some.injEq] at h
      subst h
      simp only [List.set_cons_zero, List.map_cons, List.sum_cons, List.length_cons]
      omega
    | succ n =>
      simp only [List.getElem?_cons_succ] at h
      have := ih h
      simp only [List.set_cons_succ, List.map_cons, List.sum_cons]
      omega
theorem held_given (s : StateD) (q : Int) (i k : Nat) : heldS (givenS s q i) k = heldS s k + if k = i then 1 else 0 := by
  unfold heldS givenS
  simp only [List.countP_append, List.countP_cons, List.countP_nil]
  by_cases h : k = i
  · subst h; simp
  · have h' : ¬ (i : Int) = (k : Int) := by omega
    simp [h, h']
theorem line_head {p : PlanD} {s : StateD} {q : Int} (h : nextErr p s q = 0) : ∃ r, lineAt s q = headAt s q :: r ∧ s.ready[q.toNat]? = some (headAt s q :: r) := by
  obtain ⟨h0, h1, _⟩ := next_ok.1 h
  obtain ⟨hR, hq0, hq1⟩ := ask_ok.1 h0
  have hl : q.toNat < s.ready.length := by rw [hR.len]; omega
  have e : s.ready[q.toNat]? = some (lineAt s q) := by
    unfold lineAt
    rw [List.getElem?_eq_getElem hl]; rfl
  cases hc : lineAt s q with
  | nil => rw [hc] at h1; exact absurd rfl h1
  | cons x r =>
    have eh : headAt s q = x := by unfold headAt; rw [hc]; rfl
    rw [eh]
    exact ⟨r, rfl, by rw [e, hc]⟩
theorem given_right {p : PlanD} {s : StateD} {q : Int} (h : nextErr p s q = 0) (ht : s.nextTag ≠ 1048576) {i : Nat} (hi : Elig s q i) : Right p (givenS s q i) := by
  obtain ⟨h0, h1, hb⟩ := next_ok.1 h
  obtain ⟨hR, hq0, hq1⟩ := ask_ok.1 h0
  obtain ⟨r, hl, hr⟩ := line_head h
  have hd : (lineAt s q).drop 1 = r := by rw [hl]; rfl
  have hline := hR.line _ (List.mem_of_getElem? hr)
  rw [lineFine_iff] at hline
  have hnt := hR.nextTag
  unfold countB at hnt
  simp only [Bool.and_eq_true, decide_eq_true_eq] at hnt
  have hperm : List.Perm (seqsS s) (seqsS (givenS s q i)) := by
    unfold seqsS givenS
    simp only [hd]
    rw [show seqsO (s.outs ++ [(⟨s.nextTag, (i : Int), q, headAt s q⟩ : OutD)]) = seqsO s.outs ++ [(headAt s q).seq] by simp [seqsO]]
    refine (List.Perm.append_right _ (seqs_set hr)).trans ?_
    rw [List.cons_append, ← List.append_assoc]
    exact (List.perm_append_comm (l₁ := [(headAt s q).seq]))
  have hset : ∀ l, l ∈ (givenS s q i).ready → l ∈ s.ready ∨ l = r := fun l hl' => by
    unfold givenS at hl'
    simp only [hd] at hl'
    rcases List.mem_or_eq_of_mem_set hl' with h1 | h1
    · exact .inl h1
    · exact .inr h1
  obtain ⟨t, hti, htq, hth⟩ := hi
  exact {
    plan := hR.plan
    many := hR.many
    sum := by
      have hs := hR.sum
      have hy : lyingS s = lyingS (givenS s q i) + 1 := by
        unfold lyingS givenS
        simp only [hd]
        exact lying_set hr
      show s.came = ((lyingS (givenS s q i) : Nat) : Int) + (((s.outs ++ [(⟨s.nextTag, (i : Int), q, headAt s q⟩ : OutD)]).length : Nat) : Int) + s.acked + s.dropped
      rw [List.length_append]
      simp only [List.length_cons, List.length_nil]
      omega
    same := hR.same
    limit := fun k l qu hl' hqu => by
      have hl'' : (s.ready.set q.toNat r)[k]? = some l := by
        have := hl'
        unfold givenS at this
        simp only [hd] at this
        exact this
      rw [List.getElem?_set] at hl''
      split at hl''
      · rename_i e
        subst e
        split at hl''
        · simp only [Option.some.injEq] at hl''
          subst hl''
          have := hR.limit _ _ _ hr hqu
          rw [List.length_cons] at this
          omega
        · cases hl''
      · exact hR.limit k l qu hl'' hqu
    held := fun k t' ht' => by
      have ht'' : s.takers[k]? = some t' := ht'
      rw [held_given]
      split
      · rename_i e
        subst e
        rw [hti] at ht''
        cases ht''
        omega
      · have := hR.held k t' ht''
        omega
    len := by
      show (s.ready.set q.toNat ((lineAt s q).drop 1)).length = p.queues.length
      rw [List.length_set]
      exact hR.len
    nextSeq := hR.nextSeq
    nextTag := by
      show countB (s.nextTag + 1) = true
      unfold countB
      simp only [Bool.and_eq_true, decide_eq_true_eq]
      omega
    came := hR.came
    acked := hR.acked
    dropped := hR.dropped
    line := fun l hl' => by
      rcases hset l hl' with h2 | rfl
      · exact hR.line l h2
      · rw [lineFine_iff]
        exact ⟨fun x hx => hline.1 x (List.mem_cons_of_mem _ hx), (List.pairwise_cons.1 hline.2).2⟩
    taker := hR.taker
    out := fun x hx => by
      have hx' : x ∈ s.outs ++ [(⟨s.nextTag, (i : Int), q, headAt s q⟩ : OutD)] := hx
      rcases List.mem_append.1 hx' with h2 | h2
      · obtain ⟨t', k1, k2, k3, k4, k5, k6, k7, k8⟩ := tk_out hR.toFormed h2
        exact tk_mk (s := givenS s q i) (t := t') k1 k2 k3 k4 (by show x.tag < s.nextTag + 1; omega) k6 k8
      · obtain rfl := List.mem_singleton.1 h2
        exact tk_mk (s := givenS s q i) (t := t) (by show s.takers[((i : Int)).toNat]? = some t; simpa using hti) (by show 0 ≤ t.queue; omega) htq hnt.1 (by show s.nextTag < s.nextTag + 1; omega) (by show (0 : Int) ≤ (i : Int); omega) (hline.1 _ List.mem_cons_self)
    order := by
      show (s.outs ++ [(⟨s.nextTag, (i : Int), q, headAt s q⟩ : OutD)]).Pairwise fun x y => x.tag < y.tag
      rw [List.pairwise_append]
      refine ⟨hR.order, List.pairwise_singleton _ _, fun x hx y hy => ?_⟩
      obtain rfl := List.mem_singleton.1 hy
      obtain ⟨t', k1, k2, k3, k4, k5, _⟩ := tk_out hR.toFormed hx
      exact k5
    nodup := hperm.nodup_iff.1 hR.nodup
    below := fun n hn => hR.below n (hperm.mem_iff.2 hn) }
theorem deliver_right {p : PlanD} {s : StateD} {q : Int} (h : deliverErr p s q = 0) : ∃ i : Nat, bestN s q = (i : Int) ∧ Elig s q i ∧ (∀ j : Nat, Elig s q j → heldS s i ≤ heldS s j) ∧ deliverS p s q = givenS s q i ∧ Right p (givenS s q i) := by
  obtain ⟨h0, ht⟩ := deliver_ok.1 h
  obtain ⟨h1, _, hb⟩ := next_ok.1 h0
  obtain ⟨hR, _⟩ := ask_ok.1 h1
  obtain ⟨i, e, he, hm⟩ := best_elig hR hb
  exact ⟨i, e, he, hm, by unfold deliverS; rw [if_pos h, e], given_right h0 ht he⟩

end Go.Proofs.YtfbgmgadpjpdcaaGreatDoor

namespace Go.Proofs.YtfbgmgadpjpdcaaGreatDoor
open Go.RowKit
set_option maxRecDepth 100000

set_option maxHeartbeats 1000000 in
theorem Asked_any (p : PlanD) (s : StateD) (q : Int) (p1 p2 p3 a1 a2 a3 : Option Addr) (q1 q2 q3 c1 c2 c3 : Nat) (rows : List RowD) (w : World) (hE : Env w) (hp : PlanAt w 0 w.heap.size p1 p2 p3 p) (hps : PlanSmall p) (hs : StateAt w 0 w.heap.size a1 a2 a3 rows s) (hss : StateSmall s) (hsi : StateInts s) :
    Calls Tryz.prog 78 #[planV p p1 p2 p3 q1 q2 q3, stateV s a1 a2 a3 c1 c2 c3, .int .i64 q] w fun e w' => e = .returned (.int .i64 (askErr p s q)) ∧ Below w.heap.size w w' := by
  have hbx := two_boxes q1 q2 q3 c1 c2 c3 hE hp hs 26 31
  unfold vState at hbx
  unfold stateV planV vState
  have hql := hps.queues
  have HBX := Lib.hid hbx
  have HPS := Lib.hid hps
  have HSS := Lib.hid hss
  have HSI := Lib.hid hsi
  clear hbx hE hp hs hps hss hsi
  go_enter Tryz.func78, Tryz.ntmps78
  obtain ⟨⟨m0, m1, m2⟩, ⟨n0, n1, n2, n3, n4, n5, n6, n7⟩, _, _, _, _⟩ := HBX.out _ (Below.refl _ _)
  go_wp2_with fail
  clear m0 m1 m2 n0 n1 n2 n3 n4 n5 n6 n7
  generalize ((w.alloc (.cells #[.slice p1 p.posts.length q1, .slice p2 p.queues.length q2, .slice p3 p.binds.length q3] 26)).alloc (.cells #[Value.slice a1 s.ready.length c1, Value.slice a2 s.outs.length c2, Value.slice a3 s.takers.length c3, Value.int IntKind.i64 s.nextSeq, Value.int IntKind.i64 s.nextTag, Value.int IntKind.i64 s.came, Value.int IntKind.i64 s.acked, Value.int IntKind.i64 s.dropped] 31)) = W0 at *
  refine (SCheck_any p s p1 p2 p3 a1 a2 a3 q1 q2 q3 c1 c2 c3 rows W0 (HBX.out _ (Below.refl _ _)).env (HBX.out _ (Below.refl _ _)).planAt HPS.out (HBX.out _ (Below.refl _ _)).stateAt HSS.out HSI.out).mono ?_
  rintro e W1 ⟨rfl, hb1⟩
  have HB1 := Lib.hid hb1
  obtain ⟨⟨m0, m1, m2⟩, _, _, _, _, _⟩ := HBX.out _ hb1
  clear hb1
  by_cases hc : stateErr p s = 0
  · have b1 : (stateErr p s != 0) = false := by simp [hc]
    by_cases hn0 : q < 0
    · have HR : Hid (askErr p s q = 5) := by refine (?_ : askErr p s q = 5); unfold askErr; rw [if_neg (by simp [hc]), if_pos (.inl hn0)]
      clear hc
      go_wp2_with fail
      go_ret
      exact ⟨by rw [HR.out]; rfl, (HBX.out _ HB1.out).below⟩
    · by_cases hn1 : (p.queues.length : Int) ≤ q
      · have HR : Hid (askErr p s q = 5) := by refine (?_ : askErr p s q = 5); unfold askErr; rw [if_neg (by simp [hc]), if_pos (.inr hn1)]
        clear hc
        go_wp2_with fail
        go_ret
        exact ⟨by rw [HR.out]; rfl, (HBX.out _ HB1.out).below⟩
      · have HR : Hid (askErr p s q = 0) := by refine (?_ : askErr p s q = 0); unfold askErr; rw [if_neg (by simp [hc]), if_neg (by omega)]
        clear hc
        go_wp2_with fail
        go_ret
        exact ⟨by rw [HR.out]; rfl, (HBX.out _ HB1.out).below⟩
  · have b1 : (stateErr p s != 0) = true := by simp [hc]
    have HR : Hid (askErr p s q = stateErr p s) := by refine (?_ : askErr p s q = stateErr p s); unfold askErr; rw [if_pos hc]
    clear hc
    go_wp2_with fail
    go_ret
    exact ⟨by rw [HR.out]; rfl, (HBX.out _ HB1.out).below⟩

end Go.Proofs.YtfbgmgadpjpdcaaGreatDoor

namespace Go.Proofs.YtfbgmgadpjpdcaaGreatDoor
open Go.RowKit
set_option maxRecDepth 100000

theorem next_ask {p : PlanD} {s : StateD} {q : Int} (h : askErr p s q ≠ 0) : nextErr p s q = askErr p s q ∧ nextN p s q = 0 := by
  have e : nextErr p s q = askErr p s q := by unfold nextErr; rw [if_pos h]
  refine ⟨e, ?_⟩
  unfold nextN
  rw [e, if_neg h]
theorem next_none {p : PlanD} {s : StateD} {q : Int} (h : askErr p s q = 0) (h1 : (lineAt s q).length = 0) : nextErr p s q = 8 ∧ nextN p s q = 0 := by
  have e : nextErr p s q = 8 := by unfold nextErr; rw [if_neg (by simp [h]), if_pos h1]
  refine ⟨e, ?_⟩
  unfold nextN
  rw [e]; rfl
theorem next_busy {p : PlanD} {s : StateD} {q : Int} (h : askErr p s q = 0) (h1 : (lineAt s q).length ≠ 0) (hb : bestN s q < 0) : nextErr p s q = 9 ∧ nextN p s q = 0 := by
  have e : nextErr p s q = 9 := by unfold nextErr; rw [if_neg (by simp [h]), if_neg h1, if_pos hb]
  refine ⟨e, ?_⟩
  unfold nextN
  rw [e]; rfl
theorem next_done {p : PlanD} {s : StateD} {q : Int} (h : askErr p s q = 0) (h1 : (lineAt s q).length ≠ 0) (hb : ¬ bestN s q < 0) : nextErr p s q = 0 ∧ nextN p s q = bestN s q := by
  have e : nextErr p s q = 0 := by unfold nextErr; rw [if_neg (by simp [h]), if_neg h1, if_neg hb]
  refine ⟨e, ?_⟩
  unfold nextN
  rw [if_pos e]
theorem best_next {s : StateD} {q : Int} {j : Nat} (h : j < s.takers.length) : bestAt s q (j + 1) = if s.takers[j].queue = q ∧ (heldS s j : Int) < min s.takers[j].atOnce (bestAt s q j).2 then ((j : Int), (heldS s j : Int)) else bestAt s q j := by
  rw [bestAt, List.getElem?_eq_getElem h]
theorem best_range (s : StateD) (q : Int) (j : Nat) (hl : j ≤ 1048576) : -1 ≤ (bestAt s q j).1 ∧ (bestAt s q j).1 ≤ 1048576 := by
  induction j with
  | zero => exact ⟨by show (-1 : Int) ≤ -1; omega, by show (-1 : Int) ≤ 1048576; omega⟩
  | succ j ih =>
    have := ih (by omega)
    unfold bestAt
    split
    · split
      · exact ⟨by show -1 ≤ (j : Int); omega, by show (j : Int) ≤ 1048576; omega⟩
      · exact this
    · exact this
theorem line_at {s : StateD} {k : Nat} (h : k < s.ready.length) : lineAt s (k : Int) = s.ready[k] := by
  unfold lineAt
  rw [Int.toNat_natCast, List.getElem?_eq_getElem h]; rfl

def NxRel (s : StateD) (q : Int) (W0 : World) (b l i : Value) (wr : World) : Prop :=
  ∃ j : Nat, j ≤ s.takers.length ∧ i = .int .i64 j ∧ b = .int .i64 (bestAt s q j).1 ∧ l = .int .i64 (bestAt s q j).2 ∧ Below W0.heap.size W0 wr

set_option maxHeartbeats 4000000 in
theorem Next_any (p : PlanD) (s : StateD) (q : Int) (p1 p2 p3 a1 a2 a3 : Option Addr) (q1 q2 q3 c1 c2 c3 : Nat) (rows : List RowD) (w : World) (hE : Env w) (hp : PlanAt w 0 w.heap.size p1 p2 p3 p) (hps : PlanSmall p) (hs : StateAt w 0 w.heap.size a1 a2 a3 rows s) (hss : StateSmall s) (hsi : StateInts s) :
    Calls Tryz.prog 77 #[planV p p1 p2 p3 q1 q2 q3, stateV s a1 a2 a3 c1 c2 c3, .int .i64 q] w fun e w' => e = .returned (.tuple #[.int .i64 (nextN p s q), .int .i64 (nextErr p s q)]) ∧ Below w.heap.size w w' := by
  have hbx := two_boxes q1 q2 q3 c1 c2 c3 hE hp hs 26 31
  unfold vState at hbx
  unfold stateV planV vState
  have hql := hps.queues
  have hrl := hss.ready
  have hol := hss.outs
  have htl := hss.takers
  have HBX := Lib.hid hbx
  have HPS := Lib.hid hps
  have HSS := Lib.hid hss
  have HSI := Lib.hid hsi
  clear hbx hE hp hs hps hss hsi
  go_enter Tryz.func77, Tryz.ntmps77
  obtain ⟨⟨m0, m1, m2⟩, ⟨n0, n1, n2, n3, n4, n5, n6, n7⟩, _, _, _, _⟩ := HBX.out _ (Below.refl _ _)
  go_wp2_with fail
  clear m0 m1 m2 n0 n1 n2 n3 n4 n5 n6 n7
  generalize ((w.alloc (.cells #[.slice p1 p.posts.length q1, .slice p2 p.queues.length q2, .slice p3 p.binds.length q3] 26)).alloc (.cells #[Value.slice a1 s.ready.length c1, Value.slice a2 s.outs.length c2, Value.slice a3 s.takers.length c3, Value.int IntKind.i64 s.nextSeq, Value.int IntKind.i64 s.nextTag, Value.int IntKind.i64 s.came, Value.int IntKind.i64 s.acked, Value.int IntKind.i64 s.dropped] 31)) = W0 at *
  refine (Asked_any p s q p1 p2 p3 a1 a2 a3 q1 q2 q3 c1 c2 c3 rows W0 (HBX.out _ (Below.refl _ _)).env (HBX.out _ (Below.refl _ _)).planAt HPS.out (HBX.out _ (Below.refl _ _)).stateAt HSS.out HSI.out).mono ?_
  rintro e W1 ⟨rfl, hb1⟩
  have HB1 := Lib.hid hb1
  clear hb1
  by_cases hc : askErr p s q = 0
  · have b1 : (askErr p s q != 0) = false := by simp [hc]
    obtain ⟨hR, hq0, hq1⟩ := ask_ok.1 hc
    obtain ⟨k, rfl⟩ : ∃ k : Nat, q = (k : Int) := ⟨q.toNat, by omega⟩
    have hkr : k < s.ready.length := by rw [hR.len]; omega
    have hsat := (HBX.out _ HB1.out).stateAt
    have hrr : rows.length = s.ready.length := by rw [← hsat.same, List.length_map]
    obtain ⟨b, o, ha, _, hbb, hcl⟩ := sl_elem vRow_len (by decide) hsat.ready (show k < rows.length by omega)
    have hit : (rows[k]'(by omega)).items = lineAt s (k : Int) := by rw [line_at hkr]; simp [← hsat.same]
    have e0 : W1.cell? ⟨b, o + k, none⟩ = some (.slice (rows[k]'(by omega)).at_ (lineAt s (k : Int)).length (rows[k]'(by omega)).cap) := by have := hcl 0 _ rfl; rw [← hit]; simpa using this
    obtain ⟨_, ⟨n0, n1, n2, n3, n4, n5, n6, n7⟩, _, _, _, _⟩ := HBX.out _ HB1.out
    have HC := Lib.hid hc
    have HR := Lib.hid hR
    clear hc hR hcl hsat hit
    subst ha
    by_cases hl : (lineAt s (k : Int)).length = 0
    · have HE := Lib.hid (next_none HC.out hl)
      rw [hl] at e0
      clear hl
      go_wp2_with fail
      go_ret2
      exact ⟨by rw [HE.out.1, HE.out.2]; rfl, (HBX.out _ HB1.out).below⟩
    · have hlb : (((lineAt s (k : Int)).length : Int) == 0) = false := beq_eq_false_iff_ne.2 (by omega)
      have HL := Lib.hid hl
      clear hl
      go_wp2_with fail
      clear n0 n1 n2 n3 n4 n5 n6 n7 e0
      go_loopw [9, 10, 31] (fun b l i wr => NxRel s k W0 b l i wr) (fun _ _ i _ => s.takers.length - (intOf i).toNat)
      case atStart => exact ⟨0, by omega, rfl, rfl, rfl, HB1.out⟩
      case round =>
        clear HB1
        obtain ⟨j, hj, rfl, rfl, rfl, hB⟩ := hrel
        have HB := Lib.hid hB
        clear hB
        have hbr := best_range s k j (by omega)
        by_cases hjl : j < s.takers.length
        · have hsat := (HBX.out _ HB.out).stateAt
          obtain ⟨tb, tt, hta, _, htb, htc⟩ := sl_elem vTaker_len (by decide) hsat.takers hjl
          obtain ⟨e0, e1⟩ := taker_cells (wr := wr) (b := tb) (o := tt) (k := j) (x := s.takers[j]) fun u v hv => htc u v hv
          have HN := Lib.hid (best_next (q := (k : Int)) hjl)
          clear htc hsat
          generalize s.takers[j] = t at *
          generalize hbo : bestAt s (k : Int) j = r at *
          obtain ⟨best, least⟩ := r
          dsimp only at hbr HN ⊢
          have hX : Below W0.heap.size W0 (wr.alloc (.cells #[.int .i64 t.queue, .int .i64 t.atOnce] 91)) := HB.out.alloc HB.out.size _
          have HX := Lib.hid hX
          obtain ⟨_, ⟨n0, n1, n2, n3, n4, n5, n6, n7⟩, _, _, _, _⟩ := HBX.out _ hX
          have hkx := Bk.new wr 91 #[.int .i64 t.queue, .int .i64 t.atOnce]
          clear hX hbo
          subst hta
          go_wp2_with fail
          clear n0 n1 n2 n3 n4 n5 n6 n7 e0 e1
          generalize wr.alloc (.cells #[.int .i64 t.queue, .int .i64 t.atOnce] 91) = X at *
          refine (Of_any s (some ⟨b, o, none⟩) a2 (some ⟨tb, tt, none⟩) c1 c2 c3 j 0 X (HBX.out _ HX.out).stateAt.outs hol).mono ?_
          rintro e W2 ⟨rfl, hb2⟩
          have HB2 := Lib.hid (HX.out.trans (hb2.mono HX.out.size))
          have k0 : W2.cell? ⟨wr.heap.size, 0, none⟩ = some (.int .i64 t.queue) := (hkx.below hb2 hkx.lt).cell 0
          have k1 : W2.cell? ⟨wr.heap.size, 1, none⟩ = some (.int .i64 t.atOnce) := (hkx.below hb2 hkx.lt).cell 1
          clear hb2 hkx
          by_cases hq : t.queue = (k : Int) ∧ (heldS s j : Int) < min t.atOnce least
          · rw [if_pos hq] at HN
            obtain ⟨hq1, hq2⟩ := hq
            generalize heldS s j = n at *
            have g1 : (t.queue == (k : Int)) = true := by simp [hq1]
            have g2 : decide ((n : Int) < min t.atOnce least) = true := decide_eq_true hq2
            clear hq1
            go_wp2_with fail
            exact ⟨⟨j + 1, hjl, by go_num, by rw [HN.out], by rw [HN.out], HB2.out⟩, by simp [intOf]; omega⟩
          · rw [if_neg hq] at HN
            by_cases hq1 : t.queue = (k : Int)
            · have hq2 : ¬ (heldS s j : Int) < min t.atOnce least := fun h => hq ⟨hq1, h⟩
              generalize heldS s j = n at *
              have g1 : (t.queue == (k : Int)) = true := by simp [hq1]
              have g2 : decide ((n : Int) < min t.atOnce least) = false := decide_eq_false hq2
              clear hq1 hq
              go_wp2_with fail
              exact ⟨⟨j + 1, hjl, by go_num, by rw [HN.out], by rw [HN.out], HB2.out⟩, by simp [intOf]; omega⟩
            · have g1 : (t.queue == (k : Int)) = false := by simp [hq1]
              generalize heldS s j = n at *
              clear hq1 hq
              go_wp2_with fail
              exact ⟨⟨j + 1, hjl, by go_num, by rw [HN.out], by rw [HN.out], HB2.out⟩, by simp [intOf]; omega⟩
        · obtain rfl : j = s.takers.length := by omega
          have hbn : (bestAt s (k : Int) s.takers.length).1 = bestN s k := rfl
          rw [hbn] at hbr ⊢
          by_cases hb0 : bestN s (k : Int) < 0
          · have HE := Lib.hid (next_busy HC.out HL.out hb0)
            generalize bestN s (k : Int) = m at *
            go_wp2_with fail
            go_ret2
            exact ⟨by rw [HE.out.1, HE.out.2]; rfl, (HBX.out _ HB.out).below⟩
          · have HE := Lib.hid (next_done HC.out HL.out hb0)
            generalize bestN s (k : Int) = m at *
            go_wp2_with fail
            go_ret2
            exact ⟨by rw [HE.out.1, HE.out.2]; rfl, (HBX.out _ HB.out).below⟩
  · have b1 : (askErr p s q != 0) = true := by simp [hc]
    have HR := Lib.hid (next_ask hc)
    clear hc
    go_wp2_with fail
    go_ret2
    exact ⟨by rw [HR.out.1, HR.out.2]; rfl, (HBX.out _ HB1.out).below⟩

end Go.Proofs.YtfbgmgadpjpdcaaGreatDoor

namespace Go.Proofs.YtfbgmgadpjpdcaaGreatDoor
open Go.RowKit
set_option maxRecDepth 100000

def TkPost (x : StateD) (n err : Int) (w : World) (e : Ending) (w' : World) : Prop :=
  ∃ a1 a2 a3 c1 c2 c3 rows, e = .returned (.tuple #[stateV x a1 a2 a3 c1 c2 c3, .int .i64 n, .int .i64 err]) ∧ StateAt w' w.heap.size w'.heap.size a1 a2 a3 rows x ∧ Below w.heap.size w w'

theorem OwnedAt.takersTo {w w' : World} {lo : Nat} {v1 v2 v3 v3' : Value} {rows : List RowD} {s : StateD} {l : List TakerD} (h : OwnedAt w lo v1 v2 v3 rows s) (hg : w.grownBy w' v3.ownBlock) (ht : w'.ownsRow lo 91 2 v3' l.length (l.flatMap vTaker)) : OwnedAt w' lo v1 v2 v3' rows { s with takers := l } :=
  ⟨h.same, h.ready.kept hg (own_own h.ready h.takers (by decide)), h.rows.kept h.takers (by decide) hg, h.outs.kept hg (own_own h.outs h.takers (by decide)), ht⟩
end Go.Proofs.YtfbgmgadpjpdcaaGreatDoor

namespace Go.Proofs.YtfbgmgadpjpdcaaGreatDoor
open Go.RowKit
set_option maxRecDepth 100000

theorem OwnedAt.drew {w : World} {lo : Nat} {v1 v2 v3 : Value} {rows : List RowD} {s : StateD} (h : OwnedAt w lo v1 v2 v3 rows s) : OwnedAt w.drew lo v1 v2 v3 rows s :=
  ⟨h.same, h.ready.drew, h.rows.drew, h.outs.drew, h.takers.drew⟩
theorem cells8 {w : World} {g : Nat} {t : TypeId} {v0 v1 v2 v3 v4 v5 v6 v7 : Value} (h : Bk w g t #[v0, v1, v2, v3, v4, v5, v6, v7]) :
    w.cell? ⟨g, 0, none⟩ = some v0 ∧ w.cell? ⟨g, 1, none⟩ = some v1 ∧ w.cell? ⟨g, 2, none⟩ = some v2 ∧ w.cell? ⟨g, 3, none⟩ = some v3 ∧ w.cell? ⟨g, 4, none⟩ = some v4 ∧ w.cell? ⟨g, 5, none⟩ = some v5 ∧ w.cell? ⟨g, 6, none⟩ = some v6 ∧ w.cell? ⟨g, 7, none⟩ = some v7 :=
  ⟨h.cell 0, h.cell 1, h.cell 2, h.cell 3, h.cell 4, h.cell 5, h.cell 6, h.cell 7⟩

end Go.Proofs.YtfbgmgadpjpdcaaGreatDoor
