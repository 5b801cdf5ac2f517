/-
  The plain law of takers: who joins, who is next, what is delivered.
  takers.Asked and the reference's QueueError: the error that all share.
  takers.Next and the reference's NextOf, walked.
  takers.Join and the reference's JoinOf, walked.
  The reference's JoinOf, walked.
-/
import Derived.Test.YtaanpcjkflhomaaGreatDoorBunF
import Derived.Test.YtaanpcjkflhomaaGreatDoorStateD
import Derived.Test.YtaanpcjkflhomaaGreatDoorBunG
import Derived.Test.YtaanpcjkflhomaaGreatDoorBunE
import Derived.Test.YtaanpcjkflhomaaGreatDoorBunH
set_option linter.unusedSimpArgs false
set_option linter.unusedVariables false
namespace Go.Proofs.YtaanpcjkflhomaaGreatDoor
def askErr (p : PlanD) (s : StateD) (q : Int) : Int := if stateErr p s ≠ 0 then stateErr p s else if q < 0 ∨ (p.queues.length : Int) ≤ q then 5 else 0
def goneK (l : List TakerD) : Option Nat := l.findIdx? fun t => decide (t.queue < 0)
def joinErr (p : PlanD) (s : StateD) (q m : Int) : Int :=
 if askErr p s q ≠ 0 then askErr p s q else if m < 1 ∨ 4 < m then 3 else if goneK s.takers = none ∧ s.takers.length = 4 then 2 else 0
def joinI (l : List TakerD) : Nat := match goneK l with | some k => k | none => l.length
def joinN (p : PlanD) (s : StateD) (q m : Int) : Nat := if joinErr p s q m = 0 then joinI s.takers else 0
def joinL (l : List TakerD) (t : TakerD) : List TakerD := match goneK l with | some k => l.set k t | none => l ++ [t]
def joinS (p : PlanD) (s : StateD) (q m : Int) : StateD := if joinErr p s q m = 0 then { s with takers := joinL s.takers ⟨q,m⟩ } else zeroS
def bestAt (s : StateD) (q : Int) : Nat → Int × Int
 | 0 => (-1,4)
 | k + 1 => match s.takers[k]? with
  | some t => if t.queue = q ∧ (heldS s k : Int) < min t.atOnce (bestAt s q k).2 then ((k : Int),(heldS s k : Int)) else bestAt s q k
  | none => bestAt s q k
def lineAt (s : StateD) (q : Int) : List ItemD := (s.ready[q.toNat]?).getD []
def bestN (s : StateD) (q : Int) : Int := (bestAt s q s.takers.length).1
def nextErr (p : PlanD) (s : StateD) (q : Int) : Int :=
 if askErr p s q ≠ 0 then askErr p s q else if (lineAt s q).length = 0 then 8 else if bestN s q < 0 then 9 else 0
def nextN (p : PlanD) (s : StateD) (q : Int) : Int := if nextErr p s q = 0 then bestN s q else 0
def headAt (s : StateD) (q : Int) : ItemD := ((lineAt s q)[0]?).getD ⟨0,⟨#[]⟩,⟨#[]⟩,false,0⟩
def deliverErr (p : PlanD) (s : StateD) (q : Int) : Int := if nextErr p s q ≠ 0 then nextErr p s q else if s.nextTag = 1048576 then 2 else 0
def givenS (s : StateD) (q k : Int) : StateD :=
 { s with ready := s.ready.set q.toNat ((lineAt s q).drop 1),outs := s.outs ++ [⟨s.nextTag,k,q,headAt s q⟩],nextTag := s.nextTag + 1 }
def deliverS (p : PlanD) (s : StateD) (q : Int) : StateD := if deliverErr p s q = 0 then givenS s q (bestN s q) else zeroS
def deliverT (p : PlanD) (s : StateD) (q : Int) : Int := if deliverErr p s q = 0 then s.nextTag else 0
def Elig (s : StateD) (q : Int) (i : Nat) : Prop := ∃ t,s.takers[i]? = some t ∧ t.queue = q ∧ (heldS s i : Int) < t.atOnce
def Best (s : StateD) (q : Int) (k : Nat) (r : Int × Int) : Prop :=
 (r = (-1,4) ∧ ∀ i : Nat,i < k → ¬ Elig s q i) ∨
  ∃ i : Nat,i < k ∧ r = ((i : Int),(heldS s i : Int)) ∧ Elig s q i ∧ (∀ j : Nat,j < k → Elig s q j → heldS s i ≤ heldS s j) ∧ (∀ j : Nat,j < i → Elig s q j → heldS s i < heldS s j)
theorem taker_four {p : PlanD} {s : StateD} (h : Right p s) {i : Nat} {t : TakerD} (ht : s.takers[i]? = some t) : -1 ≤ t.queue ∧ t.queue < (p.queues.length : Int) ∧ 1 ≤ t.atOnce ∧ t.atOnce ≤ 4 := by
 have := h.taker t (List.mem_of_getElem? ht)
 unfold takerB at this
 simp only [Bool.and_eq_true,decide_eq_true_eq] at this
 exact ⟨this.1.1.1,this.1.1.2,this.1.2,this.2⟩
theorem bestAt_spec {p : PlanD} {s : StateD} (h : Right p s) (q : Int) : ∀ k : Nat,Best s q k (bestAt s q k)
 | 0 => .inl ⟨rfl,fun i hi => absurd hi (Nat.not_lt_zero i)⟩
 | k + 1 => by
  have ih := bestAt_spec h q k
  unfold bestAt
  cases ht : s.takers[k]? with
  | none =>
   simp only
   have hn : ¬ Elig s q k := fun ⟨t,h1,_⟩ => by rw [ht] at h1; cases h1
   rcases ih with ⟨e,hno⟩ | ⟨i,hi,e,he,h1,h2⟩
   ·exact .inl ⟨e,fun j hj hj2 => by
     rcases Nat.lt_or_ge j k with h3 | h3
     ·exact hno j h3 hj2
     ·exact hn (by rwa [show j = k by omega] at hj2)⟩
   ·exact .inr ⟨i,by omega,e,he,fun j hj hj2 => by
     rcases Nat.lt_or_ge j k with h3 | h3
     ·exact h1 j h3 hj2
     ·exact absurd (by rwa [show j = k by omega] at hj2) hn,h2⟩
  | some t =>
   simp only
   have h4 := taker_four h ht
   by_cases hc : t.queue = q ∧ (heldS s k : Int) < min t.atOnce (bestAt s q k).2
   ·rw [if_pos hc]
    have hE : Elig s q k := ⟨t,ht,hc.1,by have := hc.2; omega⟩
    have hlt : (heldS s k : Int) < (bestAt s q k).2 := by have := hc.2; omega
    refine .inr ⟨k,by omega,rfl,hE,?_,?_⟩
    ·intro j hj hj2
     rcases Nat.lt_or_ge j k with h3 | h3
     ·rcases ih with ⟨e,hno⟩ | ⟨i,hi,e,he,h1,h2⟩
      ·exact absurd hj2 (hno j h3)
      ·have := h1 j h3 hj2
       rw [e] at hlt
       simp only at hlt
       omega
     ·rw [show j = k by omega]; exact Nat.le_refl _
    ·intro j hj hj2
     rcases ih with ⟨e,hno⟩ | ⟨i,hi,e,he,h1,h2⟩
     ·exact absurd hj2 (hno j hj)
     ·have := h1 j hj hj2
      rw [e] at hlt
      simp only at hlt
      omega
   ·rw [if_neg hc]
    rcases ih with ⟨e,hno⟩ | ⟨i,hi,e,he,h1,h2⟩
    ·refine .inl ⟨e,fun j hj hj2 => ?_⟩
     rcases Nat.lt_or_ge j k with h3 | h3
     ·exact hno j h3 hj2
     ·rw [show j = k by omega] at hj2
      obtain ⟨t',h5,h6,h7⟩ := hj2
      rw [ht] at h5
      cases h5
      exact hc ⟨h6,by rw [e]; simp only; omega⟩
    ·refine .inr ⟨i,by omega,e,he,fun j hj hj2 => ?_,h2⟩
     rcases Nat.lt_or_ge j k with h3 | h3
     ·exact h1 j h3 hj2
     ·rw [show j = k by omega] at hj2 ⊢
      obtain ⟨t',h5,h6,h7⟩ := hj2
      rw [ht] at h5
      cases h5
      rcases Nat.lt_or_ge (heldS s k) (heldS s i) with h8 | h8
      ·exact absurd ⟨h6,by rw [e]; simp only; omega⟩ hc
      ·exact h8
theorem Best.none {s : StateD} {q : Int} {n : Nat} {r : Int × Int} (h : Best s q n r) (hno : ∀ i : Nat,i < n → ¬ Elig s q i) : r = (-1,4) := by
 rcases h with ⟨e,_⟩ | ⟨k,hk,e,hek,_⟩
 ·exact e
 ·exact absurd hek (hno k hk)
theorem Elig.lt {s : StateD} {q : Int} {i : Nat} (h : Elig s q i) : i < s.takers.length := by
 obtain ⟨t,ht,_⟩ := h
 exact (List.getElem?_eq_some_iff.1 ht).1
theorem Elig.held {p : PlanD} {s : StateD} (hr : Right p s) {q : Int} {i : Nat} (h : Elig s q i) : heldS s i < 4 := by
 obtain ⟨t,ht,_,h2⟩ := h
 have := taker_four hr ht
 omega
theorem best_elig {p : PlanD} {s : StateD} (h : Right p s) {q : Int} (hb : ¬ bestN s q < 0) : ∃ i : Nat,bestN s q = (i : Int) ∧ Elig s q i ∧ ∀ j : Nat,Elig s q j → heldS s i ≤ heldS s j := by
 unfold bestN at hb ⊢
 rcases bestAt_spec h q s.takers.length with ⟨e,_⟩ | ⟨i,hi,e,he,h1,_⟩
 ·rw [e] at hb; exact absurd (by decide) hb
 ·exact ⟨i,by rw [e],he,fun j hj => h1 j hj.lt hj⟩
theorem ask_ok {p : PlanD} {s : StateD} {q : Int} : askErr p s q = 0 ↔ Right p s ∧ 0 ≤ q ∧ q < (p.queues.length : Int) := by
 unfold askErr
 rw [← right_iff]
 split
 ·rename_i h
  exact ⟨fun e => absurd e h,fun e => absurd e.1 h⟩
 ·rename_i h
  split
  ·exact ⟨fun e => (by cases e),fun e => (by omega)⟩
  ·exact ⟨fun _ => ⟨by omega,by omega,by omega⟩,fun _ => rfl⟩
theorem next_ok {p : PlanD} {s : StateD} {q : Int} : nextErr p s q = 0 ↔ askErr p s q = 0 ∧ (lineAt s q).length ≠ 0 ∧ ¬ bestN s q < 0 := by
 unfold nextErr
 split
 ·rename_i h
  exact ⟨fun e => absurd e h,fun e => absurd e.1 h⟩
 ·rename_i h
  split
  ·rename_i h1
   exact ⟨fun e => (by cases e),fun e => absurd h1 e.2.1⟩
  ·rename_i h1
   split
   ·rename_i h2
    exact ⟨fun e => (by cases e),fun e => absurd h2 e.2.2⟩
   ·rename_i h2
    exact ⟨fun _ => ⟨by omega,h1,h2⟩,fun _ => rfl⟩
theorem deliver_ok {p : PlanD} {s : StateD} {q : Int} : deliverErr p s q = 0 ↔ nextErr p s q = 0 ∧ s.nextTag ≠ 1048576 := by
 unfold deliverErr
 split
 ·rename_i h
  exact ⟨fun e => absurd e h,fun e => absurd e.1 h⟩
 ·rename_i h
  split
  ·rename_i h1
   exact ⟨fun e => (by cases e),fun e => absurd h1 e.2⟩
  ·rename_i h1
   exact ⟨fun _ => ⟨by omega,h1⟩,fun _ => rfl⟩
theorem join_ok {p : PlanD} {s : StateD} {q m : Int} : joinErr p s q m = 0 ↔ askErr p s q = 0 ∧ (1 ≤ m ∧ m ≤ 4) ∧ ¬ (goneK s.takers = none ∧ s.takers.length = 4) := by
 unfold joinErr
 split
 ·rename_i h
  exact ⟨fun e => absurd e h,fun e => absurd e.1 h⟩
 ·rename_i h
  split
  ·exact ⟨fun e => (by cases e),fun e => by omega⟩
  ·rename_i h1
   split
   ·rename_i h2
    exact ⟨fun e => (by cases e),fun e => absurd h2 e.2.2⟩
   ·rename_i h2
    exact ⟨fun _ => ⟨by omega,by omega,h2⟩,fun _ => rfl⟩
theorem tk_out {p : PlanD} {s : StateD} (h : Formed p s) {x : OutD} (hx : x ∈ s.outs) : ∃ t,s.takers[x.taker.toNat]? = some t ∧ 0 ≤ t.queue ∧ t.queue = x.queue ∧ 0 ≤ x.tag ∧ x.tag < s.nextTag ∧ 0 ≤ x.taker ∧ x.taker < (s.takers.length : Int) ∧ itemFine x.item = true := by
 have := h.out x hx
 unfold outB at this
 simp only [Bool.and_eq_true,decide_eq_true_eq] at this
 obtain ⟨⟨⟨⟨⟨h1,h2⟩,h3⟩,h4⟩,h5⟩,h6⟩ := this
 cases ht : s.takers[x.taker.toNat]? with
 | none => rw [ht] at h5; cases h5
 | some t =>
  rw [ht] at h5
  simp only [Bool.and_eq_true,decide_eq_true_eq] at h5
  exact ⟨t,rfl,h5.1,h5.2,h1,h2,h3,h4,h6⟩
theorem tk_mk {s : StateD} {x : OutD} {t : TakerD} (ht : s.takers[x.taker.toNat]? = some t) (h0 : 0 ≤ t.queue) (hq : t.queue = x.queue) (h1 : 0 ≤ x.tag) (h2 : x.tag < s.nextTag) (h3 : 0 ≤ x.taker) (h6 : itemFine x.item = true) : outB s x = true := by
 have h4 := (List.getElem?_eq_some_iff.1 ht).1
 unfold outB
 rw [ht]
 simp only [Bool.and_eq_true,decide_eq_true_eq]
 exact ⟨⟨⟨⟨⟨h1,h2⟩,h3⟩,by omega⟩,h0,hq⟩,h6⟩
theorem held_gone {p : PlanD} {s : StateD} (h : Formed p s) {k : Nat} (hk : ∀ t,s.takers[k]? = some t → t.queue < 0) : heldS s k = 0 := by
 unfold heldS
 rw [List.countP_eq_zero]
 intro x hx
 simp only [decide_eq_true_eq]
 intro e
 obtain ⟨t,ht,h0,_⟩ := tk_out h hx
 rw [e] at ht
 have := hk t (by simpa using ht)
 omega
theorem goneK_some {l : List TakerD} {k : Nat} (h : goneK l = some k) : ∃ hk : k < l.length,l[k].queue < 0 ∧ ∀ j (hj : j < k),¬ l[j].queue < 0 := by
 unfold goneK at h
 rw [List.findIdx?_eq_some_iff_getElem] at h
 obtain ⟨h1,h2,h3⟩ := h
 exact ⟨h1,by simpa using h2,fun j hj => by simpa using h3 j hj⟩
theorem goneK_none {l : List TakerD} (h : goneK l = none) : ∀ t ∈ l,¬ t.queue < 0 := by
 unfold goneK at h
 rw [List.findIdx?_eq_none_iff] at h
 intro t ht
 simpa using h t ht
theorem joinL_at {l : List TakerD} (t : TakerD) (k : Nat) : (joinL l t)[k]? = if k = joinI l then some t else l[k]? := by
 unfold joinL joinI
 cases hg : goneK l with
 | none =>
  simp only
  rw [List.getElem?_append]
  split
  ·rw [if_neg (by omega)]
  ·split
   ·rename_i h1 h2; rw [h2]; simp
   ·rename_i h1 h2
    rw [List.getElem?_eq_none (by simp; omega),List.getElem?_eq_none (by omega)]
 | some i =>
  simp only
  obtain ⟨hi,_⟩ := goneK_some hg
  rw [List.getElem?_set]
  split
  ·rename_i h1; subst h1; rw [if_pos rfl]
  ·rename_i h1; rw [if_neg (fun e => h1 e.symm)]
theorem joinI_gone {l : List TakerD} {t : TakerD} (h : l[joinI l]? = some t) : t.queue < 0 := by
 unfold joinI at h
 cases hg : goneK l with
 | none => rw [hg] at h; simp only at h; rw [List.getElem?_eq_none (Nat.le_refl _)] at h; cases h
 | some i =>
  rw [hg] at h
  simp only at h
  obtain ⟨hi,h1,_⟩ := goneK_some hg
  rw [List.getElem?_eq_getElem hi] at h
  cases h
  exact h1
theorem joinL_len {l : List TakerD} (t : TakerD) : (joinL l t).length = if goneK l = none then l.length + 1 else l.length := by
 unfold joinL
 cases hg : goneK l with
 | none => simp
 | some i => simp
theorem mem_joinL {l : List TakerD} {t x : TakerD} (h : x ∈ joinL l t) : x = t ∨ x ∈ l := by
 obtain ⟨k,hk⟩ := List.getElem?_of_mem h
 rw [joinL_at] at hk
 split at hk
 ·exact .inl (by simpa using hk.symm)
 ·exact .inr (List.mem_of_getElem? hk)
theorem join_right {p : PlanD} {s : StateD} {q m : Int} (h : joinErr p s q m = 0) : Right p (joinS p s q m) := by
 have hS : joinS p s q m = { s with takers := joinL s.takers ⟨q,m⟩ } := by unfold joinS; rw [if_pos h]
 obtain ⟨h0,hm,hf⟩ := join_ok.1 h
 obtain ⟨hR,hq0,hq1⟩ := ask_ok.1 h0
 rw [hS]
 have hlen := joinL_len (l := s.takers) ⟨q,m⟩
 have hmany := hR.many
 exact {
  plan := hR.plan
  many := by
   show (joinL s.takers ⟨q,m⟩).length ≤ 4
   rw [hlen]
   split
   ·rename_i hg
    have : s.takers.length ≠ 4 := fun e => hf ⟨hg,e⟩
    omega
   ·omega
  sum := hR.sum
  same := hR.same
  limit := hR.limit
  held := fun k t ht => by
   have ht' : (joinL s.takers ⟨q,m⟩)[k]? = some t := ht
   show (heldS s k : Int) ≤ t.atOnce
   rw [joinL_at] at ht'
   split at ht'
   ·rename_i hk
    have e : (⟨q,m⟩ : TakerD) = t := by simpa using ht'
    have : heldS s k = 0 := held_gone hR.toFormed fun x hx => joinI_gone (hk ▸ hx)
    rw [this,← e]
    show ((0 : Nat) : Int) ≤ m
    omega
   ·exact hR.held k t ht'
  len := hR.len
  nextSeq := hR.nextSeq
  nextTag := hR.nextTag
  came := hR.came
  acked := hR.acked
  dropped := hR.dropped
  line := hR.line
  taker := fun t ht => by
   rcases mem_joinL ht with rfl | h1
   ·unfold takerB
    simp only [Bool.and_eq_true,decide_eq_true_eq]
    exact ⟨⟨⟨by omega,hq1⟩,hm.1⟩,hm.2⟩
   ·exact hR.taker t h1
  out := fun x hx => by
   obtain ⟨t,ht,h1,h2,h3,h4,h5,h6,h7⟩ := tk_out hR.toFormed hx
   refine tk_mk (t := t) ?_ h1 h2 h3 h4 h5 h7
   show (joinL s.takers ⟨q,m⟩)[x.taker.toNat]? = some t
   rw [joinL_at,if_neg]
   ·exact ht
   ·intro e
    rw [e] at ht
    have := joinI_gone ht
    omega
  order := hR.order
  nodup := hR.nodup
  below := hR.below }
theorem seqs_set {l : List (List ItemD)} {n : Nat} {x : ItemD} {r : List ItemD} (h : l[n]? = some (x :: r)) : List.Perm (seqsR l) (x.seq :: seqsR (l.set n r)) := by
 induction l generalizing n with
 | nil => cases h
 | cons a l ih =>
  cases n with
  | zero =>
   simp only [List.getElem?_cons_zero,Option.some.injEq] at h
   subst h
   simp [seqsR]
  | succ n =>
   simp only [List.getElem?_cons_succ] at h
   have := ih h
   simp only [zC,seqsR,List.flatMap_cons] at this ⊢
   exact (List.Perm.append_left _ this).trans List.perm_middle
theorem lying_set {l : List (List ItemD)} {n : Nat} {x : ItemD} {r : List ItemD} (h : l[n]? = some (x :: r)) : (l.map List.length).sum = ((l.set n r).map List.length).sum + 1 := by
 induction l generalizing n with
 | nil => cases h
 | cons a l ih =>
  cases n with
  | zero =>
   simp only [List.getElem?_cons_zero,Option.some.injEq] at h
   subst h
   simp only [zB,List.map_cons,List.sum_cons,List.length_cons]
   omega
  | succ n =>
   simp only [List.getElem?_cons_succ] at h
   have := ih h
   simp only [zC,List.map_cons,List.sum_cons]
   omega
theorem held_given (s : StateD) (q : Int) (i k : Nat) : heldS (givenS s q i) k = heldS s k + if k = i then 1 else 0 := by
 unfold heldS givenS
 simp only [List.countP_append,List.countP_cons,List.countP_nil]
 by_cases h : k = i
 ·subst h; simp
 ·have h' : ¬ (i : Int) = (k : Int) := by omega
  simp [h,h']
theorem line_head {p : PlanD} {s : StateD} {q : Int} (h : nextErr p s q = 0) : ∃ r,lineAt s q = headAt s q :: r ∧ s.ready[q.toNat]? = some (headAt s q :: r) := by
 obtain ⟨h0,h1,_⟩ := next_ok.1 h
 obtain ⟨hR,hq0,hq1⟩ := ask_ok.1 h0
 have hl : q.toNat < s.ready.length := by rw [hR.len]; omega
 have e : s.ready[q.toNat]? = some (lineAt s q) := by
  unfold lineAt
  rw [List.getElem?_eq_getElem hl]; rfl
 cases hc : lineAt s q with
 | nil => rw [hc] at h1; exact absurd rfl h1
 | cons x r =>
  have eh : headAt s q = x := by unfold headAt; rw [hc]; rfl
  rw [eh]
  exact ⟨r,rfl,by rw [e,hc]⟩
theorem given_right {p : PlanD} {s : StateD} {q : Int} (h : nextErr p s q = 0) (ht : s.nextTag ≠ 1048576) {i : Nat} (hi : Elig s q i) : Right p (givenS s q i) := by
 obtain ⟨h0,h1,hb⟩ := next_ok.1 h
 obtain ⟨hR,hq0,hq1⟩ := ask_ok.1 h0
 obtain ⟨r,hl,hr⟩ := line_head h
 have hd : (lineAt s q).drop 1 = r := by rw [hl]; rfl
 have hline := hR.line _ (List.mem_of_getElem? hr)
 rw [lineFine_iff] at hline
 have hnt := hR.nextTag
 unfold countB at hnt
 simp only [Bool.and_eq_true,decide_eq_true_eq] at hnt
 have hperm : List.Perm (seqsS s) (seqsS (givenS s q i)) := by
  unfold seqsS givenS
  simp only [hd]
  rw [show seqsO (s.outs ++ [(⟨s.nextTag,(i : Int),q,headAt s q⟩ : OutD)]) = seqsO s.outs ++ [(headAt s q).seq] by simp [seqsO]]
  refine (List.Perm.append_right _ (seqs_set hr)).trans ?_
  rw [List.cons_append,← List.append_assoc]
  exact (List.perm_append_comm (l₁ := [(headAt s q).seq]))
 have hset : ∀ l,l ∈ (givenS s q i).ready → l ∈ s.ready ∨ l = r := fun l hl' => by
  unfold givenS at hl'
  simp only [hd] at hl'
  rcases List.mem_or_eq_of_mem_set hl' with h1 | h1
  ·exact .inl h1
  ·exact .inr h1
 obtain ⟨t,hti,htq,hth⟩ := hi
 exact {
  plan := hR.plan
  many := hR.many
  sum := by
   have hs := hR.sum
   have hy : lyingS s = lyingS (givenS s q i) + 1 := by
    unfold lyingS givenS
    simp only [hd]
    exact lying_set hr
   show s.came = ((lyingS (givenS s q i) : Nat) : Int) + (((s.outs ++ [(⟨s.nextTag,(i : Int),q,headAt s q⟩ : OutD)]).length : Nat) : Int) + s.acked + s.dropped
   rw [List.length_append]
   simp only [List.length_cons,List.length_nil]
   omega
  same := hR.same
  limit := fun k l qu hl' hqu => by
   have hl'' : (s.ready.set q.toNat r)[k]? = some l := by
    have := hl'
    unfold givenS at this
    simp only [hd] at this
    exact this
   rw [List.getElem?_set] at hl''
   split at hl''
   ·rename_i e
    subst e
    split at hl''
    ·simp only [Option.some.injEq] at hl''
     subst hl''
     have := hR.limit _ _ _ hr hqu
     rw [List.length_cons] at this
     omega
    ·cases hl''
   ·exact hR.limit k l qu hl'' hqu
  held := fun k t' ht' => by
   have ht'' : s.takers[k]? = some t' := ht'
   rw [held_given]
   split
   ·rename_i e
    subst e
    rw [hti] at ht''
    cases ht''
    omega
   ·have := hR.held k t' ht''
    omega
  len := by
   show (s.ready.set q.toNat ((lineAt s q).drop 1)).length = p.queues.length
   rw [List.length_set]
   exact hR.len
  nextSeq := hR.nextSeq
  nextTag := by
   show countB (s.nextTag + 1) = true
   unfold countB
   simp only [Bool.and_eq_true,decide_eq_true_eq]
   omega
  came := hR.came
  acked := hR.acked
  dropped := hR.dropped
  line := fun l hl' => by
   rcases hset l hl' with h2 | rfl
   ·exact hR.line l h2
   ·rw [lineFine_iff]
    exact ⟨fun x hx => hline.1 x (List.mem_cons_of_mem _ hx),(List.pairwise_cons.1 hline.2).2⟩
  taker := hR.taker
  out := fun x hx => by
   have hx' : x ∈ s.outs ++ [(⟨s.nextTag,(i : Int),q,headAt s q⟩ : OutD)] := hx
   rcases List.mem_append.1 hx' with h2 | h2
   ·obtain ⟨t',k1,k2,k3,k4,k5,k6,k7,k8⟩ := tk_out hR.toFormed h2
    exact tk_mk (s := givenS s q i) (t := t') k1 k2 k3 k4 (by show x.tag < s.nextTag + 1; omega) k6 k8
   ·obtain rfl := List.mem_singleton.1 h2
    exact tk_mk (s := givenS s q i) (t := t) (by show s.takers[((i : Int)).toNat]? = some t; simpa using hti) (by show 0 ≤ t.queue; omega) htq hnt.1 (by show s.nextTag < s.nextTag + 1; omega) (by show (0 : Int) ≤ (i : Int); omega) (hline.1 _ List.mem_cons_self)
  order := by
   show (s.outs ++ [(⟨s.nextTag,(i : Int),q,headAt s q⟩ : OutD)]).Pairwise fun x y => x.tag < y.tag
   rw [List.pairwise_append]
   refine ⟨hR.order,List.pairwise_singleton _ _,fun x hx y hy => ?_⟩
   obtain rfl := List.mem_singleton.1 hy
   obtain ⟨t',k1,k2,k3,k4,k5,_⟩ := tk_out hR.toFormed hx
   exact k5
  nodup := hperm.nodup_iff.1 hR.nodup
  below := fun n hn => hR.below n (hperm.mem_iff.2 hn) }
theorem deliver_right {p : PlanD} {s : StateD} {q : Int} (h : deliverErr p s q = 0) : ∃ i : Nat,bestN s q = (i : Int) ∧ Elig s q i ∧ (∀ j : Nat,Elig s q j → heldS s i ≤ heldS s j) ∧ deliverS p s q = givenS s q i ∧ Right p (givenS s q i) := by
 obtain ⟨h0,ht⟩ := deliver_ok.1 h
 obtain ⟨h1,_,hb⟩ := next_ok.1 h0
 obtain ⟨hR,_⟩ := ask_ok.1 h1
 obtain ⟨i,e,he,hm⟩ := best_elig hR hb
 exact ⟨i,e,he,hm,by unfold deliverS; rw [if_pos h,e],given_right h0 ht he⟩
open Go.RowKit
set_option maxRecDepth 100000
set_option maxHeartbeats 1000000 in
theorem Asked_any (p : PlanD) (s : StateD) (q : Int) (p1 p2 p3 a1 a2 a3 : Option Addr) (q1 q2 q3 c1 c2 c3 : Nat) (rows : List RowD) (w : World) (hE : Env w) (hp : PlanAt w 0 w.heap.size p1 p2 p3 p) (hps : PlanSmall p) (hs : StateAt w 0 w.heap.size a1 a2 a3 rows s) (hss : StateSmall s) (hsi : StateInts s) :
  Calls Tryz.prog 62 #[planV p p1 p2 p3 q1 q2 q3,stateV s a1 a2 a3 c1 c2 c3,.int .i64 q] w fun e w' => e = .returned (.int .i64 (askErr p s q)) ∧ Below w.heap.size w w' := by
 have hbx := two_boxes q1 q2 q3 c1 c2 c3 hE hp hs 26 31
 unfold vState at hbx
 unfold stateV planV vState
 have hql := hps.queues
 have HBX := Lib.hid hbx
 have HPS := Lib.hid hps
 have HSS := Lib.hid hss
 have HSI := Lib.hid hsi
 clear hbx hE hp hs hps hss hsi
 go_enter Tryz.func62,Tryz.ntmps62
 obtain ⟨⟨m0,m1,m2⟩,⟨n0,n1,n2,n3,n4,n5,n6,n7⟩,_,_,_,_⟩ := HBX.out _ (Below.refl _ _)
 go_wp2_with fail
 clear m0 m1 m2 n0 n1 n2 n3 n4 n5 n6 n7
 generalize ((w.alloc (.cells #[.slice p1 p.posts.length q1,.slice p2 p.queues.length q2,.slice p3 p.binds.length q3] 26)).alloc (.cells #[Value.slice a1 s.ready.length c1,Value.slice a2 s.outs.length c2,Value.slice a3 s.takers.length c3,Value.int IntKind.i64 s.nextSeq,Value.int IntKind.i64 s.nextTag,Value.int IntKind.i64 s.came,Value.int IntKind.i64 s.acked,Value.int IntKind.i64 s.dropped] 31)) = W0 at *
 refine (SCheck_any p s p1 p2 p3 a1 a2 a3 q1 q2 q3 c1 c2 c3 rows W0 (HBX.out _ (Below.refl _ _)).env (HBX.out _ (Below.refl _ _)).planAt HPS.out (HBX.out _ (Below.refl _ _)).stateAt HSS.out HSI.out).mono ?_
 rintro e W1 ⟨rfl,hb1⟩
 have HB1 := Lib.hid hb1
 obtain ⟨⟨m0,m1,m2⟩,_,_,_,_,_⟩ := HBX.out _ hb1
 clear hb1
 by_cases hc : stateErr p s = 0
 ·have b1 : (stateErr p s != 0) = false := by simp [hc]
  by_cases hn0 : q < 0
  ·have HR : Hid (askErr p s q = 5) := by refine (?_ : askErr p s q = 5); unfold askErr; rw [if_neg (by simp [hc]),if_pos (.inl hn0)]
   clear hc
   go_wp2_with fail
   go_ret
   exact ⟨by rw [HR.out]; rfl,(HBX.out _ HB1.out).below⟩
  ·by_cases hn1 : (p.queues.length : Int) ≤ q
   ·have HR : Hid (askErr p s q = 5) := by refine (?_ : askErr p s q = 5); unfold askErr; rw [if_neg (by simp [hc]),if_pos (.inr hn1)]
    clear hc
    go_wp2_with fail
    go_ret
    exact ⟨by rw [HR.out]; rfl,(HBX.out _ HB1.out).below⟩
   ·have HR : Hid (askErr p s q = 0) := by refine (?_ : askErr p s q = 0); unfold askErr; rw [if_neg (by simp [hc]),if_neg (by omega)]
    clear hc
    go_wp2_with fail
    go_ret
    exact ⟨by rw [HR.out]; rfl,(HBX.out _ HB1.out).below⟩
 ·have b1 : (stateErr p s != 0) = true := by simp [hc]
  have HR : Hid (askErr p s q = stateErr p s) := by refine (?_ : askErr p s q = stateErr p s); unfold askErr; rw [if_pos hc]
  clear hc
  go_wp2_with fail
  go_ret
  exact ⟨by rw [HR.out]; rfl,(HBX.out _ HB1.out).below⟩
open Go.RowKit
set_option maxRecDepth 100000
theorem next_ask {p : PlanD} {s : StateD} {q : Int} (h : askErr p s q ≠ 0) : nextErr p s q = askErr p s q ∧ nextN p s q = 0 := by
 have e : nextErr p s q = askErr p s q := by unfold nextErr; rw [if_pos h]
 refine ⟨e,?_⟩
 unfold nextN
 rw [e,if_neg h]
theorem next_none {p : PlanD} {s : StateD} {q : Int} (h : askErr p s q = 0) (h1 : (lineAt s q).length = 0) : nextErr p s q = 8 ∧ nextN p s q = 0 := by
 have e : nextErr p s q = 8 := by unfold nextErr; rw [if_neg (by simp [h]),if_pos h1]
 refine ⟨e,?_⟩
 unfold nextN
 rw [e]; rfl
theorem next_busy {p : PlanD} {s : StateD} {q : Int} (h : askErr p s q = 0) (h1 : (lineAt s q).length ≠ 0) (hb : bestN s q < 0) : nextErr p s q = 9 ∧ nextN p s q = 0 := by
 have e : nextErr p s q = 9 := by unfold nextErr; rw [if_neg (by simp [h]),if_neg h1,if_pos hb]
 refine ⟨e,?_⟩
 unfold nextN
 rw [e]; rfl
theorem next_done {p : PlanD} {s : StateD} {q : Int} (h : askErr p s q = 0) (h1 : (lineAt s q).length ≠ 0) (hb : ¬ bestN s q < 0) : nextErr p s q = 0 ∧ nextN p s q = bestN s q := by
 have e : nextErr p s q = 0 := by unfold nextErr; rw [if_neg (by simp [h]),if_neg h1,if_neg hb]
 refine ⟨e,?_⟩
 unfold nextN
 rw [if_pos e]
theorem best_next {s : StateD} {q : Int} {j : Nat} (h : j < s.takers.length) : bestAt s q (j + 1) = if s.takers[j].queue = q ∧ (heldS s j : Int) < min s.takers[j].atOnce (bestAt s q j).2 then ((j : Int),(heldS s j : Int)) else bestAt s q j := by
 rw [bestAt,List.getElem?_eq_getElem h]
theorem best_range (s : StateD) (q : Int) (j : Nat) (hl : j ≤ 1048576) : -1 ≤ (bestAt s q j).1 ∧ (bestAt s q j).1 ≤ 1048576 := by
 induction j with
 | zero => exact ⟨by show (-1 : Int) ≤ -1; omega,by show (-1 : Int) ≤ 1048576; omega⟩
 | succ j ih =>
  have := ih (by omega)
  unfold bestAt
  split
  ·split
   ·exact ⟨by show -1 ≤ (j : Int); omega,by show (j : Int) ≤ 1048576; omega⟩
   ·exact this
  ·exact this
theorem line_at {s : StateD} {k : Nat} (h : k < s.ready.length) : lineAt s (k : Int) = s.ready[k] := by
 unfold lineAt
 rw [Int.toNat_natCast,List.getElem?_eq_getElem h]; rfl
def NxRel (s : StateD) (q : Int) (W0 : World) (b l i : Value) (wr : World) : Prop :=
 ∃ j : Nat,j ≤ s.takers.length ∧ i = .int .i64 j ∧ b = .int .i64 (bestAt s q j).1 ∧ l = .int .i64 (bestAt s q j).2 ∧ Below W0.heap.size W0 wr
set_option maxHeartbeats 4000000 in
theorem Next_any (p : PlanD) (s : StateD) (q : Int) (p1 p2 p3 a1 a2 a3 : Option Addr) (q1 q2 q3 c1 c2 c3 : Nat) (rows : List RowD) (w : World) (hE : Env w) (hp : PlanAt w 0 w.heap.size p1 p2 p3 p) (hps : PlanSmall p) (hs : StateAt w 0 w.heap.size a1 a2 a3 rows s) (hss : StateSmall s) (hsi : StateInts s) :
  Calls Tryz.prog 103 #[planV p p1 p2 p3 q1 q2 q3,stateV s a1 a2 a3 c1 c2 c3,.int .i64 q] w fun e w' => e = .returned (.tuple #[.int .i64 (nextN p s q),.int .i64 (nextErr p s q)]) ∧ Below w.heap.size w w' := by
 have hbx := two_boxes q1 q2 q3 c1 c2 c3 hE hp hs 26 31
 unfold vState at hbx
 unfold stateV planV vState
 have hql := hps.queues
 have hrl := hss.ready
 have hol := hss.outs
 have htl := hss.takers
 have HBX := Lib.hid hbx
 have HPS := Lib.hid hps
 have HSS := Lib.hid hss
 have HSI := Lib.hid hsi
 clear hbx hE hp hs hps hss hsi
 go_enter Tryz.func103,Tryz.ntmps103
 obtain ⟨⟨m0,m1,m2⟩,⟨n0,n1,n2,n3,n4,n5,n6,n7⟩,_,_,_,_⟩ := HBX.out _ (Below.refl _ _)
 go_wp2_with fail
 clear m0 m1 m2 n0 n1 n2 n3 n4 n5 n6 n7
 generalize ((w.alloc (.cells #[.slice p1 p.posts.length q1,.slice p2 p.queues.length q2,.slice p3 p.binds.length q3] 26)).alloc (.cells #[Value.slice a1 s.ready.length c1,Value.slice a2 s.outs.length c2,Value.slice a3 s.takers.length c3,Value.int IntKind.i64 s.nextSeq,Value.int IntKind.i64 s.nextTag,Value.int IntKind.i64 s.came,Value.int IntKind.i64 s.acked,Value.int IntKind.i64 s.dropped] 31)) = W0 at *
 refine (Asked_any p s q p1 p2 p3 a1 a2 a3 q1 q2 q3 c1 c2 c3 rows W0 (HBX.out _ (Below.refl _ _)).env (HBX.out _ (Below.refl _ _)).planAt HPS.out (HBX.out _ (Below.refl _ _)).stateAt HSS.out HSI.out).mono ?_
 rintro e W1 ⟨rfl,hb1⟩
 have HB1 := Lib.hid hb1
 clear hb1
 by_cases hc : askErr p s q = 0
 ·have b1 : (askErr p s q != 0) = false := by simp [hc]
  obtain ⟨hR,hq0,hq1⟩ := ask_ok.1 hc
  obtain ⟨k,rfl⟩ : ∃ k : Nat,q = (k : Int) := ⟨q.toNat,by omega⟩
  have hkr : k < s.ready.length := by rw [hR.len]; omega
  have hsat := (HBX.out _ HB1.out).stateAt
  have hrr : rows.length = s.ready.length := by rw [← hsat.same,List.length_map]
  obtain ⟨b,o,ha,_,hbb,hcl⟩ := sl_elem vRow_len (by decide) hsat.ready (show k < rows.length by omega)
  have hit : (rows[k]'(by omega)).items = lineAt s (k : Int) := by rw [line_at hkr]; simp [← hsat.same]
  have e0 : W1.cell? ⟨b,o + k,none⟩ = some (.slice (rows[k]'(by omega)).at_ (lineAt s (k : Int)).length (rows[k]'(by omega)).cap) := by have := hcl 0 _ rfl; rw [← hit]; simpa using this
  obtain ⟨_,⟨n0,n1,n2,n3,n4,n5,n6,n7⟩,_,_,_,_⟩ := HBX.out _ HB1.out
  have HC := Lib.hid hc
  have HR := Lib.hid hR
  clear hc hR hcl hsat hit
  subst ha
  by_cases hl : (lineAt s (k : Int)).length = 0
  ·have HE := Lib.hid (next_none HC.out hl)
   rw [hl] at e0
   clear hl
   go_wp2_with fail
   go_ret2
   exact ⟨by rw [HE.out.1,HE.out.2]; rfl,(HBX.out _ HB1.out).below⟩
  ·have hlb : (((lineAt s (k : Int)).length : Int) == 0) = false := beq_eq_false_iff_ne.2 (by omega)
   have HL := Lib.hid hl
   clear hl
   go_wp2_with fail
   clear n0 n1 n2 n3 n4 n5 n6 n7 e0
   go_loopw [9,10,31] (fun b l i wr => NxRel s k W0 b l i wr) (fun _ _ i _ => s.takers.length - (intOf i).toNat)
   case atStart => exact ⟨0,by omega,rfl,rfl,rfl,HB1.out⟩
   case round =>
    clear HB1
    obtain ⟨j,hj,rfl,rfl,rfl,hB⟩ := hrel
    have HB := Lib.hid hB
    clear hB
    have hbr := best_range s k j (by omega)
    by_cases hjl : j < s.takers.length
    ·have hsat := (HBX.out _ HB.out).stateAt
     obtain ⟨tb,tt,hta,_,htb,htc⟩ := sl_elem vTaker_len (by decide) hsat.takers hjl
     obtain ⟨e0,e1⟩ := taker_cells (wr := wr) (b := tb) (o := tt) (k := j) (x := s.takers[j]) fun u v hv => htc u v hv
     have HN := Lib.hid (best_next (q := (k : Int)) hjl)
     clear htc hsat
     generalize s.takers[j] = t at *
     generalize hbo : bestAt s (k : Int) j = r at *
     obtain ⟨best,least⟩ := r
     dsimp only at hbr HN ⊢
     have hX : Below W0.heap.size W0 (wr.alloc (.cells #[.int .i64 t.queue,.int .i64 t.atOnce] 79)) := HB.out.alloc HB.out.size _
     have HX := Lib.hid hX
     obtain ⟨_,⟨n0,n1,n2,n3,n4,n5,n6,n7⟩,_,_,_,_⟩ := HBX.out _ hX
     have hkx := Bk.new wr 79 #[.int .i64 t.queue,.int .i64 t.atOnce]
     clear hX hbo
     subst hta
     go_wp2_with fail
     clear n0 n1 n2 n3 n4 n5 n6 n7 e0 e1
     generalize wr.alloc (.cells #[.int .i64 t.queue,.int .i64 t.atOnce] 79) = X at *
     refine (Of_any s (some ⟨b,o,none⟩) a2 (some ⟨tb,tt,none⟩) c1 c2 c3 j 0 X (HBX.out _ HX.out).stateAt.outs hol).mono ?_
     rintro e W2 ⟨rfl,hb2⟩
     have HB2 := Lib.hid (HX.out.trans (hb2.mono HX.out.size))
     have k0 : W2.cell? ⟨wr.heap.size,0,none⟩ = some (.int .i64 t.queue) := (hkx.below hb2 hkx.lt).cell 0
     have k1 : W2.cell? ⟨wr.heap.size,1,none⟩ = some (.int .i64 t.atOnce) := (hkx.below hb2 hkx.lt).cell 1
     clear hb2 hkx
     by_cases hq : t.queue = (k : Int) ∧ (heldS s j : Int) < min t.atOnce least
     ·rw [if_pos hq] at HN
      obtain ⟨hq1,hq2⟩ := hq
      generalize heldS s j = n at *
      have g1 : (t.queue == (k : Int)) = true := by simp [hq1]
      have g2 : decide ((n : Int) < min t.atOnce least) = true := decide_eq_true hq2
      clear hq1
      go_wp2_with fail
      exact ⟨⟨j + 1,hjl,by go_num,by rw [HN.out],by rw [HN.out],HB2.out⟩,by simp [intOf]; omega⟩
     ·rw [if_neg hq] at HN
      by_cases hq1 : t.queue = (k : Int)
      ·have hq2 : ¬ (heldS s j : Int) < min t.atOnce least := fun h => hq ⟨hq1,h⟩
       generalize heldS s j = n at *
       have g1 : (t.queue == (k : Int)) = true := by simp [hq1]
       have g2 : decide ((n : Int) < min t.atOnce least) = false := decide_eq_false hq2
       clear hq1 hq
       go_wp2_with fail
       exact ⟨⟨j + 1,hjl,by go_num,by rw [HN.out],by rw [HN.out],HB2.out⟩,by simp [intOf]; omega⟩
      ·have g1 : (t.queue == (k : Int)) = false := by simp [hq1]
       generalize heldS s j = n at *
       clear hq1 hq
       go_wp2_with fail
       exact ⟨⟨j + 1,hjl,by go_num,by rw [HN.out],by rw [HN.out],HB2.out⟩,by simp [intOf]; omega⟩
    ·obtain rfl : j = s.takers.length := by omega
     have hbn : (bestAt s (k : Int) s.takers.length).1 = bestN s k := rfl
     rw [hbn] at hbr ⊢
     by_cases hb0 : bestN s (k : Int) < 0
     ·have HE := Lib.hid (next_busy HC.out HL.out hb0)
      generalize bestN s (k : Int) = m at *
      go_wp2_with fail
      go_ret2
      exact ⟨by rw [HE.out.1,HE.out.2]; rfl,(HBX.out _ HB.out).below⟩
     ·have HE := Lib.hid (next_done HC.out HL.out hb0)
      generalize bestN s (k : Int) = m at *
      go_wp2_with fail
      go_ret2
      exact ⟨by rw [HE.out.1,HE.out.2]; rfl,(HBX.out _ HB.out).below⟩
 ·have b1 : (askErr p s q != 0) = true := by simp [hc]
  have HR := Lib.hid (next_ask hc)
  clear hc
  go_wp2_with fail
  go_ret2
  exact ⟨by rw [HR.out.1,HR.out.2]; rfl,(HBX.out _ HB1.out).below⟩
open Go.RowKit
set_option maxRecDepth 100000
theorem idx_gone (l : List TakerD) : idxOf (fun t : TakerD => decide (t.queue < 0)) l = match goneK l with | some k => (k : Int) | none => -1 := by
 cases hg : goneK l with
 | none => exact idxOf_miss (k := l.length) (fun j x _ hx => by simpa using goneK_none hg x (List.mem_of_getElem? hx)) (Nat.le_refl _)
 | some k =>
  obtain ⟨hk,h1,h2⟩ := goneK_some hg
  refine idxOf_hit (fun j x hj hx => ?_) hk (by simpa using h1)
  rw [List.getElem?_eq_getElem (by omega)] at hx
  cases hx
  simpa using h2 j hj
theorem join_ask {p : PlanD} {s : StateD} {q m : Int} (h : askErr p s q ≠ 0) : joinErr p s q m = askErr p s q ∧ joinN p s q m = 0 ∧ joinS p s q m = zeroS := by
 have e : joinErr p s q m = askErr p s q := by unfold joinErr; rw [if_pos h]
 exact ⟨e,by unfold joinN; rw [e,if_neg h],by unfold joinS; rw [e,if_neg h]⟩
theorem join_range {p : PlanD} {s : StateD} {q m : Int} (h : askErr p s q = 0) (hm : m < 1 ∨ 4 < m) : joinErr p s q m = 3 ∧ joinN p s q m = 0 ∧ joinS p s q m = zeroS := by
 have e : joinErr p s q m = 3 := by unfold joinErr; rw [if_neg (by simp [h]),if_pos hm]
 exact ⟨e,by unfold joinN; rw [e]; rfl,by unfold joinS; rw [e]; rfl⟩
theorem join_many {p : PlanD} {s : StateD} {q m : Int} (h : askErr p s q = 0) (hm : ¬ (m < 1 ∨ 4 < m)) (hg : goneK s.takers = none) (h4 : s.takers.length = 4) : joinErr p s q m = 2 ∧ joinN p s q m = 0 ∧ joinS p s q m = zeroS := by
 have e : joinErr p s q m = 2 := by unfold joinErr; rw [if_neg (by simp [h]),if_neg hm,if_pos ⟨hg,h4⟩]
 exact ⟨e,by unfold joinN; rw [e]; rfl,by unfold joinS; rw [e]; rfl⟩
theorem join_some {p : PlanD} {s : StateD} {q m : Int} {k : Nat} (h : askErr p s q = 0) (hm : ¬ (m < 1 ∨ 4 < m)) (hg : goneK s.takers = some k) : joinErr p s q m = 0 ∧ joinN p s q m = k ∧ joinS p s q m = { s with takers := s.takers.set k ⟨q,m⟩ } := by
 have e : joinErr p s q m = 0 := by unfold joinErr; rw [if_neg (by simp [h]),if_neg hm,if_neg (by rw [hg]; simp)]
 exact ⟨e,by unfold joinN joinI; rw [if_pos e,hg],by unfold joinS joinL; rw [if_pos e,hg]⟩
theorem join_new {p : PlanD} {s : StateD} {q m : Int} (h : askErr p s q = 0) (hm : ¬ (m < 1 ∨ 4 < m)) (hg : goneK s.takers = none) (h4 : s.takers.length ≠ 4) : joinErr p s q m = 0 ∧ joinN p s q m = s.takers.length ∧ joinS p s q m = { s with takers := s.takers ++ [⟨q,m⟩] } := by
 have e : joinErr p s q m = 0 := by unfold joinErr; rw [if_neg (by simp [h]),if_neg hm,if_neg (by rintro ⟨_,h⟩; exact h4 h)]
 exact ⟨e,by unfold joinN joinI; rw [if_pos e,hg],by unfold joinS joinL; rw [if_pos e,hg]⟩
theorem flat_taker : ∀ (l : List TakerD) (k : Nat) (_ : k < l.length) (q m : Int),((l.flatMap vTaker).set (k * 2) (.int .i64 q)).set (k * 2 + 1) (.int .i64 m) = (l.set k ⟨q,m⟩).flatMap vTaker
 | x :: l,0,_,q,m => rfl
 | x :: l,k + 1,h,q,m => by
  have ih := flat_taker l k (by simpa using h) q m
  rw [List.flatMap_cons,zC,List.flatMap_cons,← ih]
  unfold vTaker
  rw [show (k + 1) * 2 = k * 2 + 1 + 1 by omega]
  rfl
theorem OwnedAt.takersTo {w w' : World} {lo : Nat} {v1 v2 v3 v3' : Value} {rows : List RowD} {s : StateD} {l : List TakerD} (h : OwnedAt w lo v1 v2 v3 rows s) (hg : w.grownBy w' v3.ownBlock) (ht : w'.ownsRow lo 79 2 v3' l.length (l.flatMap vTaker)) : OwnedAt w' lo v1 v2 v3' rows { s with takers := l } :=
 ⟨h.same,h.ready.kept hg (own_own h.ready h.takers (by decide)),h.rows.kept h.takers (by decide) hg,h.outs.kept hg (own_own h.outs h.takers (by decide)),ht⟩
theorem OwnedAt.keptBk {w w' : World} {lo k : Nat} {t : TypeId} {cs : Array Value} {v1 v2 v3 : Value} {rows : List RowD} {s : StateD} (h : OwnedAt w lo v1 v2 v3 rows s) (hb : Bk w k t cs) (hg : w.grownBy w' (some k)) (t1 : t ≠ 50) (t2 : t ≠ 52) (t3 : t ≠ 77) (t4 : t ≠ 79) : OwnedAt w' lo v1 v2 v3 rows s :=
 ⟨h.same,h.ready.kept hg (.inr (own_bk2 h.ready hb t1).symm),⟨fun r hr => (h.rows.row r hr).kept hg (.inr (own_bk2 (h.rows.row r hr) hb t2).symm)⟩,h.outs.kept hg (.inr (own_bk2 h.outs hb t3).symm),h.takers.kept hg (.inr (own_bk2 h.takers hb t4).symm)⟩
theorem OwnedAt.takerSet {w : World} {lo g C k N : Nat} {v1 v2 : Value} {rows : List RowD} {s : StateD} (h : OwnedAt w lo v1 v2 (.slice (some ⟨g,0,none⟩) N C) rows s) (hN : N = s.takers.length) (hk : k < s.takers.length) (q m : Int) :
  OwnedAt ((w.setCell ⟨g,k * 2,none⟩ (.int .i64 q)).setCell ⟨g,k * 2 + 1,none⟩ (.int .i64 m)) lo v1 v2 (.slice (some ⟨g,0,none⟩) N C) rows { s with takers := s.takers.set k ⟨q,m⟩ } ∧ w.grownBy ((w.setCell ⟨g,k * 2,none⟩ (.int .i64 q)).setCell ⟨g,k * 2 + 1,none⟩ (.int .i64 m)) (some g) := by
 subst hN
 have h1 := h.takers.stored (k * 2) (.int .i64 q)
 have h2 := h1.1.stored (k * 2 + 1) (.int .i64 m)
 have hg := grown_trans h1.2 h2.2
 refine ⟨h.takersTo hg ?_,hg⟩
 have h3 := h2.1
 rw [flat_taker _ _ hk] at h3
 rw [List.length_set]
 exact h3
theorem new_set (l : List TakerD) (x : TakerD) : l ++ [x] = (l ++ [(⟨0,0⟩ : TakerD)]).set l.length x := by
 rw [List.set_append,if_neg (Nat.lt_irrefl _),Nat.sub_self]; rfl
theorem OwnedAt.takerCells {w : World} {lo g C k N : Nat} {v1 v2 : Value} {rows : List RowD} {s : StateD} (h : OwnedAt w lo v1 v2 (.slice (some ⟨g,0,none⟩) N C) rows s) (hN : N = s.takers.length) (hk : k < s.takers.length) :
  w.cell? ⟨g,k * 2,none⟩ = some (.int .i64 s.takers[k].queue) ∧ w.cell? ⟨g,k * 2 + 1,none⟩ = some (.int .i64 s.takers[k].atOnce) ∧ w.frozen? ⟨g,k * 2,none⟩ = false ∧ w.frozen? ⟨g,k * 2 + 1,none⟩ = false ∧ g < w.heap.size := by
 subst hN
 refine ⟨?_,?_,h.takers.frozenAt _,h.takers.frozenAt _,(h.takers.lt g rfl).2⟩
 ·rw [h.takers.cellAt _ (by omega)]
  exact (flat_get vTaker_len _ k hk 0 (by decide)).trans rfl
 ·rw [h.takers.cellAt _ (by omega)]
  exact (flat_get vTaker_len _ k hk 1 (by decide)).trans rfl
theorem gw_set3 (w : World) (g i : Nat) (v : Value) : w.grownBy (w.setCell ⟨g,i,none⟩ v) (some g) := ⟨rfl,rfl,rfl,by simp [World.setCell],fun k _ hk => heap_setCell_other w ⟨g,i,none⟩ k v (fun e => hk (by simp [e]))⟩
theorem eg_join1 : ∀ args w,(callFunc 102 args).run Tryz.prog w = .ok (.enter 102 args) w := enters_of Tryz.func102 (by kernel_rfl) rfl
theorem join1_any (t : TakerD) (w : World) : Calls Tryz.prog 102 #[.agg (vTaker t).toArray] w fun e w' => e = .returned (.bool (decide (t.queue < 0))) ∧ Below w.heap.size w w' := by
 have hb := (Below.refl w.heap.size w).alloc (Nat.le_refl _) (.cells #[.int .i64 t.queue,.int .i64 t.atOnce] 79)
 unfold vTaker
 go_enter Tryz.func102,Tryz.ntmps102
 go_wp2_with fail
 go_ret
 exact ⟨rfl,hb⟩
set_option maxHeartbeats 8000000 in
theorem Join_held (p : PlanD) (s : StateD) (q m : Int) (p1 p2 p3 a1 a2 a3 : Option Addr) (q1 q2 q3 c1 c2 c3 : Nat) (rows : List RowD) (w : World) (hE : Env w) (hp : PlanAt w 0 w.heap.size p1 p2 p3 p) (hps : PlanSmall p) (hs : StateAt w 0 w.heap.size a1 a2 a3 rows s) (hss : StateSmall s) (hsi : StateInts s) :
  Calls Tryz.prog 65 #[planV p p1 p2 p3 q1 q2 q3,stateV s a1 a2 a3 c1 c2 c3,.int .i64 q,.int .i64 m] w (TkPostC (joinS p s q m) (joinN p s q m) (joinErr p s q m) w) := by
 have hbx := two_boxes q1 q2 q3 c1 c2 c3 hE hp hs 26 31
 unfold vState at hbx
 unfold stateV planV vState
 have htl := hss.takers
 have HPS := Lib.hid hps
 have HSS := Lib.hid hss
 have HSI := Lib.hid hsi
 clear hE hp hs hps hss hsi
 go_enter Tryz.func65,Tryz.ntmps65
 obtain ⟨⟨m0,m1,m2⟩,⟨n0,n1,n2,n3,n4,n5,n6,n7⟩,_,_,_,_⟩ := hbx _ ((Below.refl _ _).alloc (Nat.le_refl _) (.cells #[.slice none 0 0,.slice none 0 0,.slice none 0 0,.int .i64 0,.int .i64 0,.int .i64 0,.int .i64 0,.int .i64 0] 31))
 go_wp2_with fail
 clear m0 m1 m2 n0 n1 n2 n3 n4 n5 n6 n7
 obtain ⟨V0,hV0⟩ : ∃ V0,((w.alloc (.cells #[.slice p1 p.posts.length q1,.slice p2 p.queues.length q2,.slice p3 p.binds.length q3] 26)).alloc (.cells #[Value.slice a1 s.ready.length c1,Value.slice a2 s.outs.length c2,Value.slice a3 s.takers.length c3,Value.int IntKind.i64 s.nextSeq,Value.int IntKind.i64 s.nextTag,Value.int IntKind.i64 s.came,Value.int IntKind.i64 s.acked,Value.int IntKind.i64 s.dropped] 31)) = V0 := ⟨_,rfl⟩
 have hzV : V0.heap.size = w.heap.size + 1 + 1 := by rw [← hV0]; simp
 rw [hV0] at hbx
 have HBV := Lib.hid hbx
 obtain ⟨W0,hW0⟩ : ∃ W0,V0.alloc (.cells #[.slice none 0 0,.slice none 0 0,.slice none 0 0,.int .i64 0,.int .i64 0,.int .i64 0,.int .i64 0,.int .i64 0] 31) = W0 := ⟨_,rfl⟩
 have hbV : Below V0.heap.size V0 W0 := by rw [← hW0]; exact (Below.refl _ _).alloc (Nat.le_refl _) _
 have HZ : Hid (W0.heap.size = w.heap.size + 1 + 1 + 1) := by refine (?_ : W0.heap.size = _); rw [← hW0,← hzV]; simp
 have HBX : Hid (∀ W,Below W0.heap.size W0 W → CkIn w p s p1 p2 p3 a1 a2 a3 q1 q2 q3 c1 c2 c3 rows W ∧ Bk W (w.heap.size + 1 + 1) 31 zeroCells) := fun W hW => by
  have k : Bk W0 (w.heap.size + 1 + 1) 31 zeroCells := by rw [← hW0]; exact Bk.new_at _ _ _ hzV.symm
  exact ⟨HBV.out W (hbV.trans (hW.mono hbV.size)),k.below hW k.lt⟩
 rw [hV0,hW0]
 clear hbx hbV hzV HBV hV0 hW0
 refine (Asked_any p s q p1 p2 p3 a1 a2 a3 q1 q2 q3 c1 c2 c3 rows W0 (HBX.out _ (Below.refl _ _)).1.env (HBX.out _ (Below.refl _ _)).1.planAt HPS.out (HBX.out _ (Below.refl _ _)).1.stateAt HSS.out HSI.out).mono ?_
 rintro e W1 ⟨rfl,hb1⟩
 have HB1 := Lib.hid hb1
 clear hb1
 by_cases hc : askErr p s q = 0
 ·have b1 : (askErr p s q != 0) = false := by simp [hc]
  by_cases hm : m < 1 ∨ 4 < m
  ·have HR := Lib.hid (join_range hc hm)
   clear hc
   by_cases hm1 : m < 1
   ·clear hm
    have hzk := (HBX.out _ HB1.out).2
    unfold zeroCells at hzk
    obtain ⟨k0,k1,k2,k3,k4,k5,k6,k7,f0,f1,f2,f3,f4,f5,f6,f7,hlt⟩ := zero_cells hzk
    clear hzk
    go_wp2_with fail
    refine bodyPost_ret (v := .tuple #[stateV zeroS none none none 0 0 0,.int .i64 0,.int .i64 3]) (by simp [results,Tryz.results65,go_sem,stateV,vState,zeroS,k0,k1,k2,k3,k4,k5,k6,k7,hlt]) rfl
     ⟨none,none,none,0,0,0,[],by rw [HR.out.1,HR.out.2.1,HR.out.2.2]; rfl,by rw [HR.out.2.2]; exact held_zero _ _,below_set8 (HBX.out _ HB1.out).1.below (by omega) _ _ _ _ _ _ _ _⟩
   ·have hm4 : 4 < m := by omega
    clear hm
    have hzk := (HBX.out _ HB1.out).2
    unfold zeroCells at hzk
    obtain ⟨k0,k1,k2,k3,k4,k5,k6,k7,f0,f1,f2,f3,f4,f5,f6,f7,hlt⟩ := zero_cells hzk
    clear hzk
    go_wp2_with fail
    refine bodyPost_ret (v := .tuple #[stateV zeroS none none none 0 0 0,.int .i64 0,.int .i64 3]) (by simp [results,Tryz.results65,go_sem,stateV,vState,zeroS,k0,k1,k2,k3,k4,k5,k6,k7,hlt]) rfl
     ⟨none,none,none,0,0,0,[],by rw [HR.out.1,HR.out.2.1,HR.out.2.2]; rfl,by rw [HR.out.2.2]; exact held_zero _ _,below_set8 (HBX.out _ HB1.out).1.below (by omega) _ _ _ _ _ _ _ _⟩
  ·have HC := Lib.hid hc
   have HM := Lib.hid hm
   have hm1 : ¬ m < 1 := by omega
   have hm4 : ¬ 4 < m := by omega
   clear hc hm
   have hs1 := (HBX.out _ HB1.out).1.stateAt
   obtain ⟨_,⟨n0,n1,n2,n3,n4,n5,n6,n7⟩,_,_,_,_⟩ := (HBX.out _ HB1.out).1
   go_wp2_with fail
   refine (Own_any s a1 a2 a3 c1 c2 c3 rows W1 (HBX.out _ HB1.out).1.stateAt HSS.out).mono ?_
   rintro e W2 ⟨v1,v2,v3,rows2,rfl,ho,hb2⟩
   obtain ⟨A1,C1,rfl,_⟩ := own_slice ho.ready
   obtain ⟨A2,C2,rfl,_⟩ := own_slice ho.outs
   obtain ⟨A3,C3,rfl,hC3⟩ := own_slice ho.takers
   have HB2 := Lib.hid (HB1.out.trans (hb2.mono HB1.out.size))
   have hlo : w.heap.size + 1 + 1 < W1.heap.size := by have := HB1.out.size; have := HZ.out; omega
   have HLO := Lib.hid hlo
   have hbb2 := hb2.size
   clear n0 n1 n2 n3 n4 n5 n6 n7 hs1 hlo hb2
   have hX : Below W0.heap.size W0 (W2.alloc (.cells #[.slice A1 s.ready.length C1,.slice A2 s.outs.length C2,.slice A3 s.takers.length C3,.int .i64 s.nextSeq,.int .i64 s.nextTag,.int .i64 s.came,.int .i64 s.acked,.int .i64 s.dropped] 31)) := HB2.out.alloc HB2.out.size _
   have hxo := ho.below ((Below.refl _ W2).alloc (Nat.le_refl _) (.cells #[.slice A1 s.ready.length C1,.slice A2 s.outs.length C2,.slice A3 s.takers.length C3,.int .i64 s.nextSeq,.int .i64 s.nextTag,.int .i64 s.came,.int .i64 s.acked,.int .i64 s.dropped] 31))
   have hxd := Bk.new W2 31 #[.slice A1 s.ready.length C1,.slice A2 s.outs.length C2,.slice A3 s.takers.length C3,.int .i64 s.nextSeq,.int .i64 s.nextTag,.int .i64 s.came,.int .i64 s.acked,.int .i64 s.dropped]
   obtain ⟨n0,n1,n2,n3,n4,n5,n6,n7,_,_,_,_,_,_,_,_,hlt2⟩ := zero_cells hxd
   have HLT2 : Hid (W1.heap.size ≤ W2.heap.size) := hbb2
   have HLT : Hid (w.heap.size + 1 + 1 < W2.heap.size) := by refine (?_ : w.heap.size + 1 + 1 < W2.heap.size); have := HB2.out.size; have := HZ.out; omega
   unfold ownV
   go_wp2_with fail
   clear n0 n1 n2 n3 n4 n5 n6 n7 hlt2
   obtain ⟨X,hXX⟩ : ∃ X,W2.alloc (.cells #[.slice A1 s.ready.length C1,.slice A2 s.outs.length C2,.slice A3 s.takers.length C3,.int .i64 s.nextSeq,.int .i64 s.nextTag,.int .i64 s.came,.int .i64 s.acked,.int .i64 s.dropped] 31) = X := ⟨_,rfl⟩
   rw [hXX] at hX hxo hxd
   rw [hXX]
   clear hXX ho
   refine (indexFunc_Taker 102 #[] eg_join1 (fun t : TakerD => decide (t.queue < 0)) s.takers A3 C3 W1.heap.size X (fun x _ W _ => by simpa using join1_any x W) (Sl.of_own hxo.takers) (by omega)).mono ?_
   rw [idx_gone]
   rintro e W3 ⟨rfl,hb3⟩
   have HB3 := Lib.hid (hX.trans (hb3.mono hX.size))
   have ho3 := hxo.below hb3
   have hd3 := hxd.below hb3 hxd.lt
   clear hX hxo hxd hb3
   cases hg : goneK s.takers with
   | some k =>
    obtain ⟨hk,_⟩ := goneK_some hg
    have HR := Lib.hid (join_some HC.out HM.out hg)
    obtain ⟨g,rfl⟩ := own_addr ho3.takers (by omega)
    clear hg
    have ho3' := ho3
    have hz3 := (HBX.out _ HB3.out).2
    have hw3 := (HBX.out _ HB3.out).1.below
    clear ho3'
    obtain ⟨t0,t1,fz0,fz1,hlg⟩ := ho3.takerCells rfl hk
    obtain ⟨_,_,d2,_⟩ := zero_cells hd3
    have hne : W2.heap.size ≠ g := fun e => own_bk2 ho3.takers hd3 (by decide) (by rw [e]; rfl)
    generalize hTK : (_ : List TakerD)[k]'hk = tk at t0 t1
    clear hTK
    obtain ⟨hts,htg⟩ := ho3.takerSet rfl hk q m
    have HZO := Lib.hid hts
    have HZD := Lib.hid (hd3.grown htg (own_bk2 ho3.takers hd3 (by decide)))
    have HZK := Lib.hid (hz3.grown htg (own_bk2 ho3.takers hz3 (by decide)))
    have HZB := Lib.hid (below_own ho3.takers htg hw3 (Nat.le_trans (by omega) (Nat.le_of_lt HLO.out)) hw3.size)
    clear hts htg ho3 hd3 hz3 hw3
    go_upto_region 14 with fail
    clear t0 t1 fz0 fz1 hlg d2
    obtain ⟨Z,hZZ⟩ : ∃ Z,((W3.setCell ⟨g,k * 2,none⟩ (.int .i64 q)).setCell ⟨g,k * 2 + 1,none⟩ (.int .i64 m)) = Z := ⟨_,rfl⟩
    rw [hZZ] at HZO HZD HZK HZB
    rw [hZZ]
    clear hZZ
    obtain ⟨n0,n1,n2,n3,n4,n5,n6,n7,_,_,_,_,_,_,_,_,hlt2⟩ := zero_cells HZD.out
    have hzk := HZK.out
    unfold zeroCells at hzk
    obtain ⟨k0,k1,k2,k3,k4,k5,k6,k7,f0,f1,f2,f3,f4,f5,f6,f7,hlt⟩ := zero_cells hzk
    clear hzk
    go_wp2_with fail
    refine bodyPost_ret (v := .tuple #[.agg (ownV s (.slice A1 s.ready.length C1) (.slice A2 s.outs.length C2) (.slice (some ⟨g,0,none⟩) s.takers.length C3)),.int .i64 (k : Int),.int .i64 0]) (by simp [results,Tryz.results65,go_sem,ownV,k0,k1,k2,k3,k4,k5,k6,k7,hlt]) rfl ?_
    have hown := HZO.out.set8 (g := w.heap.size + 1 + 1) (by exact HLO.out) (.slice A1 s.ready.length C1) (.slice A2 s.outs.length C2) (.slice (some ⟨g,0,none⟩) s.takers.length C3) (.int .i64 s.nextSeq) (.int .i64 s.nextTag) (.int .i64 s.came) (.int .i64 s.acked) (.int .i64 s.dropped)
    obtain ⟨_,e1,e2,e3⟩ := hown.stateAt
    refine ⟨A1,A2,some ⟨g,0,none⟩,C1,C2,C3,_,?_,by rw [HR.out.2.2]; exact hown.held.lens (Nat.le_of_lt (Nat.lt_trans (by omega) HLO.out)),below_set8 HZB.out (by omega) _ _ _ _ _ _ _ _⟩
    rw [HR.out.1,HR.out.2.1,HR.out.2.2]
    unfold stateV vState ownV
    rw [e3]
   | none =>
    have d2 := hd3.cell 2
    have fz2 := hd3.frozen 2
    by_cases h4 : s.takers.length = 4
    ·have HR := Lib.hid (join_many HC.out HM.out hg h4)
     have b4 : ((s.takers.length : Int) == 4) = true := by rw [h4]; rfl
     clear hg h4
     dsimp only
     have hzk := (HBX.out _ HB3.out).2
     unfold zeroCells at hzk
     obtain ⟨k0,k1,k2,k3,k4,k5,k6,k7,f0,f1,f2,f3,f4,f5,f6,f7,hlt⟩ := zero_cells hzk
     clear hzk
     go_wp2_with fail
     refine bodyPost_ret (v := .tuple #[stateV zeroS none none none 0 0 0,.int .i64 0,.int .i64 2]) (by simp [results,Tryz.results65,go_sem,stateV,vState,zeroS,k0,k1,k2,k3,k4,k5,k6,k7,hlt]) rfl
      ⟨none,none,none,0,0,0,[],by rw [HR.out.1,HR.out.2.1,HR.out.2.2]; rfl,by rw [HR.out.2.2]; exact held_zero _ _,below_set8 (HBX.out _ HB3.out).1.below (by omega) _ _ _ _ _ _ _ _⟩
    ·have HR0 := join_new HC.out HM.out hg h4
     rw [new_set s.takers] at HR0
     have HR := Lib.hid HR0
     have b4 : ((s.takers.length : Int) == 4) = false := beq_eq_false_iff_ne.2 (by omega)
     have hz3 := (HBX.out _ HB3.out).2
     have hw3 := (HBX.out _ HB3.out).1.below
     have hbase : W1.heap.size ≤ W3.heap.size := by
      have h1 := hd3.lt
      have h2 := HLT2.out
      omega
     have HX3 := Lib.hid (And.intro ho3 (And.intro hd3 (And.intro hz3 hw3)))
     clear hg h4 HR0 hz3 hw3
     dsimp only
     go_upto_region 13 with (at_builtin; refine append1 rfl _ _ 29 rfl W1.heap.size 79 infoTaker Tryz.underlying29 rfl (by decide) (by decide) W3 _ _ _ rfl HX3.out.1.takers [.int .i64 0,.int .i64 0] rfl rfl rfl (by simp [Value.oneCell']) (by omega) hbase ?_; intro v4 w4 ho4 hg4; obtain ⟨A4,C4,rfl,_⟩ := own_slice ho4; have hd4 := HX3.out.2.1.grown hg4 (own_bk2 HX3.out.1.takers HX3.out.2.1 (by decide)); have d4 := hd4.cell 2; have fz4 := hd4.frozen 2; have hlt4 := hd4.lt; have HW4 := Lib.hid (And.intro ho4 (And.intro hg4 hd4)); clear ho4 hg4 hd4)
     clear d2 fz2 d4 fz4 hlt4 ho3 hd3
     obtain ⟨ho3,hd3,hz3,hw3⟩ := HX3.out
     obtain ⟨ho4,hg4,hd4⟩ := HW4.out
     obtain ⟨g,rfl⟩ := own_addr ho4 (by omega)
     have hox : OwnedAt w4 W1.heap.size (.slice A1 s.ready.length C1) (.slice A2 s.outs.length C2) (.slice (some ⟨g,0,none⟩) (s.takers.length + 1) C4) rows2 { s with takers := s.takers ++ [⟨0,0⟩] } := ho3.takersTo hg4 (by rw [List.length_append,List.flatMap_append]; exact ho4)
     have hgw : w4.grownBy (w4.setCell ⟨W2.heap.size,2,none⟩ (.slice (some ⟨g,0,none⟩) (s.takers.length + 1) C4)) (some W2.heap.size) := gw_set3 _ _ _ _
     have hoy := hox.keptBk hd4 hgw (by decide) (by decide) (by decide) (by decide)
     have hdy : Bk (w4.setCell ⟨W2.heap.size,2,none⟩ (.slice (some ⟨g,0,none⟩) (s.takers.length + 1) C4)) W2.heap.size 31 #[.slice A1 s.ready.length C1,.slice A2 s.outs.length C2,.slice (some ⟨g,0,none⟩) (s.takers.length + 1) C4,.int .i64 s.nextSeq,.int .i64 s.nextTag,.int .i64 s.came,.int .i64 s.acked,.int .i64 s.dropped] := hd4.set_ 2 _
     have hzy := ((hz3.grown hg4 (own_bk2 ho3.takers hz3 (by decide))).far (p := ⟨W2.heap.size,2,none⟩) (by have := HLT.out; show w.heap.size + 1 + 1 ≠ W2.heap.size; omega) (.slice (some ⟨g,0,none⟩) (s.takers.length + 1) C4))
     have hwy := (below_own ho3.takers hg4 hw3 (Nat.le_trans (by omega) (Nat.le_of_lt HLO.out)) hw3.size).setCell (p := ⟨W2.heap.size,2,none⟩) (by have := HLT.out; show w.heap.size ≤ W2.heap.size; omega) (.slice (some ⟨g,0,none⟩) (s.takers.length + 1) C4)
     obtain ⟨Y,hYY⟩ : ∃ Y,w4.setCell ⟨W2.heap.size,2,none⟩ (.slice (some ⟨g,0,none⟩) (s.takers.length + 1) C4) = Y := ⟨_,rfl⟩
     rw [hYY] at hoy hdy hzy hwy
     rw [hYY]
     clear hYY hgw hox ho4 hg4 hd4 ho3 hd3 hz3 hw3 HW4 HX3
     have HKK : Hid (s.takers.length < (s.takers ++ [(⟨0,0⟩ : TakerD)]).length) := by refine (?_ : s.takers.length < (s.takers ++ [(⟨0,0⟩ : TakerD)]).length); rw [List.length_append]; exact Nat.lt_succ_self _
     have HNN : Hid (s.takers.length + 1 = (s.takers ++ [(⟨0,0⟩ : TakerD)]).length) := by refine (?_ : s.takers.length + 1 = (s.takers ++ [(⟨0,0⟩ : TakerD)]).length); rw [List.length_append]; rfl
     have ho3 := hoy
     have hd3 := hdy
     have hz3 := hzy
     have hw3 := hwy
     clear hoy hdy hzy hwy
     obtain ⟨t0,t1,fz0,fz1,hlg⟩ := ho3.takerCells HNN.out HKK.out
     obtain ⟨_,_,d2,_⟩ := zero_cells hd3
     have hne : W2.heap.size ≠ g := fun e => own_bk2 ho3.takers hd3 (by decide) (by rw [e]; rfl)
     generalize hTK : (_ : List TakerD)[s.takers.length]'HKK.out = tk at t0 t1
     clear hTK
     obtain ⟨hts,htg⟩ := ho3.takerSet HNN.out HKK.out q m
     have HZO := Lib.hid hts
     have HZD := Lib.hid (hd3.grown htg (own_bk2 ho3.takers hd3 (by decide)))
     have HZK := Lib.hid (hz3.grown htg (own_bk2 ho3.takers hz3 (by decide)))
     have HZB := Lib.hid (below_own ho3.takers htg hw3 (Nat.le_trans (by omega) (Nat.le_of_lt HLO.out)) hw3.size)
     clear hts htg ho3 hd3 hz3 hw3
     go_upto_region 14 with fail
     clear t0 t1 fz0 fz1 hlg d2
     obtain ⟨Z,hZZ⟩ : ∃ Z,((Y.setCell ⟨g,s.takers.length * 2,none⟩ (.int .i64 q)).setCell ⟨g,s.takers.length * 2 + 1,none⟩ (.int .i64 m)) = Z := ⟨_,rfl⟩
     rw [hZZ] at HZO HZD HZK HZB
     rw [hZZ]
     clear hZZ
     obtain ⟨n0,n1,n2,n3,n4,n5,n6,n7,_,_,_,_,_,_,_,_,hlt2⟩ := zero_cells HZD.out
     have hzk := HZK.out
     unfold zeroCells at hzk
     obtain ⟨k0,k1,k2,k3,k4,k5,k6,k7,f0,f1,f2,f3,f4,f5,f6,f7,hlt⟩ := zero_cells hzk
     clear hzk
     go_wp2_with fail
     refine bodyPost_ret (v := .tuple #[.agg (ownV s (.slice A1 s.ready.length C1) (.slice A2 s.outs.length C2) (.slice (some ⟨g,0,none⟩) (s.takers.length + 1) C4)),.int .i64 (s.takers.length : Int),.int .i64 0]) (by simp [results,Tryz.results65,go_sem,ownV,k0,k1,k2,k3,k4,k5,k6,k7,hlt]) rfl ?_
     have hown := HZO.out.set8 (g := w.heap.size + 1 + 1) (by exact HLO.out) (.slice A1 s.ready.length C1) (.slice A2 s.outs.length C2) (.slice (some ⟨g,0,none⟩) (s.takers.length + 1) C4) (.int .i64 s.nextSeq) (.int .i64 s.nextTag) (.int .i64 s.came) (.int .i64 s.acked) (.int .i64 s.dropped)
     obtain ⟨_,e1,e2,e3⟩ := hown.stateAt
     refine ⟨A1,A2,some ⟨g,0,none⟩,C1,C2,C4,_,?_,by rw [HR.out.2.2]; exact hown.held.lens (Nat.le_of_lt (Nat.lt_trans (by omega) HLO.out)),below_set8 HZB.out (by omega) _ _ _ _ _ _ _ _⟩
     rw [HR.out.1,HR.out.2.1,HR.out.2.2]
     unfold stateV vState ownV
     rw [e3]
 ·have b1 : (askErr p s q != 0) = true := by simp [hc]
  have HR := Lib.hid (join_ask (m := m) hc)
  clear hc
  have hzk := (HBX.out _ HB1.out).2
  unfold zeroCells at hzk
  obtain ⟨k0,k1,k2,k3,k4,k5,k6,k7,f0,f1,f2,f3,f4,f5,f6,f7,hlt⟩ := zero_cells hzk
  clear hzk
  go_wp2_with fail
  refine bodyPost_ret (v := .tuple #[stateV zeroS none none none 0 0 0,.int .i64 0,.int .i64 (askErr p s q)]) (by simp [results,Tryz.results65,go_sem,stateV,vState,zeroS,k0,k1,k2,k3,k4,k5,k6,k7,hlt]) rfl
   ⟨none,none,none,0,0,0,[],by rw [HR.out.1,HR.out.2.1,HR.out.2.2]; rfl,by rw [HR.out.2.2]; exact held_zero _ _,below_set8 (HBX.out _ HB1.out).1.below (by omega) _ _ _ _ _ _ _ _⟩
theorem Join_any (p : PlanD) (s : StateD) (q m : Int) (p1 p2 p3 a1 a2 a3 : Option Addr) (q1 q2 q3 c1 c2 c3 : Nat) (rows : List RowD) (w : World) (hE : Env w) (hp : PlanAt w 0 w.heap.size p1 p2 p3 p) (hps : PlanSmall p) (hs : StateAt w 0 w.heap.size a1 a2 a3 rows s) (hss : StateSmall s) (hsi : StateInts s) :
  Calls Tryz.prog 65 #[planV p p1 p2 p3 q1 q2 q3,stateV s a1 a2 a3 c1 c2 c3,.int .i64 q,.int .i64 m] w (TkPost (joinS p s q m) (joinN p s q m) (joinErr p s q m) w) :=
 (Join_held p s q m p1 p2 p3 a1 a2 a3 q1 q2 q3 c1 c2 c3 rows w hE hp hps hs hss hsi).mono fun _ _ h => h.post
open Go.RowKit
set_option maxRecDepth 100000
theorem OwnedAt.drew {w : World} {lo : Nat} {v1 v2 v3 : Value} {rows : List RowD} {s : StateD} (h : OwnedAt w lo v1 v2 v3 rows s) : OwnedAt w.drew lo v1 v2 v3 rows s :=
 ⟨h.same,h.ready.drew,h.rows.drew,h.outs.drew,h.takers.drew⟩
theorem cells8 {w : World} {g : Nat} {t : TypeId} {v0 v1 v2 v3 v4 v5 v6 v7 : Value} (h : Bk w g t #[v0,v1,v2,v3,v4,v5,v6,v7]) :
  w.cell? ⟨g,0,none⟩ = some v0 ∧ w.cell? ⟨g,1,none⟩ = some v1 ∧ w.cell? ⟨g,2,none⟩ = some v2 ∧ w.cell? ⟨g,3,none⟩ = some v3 ∧ w.cell? ⟨g,4,none⟩ = some v4 ∧ w.cell? ⟨g,5,none⟩ = some v5 ∧ w.cell? ⟨g,6,none⟩ = some v6 ∧ w.cell? ⟨g,7,none⟩ = some v7 :=
 ⟨h.cell 0,h.cell 1,h.cell 2,h.cell 3,h.cell 4,h.cell 5,h.cell 6,h.cell 7⟩
end Go.Proofs.YtaanpcjkflhomaaGreatDoor
