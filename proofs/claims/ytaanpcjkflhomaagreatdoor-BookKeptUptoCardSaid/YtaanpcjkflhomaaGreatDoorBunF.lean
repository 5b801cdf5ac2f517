/-
  The plain law of states: which error a state has. No program in sight.
  The plain law of states, for the walks: why a state is not formed, by where the walk stands.
  A plan and a state that a call has boxed.
  Walks of package state: must, count, Of; the reference's HeldOf.
  Walks of package state: the closures of Check: the one that sees a letter, and the deferred one. The deferred closure of state.Check.
  The laws' states: the one that is begun, the busy one and three that are wrong. No program in sight. Walks of state.Begin and the reference's BeginOf. Walk of the law's busy state.
-/
import Derived.Test.YtaanpcjkflhomaaGreatDoorBunE
import Derived.Test.YtaanpcjkflhomaaGreatDoorBunC
import Derived.Test.YtaanpcjkflhomaaGreatDoorBunD
import Derived.Test.YtaanpcjkflhomaaGreatDoorBunA
import Derived.Defers
import Derived.Recover
import Derived.IntWalk
set_option linter.unusedSimpArgs false
set_option linter.unusedVariables false
namespace Go.Proofs.YtaanpcjkflhomaaGreatDoor
def countB (n : Int) : Bool := decide (0 ≤ n) && decide (n ≤ 1048576)
def takerB (q : Nat) (t : TakerD) : Bool := decide (-1 ≤ t.queue) && decide (t.queue < (q : Int)) && decide (1 ≤ t.atOnce) && decide (t.atOnce ≤ 4)
def outB (s : StateD) (x : OutD) : Bool :=
 decide (0 ≤ x.tag) && decide (x.tag < s.nextTag) && decide (0 ≤ x.taker) && decide (x.taker < (s.takers.length : Int)) &&
  (match s.takers[x.taker.toNat]? with | some t => decide (0 ≤ t.queue) && decide (t.queue = x.queue) | none => false) && itemFine x.item
def seqsR (l : List (List ItemD)) : List Int := l.flatMap fun r => r.map (·.seq)
def seqsO (l : List OutD) : List Int := l.map (·.item.seq)
def seqsS (s : StateD) : List Int := seqsR s.ready ++ seqsO s.outs
def heldS (s : StateD) (k : Int) : Nat := s.outs.countP fun x => decide (x.taker = k)
def lyingS (s : StateD) : Nat := (s.ready.map List.length).sum
structure Formed (p : PlanD) (s : StateD) : Prop where
 len : s.ready.length = p.queues.length
 nextSeq : countB s.nextSeq = true
 nextTag : countB s.nextTag = true
 came : countB s.came = true
 acked : countB s.acked = true
 dropped : countB s.dropped = true
 line : ∀ l ∈ s.ready,lineFine l = true
 taker : ∀ t ∈ s.takers,takerB p.queues.length t = true
 out : ∀ x ∈ s.outs,outB s x = true
 order : s.outs.Pairwise fun x y => x.tag < y.tag
 nodup : (seqsS s).Nodup
 below : ∀ n ∈ seqsS s,n < s.nextSeq
def formedB (p : PlanD) (s : StateD) : Bool :=
 decide (s.ready.length = p.queues.length) && countB s.nextSeq && countB s.nextTag && countB s.came && countB s.acked && countB s.dropped && s.ready.all lineFine && s.takers.all (takerB p.queues.length) && s.outs.all (outB s) &&
  decide (s.outs.Pairwise fun x y => x.tag < y.tag) && decide (seqsS s).Nodup && (seqsS s).all (fun n => decide (n < s.nextSeq))
theorem formedB_iff {p : PlanD} {s : StateD} : formedB p s = true ↔ Formed p s := by
 unfold formedB
 simp only [Bool.and_eq_true,decide_eq_true_eq,List.all_eq_true]
 constructor
 ·rintro ⟨⟨⟨⟨⟨⟨⟨⟨⟨⟨⟨h1,h2⟩,h3⟩,h4⟩,h5⟩,h6⟩,h7⟩,h8⟩,h9⟩,h10⟩,h11⟩,h12⟩
  exact ⟨h1,h2,h3,h4,h5,h6,h7,h8,h9,h10,h11,h12⟩
 ·rintro ⟨h1,h2,h3,h4,h5,h6,h7,h8,h9,h10,h11,h12⟩
  exact ⟨⟨⟨⟨⟨⟨⟨⟨⟨⟨⟨h1,h2⟩,h3⟩,h4⟩,h5⟩,h6⟩,h7⟩,h8⟩,h9⟩,h10⟩,h11⟩,h12⟩
structure Ranged (p : PlanD) (s : StateD) : Prop where
 limit : ∀ (i : Nat) (l : List ItemD) (q : QueueD),s.ready[i]? = some l → p.queues[i]? = some q → (l.length : Int) ≤ q.limit
 held : ∀ (k : Nat) (t : TakerD),s.takers[k]? = some t → (heldS s k : Int) ≤ t.atOnce
def limitB (p : PlanD) (s : StateD) : Bool := (s.ready.zip p.queues).all fun x => decide ((x.1.length : Int) ≤ x.2.limit)
def heldB (s : StateD) : Bool := s.takers.zipIdx.all fun x => decide ((heldS s x.2 : Int) ≤ x.1.atOnce)
theorem limitB_iff {p : PlanD} {s : StateD} : limitB p s = true ↔ ∀ (i : Nat) (l : List ItemD) (q : QueueD),s.ready[i]? = some l → p.queues[i]? = some q → (l.length : Int) ≤ q.limit := by
 unfold limitB
 simp only [List.all_eq_true,decide_eq_true_eq]
 constructor
 ·intro h i l q hl hq
  have : (s.ready.zip p.queues)[i]? = some (l,q) := by rw [List.getElem?_zip_eq_some]; exact ⟨hl,hq⟩
  exact h _ (List.mem_of_getElem? this)
 ·intro h x hx
  obtain ⟨i,hi⟩ := List.getElem?_of_mem hx
  obtain ⟨l,q⟩ := x
  rw [List.getElem?_zip_eq_some] at hi
  exact h i l q hi.1 hi.2
theorem heldB_iff {s : StateD} : heldB s = true ↔ ∀ (k : Nat) (t : TakerD),s.takers[k]? = some t → (heldS s k : Int) ≤ t.atOnce := by
 unfold heldB
 simp only [List.all_eq_true,decide_eq_true_eq]
 constructor
 ·intro h k t ht
  have : s.takers.zipIdx[k]? = some (t,k) := by rw [List.getElem?_zipIdx,ht]; simp
  exact h _ (List.mem_of_getElem? this)
 ·intro h x hx
  obtain ⟨i,hi⟩ := List.getElem?_of_mem hx
  rw [List.getElem?_zipIdx] at hi
  cases ht : s.takers[i]? with
  | none => rw [ht] at hi; cases hi
  | some t =>
   rw [ht] at hi
   simp only [Option.map_some,Option.some.injEq,Nat.zero_add] at hi
   subst hi
   exact h i t ht
def sumB (s : StateD) : Bool := decide (s.came = ((lyingS s : Nat) : Int) + ((s.outs.length : Nat) : Int) + s.acked + s.dropped) && decide (s.came = s.nextSeq)
def stateErr (p : PlanD) (s : StateD) : Int :=
 if checkP p ≠ 0 then checkP p else if 4 < s.takers.length then 2 else if formedB p s = false then 1 else if (limitB p s && heldB s) = false then 3 else if sumB s = false then 10 else 0
theorem stateErr_plan {p : PlanD} {s : StateD} (h : checkP p ≠ 0) : stateErr p s = checkP p := by unfold stateErr; rw [if_pos h]
theorem stateErr_many {p : PlanD} {s : StateD} (h : checkP p = 0) (h1 : 4 < s.takers.length) : stateErr p s = 2 := by unfold stateErr; rw [if_neg (by simp [h]),if_pos h1]
theorem stateErr_form {p : PlanD} {s : StateD} (h : checkP p = 0) (h1 : s.takers.length ≤ 4) (h2 : ¬ Formed p s) : stateErr p s = 1 := by
 unfold stateErr
 rw [if_neg (by simp [h]),if_neg (by omega),if_pos (by rw [← Bool.not_eq_true,formedB_iff]; exact h2)]
theorem stateErr_range {p : PlanD} {s : StateD} (h : checkP p = 0) (h1 : s.takers.length ≤ 4) (h2 : Formed p s) (h3 : (limitB p s && heldB s) = false) : stateErr p s = 3 := by
 unfold stateErr
 rw [if_neg (by simp [h]),if_neg (by omega),if_neg (by rw [formedB_iff.2 h2]; decide),if_pos h3]
theorem stateErr_sum {p : PlanD} {s : StateD} (h : checkP p = 0) (h1 : s.takers.length ≤ 4) (h2 : Formed p s) (h3 : (limitB p s && heldB s) = true) (h4 : sumB s = false) : stateErr p s = 10 := by
 unfold stateErr
 rw [if_neg (by simp [h]),if_neg (by omega),if_neg (by rw [formedB_iff.2 h2]; decide),if_neg (by rw [h3]; decide),if_pos h4]
theorem stateErr_ok {p : PlanD} {s : StateD} (h : checkP p = 0) (h1 : s.takers.length ≤ 4) (h2 : Formed p s) (h3 : (limitB p s && heldB s) = true) (h4 : sumB s = true) : stateErr p s = 0 := by
 unfold stateErr
 rw [if_neg (by simp [h]),if_neg (by omega),if_neg (by rw [formedB_iff.2 h2]; decide),if_neg (by rw [h3]; decide),if_neg (by rw [h4]; decide)]
structure Right (p : PlanD) (s : StateD) : Prop extends Formed p s,Ranged p s where
 plan : checkP p = 0
 many : s.takers.length ≤ 4
 sum : s.came = ((lyingS s : Nat) : Int) + ((s.outs.length : Nat) : Int) + s.acked + s.dropped
 same : s.came = s.nextSeq
theorem right_iff {p : PlanD} {s : StateD} : stateErr p s = 0 ↔ Right p s := by
 constructor
 ·intro h
  by_cases h0 : checkP p = 0
  ·by_cases h1 : s.takers.length ≤ 4
   ·by_cases h2 : Formed p s
    ·cases h3 : (limitB p s && heldB s)
     ·rw [stateErr_range h0 h1 h2 h3] at h; cases h
     ·cases h4 : sumB s
      ·rw [stateErr_sum h0 h1 h2 h3 h4] at h; cases h
      ·rw [Bool.and_eq_true,limitB_iff,heldB_iff] at h3
       simp only [sumB,Bool.and_eq_true,decide_eq_true_eq] at h4
       exact { h2,h3 with limit := h3.1,held := h3.2,plan := h0,many := h1,sum := h4.1,same := h4.2 }
    ·rw [stateErr_form h0 h1 h2] at h; cases h
   ·rw [stateErr_many h0 (by omega)] at h; cases h
  ·rw [stateErr_plan h0] at h; exact absurd h h0
 ·intro h
  exact stateErr_ok h.plan h.many h.toFormed (by rw [Bool.and_eq_true,limitB_iff,heldB_iff]; exact ⟨h.limit,h.held⟩) (by simp only [sumB,Bool.and_eq_true,decide_eq_true_eq]; exact ⟨h.sum,h.same⟩)
theorem seqsR_split {l : List (List ItemD)} {q : Nat} (h : q < l.length) : seqsR l = seqsR (l.take q) ++ (l[q].map (·.seq) ++ seqsR (l.drop (q + 1))) := by
 unfold seqsR
 conv => lhs; rw [← List.take_append_drop q l,List.drop_eq_getElem_cons h]
 rw [List.flatMap_append,List.flatMap_cons]
theorem seqs_split {l : List ItemD} {k : Nat} (h : k < l.length) : l.map (·.seq) = (l.take k).map (·.seq) ++ (l[k].seq :: (l.drop (k + 1)).map (·.seq)) := by
 conv => lhs; rw [← List.take_append_drop k l,List.drop_eq_getElem_cons h]
 rw [List.map_append,List.map_cons]
theorem seqsO_split {l : List OutD} {k : Nat} (h : k < l.length) : seqsO l = seqsO (l.take k) ++ (l[k].item.seq :: seqsO (l.drop (k + 1))) := by
 unfold seqsO
 conv => lhs; rw [← List.take_append_drop k l,List.drop_eq_getElem_cons h]
 rw [List.map_append,List.map_cons]
theorem pre_row {s : StateD} {q k : Nat} (hq : q < s.ready.length) (hk : k < s.ready[q].length) : ((seqsR (s.ready.take q) ++ (s.ready[q].take k).map (·.seq)) ++ [s.ready[q][k].seq]) <+: seqsS s := by
 unfold seqsS
 rw [seqsR_split hq,seqs_split hk]
 exact ⟨(s.ready[q].drop (k + 1)).map (·.seq) ++ seqsR (s.ready.drop (q + 1)) ++ seqsO s.outs,by simp⟩
theorem pre_out {s : StateD} {k : Nat} (hk : k < s.outs.length) : ((seqsR s.ready ++ seqsO (s.outs.take k)) ++ [s.outs[k].item.seq]) <+: seqsS s := by
 unfold seqsS
 rw [seqsO_split hk]
 exact ⟨seqsO (s.outs.drop (k + 1)),by simp⟩
theorem row_step {s : StateD} {q k : Nat} (hq : q < s.ready.length) (hk : k < s.ready[q].length) : (seqsR (s.ready.take q) ++ (s.ready[q].take k).map (·.seq)) ++ [s.ready[q][k].seq] = seqsR (s.ready.take q) ++ (s.ready[q].take (k + 1)).map (·.seq) := by
 rw [List.take_succ_eq_append_getElem hk,List.map_append,List.append_assoc]
 rfl
theorem row_next {s : StateD} {q : Nat} (hq : q < s.ready.length) : seqsR (s.ready.take q) ++ (s.ready[q].take s.ready[q].length).map (·.seq) = seqsR (s.ready.take (q + 1)) := by
 rw [List.take_length,List.take_succ_eq_append_getElem hq]
 unfold seqsR
 rw [List.flatMap_append,List.flatMap_cons,List.flatMap_nil,List.append_nil]
theorem out_step {s : StateD} {k : Nat} (hk : k < s.outs.length) : (seqsR s.ready ++ seqsO (s.outs.take k)) ++ [s.outs[k].item.seq] = seqsR s.ready ++ seqsO (s.outs.take (k + 1)) := by
 rw [List.take_succ_eq_append_getElem hk]
 unfold seqsO
 rw [List.map_append,List.append_assoc]
 rfl
theorem nf_twice {p : PlanD} {s : StateD} {l : List Int} {n : Int} (h : (l ++ [n]) <+: seqsS s) (hn : n ∈ l) : ¬ Formed p s := fun hf => by
 have := h.sublist.nodup hf.nodup
 rw [List.nodup_append] at this
 exact this.2.2 n hn n (by simp) rfl
theorem nf_below {p : PlanD} {s : StateD} {l : List Int} {n : Int} (h : (l ++ [n]) <+: seqsS s) (hn : s.nextSeq ≤ n) : ¬ Formed p s := fun hf => by
 have := hf.below n (h.subset (by simp))
 omega
theorem nf_line {p : PlanD} {s : StateD} {l : List ItemD} (h : l ∈ s.ready) (hl : lineFine l = false) : ¬ Formed p s := fun hf => by
 have := hf.line l h
 rw [hl] at this
 cases this
theorem nf_taker {p : PlanD} {s : StateD} {t : TakerD} (h : t ∈ s.takers) (ht : takerB p.queues.length t = false) : ¬ Formed p s := fun hf => by
 have := hf.taker t h
 rw [ht] at this
 cases this
def lastTag (l : List OutD) (k : Nat) : Int := match k with
 | 0 => -1
 | k + 1 => match l[k]? with | some x => x.tag | none => -1
theorem lastTag_succ {l : List OutD} {k : Nat} (h : k < l.length) : lastTag l (k + 1) = l[k].tag := by
 show (match l[k]? with | some x => x.tag | none => -1) = _
 rw [List.getElem?_eq_getElem h]
theorem nf_order {p : PlanD} {s : StateD} {k : Nat} (h : k < s.outs.length) (ho : s.outs[k].tag ≤ lastTag s.outs k) : ¬ Formed p s := fun hf => by
 cases k with
 | zero =>
  have h0 := hf.out s.outs[0] (List.getElem_mem h)
  have ho' : s.outs[0].tag ≤ -1 := ho
  unfold outB at h0
  simp only [Bool.and_eq_true,decide_eq_true_eq] at h0
  omega
 | succ k =>
  rw [lastTag_succ (by omega)] at ho
  have := (List.pairwise_iff_getElem.1 hf.order) k (k + 1) (by omega) h (by omega)
  omega
theorem tags_rise {l : List OutD} (h : ∀ (k : Nat) (hk : k < l.length),lastTag l k < l[k].tag) : l.Pairwise fun x y => x.tag < y.tag := by
 rw [List.pairwise_iff_getElem]
 intro i j hi hj hij
 induction j with
 | zero => omega
 | succ j ih =>
  have h1 := h (j + 1) hj
  rw [lastTag_succ (by omega)] at h1
  rcases Nat.lt_or_ge i j with h2 | h2
  ·have := ih (by omega) h2; omega
  ·obtain rfl : i = j := by omega
   exact h1
theorem lying_step {l : List (List ItemD)} {q : Nat} (h : q < l.length) : ((l.take (q + 1)).map List.length).sum = ((l.take q).map List.length).sum + l[q].length := by
 rw [List.take_succ_eq_append_getElem h]
 simp only [List.map_append,List.sum_append,List.map_cons,List.map_nil,List.sum_cons,List.sum_nil,Nat.add_zero]
theorem lying_le {l : List (List ItemD)} (q : Nat) : ((l.take q).map List.length).sum ≤ (l.map List.length).sum := by
 conv => rhs; rw [← List.take_append_drop q l]
 rw [List.map_append,List.sum_append]
 omega
def lyK (s : StateD) (k : Nat) : Nat := ((s.ready.take k).map List.length).sum
theorem lyK_step {s : StateD} {q : Nat} (h : q < s.ready.length) : lyK s (q + 1) = lyK s q + s.ready[q].length := lying_step h
theorem lyK_le (s : StateD) (q : Nat) : lyK s q ≤ lyingS s := lying_le q
theorem lyK_all (s : StateD) : lyK s s.ready.length = lyingS s := by unfold lyK lyingS; rw [List.take_length]
theorem seqsR_len (l : List (List ItemD)) : (seqsR l).length = (l.map List.length).sum := by
 unfold seqsR
 rw [List.length_flatMap]
 congr 1
 simp
theorem seqs_lyK (s : StateD) (k : Nat) : (seqsR (s.ready.take k)).length = lyK s k := seqsR_len _
theorem seqsO_len (l : List OutD) : (seqsO l).length = l.length := List.length_map _
theorem list4 (a b c d : Bool) : [a,b,c,d].contains false = !(a && b && c && d) := by cases a <;> cases b <;> cases c <;> cases d <;> rfl
theorem list3 (a b c : Bool) : [a,b,c].contains false = !(a && b && c) := by cases a <;> cases b <;> cases c <;> rfl
theorem list2 (a b : Bool) : [a,b].contains false = !(a && b) := by cases a <;> cases b <;> rfl
theorem taker_list (q : Nat) (t : TakerD) : [decide (-1 ≤ t.queue),decide (t.queue < (q : Int)),decide (1 ≤ t.atOnce),decide (t.atOnce ≤ 4)].contains false = !(takerB q t) := list4 _ _ _ _
theorem out_first {p : PlanD} {s : StateD} {j : Nat} (hj : j < s.outs.length) (hf : Formed p s) :
  [decide (lastTag s.outs j < s.outs[j].tag),decide (s.outs[j].tag < s.nextTag),decide (0 ≤ s.outs[j].taker),decide (s.outs[j].taker < (s.takers.length : Int))].contains false = false := by
 have ho := hf.out _ (List.getElem_mem hj)
 unfold outB at ho
 simp only [Bool.and_eq_true,decide_eq_true_eq] at ho
 have h1 : lastTag s.outs j < s.outs[j].tag := by
  rcases Int.lt_or_le (lastTag s.outs j) s.outs[j].tag with h | h
  ·exact h
  ·exact absurd hf (nf_order hj h)
 rw [list4]
 simp [h1,ho.1.1.1.1.2,ho.1.1.1.2,ho.1.1.2]
theorem out_second {p : PlanD} {s : StateD} {j : Nat} (hj : j < s.outs.length) (ht : s.outs[j].taker.toNat < s.takers.length) (hf : Formed p s) :
  [decide (0 ≤ s.takers[s.outs[j].taker.toNat].queue),s.takers[s.outs[j].taker.toNat].queue == s.outs[j].queue,itemFine s.outs[j].item].contains false = false := by
 have ho := hf.out _ (List.getElem_mem hj)
 unfold outB at ho
 rw [List.getElem?_eq_getElem ht] at ho
 simp only [Bool.and_eq_true,decide_eq_true_eq] at ho
 have hq0 : 0 ≤ s.outs[j].queue := by have := ho.1.2.1; rw [ho.1.2.2] at this; exact this
 rw [list3]
 simp [ho.1.2.2,ho.2,hq0]
theorem out_both {s : StateD} {j : Nat} (hj : j < s.outs.length) (h0 : ∀ q (hq : q < s.outs.length),q < j → 0 ≤ s.outs[q].tag)
  (h1 : [decide (lastTag s.outs j < s.outs[j].tag),decide (s.outs[j].tag < s.nextTag),decide (0 ≤ s.outs[j].taker),decide (s.outs[j].taker < (s.takers.length : Int))].contains false = false) (ht : s.outs[j].taker.toNat < s.takers.length)
  (h2 : [decide (0 ≤ s.takers[s.outs[j].taker.toNat].queue),s.takers[s.outs[j].taker.toNat].queue == s.outs[j].queue,itemFine s.outs[j].item].contains false = false) : outB s s.outs[j] = true := by
 rw [list4] at h1
 rw [list3] at h2
 simp only [Bool.not_eq_false',Bool.and_eq_true,decide_eq_true_eq,beq_iff_eq] at h1 h2
 have h3 : 0 ≤ s.outs[j].tag := by
  have := h1.1.1.1
  cases j with
  | zero => have e : lastTag s.outs 0 = -1 := rfl; omega
  | succ j =>
   rw [lastTag_succ (by omega)] at this
   have := h0 j (by omega) (by omega)
   omega
 unfold outB
 rw [List.getElem?_eq_getElem ht]
 have hq0 : 0 ≤ s.outs[j].queue := by have := h2.1.1; rw [h2.1.2] at this; exact this
 simp [h3,h1.1.1.2,h1.1.2,h1.2,h2.1.2,h2.2,hq0]
theorem w64 {x : Int} (h1 : -9223372036854775808 ≤ x) (h2 : x ≤ 9223372036854775807) : RowKit.wrap64 x = x := by unfold RowKit.wrap64; omega
theorem sum_list (s : StateD) : [s.came == (lyK s s.ready.length : Int) + (s.outs.length : Int) + s.acked + s.dropped,s.came == s.nextSeq].contains false = !(sumB s) := by
 rw [list2,lyK_all]
 rfl
theorem sum_wraps {s : StateD} (ha : countB s.acked = true) (hd : countB s.dropped = true) (hl : lyingS s ≤ 1048576) (ho : s.outs.length ≤ 1048576) :
  RowKit.wrap64 ((lyK s s.ready.length : Int) + (s.outs.length : Int)) = (lyK s s.ready.length : Int) + (s.outs.length : Int) ∧ RowKit.wrap64 ((lyK s s.ready.length : Int) + (s.outs.length : Int) + s.acked) = (lyK s s.ready.length : Int) + (s.outs.length : Int) + s.acked ∧
   RowKit.wrap64 ((lyK s s.ready.length : Int) + (s.outs.length : Int) + s.acked + s.dropped) = (lyK s s.ready.length : Int) + (s.outs.length : Int) + s.acked + s.dropped := by
 unfold countB at ha hd
 simp only [Bool.and_eq_true,decide_eq_true_eq] at ha hd
 rw [lyK_all]
 exact ⟨w64 (by omega) (by omega),w64 (by omega) (by omega),w64 (by omega) (by omega)⟩
theorem nr_limit {p : PlanD} {s : StateD} {q : Nat} (h1 : q < s.ready.length) (h2 : q < p.queues.length) (h : p.queues[q].limit < (s.ready[q].length : Int)) : (limitB p s && heldB s) = false := by
 have : limitB p s = false := by
  rw [← Bool.not_eq_true,limitB_iff]
  intro hh
  have := hh q _ _ (List.getElem?_eq_getElem h1) (List.getElem?_eq_getElem h2)
  omega
 rw [this]; rfl
theorem nr_held {p : PlanD} {s : StateD} {k : Nat} (h1 : k < s.takers.length) (h : s.takers[k].atOnce < (heldS s k : Int)) : (limitB p s && heldB s) = false := by
 have : heldB s = false := by
  rw [← Bool.not_eq_true,heldB_iff]
  intro hh
  have := hh k _ (List.getElem?_eq_getElem h1)
  omega
 rw [this,Bool.and_false]
open Go.RowKit
set_option maxRecDepth 100000
structure CkIn (w : World) (p : PlanD) (s : StateD) (p1 p2 p3 a1 a2 a3 : Option Addr) (q1 q2 q3 c1 c2 c3 : Nat) (rows : List RowD) (W : World) : Prop where
 plan : W.cell? ⟨w.heap.size,0,none⟩ = some (.slice p1 p.posts.length q1) ∧ W.cell? ⟨w.heap.size,1,none⟩ = some (.slice p2 p.queues.length q2) ∧ W.cell? ⟨w.heap.size,2,none⟩ = some (.slice p3 p.binds.length q3)
 state : W.cell? ⟨w.heap.size + 1,0,none⟩ = some (.slice a1 s.ready.length c1) ∧ W.cell? ⟨w.heap.size + 1,1,none⟩ = some (.slice a2 s.outs.length c2) ∧ W.cell? ⟨w.heap.size + 1,2,none⟩ = some (.slice a3 s.takers.length c3) ∧
  W.cell? ⟨w.heap.size + 1,3,none⟩ = some (.int .i64 s.nextSeq) ∧ W.cell? ⟨w.heap.size + 1,4,none⟩ = some (.int .i64 s.nextTag) ∧ W.cell? ⟨w.heap.size + 1,5,none⟩ = some (.int .i64 s.came) ∧ W.cell? ⟨w.heap.size + 1,6,none⟩ = some (.int .i64 s.acked) ∧ W.cell? ⟨w.heap.size + 1,7,none⟩ = some (.int .i64 s.dropped)
 below : Below w.heap.size w W
 env : Env W
 planAt : PlanAt W 0 W.heap.size p1 p2 p3 p
 stateAt : StateAt W 0 W.heap.size a1 a2 a3 rows s
theorem two_boxes {w : World} {p : PlanD} {s : StateD} {p1 p2 p3 a1 a2 a3 : Option Addr} {rows : List RowD} (q1 q2 q3 c1 c2 c3 : Nat) (hE : Env w) (hp : PlanAt w 0 w.heap.size p1 p2 p3 p) (hs : StateAt w 0 w.heap.size a1 a2 a3 rows s) (t1 t2 : TypeId) (W : World)
  (hW : Below ((w.alloc (.cells #[.slice p1 p.posts.length q1,.slice p2 p.queues.length q2,.slice p3 p.binds.length q3] t1)).alloc (.cells (vState s a1 a2 a3 c1 c2 c3) t2)).heap.size ((w.alloc (.cells #[.slice p1 p.posts.length q1,.slice p2 p.queues.length q2,.slice p3 p.binds.length q3] t1)).alloc (.cells (vState s a1 a2 a3 c1 c2 c3) t2)) W) :
  CkIn w p s p1 p2 p3 a1 a2 a3 q1 q2 q3 c1 c2 c3 rows W := by
 generalize hA : w.alloc (.cells #[.slice p1 p.posts.length q1,.slice p2 p.queues.length q2,.slice p3 p.binds.length q3] t1) = wA at hW
 have hsA : wA.heap.size = w.heap.size + 1 := by rw [← hA]; simp
 have kA : Bk wA w.heap.size t1 #[.slice p1 p.posts.length q1,.slice p2 p.queues.length q2,.slice p3 p.binds.length q3] := by rw [← hA]; exact Bk.new _ _ _
 have bA : Below w.heap.size w wA := by rw [← hA]; exact (Below.refl _ _).alloc (Nat.le_refl _) _
 have kB := Bk.new wA t2 (vState s a1 a2 a3 c1 c2 c3)
 have bB : Below wA.heap.size wA (wA.alloc (.cells (vState s a1 a2 a3 c1 c2 c3) t2)) := (Below.refl _ _).alloc (Nat.le_refl _) _
 have hsB : (wA.alloc (.cells (vState s a1 a2 a3 c1 c2 c3) t2)).heap.size = wA.heap.size + 1 := by simp
 have bW := bB.trans (hW.mono bB.size)
 have k1 := kA.below bW (by omega)
 have k2 := kB.below hW (by omega)
 rw [hsA] at k2
 have bw : Below w.heap.size w W := bA.trans (bW.mono (by omega))
 refine ⟨⟨?_,?_,?_⟩,⟨k2.cell 0,k2.cell 1,k2.cell 2,k2.cell 3,k2.cell 4,k2.cell 5,k2.cell 6,k2.cell 7⟩,bw,below_env bw hE,(hp.below bw (Nat.le_refl _)).wider (Nat.le_refl _) bw.size,(hs.below bw (Nat.le_refl _)).wider (Nat.le_refl _) bw.size⟩
 ·have := k1.cell 0; simpa using this
 ·have := k1.cell 1; simpa using this
 ·have := k1.cell 2; simpa using this
theorem taker_cells {wr : World} {b o k : Nat} {x : TakerD} (hc : ∀ j u,(vTaker x)[j]? = some u → wr.cell? ⟨b,o + k * 2 + j,none⟩ = some u) :
  wr.cell? ⟨b,o + k * 2,none⟩ = some (.int .i64 x.queue) ∧ wr.cell? ⟨b,o + k * 2 + 1,none⟩ = some (.int .i64 x.atOnce) := ⟨hc 0 _ rfl,hc 1 _ rfl⟩
theorem kb_alloc {Wr W : World} {D : Prop} (h : D ∧ Below Wr.heap.size Wr W) (o : Obj) : Below Wr.heap.size Wr (W.alloc o) := h.2.alloc h.2.size o
open Go.RowKit
set_option maxRecDepth 100000
def IndexBRel (bs : List Bool) (b : Bool) (w : World) (i : Value) (wr : World) : Prop := ∃ k : Nat,k ≤ bs.length ∧ i = .int .i64 k ∧ (∀ j x,j < k → bs[j]? = some x → (b == x) = false) ∧ wr = w
theorem find_none {bs : List Bool} {b : Bool} (h : ∀ j x,j < bs.length → bs[j]? = some x → (b == x) = false) : bs.contains b = false := by
 rw [← Bool.not_eq_true,List.contains_iff_mem]
 intro hm
 obtain ⟨j,hj⟩ := List.getElem?_of_mem hm
 have := h j b (List.getElem?_eq_some_iff.1 hj).1 hj
 simp at this
theorem find_some {bs : List Bool} {b x : Bool} {k : Nat} (h : bs[k]? = some x) (e : (b == x) = true) : bs.contains b = true := by
 rw [List.contains_iff_mem,beq_iff_eq.1 e]
 exact List.mem_of_getElem? h
set_option maxHeartbeats 400000 in
theorem IndexB_any (a : Option Addr) (c : Nat) (bs : List Bool) (b : Bool) (lo : Nat) (w : World) (hl : Sl w lo w.heap.size a (bs.map Value.bool)) (hll : bs.length ≤ 1000) :
  Calls Tryz.prog 152 #[.slice a bs.length c,.bool b] w fun e w' => ∃ i : Int,e = .returned (.int .i64 i) ∧ decide (0 ≤ i) = bs.contains b ∧ w' = w := by
 have HL := Lib.hid hl; clear hl
 go_enter Tryz.func152,Tryz.ntmps152
 go_wp2_with fail
 go_loopw [8] (fun i wr => IndexBRel bs b w i wr) (fun i _ => bs.length - (intOf i).toNat)
 case atStart => exact ⟨0,by omega,rfl,fun j x hj => absurd hj (by omega),rfl⟩
 case round =>
  obtain ⟨k,hk,rfl,hall,rfl⟩ := hrel
  have HA := Lib.hid hall; clear hall
  by_cases hlt : k < bs.length
  ·obtain ⟨g,o,rfl,_,hb,hc⟩ := HL.out.at_ (k := k) (by simpa using hlt)
   have e0 : wr.cell? ⟨g,o + k,none⟩ = some (.bool bs[k]) := hc k _ (by simp [hlt])
   have HG := Lib.hid (List.getElem?_eq_getElem hlt)
   clear hc
   generalize bs[k] = x at *
   cases hq : (b == x)
   ·go_wp2_with fail
    exact ⟨⟨k + 1,hlt,by go_num,fun j y hj hy => by
     rcases Nat.lt_or_ge j k with h | h
     ·exact HA.out j y h hy
     ·obtain rfl : j = k := by omega
      rw [HG.out] at hy
      cases hy
      exact hq,rfl⟩,by simp [intOf]; omega⟩
   ·have HR := Lib.hid (find_some HG.out hq)
    go_wp2_with fail
    go_ret
    exact ⟨_,rfl,by rw [HR.out]; simp,rfl⟩
  ·obtain rfl : k = bs.length := by omega
   have HR := Lib.hid (find_none HA.out)
   go_wp2_with fail
   go_ret
   exact ⟨_,rfl,by rw [HR.out]; rfl,rfl⟩
set_option maxHeartbeats 400000 in
theorem ContainsB_any (a : Option Addr) (c : Nat) (bs : List Bool) (b : Bool) (lo : Nat) (w : World) (hl : Sl w lo w.heap.size a (bs.map Value.bool)) (hll : bs.length ≤ 1000) :
  Calls Tryz.prog 124 #[.slice a bs.length c,.bool b] w fun e w' => e = .returned (.bool (bs.contains b)) ∧ w' = w := by
 have HI := Lib.hid (IndexB_any a c bs b lo w hl hll); clear hl
 go_enter Tryz.func124,Tryz.ntmps124
 go_wp2_with fail
 refine HI.out.mono ?_
 rintro e w1 ⟨i,rfl,hi,rfl⟩
 have H := Lib.hid hi; clear hi
 go_wp2_with fail
 go_ret
 exact ⟨by rw [← H.out]; rfl,rfl⟩
def refusedE (e : Int) : PanicEntry := { v := .iface 106 (.agg #[.int .i64 e]),recovered := false }
set_option maxHeartbeats 400000 in
theorem must_ok (e : Int) (a : Option Addr) (c : Nat) (bs : List Bool) (lo : Nat) (w : World) (hl : Sl w lo w.heap.size a (bs.map Value.bool)) (hll : bs.length ≤ 1000) (hb : bs.contains false = false) :
  Calls Tryz.prog 74 #[.int .i64 e,.slice a bs.length c] w fun en w' => en = .returned (.tuple #[]) ∧ w' = w := by
 have HC := ContainsB_any a c bs false lo w hl hll
 rw [hb] at HC
 have HC' := Lib.hid HC; clear HC hl
 go_enter Tryz.func74,Tryz.ntmps74
 go_wp2_with fail
 refine HC'.out.mono ?_
 rintro en w1 ⟨rfl,rfl⟩
 go_wp2_with fail
 go_end0
 exact ⟨rfl,rfl⟩
set_option maxHeartbeats 400000 in
theorem must_no (e : Int) (a : Option Addr) (c : Nat) (bs : List Bool) (lo : Nat) (w : World) (hl : Sl w lo w.heap.size a (bs.map Value.bool)) (hll : bs.length ≤ 1000) (hb : bs.contains false = true) :
  Calls Tryz.prog 74 #[.int .i64 e,.slice a bs.length c] w fun en w' => en = .panicked [refusedE e] ∧ w' = w := by
 have HC := ContainsB_any a c bs false lo w hl hll
 rw [hb] at HC
 have HC' := Lib.hid HC; clear HC hl
 go_enter Tryz.func74,Tryz.ntmps74
 go_wp2_with fail
 refine HC'.out.mono ?_
 rintro en w1 ⟨rfl,rfl⟩
 go_wp2_with fail
 exact ⟨rfl,rfl,rfl⟩
set_option maxHeartbeats 400000 in
theorem count_any (n : Int) (w : World) : Calls Tryz.prog 75 #[.int .i64 n] w fun e w' => e = .returned (.bool (countB n)) ∧ w' = w := by
 unfold countB
 by_cases h1 : 0 ≤ n <;> by_cases h2 : n ≤ 1048576
 all_goals
  go_enter Tryz.func75,Tryz.ntmps75
  go_wp2_with fail
  go_ret
  exact ⟨by simp [h1,h2],rfl⟩
def BoxedS (w W0 : World) (s : StateD) (a1 a2 a3 : Option Addr) (c1 c2 c3 : Nat) : Prop := ∀ W,Below W0.heap.size W0 W →
 (W.cell? ⟨w.heap.size,0,none⟩ = some (.slice a1 s.ready.length c1) ∧ W.cell? ⟨w.heap.size,1,none⟩ = some (.slice a2 s.outs.length c2) ∧ W.cell? ⟨w.heap.size,2,none⟩ = some (.slice a3 s.takers.length c3) ∧
  W.cell? ⟨w.heap.size,3,none⟩ = some (.int .i64 s.nextSeq) ∧ W.cell? ⟨w.heap.size,4,none⟩ = some (.int .i64 s.nextTag) ∧ W.cell? ⟨w.heap.size,5,none⟩ = some (.int .i64 s.came) ∧ W.cell? ⟨w.heap.size,6,none⟩ = some (.int .i64 s.acked) ∧ W.cell? ⟨w.heap.size,7,none⟩ = some (.int .i64 s.dropped)) ∧ Below w.heap.size w W
theorem boxedS_new (w : World) (s : StateD) (a1 a2 a3 : Option Addr) (c1 c2 c3 : Nat) (t : TypeId) : BoxedS w (w.alloc (.cells (vState s a1 a2 a3 c1 c2 c3) t)) s a1 a2 a3 c1 c2 c3 := fun W hW => by
 have hb := (Bk.new w t (vState s a1 a2 a3 c1 c2 c3)).below hW (by simp)
 refine ⟨⟨hb.cell 0,hb.cell 1,hb.cell 2,hb.cell 3,hb.cell 4,hb.cell 5,hb.cell 6,hb.cell 7⟩,((Below.refl _ w).alloc (Nat.le_refl _) _).trans (hW.mono (by simp))⟩
theorem out_cells {wr : World} {b o k : Nat} {x : OutD} (hc : ∀ j u,(vOut x)[j]? = some u → wr.cell? ⟨b,o + k * 8 + j,none⟩ = some u) :
  wr.cell? ⟨b,o + k * 8,none⟩ = some (.int .i64 x.tag) ∧ wr.cell? ⟨b,o + k * 8 + 1,none⟩ = some (.int .i64 x.taker) ∧ wr.cell? ⟨b,o + k * 8 + 2,none⟩ = some (.int .i64 x.queue) ∧ wr.cell? ⟨b,o + k * 8 + 3,none⟩ = some (.int .i64 x.item.seq) ∧
   wr.cell? ⟨b,o + k * 8 + 4,none⟩ = some (.string x.item.key) ∧ wr.cell? ⟨b,o + k * 8 + 5,none⟩ = some (.string x.item.body) ∧ wr.cell? ⟨b,o + k * 8 + 6,none⟩ = some (.bool x.item.again) ∧ wr.cell? ⟨b,o + k * 8 + 7,none⟩ = some (.int .i64 x.item.deaths) :=
 ⟨hc 0 _ rfl,hc 1 _ rfl,hc 2 _ rfl,hc 3 _ rfl,hc 4 _ rfl,hc 5 _ rfl,hc 6 _ rfl,hc 7 _ rfl⟩
def heldN (l : List OutD) (t : Int) : Nat := l.countP fun x => decide (x.taker = t)
theorem held_step {l : List OutD} {t : Int} {k : Nat} (h : k < l.length) : heldN (l.take (k + 1)) t = heldN (l.take k) t + if l[k].taker = t then 1 else 0 := by
 unfold heldN
 rw [List.take_succ_eq_append_getElem h,List.countP_append]
 simp [List.countP_cons]
theorem held_le (l : List OutD) (t : Int) (k : Nat) : heldN (l.take k) t ≤ k := by
 unfold heldN
 exact Nat.le_trans List.countP_le_length (by rw [List.length_take]; omega)
def OfRel (l : List OutD) (t : Int) (W0 : World) (n i : Value) (wr : World) : Prop := ∃ k : Nat,k ≤ l.length ∧ i = .int .i64 k ∧ n = .int .i64 (heldN (l.take k) t) ∧ Below W0.heap.size W0 wr
set_option maxHeartbeats 1000000 in
theorem Of_any (s : StateD) (a1 a2 a3 : Option Addr) (c1 c2 c3 : Nat) (t : Int) (lo : Nat) (w : World) (ho : Sl w lo w.heap.size a2 (s.outs.flatMap vOut)) (hl : s.outs.length ≤ 1048576) :
  Calls Tryz.prog 79 #[stateV s a1 a2 a3 c1 c2 c3,.int .i64 t] w fun e w' => e = .returned (.int .i64 (heldS s t)) ∧ Below w.heap.size w w' := by
 have hbx := boxedS_new w s a1 a2 a3 c1 c2 c3 31
 have ho0 := (ho.below ((Below.refl _ w).alloc (Nat.le_refl _) (.cells (vState s a1 a2 a3 c1 c2 c3) 31)) (Nat.le_refl _)).wider (lo' := 0) (hi' := (w.alloc (.cells (vState s a1 a2 a3 c1 c2 c3) 31)).heap.size) (Nat.zero_le _) (by simp)
 have HO := Lib.hid ho0
 have HF : Hid (heldN s.outs t = heldS s t) := (rfl : heldN s.outs t = heldS s t)
 have hbb : Hid (BoxedS w (w.alloc (.cells (vState s a1 a2 a3 c1 c2 c3) 31)) s a1 a2 a3 c1 c2 c3) := hbx
 clear hbx ho ho0
 unfold stateV
 unfold vState at *
 go_enter Tryz.func79,Tryz.ntmps79
 obtain ⟨⟨f0,f1,f2,f3,f4,f5,f6,f7⟩,_⟩ := hbb.out _ (Below.refl _ _)
 go_wp2_with fail
 generalize w.alloc (.cells #[Value.slice a1 s.ready.length c1,Value.slice a2 s.outs.length c2,Value.slice a3 s.takers.length c3,Value.int IntKind.i64 s.nextSeq,Value.int IntKind.i64 s.nextTag,Value.int IntKind.i64 s.came,Value.int IntKind.i64 s.acked,Value.int IntKind.i64 s.dropped] 31) = W0 at *
 clear f0 f1 f2 f3 f4 f5 f6 f7
 generalize hou : s.outs = l at *
 go_loopw [5,11] (fun n i wr => OfRel l t W0 n i wr) (fun _ i _ => l.length - (intOf i).toNat)
 case atStart => exact ⟨0,by omega,rfl,rfl,Below.refl _ _⟩
 case round =>
  obtain ⟨k,hk,rfl,rfl,hB⟩ := hrel
  have HB := Lib.hid hB
  have hh := held_le l t k
  generalize hN : heldN (l.take k) t = N at *
  by_cases hlt : k < l.length
  ·obtain ⟨b,o,ha,_,hb,hc⟩ := sl_elem vOut_len (by decide) HO.out hlt
   subst ha
   obtain ⟨e0,e1,e2,e3,e4,e5,e6,e7⟩ := out_cells (wr := wr) (b := b) (o := o) (k := k) (x := l[k]) fun j u hu => (hB.cell (p := ⟨b,_,none⟩) hb).trans (hc j u hu)
   have HST := Lib.hid (held_step (t := t) hlt)
   rw [hN] at HST
   have HN := Lib.hid hN
   clear hc hB hN
   generalize l[k] = x at *
   by_cases hq : x.taker = t
   ·have hqb : (x.taker == t) = true := by simp [hq]
    rw [if_pos hq] at HST
    clear hq
    go_wp2_with fail
    exact ⟨⟨k + 1,hlt,by go_num,by rw [HST.out]; go_num,(HB.out.alloc HB.out.size _)⟩,by simp [intOf]; omega⟩
   ·have hqb : (x.taker == t) = false := by simp [hq]
    rw [if_neg hq] at HST
    clear hq
    go_wp2_with fail
    exact ⟨⟨k + 1,hlt,by go_num,by rw [HST.out]; rfl,(HB.out.alloc HB.out.size _)⟩,by simp [intOf]; omega⟩
  ·obtain rfl : k = l.length := by omega
   have hF : N = heldS s t := by rw [← hN,List.take_length,← HF.out]
   have HFN := Lib.hid hF
   clear hB hF hN
   go_wp2_with fail
   go_ret
   exact ⟨by rw [HFN.out]; rfl,(hbb.out _ HB.out).2⟩
open Go.RowKit
set_option maxRecDepth 100000
open Go.Maps in
def SeenD (D : DataW Unit) (l : List Int) : Prop := Tidy D ∧ (∀ n : Int, has D (.int .i64 n) = true ↔ n ∈ l) ∧ ∀ n ∈ l, D.atKey (.int .i64 n) (.lit (.int .i64 0)) = .lit (.int .i64 1)
theorem intKey (n : Int) : WideAt.IsKeyLit (.int .i64 n) := trivial
theorem int_ne {a b : Int} (h : a ≠ b) : Lit.int .i64 a ≠ Lit.int .i64 b := fun e => h (by simpa using e)
open Go.Maps in
theorem seen_empty : SeenD (.map []) [] := ⟨tidy_empty, fun n => by simp [has], fun n h => by cases h⟩
open Go.Maps in
theorem seen_look {D : DataW Unit} {l : List Int} (h : SeenD D l) {s c : Int} (hc : D.atKey (.int .i64 s) (.lit (.int .i64 0)) = .lit (.int .i64 c)) : (s ∉ l → c = 0) ∧ (s ∈ l → c = 1) := by
  constructor
  · intro hs
    rw [atKey_of_not_has (by rw [← Bool.not_eq_true]; exact mt (h.2.1 s).1 hs)] at hc
    simpa using hc.symm
  · intro hs
    rw [h.2.2 s hs] at hc
    simpa using hc.symm
open Go.Maps in
theorem seen_put {D : DataW Unit} {l : List Int} (h : SeenD D l) (s : Int) : SeenD (D.put (.int .i64 s) (.lit (.int .i64 1))) (l ++ [s]) := by
  refine ⟨h.1.put (intKey _) _, fun n => ?_, fun n hn => ?_⟩
  · by_cases e : n = s
    · subst e
      rw [has_put_same h.1.isMap (intKey _)]
      simp
    · rw [has_put_other (int_ne e), h.2.1 n]
      simp [e]
  · by_cases e : n = s
    · subst e
      rw [atKey_put_same h.1.isMap (intKey _)]
    · rw [atKey_put_other (int_ne e)]
      have : n ∈ l := by simpa [e] using hn
      exact h.2.2 n this
open Go.Maps Go.WideMaps in
structure SeenAt (ns : Int) (w : World) (m g : Nat) (l : List Int) : Prop where
  var : w.cell? ⟨m, 0, none⟩ = some (.map (some g))
  map : ∃ D : DataW Unit, w.ownsMap Tryz.prog 3 (plainElem Tryz.prog 3) g l.length D ∧ SeenD D l
  nodup : l.Nodup
  low : ∀ n ∈ l, n < ns
theorem SeenAt.grown {ns : Int} {w w' : World} {m g : Nat} {l : List Int} (h : SeenAt ns w m g l) (hg : w.grownBy w' none) : SeenAt ns w' m g l := by
  obtain ⟨D, hm, hs⟩ := h.map
  refine ⟨?_, ⟨D, hm.kept hg (by simp), hs⟩, h.nodup, h.low⟩
  have hlt : m < w.heap.size := World.block_lt_of_cell? w _ h.var
  exact (World.cell?_of_block (hg.block m hlt (by simp))).trans h.var
theorem SeenAt.below {ns : Int} {w w' : World} {m g : Nat} {l : List Int} (h : SeenAt ns w m g l) (hb : Below w.heap.size w w') : SeenAt ns w' m g l := h.grown (⟨hb.os, hb.tape, hb.output, hb.size, fun k hk _ => hb.block k hk⟩)
theorem i64wf {n : Int} (h1 : -9223372036854775808 ≤ n) (h2 : n ≤ 9223372036854775807) : (Lit.int .i64 n).wf = true := by
  simp only [Lit.wf, IntKind.min, IntKind.max, IntKind.signed, IntKind.bits, Bool.and_eq_true, decide_eq_true_eq, if_true]
  omega
theorem grown_cell {w w' : World} {g : Nat} {p : Addr} {u : Value} (hg : w.grownBy w' (some g)) (h : w.cell? p = some u) (hne : p.block ≠ g) : w'.cell? p = some u :=
  (World.cell?_of_block (hg.block p.block (World.block_lt_of_cell? w p h) (fun e => hne (by simpa using e)))).trans h
theorem sl_bools {w W : World} {t : TypeId} {cs : Array Value} {bs : List Bool} (hu : bs.map Value.bool = cs.toList) (h : Below (w.heap.size + 1) (w.alloc (.cells cs t)) W) : Sl W 0 W.heap.size (some ⟨w.heap.size, 0, none⟩) (bs.map Value.bool) :=
  sl_of_bk ((Bk.new w t cs).below h (by omega)) (Nat.zero_le _) (by have := h.size; simp at this; omega) hu
theorem must_ok2 {e : Int} {w0 : World} {cs : Array Value} {n : Nat} (bs : List Bool) (hcs : cs = (bs.map Value.bool).toArray) (hn : n = bs.length) (hb : bs.contains false = false) (hl : bs.length ≤ 1000) :
    Calls Tryz.prog 74 #[.int .i64 e, .slice (some ⟨w0.heap.size, 0, none⟩) n n] (w0.alloc (.cells cs 4)) fun en w' => en = .returned (.tuple #[]) ∧ w' = w0.alloc (.cells cs 4) := by
  subst hcs hn
  exact must_ok e _ _ bs 0 _ (sl_bools rfl (Below.refl _ _)) hl hb
theorem must_no2 {e : Int} {w0 : World} {cs : Array Value} {n : Nat} (bs : List Bool) (hcs : cs = (bs.map Value.bool).toArray) (hn : n = bs.length) (hb : bs.contains false = true) (hl : bs.length ≤ 1000) :
    Calls Tryz.prog 74 #[.int .i64 e, .slice (some ⟨w0.heap.size, 0, none⟩) n n] (w0.alloc (.cells cs 4)) fun en w' => en = .panicked [refusedE e] ∧ w' = w0.alloc (.cells cs 4) := by
  subst hcs hn
  exact must_no e _ _ bs 0 _ (sl_bools rfl (Below.refl _ _)) hl hb
theorem must_ok2d {e : Int} {w0 : World} {cs : Array Value} {n : Nat} (bs : List Bool) (hcs : cs = (bs.map Value.bool).toArray) (hn : n = bs.length) (hb : bs.contains false = false) (hl : bs.length ≤ 1000) :
    Calls Tryz.prog 74 #[.int .i64 e, .slice (some ⟨w0.heap.size, 0, none⟩) n n] (w0.alloc (.cells cs 4)).drew fun en w' => en = .returned (.tuple #[]) ∧ w' = (w0.alloc (.cells cs 4)).drew := by
  subst hcs hn
  exact must_ok e _ _ bs 0 _ (show Sl (w0.alloc (.cells (bs.map Value.bool).toArray 4)).drew 0 (w0.alloc (.cells (bs.map Value.bool).toArray 4)).drew.heap.size _ _ from sl_bools (w := w0) (W := w0.alloc (.cells (bs.map Value.bool).toArray 4)) (t := 4) (cs := (bs.map Value.bool).toArray) rfl (Below.refl _ _)) hl hb
theorem must_no2d {e : Int} {w0 : World} {cs : Array Value} {n : Nat} (bs : List Bool) (hcs : cs = (bs.map Value.bool).toArray) (hn : n = bs.length) (hb : bs.contains false = true) (hl : bs.length ≤ 1000) :
    Calls Tryz.prog 74 #[.int .i64 e, .slice (some ⟨w0.heap.size, 0, none⟩) n n] (w0.alloc (.cells cs 4)).drew fun en w' => en = .panicked [refusedE e] ∧ w' = (w0.alloc (.cells cs 4)).drew := by
  subst hcs hn
  exact must_no e _ _ bs 0 _ (show Sl (w0.alloc (.cells (bs.map Value.bool).toArray 4)).drew 0 (w0.alloc (.cells (bs.map Value.bool).toArray 4)).drew.heap.size _ _ from sl_bools (w := w0) (W := w0.alloc (.cells (bs.map Value.bool).toArray 4)) (t := 4) (cs := (bs.map Value.bool).toArray) rfl (Below.refl _ _)) hl hb
open Go.Maps Go.WideMaps in
set_option maxHeartbeats 2000000 in
theorem see_ok (x : ItemD) (m g st : Nat) (l : List Int) (ns : Int) (w : World) (hS : SeenAt ns w m g l) (hst : w.cell? ⟨st, 3, none⟩ = some (.int .i64 ns)) (hm : m ≠ g) (hg : st ≠ g) (hx1 : -9223372036854775808 ≤ x.seq) (hx2 : x.seq ≤ 9223372036854775807) (hll : l.length ≤ 1073741824) (hnot : x.seq ∉ l) (hlt : x.seq < ns) :
    Calls Tryz.prog 76 #[.agg (vItem x).toArray, .pointer (some ⟨m, 0, none⟩), .pointer (some ⟨st, 0, none⟩)] w fun e w' => e = .returned (.tuple #[]) ∧ SeenAt ns w' m g (l ++ [x.seq]) ∧ w.grownBy w' (some g) := by
  obtain ⟨hvar, ⟨D, hown, hsd⟩, hnd, hlo⟩ := hS
  unfold vItem
  obtain ⟨seq, key, body, again, deaths⟩ := x
  simp only at hx1 hx2 hnot hlt ⊢
  have hkey : keyOf Tryz.prog 3 (.int .i64 seq) = some (.int .i64 seq) := keyOf_int_mk Tryz.underlying3 (i64wf hx1 hx2)
  have hgl := hown.lt
  have hml : m < w.heap.size := World.block_lt_of_cell? w _ hvar
  have hsl : st < w.heap.size := World.block_lt_of_cell? w _ hst
  obtain ⟨w0, hw0⟩ : ∃ w0, w.alloc (.cells #[.int .i64 seq, .string key, .string body, .bool again, .int .i64 deaths] 52) = w0 := ⟨_, rfl⟩
  have hgr : w.grownBy w0 none := by rw [← hw0]; exact World.grownBy_alloc w _ none
  have hgs : w.grownBy w0 (some g) := by rw [← hw0]; exact World.grownBy_alloc w _ _
  have hown0 : w0.ownsMap Tryz.prog 3 (plainElem Tryz.prog 3) g l.length D := hown.kept hgr (by simp)
  have hv0 : w0.cell? ⟨m, 0, none⟩ = some (.map (some g)) := (World.cell?_of_block (hgr.block m hml (by simp))).trans hvar
  have hs0 : w0.cell? ⟨st, 3, none⟩ = some (.int .i64 ns) := (World.cell?_of_block (hgr.block st hsl (by simp))).trans hst
  have hk0 : Bk w0 w.heap.size 52 #[.int .i64 seq, .string key, .string body, .bool again, .int .i64 deaths] := by rw [← hw0]; exact Bk.new w _ _
  have hx0 : w0.cell? ⟨w.heap.size, 0, none⟩ = some (.int .i64 seq) := by have := hk0.cell 0; simpa using this
  have HO := Lib.hid hown0
  have HK := Lib.hid hkey
  have HSD := Lib.hid hsd
  have HGR := Lib.hid hgs
  have hgw : w.heap.size ≠ g := by omega
  have HC : Hid (w0.cell? ⟨m, 0, none⟩ = some (.map (some g)) ∧ w0.cell? ⟨st, 3, none⟩ = some (.int .i64 ns) ∧ w0.cell? ⟨w.heap.size, 0, none⟩ = some (.int .i64 seq)) := (⟨hv0, hs0, hx0⟩ : _ ∧ _ ∧ _)
  have HNOT := Lib.hid hnot
  have hltb : (decide (seq < ns)) = true := by simp [hlt]
  have hnd2 : (l ++ [seq]).Nodup := by
    rw [List.nodup_append]
    exact ⟨hnd, by simp, fun a ha b hb e => by rw [List.mem_singleton.1 hb] at e; rw [e] at ha; exact hnot ha⟩
  have hlo2 : ∀ n ∈ l ++ [seq], n < ns := fun n hn => by
    rcases List.mem_append.1 hn with h | h
    · exact hlo n h
    · rw [List.mem_singleton.1 h]; exact hlt
  have HND := Lib.hid (And.intro hnd2 hlo2)
  clear hnd hlo hnd2 hlo2
  clear hown hown0 hkey hsd hnot hgr hgs hk0 hvar hst hlt
  go_enter Tryz.func76, Tryz.ntmps76
  go_wp2_with (first
    | (at_lookup; refine wpList_lookup_own_int _ rfl _ _ 110 rfl 3 3 .i64 (int_keyed Tryz.underlying3) Tryz.underlying110 Tryz.underlying3 (by kernel_rfl) _ _ D rfl HO.out _ _ rfl HK.out ?_; intro cnt hat hwc; obtain rfl := (seen_look HSD.out hat).1 HNOT.out; clear hat hwc)
    | (at_mapUpdate; refine wpList_mapUpdate_own _ rfl _ _ _ 110 rfl 3 3 (int_keyed Tryz.underlying3) Tryz.underlying110 _ _ l.length D rfl HO.out (by unfold maxLen; omega) _ _ _ rfl rfl HK.out _ [] (plainElem_int Tryz.underlying3 (by decide)) ?_; intro w1 hown1 hgrow1; have HO1 := Lib.hid hown1; have HG1 := Lib.hid hgrow1; clear hown1 hgrow1
       obtain ⟨c0, c1, c2⟩ := HC.out; have d0 := grown_cell HG1.out c0 hm; have d1 := grown_cell HG1.out c1 hg; have d2 := grown_cell HG1.out c2 hgw; clear c0 c1 c2)
    | (at_lookup; refine wpList_lookup_own_int _ rfl _ _ 110 rfl 3 3 .i64 (int_keyed Tryz.underlying3) Tryz.underlying110 Tryz.underlying3 (by kernel_rfl) _ _ _ rfl HO1.out _ _ rfl HK.out ?_; intro cnt hat hwc; rw [atKey_put_same HSD.out.1.isMap (intKey _)] at hat; obtain rfl : 1 = cnt := by simpa using hat
       clear hat hwc))
  refine (must_ok 1 (some ⟨w1.heap.size, 0, none⟩) 2 [true, true] 0 _ (sl_bools rfl (Below.refl _ _)) (by decide) (by decide)).mono ?_
  rintro e w2 ⟨rfl, rfl⟩
  go_wp2_with fail
  go_end0
  have hal : w1.grownBy (w1.alloc (.cells #[Value.bool true, Value.bool true] 4)) none := World.grownBy_alloc _ _ _
  refine ⟨rfl, ⟨?_, ⟨_, ?_, seen_put HSD.out seq⟩, HND.out.1, HND.out.2⟩, ?_⟩
  · exact (World.cell?_of_block (hal.block m (World.block_lt_of_cell? w1 _ d0) (by simp))).trans d0
  · rw [List.length_append]
    exact HO1.out.kept hal (by simp)
  · exact grown_trans HGR.out (grown_trans HG1.out (World.grownBy_alloc _ _ _))
open Go.Maps Go.WideMaps in
set_option maxHeartbeats 2000000 in
theorem see_low (x : ItemD) (m g st : Nat) (l : List Int) (ns : Int) (w : World) (hS : SeenAt ns w m g l) (hst : w.cell? ⟨st, 3, none⟩ = some (.int .i64 ns)) (hm : m ≠ g) (hg : st ≠ g) (hx1 : -9223372036854775808 ≤ x.seq) (hx2 : x.seq ≤ 9223372036854775807) (hll : l.length ≤ 1073741824) (hnot : x.seq ∉ l) (hlt : ns ≤ x.seq) :
    Calls Tryz.prog 76 #[.agg (vItem x).toArray, .pointer (some ⟨m, 0, none⟩), .pointer (some ⟨st, 0, none⟩)] w fun e w' => e = .panicked [refusedE 1] ∧ w.grownBy w' (some g) := by
  obtain ⟨hvar, ⟨D, hown, hsd⟩, hnd, hlo⟩ := hS
  unfold vItem
  obtain ⟨seq, key, body, again, deaths⟩ := x
  simp only at hx1 hx2 hnot hlt ⊢
  have hkey : keyOf Tryz.prog 3 (.int .i64 seq) = some (.int .i64 seq) := keyOf_int_mk Tryz.underlying3 (i64wf hx1 hx2)
  have hgl := hown.lt
  have hml : m < w.heap.size := World.block_lt_of_cell? w _ hvar
  have hsl : st < w.heap.size := World.block_lt_of_cell? w _ hst
  obtain ⟨w0, hw0⟩ : ∃ w0, w.alloc (.cells #[.int .i64 seq, .string key, .string body, .bool again, .int .i64 deaths] 52) = w0 := ⟨_, rfl⟩
  have hgr : w.grownBy w0 none := by rw [← hw0]; exact World.grownBy_alloc w _ none
  have hgs : w.grownBy w0 (some g) := by rw [← hw0]; exact World.grownBy_alloc w _ _
  have hown0 : w0.ownsMap Tryz.prog 3 (plainElem Tryz.prog 3) g l.length D := hown.kept hgr (by simp)
  have hv0 : w0.cell? ⟨m, 0, none⟩ = some (.map (some g)) := (World.cell?_of_block (hgr.block m hml (by simp))).trans hvar
  have hs0 : w0.cell? ⟨st, 3, none⟩ = some (.int .i64 ns) := (World.cell?_of_block (hgr.block st hsl (by simp))).trans hst
  have hk0 : Bk w0 w.heap.size 52 #[.int .i64 seq, .string key, .string body, .bool again, .int .i64 deaths] := by rw [← hw0]; exact Bk.new w _ _
  have hx0 : w0.cell? ⟨w.heap.size, 0, none⟩ = some (.int .i64 seq) := by have := hk0.cell 0; simpa using this
  have HO := Lib.hid hown0
  have HK := Lib.hid hkey
  have HSD := Lib.hid hsd
  have HGR := Lib.hid hgs
  have hgw : w.heap.size ≠ g := by omega
  have HC : Hid (w0.cell? ⟨m, 0, none⟩ = some (.map (some g)) ∧ w0.cell? ⟨st, 3, none⟩ = some (.int .i64 ns) ∧ w0.cell? ⟨w.heap.size, 0, none⟩ = some (.int .i64 seq)) := (⟨hv0, hs0, hx0⟩ : _ ∧ _ ∧ _)
  have HNOT := Lib.hid hnot
  have hltb : (decide (seq < ns)) = false := by simp; omega
  clear hown hown0 hkey hsd hnot hgr hgs hk0 hvar hst
  go_enter Tryz.func76, Tryz.ntmps76
  go_wp2_with (first
    | (at_lookup; refine wpList_lookup_own_int _ rfl _ _ 110 rfl 3 3 .i64 (int_keyed Tryz.underlying3) Tryz.underlying110 Tryz.underlying3 (by kernel_rfl) _ _ D rfl HO.out _ _ rfl HK.out ?_; intro cnt hat hwc; obtain rfl := (seen_look HSD.out hat).1 HNOT.out; clear hat hwc)
    | (at_mapUpdate; refine wpList_mapUpdate_own _ rfl _ _ _ 110 rfl 3 3 (int_keyed Tryz.underlying3) Tryz.underlying110 _ _ l.length D rfl HO.out (by unfold maxLen; omega) _ _ _ rfl rfl HK.out _ [] (plainElem_int Tryz.underlying3 (by decide)) ?_; intro w1 hown1 hgrow1; have HO1 := Lib.hid hown1; have HG1 := Lib.hid hgrow1; clear hown1 hgrow1
       obtain ⟨c0, c1, c2⟩ := HC.out; have d0 := grown_cell HG1.out c0 hm; have d1 := grown_cell HG1.out c1 hg; have d2 := grown_cell HG1.out c2 hgw; clear c0 c1 c2)
    | (at_lookup; refine wpList_lookup_own_int _ rfl _ _ 110 rfl 3 3 .i64 (int_keyed Tryz.underlying3) Tryz.underlying110 Tryz.underlying3 (by kernel_rfl) _ _ _ rfl HO1.out _ _ rfl HK.out ?_; intro cnt hat hwc; rw [atKey_put_same HSD.out.1.isMap (intKey _)] at hat; obtain rfl : 1 = cnt := by simpa using hat
       clear hat hwc))
  refine (must_no 1 (some ⟨w1.heap.size, 0, none⟩) 2 [true, false] 0 _ (sl_bools rfl (Below.refl _ _)) (by decide) (by decide)).mono ?_
  rintro e w2 ⟨rfl, rfl⟩
  go_wp2_with fail
  exact ⟨rfl, rfl, grown_trans HGR.out (grown_trans HG1.out (World.grownBy_alloc _ _ _))⟩
open Go.Maps Go.WideMaps in
set_option maxHeartbeats 2000000 in
theorem see_twice (x : ItemD) (m g st : Nat) (l : List Int) (ns : Int) (w : World) (hS : SeenAt ns w m g l) (hst : w.cell? ⟨st, 3, none⟩ = some (.int .i64 ns)) (hm : m ≠ g) (hg : st ≠ g) (hx1 : -9223372036854775808 ≤ x.seq) (hx2 : x.seq ≤ 9223372036854775807) (hll : l.length ≤ 1073741824) (hnot : x.seq ∈ l) :
    Calls Tryz.prog 76 #[.agg (vItem x).toArray, .pointer (some ⟨m, 0, none⟩), .pointer (some ⟨st, 0, none⟩)] w fun e w' => e = .panicked [refusedE 1] ∧ w.grownBy w' (some g) := by
  obtain ⟨hvar, ⟨D, hown, hsd⟩, hnd, hlo⟩ := hS
  unfold vItem
  obtain ⟨seq, key, body, again, deaths⟩ := x
  simp only at hx1 hx2 hnot ⊢
  have hkey : keyOf Tryz.prog 3 (.int .i64 seq) = some (.int .i64 seq) := keyOf_int_mk Tryz.underlying3 (i64wf hx1 hx2)
  have hgl := hown.lt
  have hml : m < w.heap.size := World.block_lt_of_cell? w _ hvar
  have hsl : st < w.heap.size := World.block_lt_of_cell? w _ hst
  obtain ⟨w0, hw0⟩ : ∃ w0, w.alloc (.cells #[.int .i64 seq, .string key, .string body, .bool again, .int .i64 deaths] 52) = w0 := ⟨_, rfl⟩
  have hgr : w.grownBy w0 none := by rw [← hw0]; exact World.grownBy_alloc w _ none
  have hgs : w.grownBy w0 (some g) := by rw [← hw0]; exact World.grownBy_alloc w _ _
  have hown0 : w0.ownsMap Tryz.prog 3 (plainElem Tryz.prog 3) g l.length D := hown.kept hgr (by simp)
  have hv0 : w0.cell? ⟨m, 0, none⟩ = some (.map (some g)) := (World.cell?_of_block (hgr.block m hml (by simp))).trans hvar
  have hs0 : w0.cell? ⟨st, 3, none⟩ = some (.int .i64 ns) := (World.cell?_of_block (hgr.block st hsl (by simp))).trans hst
  have hk0 : Bk w0 w.heap.size 52 #[.int .i64 seq, .string key, .string body, .bool again, .int .i64 deaths] := by rw [← hw0]; exact Bk.new w _ _
  have hx0 : w0.cell? ⟨w.heap.size, 0, none⟩ = some (.int .i64 seq) := by have := hk0.cell 0; simpa using this
  have HO := Lib.hid hown0
  have HK := Lib.hid hkey
  have HSD := Lib.hid hsd
  have HGR := Lib.hid hgs
  have hgw : w.heap.size ≠ g := by omega
  have HC : Hid (w0.cell? ⟨m, 0, none⟩ = some (.map (some g)) ∧ w0.cell? ⟨st, 3, none⟩ = some (.int .i64 ns) ∧ w0.cell? ⟨w.heap.size, 0, none⟩ = some (.int .i64 seq)) := (⟨hv0, hs0, hx0⟩ : _ ∧ _ ∧ _)
  have HNOT := Lib.hid hnot
  clear hown hown0 hkey hsd hnot hgr hgs hk0 hvar hst
  obtain ⟨bb, hbb⟩ : ∃ bb, decide (seq < ns) = bb := ⟨_, rfl⟩
  go_enter Tryz.func76, Tryz.ntmps76
  go_wp2_with (first
    | (at_lookup; refine wpList_lookup_own_int _ rfl _ _ 110 rfl 3 3 .i64 (int_keyed Tryz.underlying3) Tryz.underlying110 Tryz.underlying3 (by kernel_rfl) _ _ D rfl HO.out _ _ rfl HK.out ?_; intro cnt hat hwc; obtain rfl := (seen_look HSD.out hat).2 HNOT.out; clear hat hwc)
    | (at_mapUpdate; refine wpList_mapUpdate_own _ rfl _ _ _ 110 rfl 3 3 (int_keyed Tryz.underlying3) Tryz.underlying110 _ _ l.length D rfl HO.out (by unfold maxLen; omega) _ _ _ rfl rfl HK.out _ [] (plainElem_int Tryz.underlying3 (by decide)) ?_; intro w1 hown1 hgrow1; have HO1 := Lib.hid hown1; have HG1 := Lib.hid hgrow1; clear hown1 hgrow1
       obtain ⟨c0, c1, c2⟩ := HC.out; have d0 := grown_cell HG1.out c0 hm; have d1 := grown_cell HG1.out c1 hg; have d2 := grown_cell HG1.out c2 hgw; clear c0 c1 c2)
    | (at_lookup; refine wpList_lookup_own_int _ rfl _ _ 110 rfl 3 3 .i64 (int_keyed Tryz.underlying3) Tryz.underlying110 Tryz.underlying3 (by kernel_rfl) _ _ _ rfl HO1.out _ _ rfl HK.out ?_; intro cnt hat hwc; rw [atKey_put_same HSD.out.1.isMap (intKey _)] at hat; obtain rfl : 2 = cnt := by simpa using hat
       clear hat hwc))
  refine (must_no 1 (some ⟨w1.heap.size, 0, none⟩) 2 [false, bb] 0 _ (sl_bools rfl (Below.refl _ _)) (by simp) (by cases bb <;> decide)).mono ?_
  rintro e w2 ⟨rfl, rfl⟩
  go_wp2_with fail
  exact ⟨rfl, rfl, grown_trans HGR.out (grown_trans HG1.out (World.grownBy_alloc _ _ _))⟩
end Go.Proofs.YtaanpcjkflhomaaGreatDoor
namespace Go.Proofs.YtaanpcjkflhomaaGreatDoor
open Go.RowKit
set_option maxRecDepth 100000
set_option maxHeartbeats 1000000 in
theorem catch_panicking (B : Nat) (e x : Int) (w : World) (hc : w.cell? ⟨B, 0, none⟩ = some (.int .i64 x)) (hz : w.frozen? ⟨B, 0, none⟩ = false) :
    CallsD Tryz.prog 72 #[.pointer (some ⟨B, 0, none⟩)] (.panicking [refusedE e]) w fun en u' w' => en = .returned (.tuple #[]) ∧ u' = .panicking [{ refusedE e with recovered := true }] ∧ w' = (w.setCell ⟨B, 0, none⟩ (.int .i64 e)).alloc (.cells #[.int .i64 e] 106) := by
  have hlt : B < w.heap.size := World.block_lt_of_cell? w _ hc
  have hne : ¬ (B = w.heap.size) := by omega
  have hta : ∀ W : World, (Instr.typeAssert (.iface 106 (.agg #[.int .i64 e])) 20 106 true).run Tryz.prog W = .ok (.tuple #[.agg #[.int .i64 e], .bool true]) W := fun W => by simp [Instr.typeAssert, run_underlying Tryz.underlying106]
  unfold refusedE
  refine callsD_of_wpS Tryz.func72 rfl fun c₀ cs hu => ?_
  apply wpS_seq
  apply wpS_region
  simp [wpOpsS, go_sem, recoverD, hu, Tryz.ntmps72, Exit.thenS]
  refine wpS_of_wp ?_
  change Code.wp _ _ _ (⟨#[.pointer (some ⟨B, 0, none⟩), .iface 106 (.agg #[.int .i64 e]), undef, undef, .iface 106 (.agg #[.int .i64 e]), undef, undef, undef, undef, undef, undef, undef, undef, undef, undef, undef], []⟩ : Act) _
  go_wp2_with fail
  exact ⟨rfl, _, rfl, _, results_none rfl _ _ _, rfl, rfl, rfl⟩
set_option maxHeartbeats 1000000 in
theorem catch_idle (B : Nat) (w : World) :
    CallsD Tryz.prog 72 #[.pointer (some ⟨B, 0, none⟩)] .returning w fun en u' w' => en = .returned (.tuple #[]) ∧ u' = .returning ∧ Below w.heap.size w w' := by
  have hta : ∀ W : World, (Instr.typeAssert .nilIface 20 106 true).run Tryz.prog W = .ok (.tuple #[.agg #[.int .i64 0], .bool false]) W := fun W => by
    have hz : (zeroValue 106).run Tryz.prog W = .ok (.agg #[.int .i64 0]) W := by kernel_rfl
    simp [Instr.typeAssert, run_underlying Tryz.underlying106, hz]
  refine callsD_of_wpS Tryz.func72 rfl fun c₀ cs hu => ?_
  apply wpS_seq
  apply wpS_region
  simp [wpOpsS, go_sem, recoverD, hu, Tryz.ntmps72, Exit.thenS]
  refine wpS_of_wp ?_
  change Code.wp _ _ _ (⟨#[.pointer (some ⟨B, 0, none⟩), .nilIface, undef, undef, .nilIface, undef, undef, undef, undef, undef, undef, undef, undef, undef, undef, undef], []⟩ : Act) _
  go_wp2_with fail
  have hb : Below w.heap.size w (w.alloc (.cells #[.int .i64 0] 106)) := (Below.refl _ _).alloc (Nat.le_refl _) _
  refine ⟨rfl, .returning, ?_, _, results_none rfl _ _ _, rfl, rfl, hb⟩
  cases c₀
  simp_all
def CkPost (p : PlanD) (s : StateD) (w : World) (e : Ending) (w' : World) : Prop := e = .returned (.int .i64 (stateErr p s)) ∧ Below w.heap.size w w'
def ckDefer (B : Nat) : List Deferred := [{ target := .fn (.func 72) #[.pointer (some ⟨B, 0, none⟩)], args := #[] }]
theorem ck_dies {p : PlanD} {s : StateD} {w W : World} {a : Act} {B : Nat} (hd : a.defers = ckDefer B) (ht : a.tmps[4]? = some (.pointer (some ⟨B, 0, none⟩))) (hB : w.heap.size ≤ B) {x n : Int} (hc : W.cell? ⟨B, 0, none⟩ = some (.int .i64 x)) (hz : W.frozen? ⟨B, 0, none⟩ = false) (hb : Below w.heap.size w W) (hn : stateErr p s = n) :
    bodyPostD Tryz.prog Tryz.f32 (CkPost p s w) (.panic [refusedE n]) a W := by
  show Leaves Tryz.prog Tryz.f32 a.tmps (CkPost p s w) a.defers (.panicking [refusedE n]) W
  rw [hd]
  have hlt : B < W.heap.size := World.block_lt_of_cell? W _ hc
  refine leaves_cons (f := 72) (args := #[.pointer (some ⟨B, 0, none⟩)]) (by simp) (by simp [go_sem]) ?_
  refine (catch_panicking B n x W hc hz).mono ?_
  rintro e u' w'' ⟨rfl, rfl, rfl⟩
  have hc2 : ((W.setCell ⟨B, 0, none⟩ (.int .i64 n)).alloc (.cells #[.int .i64 n] 106)).cell? ⟨B, 0, none⟩ = some (.int .i64 n) := by
    rw [World.cell?_alloc_lt _ _ _ (by simp [World.setCell]; omega)]
    exact World.cell?_setCell_same _ _ _ hc
  show Leaves Tryz.prog Tryz.f32 a.tmps (CkPost p s w) [] .returning _
  refine ⟨.int .i64 n, ?_, by rw [hn], (hb.setCell (p := ⟨B, 0, none⟩) hB _).alloc (by have := hb.size; simp [World.setCell]; omega) _⟩
  simp [results, Tryz.results32, ht, go_sem, hc2]
theorem ck_ends {p : PlanD} {s : StateD} {w W : World} {a : Act} {B : Nat} (hd : a.defers = ckDefer B) (ht : a.tmps[4]? = some (.pointer (some ⟨B, 0, none⟩))) {n : Int} (hc : W.cell? ⟨B, 0, none⟩ = some (.int .i64 n)) (hb : Below w.heap.size w W) (hn : stateErr p s = n) :
    bodyPostD Tryz.prog Tryz.f32 (CkPost p s w) .ret a W := by
  show Leaves Tryz.prog Tryz.f32 a.tmps (CkPost p s w) a.defers .returning W
  rw [hd]
  have hlt : B < W.heap.size := World.block_lt_of_cell? W _ hc
  refine leaves_cons (f := 72) (args := #[.pointer (some ⟨B, 0, none⟩)]) (by simp) (by simp [go_sem]) ?_
  refine (catch_idle B W).mono ?_
  rintro e u' w'' ⟨rfl, rfl, hb2⟩
  have hc2 : w''.cell? ⟨B, 0, none⟩ = some (.int .i64 n) := (hb2.cell (p := ⟨B, 0, none⟩) hlt).trans hc
  show Leaves Tryz.prog Tryz.f32 a.tmps (CkPost p s w) [] .returning _
  refine ⟨.int .i64 n, ?_, by rw [hn], hb.trans (hb2.mono hb.size)⟩
  simp [results, Tryz.results32, ht, go_sem, hc2]
open Go.RowKit
set_option maxRecDepth 100000
def zeroS : StateD := ⟨[],[],[],0,0,0,0,0⟩
def bThree : ByteArray := ⟨#[116,104,114,101,101]⟩
def busyS : StateD := ⟨[[letterP 2 bTwo,letterP 3 bThree],[],[]],[⟨5,1,0,letterP 1 bOne⟩],[⟨-1,1⟩,⟨0,2⟩],4,6,4,1,0⟩
theorem f3 : itemFine (letterP 3 bThree) = true := letter_fine (by decide) (by decide) (by decide)
theorem busy_line : lineFine [letterP 2 bTwo,letterP 3 bThree] = true := by
 simp [lineFine,lineFrom,f2,f3]
 simp [letterP]
theorem busy_formed : Formed officeP busyS where
 len := rfl
 nextSeq := by decide
 nextTag := by decide
 came := by decide
 acked := by decide
 dropped := by decide
 line := by
  intro l hl
  simp only [busyS,List.mem_cons,List.not_mem_nil,or_false] at hl
  rcases hl with rfl | rfl | rfl
  ·exact busy_line
  ·rfl
  ·rfl
 taker := by
  intro t ht
  simp only [busyS,List.mem_cons,List.not_mem_nil,or_false] at ht
  rcases ht with rfl | rfl <;> decide
 out := by
  intro x hx
  simp only [busyS,List.mem_singleton] at hx
  subst hx
  simp [outB,busyS,f1]
 order := List.pairwise_singleton _ _
 nodup := by simp [seqsS,seqsR,seqsO,busyS,letterP]
 below := by simp [seqsS,seqsR,seqsO,busyS,letterP]
theorem busy_ranged : (limitB officeP busyS && heldB busyS) = true := by decide
theorem busy_right : stateErr officeP busyS = 0 := stateErr_ok office_right (by decide) busy_formed busy_ranged (by decide)
theorem busy_small : StateSmall busyS := by
 refine ⟨by decide,by decide,by decide,?_,?_,by decide⟩
 ·intro l hl
  simp only [busyS,List.mem_cons,List.not_mem_nil,or_false] at hl
  rcases hl with rfl | rfl | rfl
  ·exact ⟨by decide,by simp [s2,letter_small (n := 3) (b := bThree) (by decide) (by decide) (by decide)]⟩
  ·exact ⟨by decide,by simp⟩
  ·exact ⟨by decide,by simp⟩
 ·intro x hx
  simp only [busyS,List.mem_singleton] at hx
  subst hx
  exact s1
end Go.Proofs.YtaanpcjkflhomaaGreatDoor
namespace Go.Proofs.YtaanpcjkflhomaaGreatDoor
open Go.RowKit
set_option maxRecDepth 100000
theorem infoRow : (Tryz.prog.info? 50).map (fun i => (i.zero,i.size,i.bytes)) = some (some (.slice none 0 0),1,24) := by kernel_rfl
def zeroCells : Array Value := #[.slice none 0 0,.slice none 0 0,.slice none 0 0,.int .i64 0,.int .i64 0,.int .i64 0,.int .i64 0,.int .i64 0]
theorem zero_at (w : World) (lo hi : Nat) : StateAt w lo hi none none none [] zeroS where
 same := rfl
 ready := Sl.nil _ _ _ _
 row := by intro r hr; cases hr
 outs := Sl.nil _ _ _ _
 takers := Sl.nil _ _ _ _
theorem zero_cells {w : World} {g : Nat} {t : TypeId} {v0 v1 v2 v3 v4 v5 v6 v7 : Value} (h : Bk w g t #[v0,v1,v2,v3,v4,v5,v6,v7]) :
  w.cell? ⟨g,0,none⟩ = some v0 ∧ w.cell? ⟨g,1,none⟩ = some v1 ∧ w.cell? ⟨g,2,none⟩ = some v2 ∧ w.cell? ⟨g,3,none⟩ = some v3 ∧ w.cell? ⟨g,4,none⟩ = some v4 ∧ w.cell? ⟨g,5,none⟩ = some v5 ∧ w.cell? ⟨g,6,none⟩ = some v6 ∧ w.cell? ⟨g,7,none⟩ = some v7 ∧
   w.frozen? ⟨g,0,none⟩ = false ∧ w.frozen? ⟨g,1,none⟩ = false ∧ w.frozen? ⟨g,2,none⟩ = false ∧ w.frozen? ⟨g,3,none⟩ = false ∧ w.frozen? ⟨g,4,none⟩ = false ∧ w.frozen? ⟨g,5,none⟩ = false ∧ w.frozen? ⟨g,6,none⟩ = false ∧ w.frozen? ⟨g,7,none⟩ = false ∧ g < w.heap.size :=
 ⟨h.cell 0,h.cell 1,h.cell 2,h.cell 3,h.cell 4,h.cell 5,h.cell 6,h.cell 7,h.frozen 0,h.frozen 1,h.frozen 2,h.frozen 3,h.frozen 4,h.frozen 5,h.frozen 6,h.frozen 7,h.lt⟩
theorem below_set8 {w W : World} {B g : Nat} (h : Below B w W) (hg : B ≤ g) (v0 v1 v2 v3 v4 v5 v6 v7 : Value) : Below B w ((((((((W.setCell ⟨g,0,none⟩ v0).setCell ⟨g,1,none⟩ v1).setCell ⟨g,2,none⟩ v2).setCell ⟨g,3,none⟩ v3).setCell ⟨g,4,none⟩ v4).setCell ⟨g,5,none⟩ v5).setCell ⟨g,6,none⟩ v6).setCell ⟨g,7,none⟩ v7) :=
 (((((((h.setCell hg _).setCell hg _).setCell hg _).setCell hg _).setCell hg _).setCell hg _).setCell hg _).setCell hg _
theorem far_set8 {W : World} {g k : Nat} {t : TypeId} {cs : Array Value} (h : Bk W k t cs) (hg : k ≠ g) (v0 v1 v2 v3 v4 v5 v6 v7 : Value) : Bk ((((((((W.setCell ⟨g,0,none⟩ v0).setCell ⟨g,1,none⟩ v1).setCell ⟨g,2,none⟩ v2).setCell ⟨g,3,none⟩ v3).setCell ⟨g,4,none⟩ v4).setCell ⟨g,5,none⟩ v5).setCell ⟨g,6,none⟩ v6).setCell ⟨g,7,none⟩ v7) k t cs :=
 (((((((h.far hg _).far hg _).far hg _).far hg _).far hg _).far hg _).far hg _).far hg _
end Go.Proofs.YtaanpcjkflhomaaGreatDoor
namespace Go.Proofs.YtaanpcjkflhomaaGreatDoor
open Go.RowKit
set_option maxRecDepth 100000
def busyItems : Array Value := #[.int .i64 2,.string ⟨#[120,46,121]⟩,.string bTwo,.bool false,.int .i64 0,.int .i64 3,.string ⟨#[120,46,121]⟩,.string bThree,.bool false,.int .i64 0]
def busyRows (g0 : Nat) : Array Value := #[.slice (some ⟨g0,0,none⟩) 2 2,.slice none 0 0,.slice none 0 0]
def busyOuts : Array Value := #[.int .i64 5,.int .i64 1,.int .i64 0,.int .i64 1,.string ⟨#[120,46,121]⟩,.string bOne,.bool false,.int .i64 0]
def busyTakers : Array Value := #[.int .i64 (-1),.int .i64 1,.int .i64 0,.int .i64 2]
def busyRowD (g0 : Nat) : List RowD := [⟨some ⟨g0,0,none⟩,2,[letterP 2 bTwo,letterP 3 bThree]⟩,⟨none,0,[]⟩,⟨none,0,[]⟩]
structure BusyAt (w : World) (lo g0 g1 g2 g3 : Nat) : Prop where
 items : Bk w g0 52 busyItems
 rows : Bk w g1 50 (busyRows g0)
 outs : Bk w g2 77 busyOuts
 takers : Bk w g3 79 busyTakers
 low : lo ≤ g0 ∧ lo ≤ g1 ∧ lo ≤ g2 ∧ lo ≤ g3
 apart : g0 ≠ g1 ∧ g0 ≠ g2 ∧ g0 ≠ g3 ∧ g1 ≠ g2 ∧ g1 ≠ g3 ∧ g2 ≠ g3
theorem BusyAt.below {w w' : World} {lo g0 g1 g2 g3 : Nat} (h : BusyAt w lo g0 g1 g2 g3) (hb : Below w.heap.size w w') : BusyAt w' lo g0 g1 g2 g3 :=
 ⟨h.items.below hb h.items.lt,h.rows.below hb h.rows.lt,h.outs.below hb h.outs.lt,h.takers.below hb h.takers.lt,h.low,h.apart⟩
theorem rows_at {w : World} {g0 g1 g2 g3 : Nat} {o t : Array Value} {s : StateD} (hi : Bk w g0 52 busyItems) (hr : Bk w g1 50 (busyRows g0)) (ho : Bk w g2 77 o) (ht : Bk w g3 79 t)
  (h1 : s.ready = busyS.ready) (h2 : s.outs.flatMap vOut = o.toList) (h3 : s.takers.flatMap vTaker = t.toList) : StateAt w 0 w.heap.size (some ⟨g1,0,none⟩) (some ⟨g2,0,none⟩) (some ⟨g3,0,none⟩) (busyRowD g0) s where
 same := by rw [h1]; rfl
 ready := Sl.of_bk hr (Nat.zero_le _) hr.lt rfl
 row := by
  intro r h
  simp only [busyRowD,List.mem_cons,List.not_mem_nil,or_false] at h
  rcases h with rfl | rfl | rfl
  ·exact ⟨Sl.of_bk hi (Nat.zero_le _) hi.lt rfl,Nat.le_refl _⟩
  ·exact ⟨Sl.nil _ _ _ _,Nat.le_refl _⟩
  ·exact ⟨Sl.nil _ _ _ _,Nat.le_refl _⟩
 outs := Sl.of_bk ho (Nat.zero_le _) ho.lt h2
 takers := Sl.of_bk ht (Nat.zero_le _) ht.lt h3
theorem BusyAt.state {w : World} {lo g0 g1 g2 g3 : Nat} (h : BusyAt w lo g0 g1 g2 g3) : StateAt w 0 w.heap.size (some ⟨g1,0,none⟩) (some ⟨g2,0,none⟩) (some ⟨g3,0,none⟩) (busyRowD g0) busyS :=
 rows_at h.items h.rows h.outs h.takers rfl rfl rfl
def busyV (g1 g2 g3 : Nat) : Value := .agg #[.slice (some ⟨g1,0,none⟩) 3 3,.slice (some ⟨g2,0,none⟩) 1 1,.slice (some ⟨g3,0,none⟩) 2 2,.int .i64 4,.int .i64 6,.int .i64 4,.int .i64 1,.int .i64 0]
set_option maxHeartbeats 1000000 in
theorem busy_any (w : World) : Calls Tryz.prog 58 #[] w fun e w' => ∃ g0 g1 g2 g3,e = .returned (busyV g1 g2 g3) ∧ BusyAt w' w.heap.size g0 g1 g2 g3 ∧ Below w.heap.size w w' := by
 go_enter Tryz.func58,Tryz.ntmps58
 go_wp2_with fail
 have hbR : ∀ W,Below (w.alloc (.cells zeroCells 31)).heap.size (w.alloc (.cells zeroCells 31)) W → Bk W w.heap.size 31 zeroCells ∧ Below w.heap.size w W ∧ w.heap.size < W.heap.size := fun W hW =>
  ⟨(Bk.new _ _ _).below hW (by simp),((Below.refl _ _).alloc (Nat.le_refl _) _).trans (hW.mono (by simp)),by have := hW.size; simp at this; omega⟩
 unfold zeroCells at hbR
 generalize w.alloc (.cells #[.slice none 0 0,.slice none 0 0,.slice none 0 0,.int .i64 0,.int .i64 0,.int .i64 0,.int .i64 0,.int .i64 0] 31) = W0 at *
 have HBR := Lib.hid hbR; clear hbR
 refine (letter_lit 2 _ W0).mono ?_
 rintro e w1 ⟨rfl,hb1⟩
 have HB1 := Lib.hid hb1; clear hb1
 go_wp2_with fail
 refine (letter_lit 3 _ w1).mono ?_
 rintro e w2 ⟨rfl,hb2⟩
 have HB2 := Lib.hid (HB1.out.trans (hb2.mono HB1.out.size)); clear hb2 HB1
 go_wp2_with fail
 obtain ⟨W3,hW3⟩ : ∃ W3,(w2.alloc (.cells #[.int .i64 2,.string ⟨#[120,46,121]⟩,.string ⟨#[116,119,111]⟩,.bool false,.int .i64 0,.int .i64 3,.string ⟨#[120,46,121]⟩,.string ⟨#[116,104,114,101,101]⟩,.bool false,.int .i64 0] 52)).alloc (.cells #[.slice (some ⟨w2.heap.size,0,none⟩) 2 2,.slice none 0 0,.slice none 0 0] 50) = W3 := ⟨_,rfl⟩
 have hz3 : W3.heap.size = w2.heap.size + 2 := by rw [← hW3]; simp
 have k0 : Bk W3 w2.heap.size 52 busyItems := by rw [← hW3]; exact (Bk.new _ _ _).alloc _
 have k1 : Bk W3 (w2.heap.size + 1) 50 (busyRows w2.heap.size) := by rw [← hW3]; exact Bk.new_at _ _ _ (by simp)
 have hb3 : Below W0.heap.size W0 W3 := by rw [← hW3]; exact (HB2.out.alloc HB2.out.size _).alloc (by have := HB2.out.size; simp; omega) _
 rw [hW3]
 have K0 := Lib.hid k0; have K1 := Lib.hid k1; have HB3 := Lib.hid hb3; have HZ3 := Lib.hid hz3
 have HZ2 := Lib.hid HB2.out.size
 clear k0 k1 hb3 hz3 hW3 HB2
 refine (letter_lit 1 _ W3).mono ?_
 rintro e w4 ⟨rfl,hb4⟩
 have K0' := Lib.hid (K0.out.below hb4 K0.out.lt); have K1' := Lib.hid (K1.out.below hb4 K1.out.lt)
 have HZ4 := Lib.hid hb4.size
 have HB4 := Lib.hid (HB3.out.trans (hb4.mono HB3.out.size)); clear hb4 HB3 K0 K1
 obtain ⟨hbk,hbelow,_⟩ := HBR.out _ HB4.out
 obtain ⟨c0,c1,c2,c3,c4,c5,c6,c7,f0,f1,f2,f3,f4,f5,f6,f7,hlt⟩ := zero_cells hbk
 go_wp2_with fail
 have hz2 := HZ2.out; have hz3 := HZ3.out; have hz4 := HZ4.out
 have hw0 := (HBR.out W0 (Below.refl _ _)).2.2
 refine bodyPost_ret (v := busyV (w2.heap.size + 1) w4.heap.size (w4.heap.size + 1)) (by simp [results,Tryz.results58,go_sem,busyV,c0,c1,c2,c3,c4,c5,c6,c7,hlt]) rfl
  ⟨w2.heap.size,w2.heap.size + 1,w4.heap.size,w4.heap.size + 1,rfl,⟨?_,?_,?_,?_,⟨by omega,by omega,by omega,by omega⟩,by omega,by omega,by omega,by omega,by omega,by omega⟩,?_⟩
 ·exact ((far_set8 K0'.out (by omega) _ _ _ _ _ _ _ _).alloc _).alloc _
 ·exact ((far_set8 K1'.out (by omega) _ _ _ _ _ _ _ _).alloc _).alloc _
 ·exact (Bk.new_at _ _ _ (by simp [World.setCell])).alloc _
 ·exact Bk.new_at _ _ _ (by simp [World.setCell])
 ·exact ((below_set8 hbelow (Nat.le_refl _) _ _ _ _ _ _ _ _).alloc (by simpa [World.setCell] using hbelow.size) _).alloc (by have := hbelow.size; simp [World.setCell]; omega) _
end Go.Proofs.YtaanpcjkflhomaaGreatDoor
