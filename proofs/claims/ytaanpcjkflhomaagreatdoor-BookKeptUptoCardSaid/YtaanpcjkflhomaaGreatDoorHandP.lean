/-
  The plain law of what is handed in. No program in sight.
-/
import Derived.Test.YtaanpcjkflhomaaGreatDoorBunT
import Derived.Test.YtaanpcjkflhomaaGreatDoorBunS
set_option linter.unusedSimpArgs false
set_option linter.unusedVariables false
namespace Go.Proofs.YtaanpcjkflhomaaGreatDoor
def pubA (key body : ByteArray) (q : Int) : ArrivalD := ⟨q,key,body,0⟩
def pubL (p : PlanD) (x : Int) (key body : ByteArray) : List ArrivalD := (queuesR p x key).map (pubA key body)
def publishErr (p : PlanD) (s : StateD) (x : Int) (key body : ByteArray) : Int :=
 if stateErr p s ≠ 0 then stateErr p s else if routeErr p x key ≠ 0 then routeErr p x key else if 12 < body.size then 1 else arriveErr p s (pubL p x key body)
def publishS (p : PlanD) (s : StateD) (x : Int) (key body : ByteArray) : StateD := if publishErr p s x key body = 0 then arriveS p s (pubL p x key body) else zeroS
def publishN (p : PlanD) (s : StateD) (x : Int) (key body : ByteArray) : Int := if publishErr p s x key body = 0 then ((queuesR p x key).length : Int) else 0
theorem publish_ok {p : PlanD} {s : StateD} {x : Int} {key body : ByteArray} (h : publishErr p s x key body = 0) : stateErr p s = 0 ∧ routeErr p x key = 0 ∧ body.size ≤ 12 ∧ arriveErr p s (pubL p x key body) = 0 := by
 unfold publishErr at h
 split at h
 ·rename_i h1; exact absurd h h1
 ·rename_i h1
  split at h
  ·rename_i h2; exact absurd h h2
  ·rename_i h2
   split at h
   ·cases h
   ·rename_i h3
    exact ⟨Decidable.not_not.1 h1,Decidable.not_not.1 h2,by omega,h⟩
theorem queuesR_few {p : PlanD} {x : Int} {key : ByteArray} : (queuesR p x key).length ≤ 4 ∧ ((queuesR p x key).Pairwise (· < ·)) ∧ ∀ q ∈ queuesR p x key,0 ≤ q ∧ q < 4 ∧ q < (p.queues.length : Int) := by
 unfold queuesR
 split
 ·rename_i h
  obtain ⟨hr,k,rfl,hk,_⟩ := routeErr_ok h
  refine ⟨ofL_len hr hk,ofL_asc _ _ _,fun q hq => ?_⟩
  have := ofL_lt hr hk hq
  have := hr.queues
  omega
 ·exact ⟨Nat.zero_le _,List.Pairwise.nil,fun q hq => by cases hq⟩
theorem pubL_len (p : PlanD) (x : Int) (key body : ByteArray) : (pubL p x key body).length = (queuesR p x key).length := by unfold pubL; rw [List.length_map]
theorem pubL_small {p : PlanD} {x : Int} {key body : ByteArray} (hk : key.size ≤ 1048576) (hb : body.size ≤ 1048576) : ∀ a ∈ pubL p x key body,ArrSmall a := fun a ha => by
 obtain ⟨q,hq,rfl⟩ := List.mem_map.1 ha
 have := queuesR_few.2.2 q hq
 exact ⟨hk,hb,by show -9223372036854775808 ≤ q ∧ q ≤ 9223372036854775807; omega,by show -9223372036854775808 ≤ (0 : Int) ∧ (0 : Int) ≤ 9223372036854775807; omega⟩
def shedL (n : Int) (l : List ItemD) : List ItemD := if (l.length : Int) ≤ n then l else l.drop 1
structure HandK (p : PlanD) (s : StateD) (Q : List Int) (key body : ByteArray) (n : Nat) (c : StateD × List ArrivalD) : Prop where
 wait : c.2 = (Q.drop n).map (pubA key body)
 came : ∀ q : Int,0 ≤ q → q ∈ Q.take n → ∃ sq,s.nextSeq ≤ sq ∧ lineAt c.1 q = shedL (queueAt p q).limit (lineAt s q ++ [⟨sq,key,body,false,0⟩])
 same : ∀ q : Int,0 ≤ q → q ∉ Q.take n → lineAt c.1 q = lineAt s q
theorem HandK.next {p : PlanD} {s s1 : StateD} {Q : List Int} {key body : ByteArray} {n : Nat} {l L : List ArrivalD} (hd : ∀ q : Int,(queueAt p q).dead < 0) (hQ : Q.Pairwise (· < ·)) (hQ0 : ∀ q ∈ Q,0 ≤ q) (hn : n < Q.length) (h : HandK p s Q key body n (s1,L)) (hr : RunOk p s l n (s1,L)) :
  HandK p s Q key body (n + 1) (stepA p (s1,L)) := by
 have hw := h.wait
 simp only at hw
 subst hw
 have hdrop : Q.drop n = Q[n] :: Q.drop (n + 1) := List.drop_eq_getElem_cons hn
 have htake : Q.take (n + 1) = Q.take n ++ [Q[n]] := List.take_succ_eq_append_getElem hn
 have hqn : 0 ≤ Q[n] := hQ0 _ (List.getElem_mem hn)
 have hnew : Q[n] ∉ Q.take n := fun hm => by
  obtain ⟨i,hi,he⟩ := List.getElem_of_mem hm
  rw [List.getElem_take] at he
  have hin : i < n := by rw [List.length_take] at hi; omega
  have := List.pairwise_iff_getElem.1 hQ i n (by omega) hn hin
  omega
 rw [hdrop,List.map_cons] at hr ⊢
 have hR : Right p s1 := hr.ok.right
 have hq := hr.ok.wait _ List.mem_cons_self
 have hql : Q[n].toNat < s1.ready.length := by have := hR.len; have h2 := hq.queue; simp only [pubA] at h2; omega
 have hseq := hr.seq
 simp only at hseq
 have hpush : pushL (lineAt (seqd s1) Q[n]) (itemOf s1 (pubA key body Q[n])) = lineAt s1 Q[n] ++ [itemOf s1 (pubA key body Q[n])] := pushL_last fun y hy => lineAt_below hR Q[n] y hy
 have hold := h.same Q[n] hqn hnew
 simp only at hold
 have hdie : ∀ x,dyingP p Q[n] x = [] := fun x => by unfold dyingP; rw [if_pos (.inl (hd _))]
 have hlay : ∃ s2,layP p (seqd s1) Q[n] (itemOf s1 (pubA key body Q[n])) = (s2,[]) ∧ s2.ready = s1.ready.set Q[n].toNat (shedL (queueAt p Q[n]).limit (lineAt s Q[n] ++ [⟨s1.nextSeq,key,body,false,0⟩])) := by
  unfold layP
  rw [hpush,hold]
  by_cases hc : ((lineAt s Q[n] ++ [itemOf s1 (pubA key body Q[n])]).length : Int) ≤ (queueAt p Q[n]).limit
  ·rw [if_pos hc]
   refine ⟨_,rfl,?_⟩
   show _ = s1.ready.set Q[n].toNat (shedL (queueAt p Q[n]).limit (lineAt s Q[n] ++ [itemOf s1 (pubA key body Q[n])]))
   unfold shedL
   rw [if_pos hc]
   rfl
  ·rw [if_neg hc,hdie]
   refine ⟨_,rfl,?_⟩
   show _ = s1.ready.set Q[n].toNat (shedL (queueAt p Q[n]).limit (lineAt s Q[n] ++ [itemOf s1 (pubA key body Q[n])]))
   unfold shedL
   rw [if_neg hc]
   rfl
 obtain ⟨s2,h2,hs2⟩ := hlay
 have hstep : stepA p (s1,pubA key body Q[n] :: (Q.drop (n + 1)).map (pubA key body)) = (s2,(Q.drop (n + 1)).map (pubA key body)) := by
  show ((layP p (seqd s1) Q[n] (itemOf s1 (pubA key body Q[n]))).1,_ ++ (layP p (seqd s1) Q[n] (itemOf s1 (pubA key body Q[n]))).2) = _
  rw [h2,List.append_nil]
 rw [hstep]
 refine ⟨rfl,fun q h0 hm => ?_,fun q h0 hm => ?_⟩
 ·simp only
  rw [lineAt_set hs2 hql]
  by_cases e : q.toNat = Q[n].toNat
  ·have eq : q = Q[n] := by omega
   subst eq
   rw [if_pos rfl]
   exact ⟨s1.nextSeq,by omega,rfl⟩
  ·rw [if_neg e]
   rw [htake,List.mem_append,List.mem_singleton] at hm
   rcases hm with hm | hm
   ·exact h.came q h0 hm
   ·exact absurd (congrArg Int.toNat hm) e
 ·simp only
  rw [htake,List.mem_append,List.mem_singleton,not_or] at hm
  rw [lineAt_set hs2 hql,if_neg (fun e => hm.2 (by omega))]
  exact h.same q h0 hm.1
theorem publish_right {p : PlanD} {s : StateD} {x : Int} {key body : ByteArray} (h : publishErr p s x key body = 0) : Right p (publishS p s x key body) := by
 unfold publishS
 rw [if_pos h]
 exact arrive_right (publish_ok h).2.2.2
end Go.Proofs.YtaanpcjkflhomaaGreatDoor
