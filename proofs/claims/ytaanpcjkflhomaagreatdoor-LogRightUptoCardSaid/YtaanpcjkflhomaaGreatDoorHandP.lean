/-
  The plain law of what is handed in. No program in sight.
-/
import Derived.Test.YtaanpcjkflhomaaGreatDoorBunT
import Derived.Test.YtaanpcjkflhomaaGreatDoorBunS
set_option maxHeartbeats 20000000
set_option maxRecDepth 100000
set_option linter.unusedSimpArgs false
set_option linter.unusedVariables false
namespace Go.Proofs.YtaanpcjkflhomaaGreatDoor
def Jp (key body:ByteArray) (q:Int):Aj:=⟨q,key,body,0⟩
def Kb (p:Ab) (x:Int) (key body:ByteArray):List Aj:=(Cv p x key).map (Jp key body)
def Bt (p:Ab) (s:Aa) (x:Int) (key body:ByteArray):Int:=
 if Ao p s≠0 then Ao p s else if Bo p x key≠0 then Bo p x key else if 12 < body.size then 1 else Bh p s (Kb p x key body)
def Cl (p:Ab) (s:Aa) (x:Int) (key body:ByteArray):Aa:=if Bt p s x key body=0 then Cu p s (Kb p x key body) else Ay
def E0 (p:Ab) (s:Aa) (x:Int) (key body:ByteArray):Int:=if Bt p s x key body=0 then ((Cv p x key).length:Int) else 0
theorem Ry {p:Ab} {s:Aa} {x:Int} {key body:ByteArray} (h:Bt p s x key body=0):Ao p s=0∧Bo p x key=0∧body.size≤12∧Bh p s (Kb p x key body)=0:=by
 unfold Bt at h
 split at h
 ·rename_i h1;exact absurd h h1
 ·rename_i h1
  split at h
  ·rename_i h2;exact absurd h h2
  ·rename_i h2
   split at h
   ·cases h
   ·rename_i h3
    exact⟨Decidable.not_not.1 h1,Decidable.not_not.1 h2,by omega,h⟩
theorem K6 {p:Ab} {x:Int} {key:ByteArray} :(Cv p x key).length≤4∧((Cv p x key).Pairwise (· < ·))∧∀q∈Cv p x key,0≤q∧q < 4∧q < (p.queues.length:Int):=by
 unfold Cv
 split
 ·rename_i h
  obtain⟨hr,k,rfl,hk,_⟩:=Hf h
  refine⟨Ys hr hk,Sz _ _ _,fun q hq=> ?_⟩
  have:=Ye hr hk hq
  have:=hr.queues
  omega
 ·exact⟨Nat.zero_le _,List.Pairwise.nil,fun q hq=>by cases hq⟩
theorem Ah2 (p:Ab) (x:Int) (key body:ByteArray):(Kb p x key body).length=(Cv p x key).length:=by unfold Kb;rw[List.length_map]
theorem Aad {p:Ab} {x:Int} {key body:ByteArray} (hk:key.size≤1048576) (hb:body.size≤1048576):∀a∈Kb p x key body,Hy a:=fun a ha=>by
 obtain⟨q,hq,rfl⟩:=List.mem_map.1 ha
 have:=K6.2.2 q hq
 exact⟨hk,hb,by show -9223372036854775808≤q∧q≤9223372036854775807;omega,by show -9223372036854775808≤(0:Int)∧(0:Int)≤9223372036854775807;omega⟩
def Vi (n:Int) (l:List Ap):List Ap:=if (l.length:Int)≤n then l else l.drop 1
structure Ak8 (p:Ab) (s:Aa) (Q:List Int) (key body:ByteArray) (n:Nat) (c:Aa×List Aj):Prop where
 wait:c.2=(Q.drop n).map (Jp key body)
 came:∀q:Int,0≤q→q∈Q.take n→∃sq,s.nextSeq≤sq∧Ah c.1 q=Vi (Bu p q).limit (Ah s q++[⟨sq,key,body,false,0⟩])
 same:∀q:Int,0≤q→q∉Q.take n→Ah c.1 q=Ah s q
theorem Ak8.next {p:Ab} {s s1:Aa} {Q:List Int} {key body:ByteArray} {n:Nat} {l L:List Aj} (hd:∀q:Int,(Bu p q).dead < 0) (hQ:Q.Pairwise (· < ·)) (hQ0:∀q∈Q,0≤q) (hn:n < Q.length) (h:Ak8 p s Q key body n (s1,L)) (hr:Hz p s l n (s1,L)):
  Ak8 p s Q key body (n+1) (G2 p (s1,L)):=by
 have hw:=h.wait
 simp only at hw
 subst hw
 have hdrop:Q.drop n=Q[n]::Q.drop (n+1):=List.drop_eq_getElem_cons hn
 have htake:Q.take (n+1)=Q.take n++[Q[n]]:=List.take_succ_eq_append_getElem hn
 have hqn:0≤Q[n]:=hQ0 _ (List.getElem_mem hn)
 have hnew:Q[n]∉Q.take n:=fun hm=>by
  obtain⟨i,hi,he⟩:=List.getElem_of_mem hm
  rw[List.getElem_take] at he
  have hin:i < n:=by rw[List.length_take] at hi;omega
  have:=List.pairwise_iff_getElem.1 hQ i n (by omega) hn hin
  omega
 rw[hdrop,List.map_cons] at hr⊢
 have hR:Cs p s1:=hr.ok.right
 have hq:=hr.ok.wait _ List.mem_cons_self
 have hql:Q[n].toNat < s1.ready.length:=by have:=hR.len;have h2:=hq.queue;simp only[Jp] at h2;omega
 have hseq:=hr.seq
 simp only at hseq
 have hpush:Bs (Ah (F7 s1) Q[n]) (Cj s1 (Jp key body Q[n]))=Ah s1 Q[n]++[Cj s1 (Jp key body Q[n])]:=Uh fun y hy=>Sy hR Q[n] y hy
 have hold:=h.same Q[n] hqn hnew
 simp only at hold
 have hdie:∀x,E9 p Q[n] x=[]:=fun x=>by unfold E9;rw[if_pos (.inl (hd _))]
 have hlay:∃s2,Ek p (F7 s1) Q[n] (Cj s1 (Jp key body Q[n]))=(s2,[])∧s2.ready=s1.ready.set Q[n].toNat (Vi (Bu p Q[n]).limit (Ah s Q[n]++[⟨s1.nextSeq,key,body,false,0⟩])):=by
  unfold Ek
  rw[hpush,hold]
  by_cases hc:((Ah s Q[n]++[Cj s1 (Jp key body Q[n])]).length:Int)≤(Bu p Q[n]).limit
  ·rw[if_pos hc]
   refine⟨_,rfl,?_⟩
   show _=s1.ready.set Q[n].toNat (Vi (Bu p Q[n]).limit (Ah s Q[n]++[Cj s1 (Jp key body Q[n])]))
   unfold Vi
   rw[if_pos hc]
   rfl
  ·rw[if_neg hc,hdie]
   refine⟨_,rfl,?_⟩
   show _=s1.ready.set Q[n].toNat (Vi (Bu p Q[n]).limit (Ah s Q[n]++[Cj s1 (Jp key body Q[n])]))
   unfold Vi
   rw[if_neg hc]
   rfl
 obtain⟨s2,h2,hs2⟩:=hlay
 have hstep:G2 p (s1,Jp key body Q[n]::(Q.drop (n+1)).map (Jp key body))=(s2,(Q.drop (n+1)).map (Jp key body)):=by
  show((Ek p (F7 s1) Q[n] (Cj s1 (Jp key body Q[n]))).1,_++(Ek p (F7 s1) Q[n] (Cj s1 (Jp key body Q[n]))).2)=_
  rw[h2,List.append_nil]
 rw[hstep]
 refine⟨rfl,fun q h0 hm=> ?_,fun q h0 hm=> ?_⟩
 ·simp only
  rw[Qf hs2 hql]
  by_cases e:q.toNat=Q[n].toNat
  ·have eq:q=Q[n]:=by omega
   subst eq
   rw[if_pos rfl]
   exact⟨s1.nextSeq,by omega,rfl⟩
  ·rw[if_neg e]
   rw[htake,List.mem_append,List.mem_singleton] at hm
   rcases hm with hm|hm
   ·exact h.came q h0 hm
   ·exact absurd (congrArg Int.toNat hm) e
 ·simp only
  rw[htake,List.mem_append,List.mem_singleton,not_or] at hm
  rw[Qf hs2 hql,if_neg (fun e=>hm.2 (by omega))]
  exact h.same q h0 hm.1
theorem Q3 {p:Ab} {s:Aa} {x:Int} {key body:ByteArray} (h:Bt p s x key body=0):Cs p (Cl p s x key body):=by
 unfold Cl
 rw[if_pos h]
 exact Sg (Ry h).2.2.2
end Go.Proofs.YtaanpcjkflhomaaGreatDoor
