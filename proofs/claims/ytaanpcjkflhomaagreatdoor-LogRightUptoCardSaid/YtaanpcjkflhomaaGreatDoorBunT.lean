/-
  The plain law of what stays while letters arrive. No program in sight.
-/
import Derived.Test.YtaanpcjkflhomaaGreatDoorBunR
set_option maxHeartbeats 20000000
set_option maxRecDepth 100000
set_option linter.unusedSimpArgs false
set_option linter.unusedVariables false
namespace Go.Proofs.YtaanpcjkflhomaaGreatDoor
theorem Qf {s s':Aa} {q q':Int} {r:List Ap} (h:s'.ready=s.ready.set q.toNat r) (hq:q.toNat < s.ready.length):Ah s' q'=if q'.toNat=q.toNat then r else Ah s q':=by
 unfold Ah
 rw[h,List.getElem?_set]
 by_cases e:q'.toNat=q.toNat
 ·rw[if_pos e,if_pos e.symm,if_pos hq]
  rfl
 ·rw[if_neg e,if_neg (fun h=>e h.symm)]
theorem Sy {p:Ab} {s:Aa} (h:Cs p s) (q:Int):∀y∈Ah s q,y.seq < s.nextSeq:=fun y hy=>by
 refine h.below _ ?_
 unfold Db Dj
 rw[List.mem_append]
 left
 rw[List.mem_flatMap]
 refine⟨Ah s q,?_,List.mem_map.2 ⟨y,hy,rfl⟩⟩
 by_cases hq:q.toNat < s.ready.length
 ·exact Nj hq
 ·exfalso
  unfold Ah at hy
  rw[List.getElem?_eq_none (by omega)] at hy
  cases hy
def Lp (b:Int) (old now:List Ap):Prop:=∃k new,now=old.drop k++new∧∀y∈new,b≤y.seq
theorem Lp.refl (b:Int) (l:List Ap):Lp b l l:=⟨0,[],by simp,fun y hy=>(by cases hy)⟩
theorem Lp.push {b:Int} {old now:List Ap} {x:Ap} (h:Lp b old now) (hx:b≤x.seq):Lp b old (now++[x]):=by
 obtain⟨k,new,rfl,hn⟩:=h
 refine⟨k,new++[x],by rw[List.append_assoc],fun y hy=> ?_⟩
 rcases List.mem_append.1 hy with hy|hy
 ·exact hn y hy
 ·rw[List.mem_singleton.1 hy];exact hx
theorem Lp.drop {b:Int} {old now:List Ap} (h:Lp b old now):Lp b old (now.drop 1):=by
 obtain⟨k,new,rfl,hn⟩:=h
 by_cases hk:k < old.length
 ·refine⟨k+1,new,?_,hn⟩
  have h1:1≤(old.drop k).length:=by rw[List.length_drop];omega
  rw[List.drop_append_of_le_length h1,List.drop_drop]
 ·have e:old.drop k=[]:=List.drop_eq_nil_of_le (by omega)
  refine⟨k,new.drop 1,by rw[e];rfl,fun y hy=>hn y (List.mem_of_mem_drop hy)⟩
structure Kept (s:Aa) (l:List Aj) (n:Nat) (c:Aa×List Aj):Prop where
 outs:c.1.outs=s.outs
 takers:c.1.takers=s.takers
 acked:c.1.acked=s.acked
 tag:c.1.nextTag=s.nextTag
 dropped:s.dropped≤c.1.dropped
 len:c.1.ready.length=s.ready.length
 more:l.length≤n+c.2.length
 tail:∀q:Int,Lp s.nextSeq (Ah s q) (Ah c.1 q)
theorem Kept.start (s:Aa) (l:List Aj):Kept s l 0 (s,l):=⟨rfl,rfl,rfl,rfl,Int.le_refl _,rfl,by simp,fun q=> .refl _ _⟩
theorem Kept.next {p:Ab} {s s1:Aa} {l l1:List Aj} {a:Aj} {n:Nat} (h:Kept s l n (s1,a::l1)) (hr:Hz p s l n (s1,a::l1)):Kept s l (n+1) (G2 p (s1,a::l1)):=by
 have hq:=hr.ok.wait a List.mem_cons_self
 have hseq:=hr.seq
 simp only at hseq
 have hR:Cs p s1:=hr.ok.right
 have hql:a.queue.toNat < s1.ready.length:=by have:=hR.len;have:=hq.queue;omega
 have hpush:Bs (Ah (F7 s1) a.queue) (Cj s1 a)=Ah s1 a.queue++[Cj s1 a]:=Uh fun y hy=>Sy hR a.queue y hy
 have hx:s.nextSeq≤(Cj s1 a).seq:=by show s.nextSeq≤s1.nextSeq;omega
 have hm:=h.more
 simp only[List.length_cons] at hm
 have hT:=h.tail a.queue
 simp only at hT
 simp only[G2]
 unfold Ek
 rw[hpush]
 split
 ·refine⟨h.outs,h.takers,h.acked,h.tag,h.dropped,?_,?_,fun q=> ?_⟩
  ·simp only[List.length_set];exact h.len
  ·simp only[List.append_nil];omega
  ·conv=>arg 3;rw[Qf (s:=s1) (q:=a.queue) rfl hql]
   split
   ·rename_i e
    have:Ah s q=Ah s a.queue:=by unfold Ah;rw[e]
    rw[this]
    exact hT.push hx
   ·exact h.tail q
 ·refine⟨h.outs,h.takers,h.acked,h.tag,?_,?_,?_,fun q=> ?_⟩
  ·have:=h.dropped
   simp only[F7] at this⊢
   omega
  ·simp only[List.length_set];exact h.len
  ·simp only[List.length_append];omega
  ·conv=>arg 3;rw[Qf (s:=s1) (q:=a.queue) rfl hql]
   split
   ·rename_i e
    have:Ah s q=Ah s a.queue:=by unfold Ah;rw[e]
    rw[this]
    exact(hT.push hx).drop
   ·exact h.tail q
theorem Rq {p:Ab} {s:Aa} {l:List Aj} (hs:s.nextSeq≤524288) (hw:wC (s,l)≤700):∀(m n:Nat) (c:Aa×List Aj),wC c≤m→Hz p s l n c→Kept s l n c→∃n s1,Hz p s l n (s1,[])∧Kept s l n (s1,[])
 |m,n,(s1,[]),_,h,hk=>⟨n,s1,h,hk⟩
 |0,n,(s1,a::l1),hm,h,hk=>by
  exfalso
  unfold wC wA at hm
  simp only[List.map_cons,List.sum_cons] at hm
  omega
 |m+1,n,(s1,a::l1),hm,h,hk=>by
  have h1:=h.next hs hw
  have h2:=(Aas h.ok (by have h8:=h.seq;have h9:=h.less;simp only at h8;omega)).2
  exact Rq hs hw m (n+1) _ (by omega) h1 (hk.next h)
theorem Aa1 {p:Ab} {s:Aa} {l:List Aj} (h:Bh p s l=0):∃n:Nat,E5 p s l=(n:Int)∧Hz p s l n (Cu p s l,[])∧Kept s l n (Cu p s l,[]):=by
 obtain⟨h1,h2,h3⟩:=Nz h
 have hw:=Ail h1.right h2
 obtain⟨n,s1,h4,h5⟩:=Rq h3 hw _ 0 _ (zn _) (.start h1) (.start s l)
 obtain⟨h6,h7⟩:=h4.end_ hw
 have e:Cu p s l=s1:=by unfold Cu;rw[if_pos h,h6]
 rw[e]
 exact⟨n,by unfold E5;rw[if_pos h,h6];omega,h4,h5⟩
end Go.Proofs.YtaanpcjkflhomaaGreatDoor
