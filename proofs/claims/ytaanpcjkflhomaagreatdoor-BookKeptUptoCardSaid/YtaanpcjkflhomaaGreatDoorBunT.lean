/-
  The plain law of what stays while letters arrive. No program in sight.
  What letters do at the office, without the program.
  arriveBegun answers true: what must be in any case of what arrives.
-/
import Derived.Test.YtaanpcjkflhomaaGreatDoorBunR
import Derived.Test.YtaanpcjkflhomaaGreatDoorBunO
import Derived.Test.YtaanpcjkflhomaaGreatDoorBunJ
import Derived.Test.YtaanpcjkflhomaaGreatDoorBunG
import Derived.Test.YtaanpcjkflhomaaGreatDoorBunS
import Derived.Test.YtaanpcjkflhomaaGreatDoorBunE
set_option linter.unusedSimpArgs false
set_option linter.unusedVariables false
namespace Go.Proofs.YtaanpcjkflhomaaGreatDoor
theorem lineAt_set {s s' : StateD} {q q' : Int} {r : List ItemD} (h : s'.ready = s.ready.set q.toNat r) (hq : q.toNat < s.ready.length) : lineAt s' q' = if q'.toNat = q.toNat then r else lineAt s q' := by
 unfold lineAt
 rw [h,List.getElem?_set]
 by_cases e : q'.toNat = q.toNat
 ·rw [if_pos e,if_pos e.symm,if_pos hq]
  rfl
 ·rw [if_neg e,if_neg (fun h => e h.symm)]
theorem lineAt_below {p : PlanD} {s : StateD} (h : Right p s) (q : Int) : ∀ y ∈ lineAt s q,y.seq < s.nextSeq := fun y hy => by
 refine h.below _ ?_
 unfold seqsS seqsR
 rw [List.mem_append]
 left
 rw [List.mem_flatMap]
 refine ⟨lineAt s q,?_,List.mem_map.2 ⟨y,hy,rfl⟩⟩
 by_cases hq : q.toNat < s.ready.length
 ·exact lineAt_mem hq
 ·exfalso
  unfold lineAt at hy
  rw [List.getElem?_eq_none (by omega)] at hy
  cases hy
def TailNew (b : Int) (old now : List ItemD) : Prop := ∃ k new,now = old.drop k ++ new ∧ ∀ y ∈ new,b ≤ y.seq
theorem TailNew.refl (b : Int) (l : List ItemD) : TailNew b l l := ⟨0,[],by simp,fun y hy => (by cases hy)⟩
theorem TailNew.push {b : Int} {old now : List ItemD} {x : ItemD} (h : TailNew b old now) (hx : b ≤ x.seq) : TailNew b old (now ++ [x]) := by
 obtain ⟨k,new,rfl,hn⟩ := h
 refine ⟨k,new ++ [x],by rw [List.append_assoc],fun y hy => ?_⟩
 rcases List.mem_append.1 hy with hy | hy
 ·exact hn y hy
 ·rw [List.mem_singleton.1 hy]; exact hx
theorem TailNew.drop {b : Int} {old now : List ItemD} (h : TailNew b old now) : TailNew b old (now.drop 1) := by
 obtain ⟨k,new,rfl,hn⟩ := h
 by_cases hk : k < old.length
 ·refine ⟨k + 1,new,?_,hn⟩
  have h1 : 1 ≤ (old.drop k).length := by rw [List.length_drop]; omega
  rw [List.drop_append_of_le_length h1,List.drop_drop]
 ·have e : old.drop k = [] := List.drop_eq_nil_of_le (by omega)
  refine ⟨k,new.drop 1,by rw [e]; rfl,fun y hy => hn y (List.mem_of_mem_drop hy)⟩
structure Kept (s : StateD) (l : List ArrivalD) (n : Nat) (c : StateD × List ArrivalD) : Prop where
 outs : c.1.outs = s.outs
 takers : c.1.takers = s.takers
 acked : c.1.acked = s.acked
 tag : c.1.nextTag = s.nextTag
 dropped : s.dropped ≤ c.1.dropped
 len : c.1.ready.length = s.ready.length
 more : l.length ≤ n + c.2.length
 tail : ∀ q : Int,TailNew s.nextSeq (lineAt s q) (lineAt c.1 q)
theorem Kept.start (s : StateD) (l : List ArrivalD) : Kept s l 0 (s,l) := ⟨rfl,rfl,rfl,rfl,Int.le_refl _,rfl,by simp,fun q => .refl _ _⟩
theorem Kept.next {p : PlanD} {s s1 : StateD} {l l1 : List ArrivalD} {a : ArrivalD} {n : Nat} (h : Kept s l n (s1,a :: l1)) (hr : RunOk p s l n (s1,a :: l1)) : Kept s l (n + 1) (stepA p (s1,a :: l1)) := by
 have hq := hr.ok.wait a List.mem_cons_self
 have hseq := hr.seq
 simp only at hseq
 have hR : Right p s1 := hr.ok.right
 have hql : a.queue.toNat < s1.ready.length := by have := hR.len; have := hq.queue; omega
 have hpush : pushL (lineAt (seqd s1) a.queue) (itemOf s1 a) = lineAt s1 a.queue ++ [itemOf s1 a] := pushL_last fun y hy => lineAt_below hR a.queue y hy
 have hx : s.nextSeq ≤ (itemOf s1 a).seq := by show s.nextSeq ≤ s1.nextSeq; omega
 have hm := h.more
 simp only [List.length_cons] at hm
 have hT := h.tail a.queue
 simp only at hT
 simp only [stepA]
 unfold layP
 rw [hpush]
 split
 ·refine ⟨h.outs,h.takers,h.acked,h.tag,h.dropped,?_,?_,fun q => ?_⟩
  ·simp only [List.length_set]; exact h.len
  ·simp only [List.append_nil]; omega
  ·conv => arg 3; rw [lineAt_set (s := s1) (q := a.queue) rfl hql]
   split
   ·rename_i e
    have : lineAt s q = lineAt s a.queue := by unfold lineAt; rw [e]
    rw [this]
    exact hT.push hx
   ·exact h.tail q
 ·refine ⟨h.outs,h.takers,h.acked,h.tag,?_,?_,?_,fun q => ?_⟩
  ·have := h.dropped
   simp only [seqd] at this ⊢
   omega
  ·simp only [List.length_set]; exact h.len
  ·simp only [List.length_append]; omega
  ·conv => arg 3; rw [lineAt_set (s := s1) (q := a.queue) rfl hql]
   split
   ·rename_i e
    have : lineAt s q = lineAt s a.queue := by unfold lineAt; rw [e]
    rw [this]
    exact (hT.push hx).drop
   ·exact h.tail q
theorem kept_exists {p : PlanD} {s : StateD} {l : List ArrivalD} (hs : s.nextSeq ≤ 524288) (hw : wC (s,l) ≤ 700) : ∀ (m n : Nat) (c : StateD × List ArrivalD),wC c ≤ m → RunOk p s l n c → Kept s l n c → ∃ n s1,RunOk p s l n (s1,[]) ∧ Kept s l n (s1,[])
 | m,n,(s1,[]),_,h,hk => ⟨n,s1,h,hk⟩
 | 0,n,(s1,a :: l1),hm,h,hk => by
  exfalso
  unfold wC wA at hm
  simp only [List.map_cons,List.sum_cons] at hm
  omega
 | m + 1,n,(s1,a :: l1),hm,h,hk => by
  have h1 := h.next hs hw
  have h2 := (stepA_ok h.ok (by have h8 := h.seq; have h9 := h.less; simp only at h8; omega)).2
  exact kept_exists hs hw m (n + 1) _ (by omega) h1 (hk.next h)
theorem arrive_kept {p : PlanD} {s : StateD} {l : List ArrivalD} (h : arriveErr p s l = 0) : ∃ n : Nat,arriveN p s l = (n : Int) ∧ RunOk p s l n (arriveS p s l,[]) ∧ Kept s l n (arriveS p s l,[]) := by
 obtain ⟨h1,h2,h3⟩ := arrive_ok h
 have hw := wC_le h1.right h2
 obtain ⟨n,s1,h4,h5⟩ := kept_exists h3 hw _ 0 _ (Nat.le_refl _) (.start h1) (.start s l)
 obtain ⟨h6,h7⟩ := h4.end_ hw
 have e : arriveS p s l = s1 := by unfold arriveS; rw [if_pos h,h6]
 rw [e]
 exact ⟨n,by unfold arriveN; rw [if_pos h,h6]; omega,h4,h5⟩
theorem off2 : onL officeP 2 kXY = [(4,⟨2,false,2,⟨#[120,46,121]⟩⟩)] := by
 have h0 : byP officeP ⟨2,false,2,⟨#[120,46,121]⟩⟩ kXY = true := by rw [byP_list]; decide
 have e : officeP.binds = [⟨0,false,0,⟨#[120,46,35]⟩⟩,⟨0,true,1,⟨#[42,46,121]⟩⟩,⟨1,false,1,⟨#[35]⟩⟩,⟨1,true,0,⟨#[35]⟩⟩,⟨2,false,2,⟨#[120,46,121]⟩⟩] := rfl
 unfold onL
 simp [onTo,e,h0]
theorem outs2 : outs officeP 2 kXY = [2] := by
 have e : officeP.posts.length = 3 := rfl
 unfold outs
 rw [e]
 simp [outAt,off2,gather,addTo]
theorem ofL2 : ofL officeP 2 kXY = [2] := by
 unfold ofL
 rw [outs2,sortI_self (by decide : ([2] : List Int).Pairwise (· < ·))]
 have : offAt officeP kXY [2] ([2] : List Int).length = [2] := by simp [offAt,off2,collect,queueTo]
 rw [this,sortI_self (by decide),compact_self (by decide)]
theorem dying2 {b : ByteArray} {n : Int} : dyingP officeP 0 (letterP n b) = [⟨2,kXY,b,1⟩] := by
 unfold dyingP
 have hc : ¬ ((queueAt officeP 0).dead < 0 ∨ 2 ≤ (letterP n b).deaths) := (show ¬ ((2 : Int) < 0 ∨ 2 ≤ (0 : Int)) from by decide)
 rw [if_neg hc,show (queueAt officeP 0).dead = ((2 : Nat) : Int) from rfl,show (letterP n b).key = kXY from rfl]
 have := ofL2
 rw [show ofL officeP ((2 : Nat) : Int) kXY = [2] from ofL2]
 rfl
open Go Go.RowKit
set_option maxRecDepth 100000
theorem row_cell {w : World} {lo hi rb ro k : Nat} {a2 a3 : Option Addr} {rows : List RowD} {s : StateD} {l : List ItemD} (h : StateAt w lo hi (some ⟨rb,ro,none⟩) a2 a3 rows s) (hk : s.ready[k]? = some l) :
  ∃ ra rc,w.cell? ⟨rb,ro + k,none⟩ = some (.slice ra l.length rc) ∧ Sl w lo hi ra (l.flatMap vItem) ∧ l.length ≤ rc := by
 rw [← h.same,List.getElem?_map,Option.map_eq_some_iff] at hk
 obtain ⟨r,hr,rfl⟩ := hk
 have hkl : k < rows.length := (List.getElem?_eq_some_iff.1 hr).1
 obtain ⟨b,o,e,_,_,hc⟩ := sl_elem vRow_len (by decide) h.ready hkl
 simp only [Option.some.injEq,Addr.mk.injEq,and_true] at e
 obtain ⟨rfl,rfl⟩ := e
 have e2 : rows[k] = r := by rw [List.getElem?_eq_getElem hkl] at hr; exact Option.some.inj hr
 rw [e2] at hc
 have h1 := hc 0 _ rfl
 rw [Nat.mul_one] at h1
 exact ⟨r.at_,r.cap,h1,(h.row r (List.mem_of_getElem? hr)).1,(h.row r (List.mem_of_getElem? hr)).2⟩
end Go.Proofs.YtaanpcjkflhomaaGreatDoor
