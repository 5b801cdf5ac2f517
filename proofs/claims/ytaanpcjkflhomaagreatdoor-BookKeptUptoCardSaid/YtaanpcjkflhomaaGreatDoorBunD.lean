/-
  Walk of the reference's twice. The reference's CheckPlan, walked.
  What a right plan is; a plan in its box.
  The law's plan of the office: what it is, and that it comes in new memory.
-/
import Derived.Test.YtaanpcjkflhomaaGreatDoorBunC
set_option linter.unusedSimpArgs false
set_option linter.unusedVariables false
namespace Go.Proofs.YtaanpcjkflhomaaGreatDoor
open Go.RowKit
set_option maxRecDepth 100000
end Go.Proofs.YtaanpcjkflhomaaGreatDoor
namespace Go.Proofs.YtaanpcjkflhomaaGreatDoor
open Go.RowKit
set_option maxRecDepth 100000
open Go.RowKit
set_option maxRecDepth 100000
structure PlanRight (p : PlanD) : Prop where
 posts : p.posts.length ≤ 4
 queues : p.queues.length ≤ 4
 binds : p.binds.length ≤ 10
 names : ∀ s ∈ postNames p ++ queueNames p,nameP s = true
 nodupPosts : (postNames p).Nodup
 nodupQueues : (queueNames p).Nodup
 kind : ∀ x ∈ p.posts,1 ≤ x.kind ∧ x.kind ≤ 3
 queue : ∀ x ∈ p.queues,1 ≤ x.limit ∧ x.limit ≤ 6 ∧ -1 ≤ x.dead ∧ x.dead < (p.posts.length : Int)
 bind : ∀ b ∈ p.binds,0 ≤ b.src ∧ b.src < (p.posts.length : Int) ∧ 0 ≤ b.to ∧ b.to < (if b.toPost then (p.posts.length : Int) else (p.queues.length : Int))
 pat : ∀ b ∈ p.binds,splitErr isWild b.pattern = 0
theorem patErr_ok : ∀ {bs : List BindD},patErr bs = 0 → ∀ b ∈ bs,splitErr isWild b.pattern = 0
 | [],_,b,hb => by cases hb
 | x :: r,h,b,hb => by
  unfold patErr at h
  by_cases hx : splitErr isWild x.pattern = 0
  ·rw [if_pos hx] at h
   rcases List.mem_cons.1 hb with rfl | hb
   ·exact hx
   ·exact patErr_ok h b hb
  ·rw [if_neg hx] at h
   exact absurd h hx
theorem checkP_right {p : PlanD} (h : checkP p = 0) : PlanRight p := by
 unfold checkP at h
 split at h
 ·cases h
 rename_i h1
 split at h
 ·cases h
 rename_i h2
 split at h
 ·cases h
 rename_i h3
 split at h
 ·cases h
 rename_i h4
 split at h
 ·cases h
 rename_i h5
 split at h
 ·cases h
 rename_i h6
 simp only [Bool.or_eq_true,not_or,Bool.not_eq_true,dup,Bool.not_eq_false',decide_eq_true_eq] at h3
 simp only [Bool.not_eq_true,List.any_eq_false] at h2 h4 h5 h6
 refine ⟨by omega,by omega,by omega,fun s hs => ?_,h3.1,h3.2,fun x hx => ?_,fun x hx => ?_,fun b hb => ?_,patErr_ok h⟩
 ·have := h2 s hs; simpa using this
 ·have := h4 x hx; simp [kindP] at this; omega
 ·have := h5 x hx; simp [queueP] at this; omega
 ·have h' : bindP p.posts.length p.queues.length b = true := by
   have := h6 b hb
   cases hq : bindP p.posts.length p.queues.length b
   ·rw [hq] at this; cases this
   ·rfl
  have this := h'
  simp only [bindP,Bool.and_eq_true,decide_eq_true_eq] at this
  exact ⟨this.1.1.1,this.1.1.2,this.1.2,this.2⟩
theorem splitErr_size {p : List UInt8 → Bool} {s : ByteArray} (h : splitErr p s = 0) : s.size ≤ 24 := by
 unfold splitErr at h
 split at h
 ·cases h
 ·omega
theorem plan_boxed {p : PlanD} {a1 a2 a3 : Option Addr} {lo : Nat} {w : World} (hp : PlanAt w lo w.heap.size a1 a2 a3 p) (o : Obj) : PlanAt (w.alloc o) 0 (w.alloc o).heap.size a1 a2 a3 p :=
 (hp.below ((Below.refl _ w).alloc (Nat.le_refl _) o) (Nat.le_refl _)).wider (Nat.zero_le _) (by simp)
def Boxed (w W0 : World) (p : PlanD) (a1 a2 a3 : Option Addr) (c1 c2 c3 : Nat) : Prop :=
 ∀ W,Below W0.heap.size W0 W → PlanAt W 0 W0.heap.size a1 a2 a3 p ∧ (W.cell? ⟨w.heap.size,0,none⟩ = some (.slice a1 p.posts.length c1) ∧ W.cell? ⟨w.heap.size,1,none⟩ = some (.slice a2 p.queues.length c2) ∧ W.cell? ⟨w.heap.size,2,none⟩ = some (.slice a3 p.binds.length c3)) ∧ Below w.heap.size w W
theorem boxed_new {p : PlanD} {a1 a2 a3 : Option Addr} {lo : Nat} {w : World} (hp : PlanAt w lo w.heap.size a1 a2 a3 p) (c1 c2 c3 : Nat) (t : TypeId) :
  Boxed w (w.alloc (.cells #[.slice a1 p.posts.length c1,.slice a2 p.queues.length c2,.slice a3 p.binds.length c3] t)) p a1 a2 a3 c1 c2 c3 := fun W hW => by
 have hbk := (Bk.new w t #[.slice a1 p.posts.length c1,.slice a2 p.queues.length c2,.slice a3 p.binds.length c3]).below hW (by simp)
 refine ⟨(plan_boxed hp _).below hW (Nat.le_refl _),⟨?_,?_,?_⟩,((Below.refl _ w).alloc (Nat.le_refl _) _).trans (hW.mono (by simp))⟩
 ·have := hbk.cell 0; simpa using this
 ·have := hbk.cell 1; simpa using this
 ·have := hbk.cell 2; simpa using this
open Go.RowKit
set_option maxRecDepth 100000
theorem Sl.of_bk {w : World} {g lo hi : Nat} {t : TypeId} {cs : Array Value} (h : Bk w g t cs) (h1 : lo ≤ g) (h2 : g < hi) {us : List Value} (hu : us = cs.toList) : Sl w lo hi (some ⟨g,0,none⟩) us :=
 .inr ⟨g,0,rfl,h1,h2,fun j u hj => by
  rw [Nat.zero_add,h.cell]
  rw [hu,Array.getElem?_toList] at hj
  exact hj⟩
def officeP : PlanD where
 posts := [⟨⟨#[109,97,105,110]⟩,3⟩,⟨⟨#[97,108,108]⟩,2⟩,⟨⟨#[100,101,97,100]⟩,1⟩]
 queues := [⟨⟨#[97]⟩,2,2⟩,⟨⟨#[98]⟩,3,-1⟩,⟨⟨#[100]⟩,2,-1⟩]
 binds := [⟨0,false,0,⟨#[120,46,35]⟩⟩,⟨0,true,1,⟨#[42,46,121]⟩⟩,⟨1,false,1,⟨#[35]⟩⟩,⟨1,true,0,⟨#[35]⟩⟩,⟨2,false,2,⟨#[120,46,121]⟩⟩]
def officePosts : Array Value := (officeP.posts.flatMap vPost).toArray
def officeQueues : Array Value := (officeP.queues.flatMap vQueue).toArray
def officeBinds : Array Value := (officeP.binds.flatMap vBind).toArray
structure OfficeAt (w : World) (b1 b2 b3 : Nat) : Prop where
 posts : Bk w b1 123 officePosts
 queues : Bk w b2 104 officeQueues
 binds : Bk w b3 127 officeBinds
def officeV (b1 b2 b3 : Nat) : Value := planV officeP (some ⟨b1,0,none⟩) (some ⟨b2,0,none⟩) (some ⟨b3,0,none⟩) 3 3 5
set_option maxHeartbeats 1000000 in
theorem office_any (w : World) : Calls Tryz.prog 57 #[] w fun e w' => e = .returned (officeV (w.heap.size + 1) (w.heap.size + 2) (w.heap.size + 3)) ∧ OfficeAt w' (w.heap.size + 1) (w.heap.size + 2) (w.heap.size + 3) ∧ w'.heap.size = w.heap.size + 4 ∧ Below w.heap.size w w' := by
 go_enter Tryz.func57,Tryz.ntmps57
 go_wp2_with fail
 refine bodyPost_ret (v := officeV (w.heap.size + 1) (w.heap.size + 2) (w.heap.size + 3)) (by simp [results,Tryz.results57,go_sem,officeV,planV,officeP]) rfl ⟨rfl,⟨?_,?_,?_⟩,by simp,?_⟩
 ·exact ((Bk.new_at _ _ _ (by simp)).alloc _).alloc _
 ·exact (Bk.new_at _ _ _ (by simp)).alloc _
 ·exact Bk.new_at _ _ _ (by simp)
 ·exact ((((Below.refl _ w).alloc (Nat.le_refl _) _).alloc (by simp) _).alloc (by simp; omega) _).alloc (by simp; omega) _
theorem OfficeAt.plan {w : World} {b1 b2 b3 lo hi : Nat} (h : OfficeAt w b1 b2 b3) (h1 : lo ≤ b1 ∧ b1 < hi) (h2 : lo ≤ b2 ∧ b2 < hi) (h3 : lo ≤ b3 ∧ b3 < hi) : PlanAt w lo hi (some ⟨b1,0,none⟩) (some ⟨b2,0,none⟩) (some ⟨b3,0,none⟩) officeP :=
 ⟨Sl.of_bk h.posts h1.1 h1.2 rfl,Sl.of_bk h.queues h2.1 h2.2 rfl,Sl.of_bk h.binds h3.1 h3.2 rfl⟩
theorem OfficeAt.below {w w' : World} {b1 b2 b3 B : Nat} (h : OfficeAt w b1 b2 b3) (hb : Below B w w') (h1 : b1 < B) (h2 : b2 < B) (h3 : b3 < B) : OfficeAt w' b1 b2 b3 :=
 ⟨h.posts.below hb h1,h.queues.below hb h2,h.binds.below hb h3⟩
theorem small_of {p : PlanD} (h1 : p.posts.length ≤ 1048576) (h2 : p.queues.length ≤ 1048576) (h3 : p.binds.length ≤ 1048576) (h4 : (p.posts.all fun x => decide (x.name.size ≤ 1048576)) = true) (h5 : (p.queues.all fun x => decide (x.name.size ≤ 1048576)) = true)
  (h6 : (p.binds.all fun x => decide (x.pattern.size ≤ 1048576)) = true) : PlanSmall p :=
 ⟨h1,h2,h3,fun x hx => of_decide_eq_true (List.all_eq_true.1 h4 x hx),fun x hx => of_decide_eq_true (List.all_eq_true.1 h5 x hx),fun x hx => of_decide_eq_true (List.all_eq_true.1 h6 x hx)⟩
theorem office_small : PlanSmall officeP := small_of (by decide) (by decide) (by decide) (by decide) (by decide) (by decide)
/-! For running the plain functions: over lists of bytes. -/
def nameL (l : List UInt8) : Bool := decide (0 < l.length) && decide (l.length ≤ 8) && !(l.any fun c => far (c.toNat : Int))
theorem nameP_list (s : ByteArray) : nameP s = nameL s.data.toList := by
 unfold nameP nameL
 rw [ByteArray.toList_eq,Array.length_toList]
 rfl
def patErrL : List BindD → Int
 | [] => 0
 | b :: r => if splitErrL isWild b.pattern.data.toList = 0 then patErrL r else splitErrL isWild b.pattern.data.toList
theorem patErr_list : ∀ bs : List BindD,patErr bs = patErrL bs
 | [] => rfl
 | b :: r => by rw [patErr,patErrL,splitErr_list,ByteArray.toList_eq,patErr_list r]
def dupL : List (List UInt8) → Bool
 | [] => false
 | x :: r => r.contains x || dupL r
theorem dup_list : ∀ l : List ByteArray,dup l = dupL (l.map fun s => s.data.toList)
 | [] => rfl
 | x :: r => by
  have ih := dup_list r
  unfold dup at ih ⊢
  simp only [List.map_cons,dupL,← ih]
  rw [Bool.eq_iff_iff]
  simp only [Bool.not_eq_true',decide_eq_false_iff_not,List.nodup_cons,Bool.or_eq_true,List.contains_eq_mem,decide_eq_true_eq,List.mem_map]
  constructor
  ·intro h
   by_cases hx : x ∈ r
   ·exact .inl ⟨x,hx,rfl⟩
   ·exact .inr fun hn => h ⟨hx,hn⟩
  ·rintro (⟨y,hy,e⟩ | h) ⟨h1,h2⟩
   ·have : y = x := toList_inj (by rw [ByteArray.toList_eq,ByteArray.toList_eq]; exact e)
    exact h1 (this ▸ hy)
   ·exact h h2
def checkL (p : PlanD) : Int :=
 if 4 < p.posts.length ∨ 4 < p.queues.length ∨ 10 < p.binds.length then 2
 else if (postNames p ++ queueNames p).any (fun s => !nameL s.data.toList) then 4
 else if dupL ((postNames p).map fun s => s.data.toList) || dupL ((queueNames p).map fun s => s.data.toList) then 6
 else if p.posts.any kindP then 7
 else if p.queues.any (queueP p.posts.length) then 3
 else if p.binds.any (fun b => !bindP p.posts.length p.queues.length b) then 3
 else patErrL p.binds
theorem checkP_list (p : PlanD) : checkP p = checkL p := by
 unfold checkP checkL
 simp only [nameP_list,dup_list,patErr_list]
theorem fitP_data (p k : ByteArray) : fitP p k = laidP (dots p.data.toList) (dots k.data.toList) := by
 unfold fitP
 rw [← ByteArray.toList_eq,← ByteArray.toList_eq,← parts_data,← parts_data]
theorem office_right : checkP officeP = 0 := by rw [checkP_list]; decide
structure OfficeIn (w : World) (b1 b2 b3 : Nat) : Prop where
 at_ : OfficeAt w b1 b2 b3
 lt : b1 < w.heap.size ∧ b2 < w.heap.size ∧ b3 < w.heap.size
theorem OfficeIn.plan {w : World} {b1 b2 b3 : Nat} (h : OfficeIn w b1 b2 b3) : PlanAt w 0 w.heap.size (some ⟨b1,0,none⟩) (some ⟨b2,0,none⟩) (some ⟨b3,0,none⟩) officeP :=
 h.at_.plan ⟨Nat.zero_le _,h.lt.1⟩ ⟨Nat.zero_le _,h.lt.2.1⟩ ⟨Nat.zero_le _,h.lt.2.2⟩
theorem OfficeIn.below {w w' : World} {b1 b2 b3 : Nat} (h : OfficeIn w b1 b2 b3) (hb : Below w.heap.size w w') : OfficeIn w' b1 b2 b3 :=
 ⟨h.at_.below hb h.lt.1 h.lt.2.1 h.lt.2.2,by have := hb.size; have := h.lt; omega⟩
theorem office_in (w : World) : Calls Tryz.prog 57 #[] w fun e w' => ∃ b1 b2 b3,e = .returned (officeV b1 b2 b3) ∧ OfficeIn w' b1 b2 b3 ∧ Below w.heap.size w w' := by
 refine (office_any w).mono ?_
 rintro e w' ⟨rfl,h,hz,hb⟩
 exact ⟨_,_,_,rfl,⟨h,by omega,by omega,by omega⟩,hb⟩
end Go.Proofs.YtaanpcjkflhomaaGreatDoor
