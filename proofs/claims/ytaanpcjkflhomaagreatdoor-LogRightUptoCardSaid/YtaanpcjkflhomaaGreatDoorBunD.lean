/-
  Walk of the reference's twice. The reference's CheckPlan, walked.
  What a right plan is; a plan in its box.
  The law's plan of the office: what it is, and that it comes in new memory.
-/
import Derived.Test.YtaanpcjkflhomaaGreatDoorBunC
set_option maxHeartbeats 20000000
set_option maxRecDepth 100000
set_option linter.unusedSimpArgs false
set_option linter.unusedVariables false
namespace Go.Proofs.YtaanpcjkflhomaaGreatDoor
open Go.RowKit
end Go.Proofs.YtaanpcjkflhomaaGreatDoor
namespace Go.Proofs.YtaanpcjkflhomaaGreatDoor
open Go.RowKit
open Go.RowKit
structure Bz (p:Ab):Prop where
 posts:p.posts.length≤4
 queues:p.queues.length≤4
 binds:p.binds.length≤10
 names:∀s∈Ce p++B7 p,Nm s=true
 nodupPosts:(Ce p).Nodup
 nodupQueues:(B7 p).Nodup
 kind:∀x∈p.posts,1≤x.kind∧x.kind≤3
 queue:∀x∈p.queues,1≤x.limit∧x.limit≤6∧ -1≤x.dead∧x.dead < (p.posts.length:Int)
 bind:∀b∈p.binds,0≤b.src∧b.src < (p.posts.length:Int)∧0≤b.to∧b.to < (if b.toPost then (p.posts.length:Int) else (p.queues.length:Int))
 pat:∀b∈p.binds,Be E3 b.pattern=0
theorem Ac5:∀ {bs:List B4},Ht bs=0→∀b∈bs,Be E3 b.pattern=0
 | [],_,b,hb=>by cases hb
 |x::r,h,b,hb=>by
  unfold Ht at h
  by_cases hx:Be E3 x.pattern=0
  ·rw[if_pos hx] at h
   rcases List.mem_cons.1 hb with rfl|hb
   ·exact hx
   ·exact Ac5 h b hb
  ·rw[if_neg hx] at h
   exact absurd h hx
theorem Ct {p:Ab} (h:Bf p=0):Bz p:=by
 unfold Bf at h
 split at h
 ·cases h
 rename_i h1
 split at h
 ·cases h
 rename_i h2
 split at h
 ·cases h
 rename_i h3
 split at h
 ·cases h
 rename_i h4
 split at h
 ·cases h
 rename_i h5
 split at h
 ·cases h
 rename_i h6
 simp only[Bool.or_eq_true,not_or,Bool.not_eq_true,dup,Bool.not_eq_false',decide_eq_true_eq] at h3
 simp only[Bool.not_eq_true,List.any_eq_false] at h2 h4 h5 h6
 refine⟨by omega,by omega,by omega,fun s hs=> ?_,h3.1,h3.2,fun x hx=> ?_,fun x hx=> ?_,fun b hb=> ?_,Ac5 h⟩
 ·have:=h2 s hs;simpa using this
 ·have:=h4 x hx;simp[Ng] at this;omega
 ·have:=h5 x hx;simp[Jq] at this;omega
 ·have h':Uy p.posts.length p.queues.length b=true:=by
   have:=h6 b hb
   cases hq:Uy p.posts.length p.queues.length b
   ·rw[hq] at this;cases this
   ·rfl
  have this:=h'
  simp only[Uy,Bool.and_eq_true,decide_eq_true_eq] at this
  exact⟨this.1.1.1,this.1.1.2,this.1.2,this.2⟩
theorem Q6 {p:List UInt8→Bool} {s:ByteArray} (h:Be p s=0):s.size≤24:=by
 unfold Be at h
 split at h
 ·cases h
 ·omega
theorem Akw {p:Ab} {a1 a2 a3:Option Addr} {lo:Nat} {w:World} (hp:Az w lo w.heap.size a1 a2 a3 p) (o:Obj):Az (w.alloc o) 0 (w.alloc o).heap.size a1 a2 a3 p:=
 (hp.below ((zb _ w).alloc (zn _) o) (zn _)).wider (Nat.zero_le _) (by simp)
def Boxed (w W0:World) (p:Ab) (a1 a2 a3:Option Addr) (c1 c2 c3:Nat):Prop:=
 ∀W,Below W0.heap.size W0 W→Az W 0 W0.heap.size a1 a2 a3 p∧(W.cell? ⟨w.heap.size,0,none⟩=some (.slice a1 p.posts.length c1)∧W.cell? ⟨w.heap.size,1,none⟩=some (.slice a2 p.queues.length c2)∧W.cell? ⟨w.heap.size,2,none⟩=some (.slice a3 p.binds.length c3))∧Below w.heap.size w W
theorem G6 {p:Ab} {a1 a2 a3:Option Addr} {lo:Nat} {w:World} (hp:Az w lo w.heap.size a1 a2 a3 p) (c1 c2 c3:Nat) (t:TypeId):
  Boxed w (w.alloc (.cells #[.slice a1 p.posts.length c1,.slice a2 p.queues.length c2,.slice a3 p.binds.length c3] t)) p a1 a2 a3 c1 c2 c3:=fun W hW=>by
 have hbk:=(Bk.new w t #[.slice a1 p.posts.length c1,.slice a2 p.queues.length c2,.slice a3 p.binds.length c3]).below hW (by simp)
 refine⟨(Akw hp _).below hW (zn _),⟨?_,?_,?_⟩,((zb _ w).alloc (zn _) _).trans (hW.mono (by simp))⟩
 ·have:=hbk.cell 0;simpa using this
 ·have:=hbk.cell 1;simpa using this
 ·have:=hbk.cell 2;simpa using this
open Go.RowKit
theorem Sl.of_bk {w:World} {g lo hi:Nat} {t:TypeId} {cs:Array Value} (h:Bk w g t cs) (h1:lo≤g) (h2:g < hi) {us:List Value} (hu:us=cs.toList):Sl w lo hi (some ⟨g,0,none⟩) us:=
 .inr ⟨g,0,rfl,h1,h2,fun j u hj=>by
  rw[Nat.zero_add,h.cell]
  rw[hu,Array.getElem?_toList] at hj
  exact hj⟩
def Ae:Ab where
 posts:=[⟨⟨#[109,97,105,110]⟩,3⟩,⟨⟨#[97,108,108]⟩,2⟩,⟨⟨#[100,101,97,100]⟩,1⟩]
 queues:=[⟨⟨#[97]⟩,2,2⟩,⟨⟨#[98]⟩,3,-1⟩,⟨⟨#[100]⟩,2,-1⟩]
 binds:=[⟨0,false,0,⟨#[120,46,35]⟩⟩,⟨0,true,1,⟨#[42,46,121]⟩⟩,⟨1,false,1,⟨#[35]⟩⟩,⟨1,true,0,⟨#[35]⟩⟩,⟨2,false,2,⟨#[120,46,121]⟩⟩]
def Ur:Array Value:=(Ae.posts.flatMap Jt).toArray
def S2:Array Value:=(Ae.queues.flatMap Hc).toArray
def Xp:Array Value:=(Ae.binds.flatMap D4).toArray
structure Mq (w:World) (b1 b2 b3:Nat):Prop where
 posts:Bk w b1 123 Ur
 queues:Bk w b2 104 S2
 binds:Bk w b3 127 Xp
def E8 (b1 b2 b3:Nat):Value:=Bc Ae (some ⟨b1,0,none⟩) (some ⟨b2,0,none⟩) (some ⟨b3,0,none⟩) 3 3 5
theorem Qi (w:World):Calls Tryz.prog 57 #[] w fun e w'=>e= .returned (E8 (w.heap.size+1) (w.heap.size+2) (w.heap.size+3))∧Mq w' (w.heap.size+1) (w.heap.size+2) (w.heap.size+3)∧w'.heap.size=w.heap.size+4∧Below w.heap.size w w':=by
 go_enter Tryz.func57,Tryz.ntmps57
 go_wp2_with fail
 refine bodyPost_ret (v:=E8 (w.heap.size+1) (w.heap.size+2) (w.heap.size+3)) (by simp[results,Tryz.results57,go_sem,E8,Bc,Ae]) rfl ⟨rfl,⟨?_,?_,?_⟩,by simp,?_⟩
 ·exact((Bk.new_at _ _ _ (by simp)).alloc _).alloc _
 ·exact(Bk.new_at _ _ _ (by simp)).alloc _
 ·exact Bk.new_at _ _ _ (by simp)
 ·exact((((zb _ w).alloc (zn _) _).alloc (by simp) _).alloc (by simp;omega) _).alloc (by simp;omega) _
theorem Mq.plan {w:World} {b1 b2 b3 lo hi:Nat} (h:Mq w b1 b2 b3) (h1:lo≤b1∧b1 < hi) (h2:lo≤b2∧b2 < hi) (h3:lo≤b3∧b3 < hi):Az w lo hi (some ⟨b1,0,none⟩) (some ⟨b2,0,none⟩) (some ⟨b3,0,none⟩) Ae:=
 ⟨Sl.of_bk h.posts h1.1 h1.2 rfl,Sl.of_bk h.queues h2.1 h2.2 rfl,Sl.of_bk h.binds h3.1 h3.2 rfl⟩
theorem Mq.below {w w':World} {b1 b2 b3 B:Nat} (h:Mq w b1 b2 b3) (hb:Below B w w') (h1:b1 < B) (h2:b2 < B) (h3:b3 < B):Mq w' b1 b2 b3:=
 ⟨h.posts.below hb h1,h.queues.below hb h2,h.binds.below hb h3⟩
theorem Adn {p:Ab} (h1:p.posts.length≤1048576) (h2:p.queues.length≤1048576) (h3:p.binds.length≤1048576) (h4:(p.posts.all fun x=>decide (x.name.size≤1048576))=true) (h5:(p.queues.all fun x=>decide (x.name.size≤1048576))=true)
  (h6:(p.binds.all fun x=>decide (x.pattern.size≤1048576))=true):Ai p:=
 ⟨h1,h2,h3,fun x hx=>of_decide_eq_true (List.all_eq_true.1 h4 x hx),fun x hx=>of_decide_eq_true (List.all_eq_true.1 h5 x hx),fun x hx=>of_decide_eq_true (List.all_eq_true.1 h6 x hx)⟩
theorem C9:Ai Ae:=Adn (by decide) (by decide) (by decide) (by decide) (by decide) (by decide)
/-! For running the plain functions: over lists of bytes. -/
def Av7 (l:List UInt8):Bool:=decide (0 < l.length) && decide (l.length≤8) && !(l.any fun c=>far (c.toNat:Int))
theorem Z9 (s:ByteArray):Nm s=Av7 s.data.toList:=by
 unfold Nm Av7
 rw[ByteArray.toList_eq,Array.length_toList]
 rfl
def Yv:List B4→Int
 | []=>0
 |b::r=>if Jy E3 b.pattern.data.toList=0 then Yv r else Jy E3 b.pattern.data.toList
theorem Xs:∀bs:List B4,Ht bs=Yv bs
 | []=>rfl
 |b::r=>by rw[Ht,Yv,Gk,ByteArray.toList_eq,Xs r]
def Aq7:List (List UInt8)→Bool
 | []=>false
 |x::r=>r.contains x || Aq7 r
theorem Agw:∀l:List ByteArray,dup l=Aq7 (l.map fun s=>s.data.toList)
 | []=>rfl
 |x::r=>by
  have ih:=Agw r
  unfold dup at ih⊢
  simp only[List.map_cons,Aq7,←ih]
  rw[Bool.eq_iff_iff]
  simp only[Bool.not_eq_true',decide_eq_false_iff_not,List.nodup_cons,Bool.or_eq_true,List.contains_eq_mem,decide_eq_true_eq,List.mem_map]
  constructor
  ·intro h
   by_cases hx:x∈r
   ·exact .inl ⟨x,hx,rfl⟩
   ·exact .inr fun hn=>h ⟨hx,hn⟩
  ·rintro(⟨y,hy,e⟩|h) ⟨h1,h2⟩
   ·have:y=x:=toList_inj (by rw[ByteArray.toList_eq,ByteArray.toList_eq];exact e)
    exact h1 (this▸hy)
   ·exact h h2
def Aq2 (p:Ab):Int:=
 if 4 < p.posts.length∨4 < p.queues.length∨10 < p.binds.length then 2
 else if (Ce p++B7 p).any (fun s=> !Av7 s.data.toList) then 4
 else if Aq7 ((Ce p).map fun s=>s.data.toList) || Aq7 ((B7 p).map fun s=>s.data.toList) then 6
 else if p.posts.any Ng then 7
 else if p.queues.any (Jq p.posts.length) then 3
 else if p.binds.any (fun b=> !Uy p.posts.length p.queues.length b) then 3
 else Yv p.binds
theorem Xc (p:Ab):Bf p=Aq2 p:=by
 unfold Bf Aq2
 simp only[Z9,Agw,Xs]
theorem Ab6 (p k:ByteArray):Aa9 p k=Ec (Gy p.data.toList) (Gy k.data.toList):=by
 unfold Aa9
 rw[←ByteArray.toList_eq,←ByteArray.toList_eq,←I8,←I8]
theorem D7:Bf Ae=0:=by rw[Xc];decide
structure Eu (w:World) (b1 b2 b3:Nat):Prop where
 at_:Mq w b1 b2 b3
 lt:b1 < w.heap.size∧b2 < w.heap.size∧b3 < w.heap.size
theorem Eu.plan {w:World} {b1 b2 b3:Nat} (h:Eu w b1 b2 b3):Az w 0 w.heap.size (some ⟨b1,0,none⟩) (some ⟨b2,0,none⟩) (some ⟨b3,0,none⟩) Ae:=
 h.at_.plan ⟨Nat.zero_le _,h.lt.1⟩ ⟨Nat.zero_le _,h.lt.2.1⟩ ⟨Nat.zero_le _,h.lt.2.2⟩
theorem Eu.below {w w':World} {b1 b2 b3:Nat} (h:Eu w b1 b2 b3) (hb:Below w.heap.size w w'):Eu w' b1 b2 b3:=
 ⟨h.at_.below hb h.lt.1 h.lt.2.1 h.lt.2.2,by have:=hb.size;have:=h.lt;omega⟩
theorem Dh (w:World):Calls Tryz.prog 57 #[] w fun e w'=>∃b1 b2 b3,e= .returned (E8 b1 b2 b3)∧Eu w' b1 b2 b3∧Below w.heap.size w w':=by
 refine(Qi w).mono ?_
 rintro e w' ⟨rfl,h,hz,hb⟩
 exact⟨_,_,_,rfl,⟨h,by omega,by omega,by omega⟩,hb⟩
end Go.Proofs.YtaanpcjkflhomaaGreatDoor
