/-
  The plain law of acts: what each does, and what holds behind it. No program in sight.
-/
import Derived.Test.YtaanpcjkflhomaaGreatDoorHandP
import Derived.Test.YtaanpcjkflhomaaGreatDoorBunCA
set_option maxHeartbeats 20000000
set_option maxRecDepth 100000
set_option linter.unusedSimpArgs false
set_option linter.unusedVariables false
namespace Go.Proofs.YtaanpcjkflhomaaGreatDoor
def E2 (p:Ab) (s:Aa) (x:Cn):Int:=
 if x.kind=1 then Bt p s x.a x.key x.body else if x.kind=2 then Cc p s x.a x.b else if x.kind=3 then Bv p s x.a else if x.kind=4 then Bw p s x.a else if x.kind=5 then Dr p s x.a else if x.kind=6 then Bg p s x.a else 7
def doS (p:Ab) (s:Aa) (x:Cn):Aa:=
 if x.kind=1 then Cl p s x.a x.key x.body else if x.kind=2 then Fh p s x.a x.b else if x.kind=3 then Dn p s x.a else if x.kind=4 then Ca p s x.a else if x.kind=5 then Ha p s x.a else if x.kind=6 then Cf p s x.a (x.b != 0) else Ay
structure T4 (p:Ab) (s x:Aa):Prop where
 was:Cs p s
 right:Cs p x
 came:s.came≤x.came
 acked:s.acked≤x.acked
 dropped:s.dropped≤x.dropped
 tag:s.nextTag≤x.nextTag
theorem Ae2 {p:Ab} {s:Aa} {x:Int} {key body:ByteArray} (h:Bt p s x key body=0):T4 p s (Cl p s x key body):=by
 have hr:=Q3 h
 obtain⟨h0,_,_,h4⟩:=Ry h
 have hR:=Da.1 h0
 obtain⟨n,h5,h6,h7⟩:=Aa1 h4
 have e:Cl p s x key body=Cu p s (Kb p x key body):=by unfold Cl;rw[if_pos h]
 rw[e] at hr⊢
 have e1:=h6.seq
 have e2:=h7.dropped
 have e3:=hr.same
 have e4:=hR.same
 simp only at e1 e2
 exact⟨hR,hr,by omega,Int.le_of_eq h7.acked.symm,e2,Int.le_of_eq h7.tag.symm⟩
theorem Aoc {p:Ab} {s:Aa} {q m:Int} (h:Cc p s q m=0):T4 p s (Fh p s q m):=by
 obtain⟨ha,_,_⟩:=Ko.1 h
 obtain⟨hR,_,_⟩:=Fv.1 ha
 have hr:=Ou h
 have e:Fh p s q m= { s with takers:=joinL s.takers ⟨q,m⟩ } :=by unfold Fh;rw[if_pos h]
 rw[e] at hr⊢
 exact⟨hR,hr,Int.le_refl _,Int.le_refl _,Int.le_refl _,Int.le_refl _⟩
theorem Akf {p:Ab} {s:Aa} {t:Int} (h:Bv p s t=0):T4 p s (Dn p s t):=by
 have hl:=Uf h
 exact⟨(Aci h).1,hl.right,hl.came,Int.le_of_eq hl.acked.symm,hl.dropped,Int.le_of_eq hl.tag.symm⟩
theorem deliver_done' {p:Ab} {s:Aa} {q:Int} (h:Bw p s q=0):T4 p s (Ca p s q):=by
 obtain⟨i,_,_,_,e,hr⟩:=Gv h
 obtain⟨h0,_⟩:=J7.1 h
 obtain⟨h1,_,_⟩:=Lq.1 h0
 obtain⟨hR,_,_⟩:=Fv.1 h1
 rw[e]
 exact⟨hR,hr,Int.le_refl _,Int.le_refl _,Int.le_refl _,by show s.nextTag≤s.nextTag+1;omega⟩
theorem ack_done' {p:Ab} {s:Aa} {t:Int} (h:Dr p s t=0):T4 p s (Ha p s t):=by
 obtain⟨hR,k,hk⟩:=Afr.1 h
 obtain⟨_,e,hr⟩:=Rh hR hk
 rw[e] at hr⊢
 exact⟨hR,hr,Int.le_refl _,by show s.acked≤s.acked+1;omega,Int.le_refl _,Int.le_refl _⟩
theorem reject_done' {p:Ab} {s:Aa} {t:Int} {b:Bool} (h:Bg p s t=0):T4 p s (Cf p s t b):=by
 obtain⟨hR,⟨k,hk⟩,hs⟩:=Q5.1 h
 obtain⟨_,_,hd⟩:=Kf hR hk hs b
 exact⟨hR,hd.right,hd.came,Int.le_of_eq hd.acked.symm,hd.dropped,Int.le_of_eq hd.tag.symm⟩
theorem Q8 {p:Ab} {s:Aa} {x:Cn} (h:E2 p s x=0):T4 p s (doS p s x):=by
 unfold E2 at h
 unfold doS
 split at h
 ·rename_i h1;rw[if_pos h1];exact Ae2 h
 rename_i h1;rw[if_neg h1]
 split at h
 ·rename_i h2;rw[if_pos h2];exact Aoc h
 rename_i h2;rw[if_neg h2]
 split at h
 ·rename_i h3;rw[if_pos h3];exact Akf h
 rename_i h3;rw[if_neg h3]
 split at h
 ·rename_i h4;rw[if_pos h4];exact deliver_done' h
 rename_i h4;rw[if_neg h4]
 split at h
 ·rename_i h5;rw[if_pos h5];exact ack_done' h
 rename_i h5;rw[if_neg h5]
 split at h
 ·rename_i h6;rw[if_pos h6];exact reject_done' h
 ·cases h
def Nb (x:Cn) (n:Int) (key:ByteArray):Cn:=
 if x.kind=1 then { x with b:=n } else if x.kind=2∨x.kind=6 then { x with key:=key,body:=key } else if x.kind=3∨x.kind=4∨x.kind=5 then { x with b:=n,key:=key,body:=key } else x
theorem Abt (p:Ab) (s:Aa) (x:Cn) (n:Int) (key:ByteArray):E2 p s (Nb x n key)=E2 p s x∧doS p s (Nb x n key)=doS p s x:=by
 obtain⟨k,a,b,ky,bd⟩:=x
 unfold Nb E2 doS
 by_cases h1:k=1
 ·subst h1;simp only[Int.reduceEq,↓reduceIte,and_self]
 by_cases h2:k=2
 ·subst h2;simp only[Int.reduceEq,↓reduceIte,true_or,or_true,or_self,and_self]
 by_cases h3:k=3
 ·subst h3;simp only[Int.reduceEq,↓reduceIte,true_or,or_true,or_self,and_self]
 by_cases h4:k=4
 ·subst h4;simp only[Int.reduceEq,↓reduceIte,true_or,or_true,or_self,and_self]
 by_cases h5:k=5
 ·subst h5;simp only[Int.reduceEq,↓reduceIte,true_or,or_true,or_self,and_self]
 by_cases h6:k=6
 ·subst h6;simp only[Int.reduceEq,↓reduceIte,true_or,or_true,or_self,and_self]
 ·simp only[h1,h2,h3,h4,h5,h6,↓reduceIte,or_self,and_self]
end Go.Proofs.YtaanpcjkflhomaaGreatDoor
