/- Lemmas. -/
import Derived.Test.YtpkneogjdfolaaaGreatDoorBunBC
import Derived.Test.YtpkneogjdfolaaaGreatDoorBunCA
import Derived.Lib.ItoaNum
set_option maxHeartbeats 20000000
set_option maxRecDepth 100000
set_option linter.unusedSimpArgs false
set_option linter.unusedVariables false
namespace Go.Proofs.YtpkneogjdfolaaaGreatDoor
structure U9 (p:Ab) (s x:Aa):Prop where
 was:Bw p s
 right:Bw p x
 aw:s.aw≤x.aw
 ar:s.ar≤x.ar
 dropped:s.dropped≤x.dropped
 tag:s.af≤x.af
theorem Xm{p:Ab}{s:Aa}{x:Int}{key body:zN}(h:Bg p s x key body=0):U9 p s (B6 p s x key body):=by
 have hr:=Kb h;obtain⟨h0,_,_,h4⟩:=Tc h;have hR:=Cv.1 h0;obtain⟨n,h5,h6,h7⟩:=Ada h4;have e:B6 p s x key body=Cy p s (Jv p x key body):=by unfold B6;rw[zp h]
 rw[e] at hr⊢;have e1:=h6.seq;have e2:=h7.dropped;have e3:=hr.same;have e4:=hR.same;simp only at e1 e2;exact⟨hR,hr,by omega,Int.le_of_eq h7.ar.symm,e2,Int.le_of_eq h7.tag.symm⟩
theorem Aeo{p:Ab}{s:Aa}{q m:Int}(h:Ce p s q m=0):U9 p s (Eu p s q m):=by
 obtain⟨ha,_,_⟩:=Ls.1 h;obtain⟨hR,_,_⟩:=Fl.1 ha;have hr:=M2 h;have e:Eu p s q m= { s with ae:=joinL s.ae ⟨q,m⟩ } :=by unfold Eu;rw[zp h]
 rw[e] at hr⊢;exact⟨hR,hr,Int.le_refl _,Int.le_refl _,Int.le_refl _,Int.le_refl _⟩
theorem Vi{p:Ab}{s:Aa}{t:Int}(h:Bv p s t=0):U9 p s (De p s t):=by
 have hl:=Yk h;exact⟨(Aer h).1,hl.right,hl.aw,Int.le_of_eq hl.ar.symm,hl.dropped,Int.le_of_eq hl.tag.symm⟩
theorem deliver_done'{p:Ab}{s:Aa}{q:Int}(h:Bj p s q=0):U9 p s (Bu p s q):=by
 obtain⟨i,_,_,_,e,hr⟩:=G5 h;obtain⟨h0,_⟩:=Ir.1 h;obtain⟨h1,_,_⟩:=Kg.1 h0;obtain⟨hR,_,_⟩:=Fl.1 h1;rw[e];exact⟨hR,hr,Int.le_refl _,Int.le_refl _,Int.le_refl _,by show s.af≤s.af+1;omega⟩
theorem ack_done'{p:Ab}{s:Aa}{t:Int}(h:Df p s t=0):U9 p s (Gy p s t):=by
 obtain⟨hR,k,hk⟩:=Adh.1 h;obtain⟨_,e,hr⟩:=Sa hR hk;rw[e] at hr⊢;exact⟨hR,hr,Int.le_refl _,by show s.ar≤s.ar+1;omega,Int.le_refl _,Int.le_refl _⟩
theorem reject_done'{p:Ab}{s:Aa}{t:Int}{b:Bool}(h:Az p s t=0):U9 p s (Cb p s t b):=by
 obtain⟨hR,⟨k,hk⟩,hs⟩:=Ol.1 h;obtain⟨_,_,hd⟩:=Ku hR hk hs b;exact⟨hR,hd.right,hd.aw,Int.le_of_eq hd.ar.symm,hd.dropped,Int.le_of_eq hd.tag.symm⟩
/-! What is read. -/
/-! The same over lists. -/
def bs(l:List UInt8):zN:=⟨l.toArray⟩
theorem R0(s:zN):bs s.data.toList=s:=rfl
theorem D7(l:List UInt8):(bs l).size=l.length:=rfl
theorem J1(l:List UInt8)(a b:Nat):(bs l).extract a b=bs ((l.drop a).take (b - a)):=by
 have h:((bs l).extract a b).data.toList=(l.drop a).take (b - a):=by
  rw[ByteArray.data_extract,Array.toList_extract];rfl
 rw[←h,R0]
theorem Gn(l r:List UInt8):bs l++bs r=bs (l++r):=by
 have h:(bs l++bs r).data.toList=l++r:=by
  rw[ByteArray.data_append,Array.toList_append];rfl
 rw[←h,R0]
theorem byte_back{n:Nat}(h:n≤255):(UInt8.ofNat n).toNat=n:=by rw[UInt8.toNat_ofNat'];omega
/-! The reference's reading. -/
open Go
def Gt:List UInt8→Option (List UInt8×List UInt8)
 | []=>none
 |b::r=>if b=32 then some ([],r) else (Gt r).map fun x=>(b::x.1,x.2)
theorem Aea:∀ {l:List UInt8},Gt l=none↔(32:UInt8)∉l
 | []=>by simp[Gt]
 |b::r=>by
  unfold Gt
  split
  ·rename_i h
   subst h;simp
  ·rename_i h
   rw[Option.map_eq_none_iff,Aea,List.mem_cons,not_or];exact⟨fun k=>⟨fun e=>h e.symm,k⟩,fun k=>k.2⟩
theorem Tv:∀ {l a r:List UInt8},Gt l=some (a,r)→l=a++32::r∧(32:UInt8)∉a
 | [],_,_,h=>by cases h
 |b::t,a,r,h=>by
  unfold Gt at h
  split at h
  ·rename_i hb
   subst hb;simp only[Option.some.injEq,Prod.mk.injEq] at h;obtain⟨rfl,rfl⟩:=h;exact⟨rfl,by simp⟩
  ·rename_i hb
   rw[Option.map_eq_some_iff] at h;obtain⟨⟨a',r'⟩,h1,h2⟩:=h;simp only[Prod.mk.injEq] at h2;obtain⟨rfl,rfl⟩:=h2;obtain⟨e,hn⟩:=Tv h1;rw[e];exact⟨rfl,by rw[List.mem_cons,not_or];exact⟨fun k=>hb k.symm,hn⟩⟩
def Nj(l:List UInt8):Nat:=l.foldl (fun n b=>10 * n+(b.toNat - 48)) 0
def Dp(l:List UInt8):Int:=if 1≤l.length∧l.length≤6∧Lib.decDigits (Nj l)=l then (Nj l:Int) else -1
def Dr:List Int→List UInt8
 | []=>[]
 | [n]=>Lib.itoa n
 |n::r=>Lib.itoa n++32::Dr r
def Tk:List UInt8:=[108,121,105,110,103]
def Aac:List UInt8:=[115,117,109,115]
def O2:List UInt8:=[115,101,110,100]
def U7:List UInt8:=[106,111,105,110]
def O1:List UInt8:=[110,101,120,116]
def Po:List UInt8:=[108,101,97,118,101]
def Adw:List UInt8:=[97,99,107]
def Rw:List UInt8:=[98,97,99,107]
def Xt:List UInt8:=[100,114,111,112]
def wOk:List UInt8:=[111,107]
def A1d:List UInt8:=[32,110,101,119,32]
def Aux:List UInt8:=[32,97,103,97,105,110,32]
def Rj:List UInt8:=[101,114,114,111,114,32]
def Cl(p:Ab)(l:List UInt8):Int:=idxOf (fun q:F7=>q.name.toList == l) p.ag
def Fz(p:Ab)(l:List UInt8):Int:=idxOf (fun x:I5=>x.name.toList == l) p.aj
abbrev Told:=Aa×List UInt8×Int
def Ew(s n:Aa)(out:List UInt8)(e:Int):Told:=if e=0 then (n,out,0) else (s,[],e)
def Ka(s:Aa):List Int:=s.ready.map fun l=>(l.length:Int)
def Lw(p:Ab)(s:Aa)(rest:List UInt8):Told:=
 match Gt rest with
 |none=>(s,[],1)
 |some (a,behind)=>match Gt behind with
  |none=>(s,[],1)
  |some (key,body)=>if Fz p a < 0 then (s,[],5) else
   Ew s (B6 p s (Fz p a) (bs key) (bs body)) (Lib.itoa (Cn p s (Fz p a) (bs key) (bs body))) (Bg p s (Fz p a) (bs key) (bs body))
def Ld(p:Ab)(s:Aa)(rest:List UInt8):Told:=
 match Gt rest with
 |none=>(s,[],1)
 |some (a,behind)=>if Dp behind < 0 then (s,[],1) else if Cl p a < 0 then (s,[],5) else
   Ew s (Eu p s (Cl p a) (Dp behind)) (Lib.itoa (Ge p s (Cl p a) (Dp behind))) (Ce p s (Cl p a) (Dp behind))
def Xd(p:Ab)(s:Aa)(q:Int):List UInt8:=
 match (Bu p s q).outs.getLast? with
 |none=>[]
 |some x=>Lib.itoa (Ch p s q)++32::(Lib.itoa x.bg++(if x.item.again then Aux else A1d)++x.item.body.data.toList)
def Jd(p:Ab)(s:Aa)(rest:List UInt8):Told:=
 match Gt rest with
 |some _=>(s,[],1)
 |none=>if Cl p rest < 0 then (s,[],5) else Ew s (Bu p s (Cl p rest)) (Xd p s (Cl p rest)) (Bj p s (Cl p rest))
def Nx(s n:Aa)(e:Int):Told:=Ew s n wOk e
def opL(p:Ab)(s:Aa)(op rest:List UInt8):Told:=
 if op=O2 then Lw p s rest else if op=U7 then Ld p s rest else if op=O1 then Jd p s rest
 else if op=Po∨op=Adw∨op=Rw∨op=Xt then
  if Dp rest < 0 then (s,[],1)
  else if op=Po then Nx s (De p s (Dp rest)) (Bv p s (Dp rest))
  else if op=Adw then Nx s (Gy p s (Dp rest)) (Df p s (Dp rest))
  else Nx s (Cb p s (Dp rest) (op == Rw)) (Az p s (Dp rest))
 else (s,[],1)
def Ee(p:Ab)(s:Aa)(l:List UInt8):Told:=
 if l=Tk then (s,Dr (Ka s),0) else if l=Aac then (s,Dr [s.aw,s.ar,s.dropped],0) else
 match Gt l with
 |none=>(s,[],1)
 |some (op,rest)=>opL p s op rest
def N3(p:Ab)(s:Aa)(l:List UInt8):Aa:=(Ee p s l).1
def Lu(p:Ab)(s:Aa)(l:List UInt8):List UInt8:=if (Ee p s l).2.2=0 then (Ee p s l).2.1 else Rj++Lib.itoa (Ee p s l).2.2
def Hz:List UInt8→List UInt8→List (List UInt8)
 |_,[]=>[]
 |acc,b::r=>if b=10 then acc::Hz [] r else Hz (acc++[b]) r
def Oz(p:Ab):Aa→List (List UInt8)→List UInt8
 |_,[]=>[]
 |s,l::r=>Lu p s l++10::Oz p (N3 p s l) r
def D2(p:Ab)(t:zN):Int:=
 if Bc p≠0 then Bc p else if 4096 < t.size∨60 < t.data.toList.count 10 then 2
 else if t.size≠0∧t.data.toList.getLast? ≠some 10 then 1 else 0
def Kt(p:Ab)(t:zN):zN:=if D2 p t=0 then bs (Oz p (B5 p) (Hz [] t.data.toList)) else ByteArray.empty
theorem Mb{s n:Aa}{out:List UInt8}{e:Int}(P:Aa→Prop)(h:P s)(hn:e=0→P n):P (Ew s n out e).1:=by
 unfold Ew
 split
 ·rename_i h0;exact hn h0
 ·exact h
theorem An0{p:Ab}{s:Aa}(op rest:List UInt8)(h:Bw p s):Bw p (opL p s op rest).1:=by
 unfold opL
 split
 ·unfold Lw
  split
  ·exact h
  split
  ·exact h
  split
  ·exact h
  ·exact Mb (Bw p) h fun h0=>(Xm h0).right
 split
 ·unfold Ld
  split
  ·exact h
  split
  ·exact h
  split
  ·exact h
  ·exact Mb (Bw p) h fun h0=>(Aeo h0).right
 split
 ·unfold Jd
  split
  ·exact h
  split
  ·exact h
  ·exact Mb (Bw p) h fun h0=>(deliver_done' h0).right
 split
 ·split
  ·exact h
  split
  ·exact Mb (Bw p) h fun h0=>(Vi h0).right
  split
  ·exact Mb (Bw p) h fun h0=>(ack_done' h0).right
  ·exact Mb (Bw p) h fun h0=>(reject_done' h0).right
 ·exact h
theorem Agu{p:Ab}{s:Aa}(l:List UInt8)(h:Bw p s):Bw p (N3 p s l):=by
 unfold N3 Ee
 split
 ·exact h
 split
 ·exact h
 split
 ·exact h
 ·exact An0 _ _ h
end Go.Proofs.YtpkneogjdfolaaaGreatDoor
