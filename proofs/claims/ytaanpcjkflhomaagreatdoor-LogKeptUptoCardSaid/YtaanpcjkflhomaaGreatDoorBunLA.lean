/-
  The plain law of the log: acts as bytes. No program in sight.
-/
import Derived.Test.YtaanpcjkflhomaaGreatDoorBunDC
import Derived.Test.YtaanpcjkflhomaaGreatDoorBunF
import Derived.Test.YtaanpcjkflhomaaGreatDoorBunB
import Derived.Deep.RegionHeld3
import Derived.Test.YtaanpcjkflhomaaGreatDoorBunO
import Derived.Test.YtaanpcjkflhomaaGreatDoorBunA
import Derived.Recover
import Derived.Test.YtaanpcjkflhomaaGreatDoorBunH
import Derived.Laws.IdiomStrings
import Derived.Lib.AppendStr
set_option maxHeartbeats 20000000
set_option maxRecDepth 100000
set_option linter.unusedSimpArgs false
set_option linter.unusedVariables false
namespace Go.Proofs.YtaanpcjkflhomaaGreatDoor
/-! What is read. -/
def nmS (s:ByteArray):Option (Nat×ByteArray):=if h:0 < s.size then some (s[0].toNat,s.extract 1 s.size) else none
def tkS (n:Nat) (s:ByteArray):Option (ByteArray×ByteArray):=if n≤s.size then some (s.extract 0 n,s.extract n s.size) else none
def Hp (s:ByteArray):Option (Cn×ByteArray):=
 (nmS s).bind fun k=>(nmS k.2).bind fun a=>(nmS a.2).bind fun b=>(nmS b.2).bind fun n=>(tkS n.1 n.2).bind fun y=>(nmS y.2).bind fun m=>(tkS m.1 m.2).bind fun z=>some (⟨(k.1:Nat),(a.1:Nat),(b.1:Nat),y.1,z.1⟩,z.2)
def I5:Nat→ByteArray→List Cn×ByteArray
 |0,s=>([],s)
 |n+1,s=>match Hp s with
  |none=>([],s)
  |some (x,r)=>(x::(I5 n r).1,(I5 n r).2)
def Dd (t:ByteArray):Int:=if 4096 < t.size then 2 else 0
def Dq (t:ByteArray):List Cn:=if 4096 < t.size then [] else (I5 60 t).1
def J4 (t:ByteArray):Int:=if 4096 < t.size then 0 else (t.size:Int) - ((I5 60 t).2.size:Int)
def Lb (p:Ab) (s:Aa) (x:Cn):Aa:=if E2 p s x=0 then doS p s x else s
def Ju (p:Ab) (l:List Cn):Aa:=l.foldl (Lb p) (Cx p)
def Hn (p:Ab) (t:ByteArray):Int:=if Bf p≠0 then Bf p else Dd t
def Df (x:Cn):Bool:=decide (0≤x.kind∧x.kind≤255) && decide (0≤x.a∧x.a≤255) && decide (0≤x.b∧x.b≤255) && decide (x.key.size≤255) && decide (x.body.size≤255)
def Aws (x:Cn):ByteArray:=⟨#[UInt8.ofNat x.kind.toNat,UInt8.ofNat x.a.toNat,UInt8.ofNat x.b.toNat,UInt8.ofNat x.key.size]⟩++x.key++⟨#[UInt8.ofNat x.body.size]⟩++x.body
def F0 (x:Cn):Int:=if Df x=true then 0 else 3
def Gc (x:Cn):ByteArray:=if Df x=true then Aws x else ByteArray.empty
/-! The same over lists. -/
def bs (l:List UInt8):ByteArray:=⟨l.toArray⟩
theorem Px (s:ByteArray):bs s.data.toList=s:=rfl
theorem Me (l:List UInt8):(bs l).size=l.length:=rfl
theorem J6 (l:List UInt8) (a b:Nat):(bs l).extract a b=bs ((l.drop a).take (b - a)):=by
 have h:((bs l).extract a b).data.toList=(l.drop a).take (b - a):=by
  rw[ByteArray.data_extract,Array.toList_extract];rfl
 rw[←h,Px]
theorem Sj (l r:List UInt8):bs l++bs r=bs (l++r):=by
 have h:(bs l++bs r).data.toList=l++r:=by
  rw[ByteArray.data_append,Array.toList_append];rfl
 rw[←h,Px]
def nmL:List UInt8→Option (Nat×List UInt8)
 | []=>none
 |b::r=>some (b.toNat,r)
def tkL (n:Nat) (l:List UInt8):Option (List UInt8×List UInt8):=if n≤l.length then some (l.take n,l.drop n) else none
theorem Axe (l:List UInt8):nmS (bs l)=(nmL l).map fun x=>(x.1,bs x.2):=by
 cases l with
 |nil=>rfl
 |cons b r=>
  unfold nmS nmL;have e:(bs (b::r)).extract 1 (bs (b::r)).size=bs r:=by
   rw[J6,List.take_of_length_le (by rw[List.length_drop,Me];exact zn _)];rfl
  rw[dif_pos (by rw[Me];exact Nat.succ_pos _),e];rfl
theorem Axp (n:Nat) (l:List UInt8):tkS n (bs l)=(tkL n l).map fun x=>(bs x.1,bs x.2):=by
 unfold tkS tkL;rw[Me];by_cases h:n≤l.length
 ·rw[zp h,zp h,J6,J6,List.take_of_length_le (l:=l.drop n) (by rw[List.length_drop];exact zn _)]
  rfl
 ·rw[zq h,zq h];rfl
def Ri (l:List UInt8):Option (Cn×List UInt8):=
 (nmL l).bind fun k=>(nmL k.2).bind fun a=>(nmL a.2).bind fun b=>(nmL b.2).bind fun n=>(tkL n.1 n.2).bind fun y=>(nmL y.2).bind fun m=>(tkL m.1 m.2).bind fun z=>some (⟨(k.1:Nat),(a.1:Nat),(b.1:Nat),bs y.1,bs z.1⟩,z.2)
theorem Aqq {α β γ:Type} (o:Option α) (f:α→β) (g:β→Option γ):(o.map f).bind g=o.bind fun x=>g (f x):=by cases o<;>rfl
theorem Ar7 {α β γ:Type} (o:Option α) (f:α→Option β) (g:β→γ):(o.bind f).map g=o.bind fun x=>(f x).map g:=by cases o<;>rfl
theorem Uu (l:List UInt8):Hp (bs l)=(Ri l).map fun x=>(x.1,bs x.2):=by
 unfold Hp Ri;simp only[Axe,Axp,Aqq,Ar7,Option.map_some]
theorem Ru {l r:List UInt8} {n:Nat} (h:nmL l=some (n,r)):∃b:UInt8,l=b::r∧n=b.toNat:=by
 cases l with
 |nil=>cases h
 |cons b t=>simp only[nmL,Option.some.injEq,Prod.mk.injEq] at h;exact⟨b,by rw[h.2],h.1.symm⟩
theorem Aij {l x r:List UInt8} {n:Nat} (h:tkL n l=some (x,r)):l=x++r∧x.length=n:=by
 unfold tkL at h
 split at h
 ·rename_i hn
  simp only[Option.some.injEq,Prod.mk.injEq] at h;obtain⟨rfl,rfl⟩:=h;exact⟨(List.take_append_drop _ _).symm,List.length_take_of_le hn⟩
 ·cases h
theorem Ase (b:UInt8) (r:List UInt8):nmL (b::r)=some (b.toNat,r):=rfl
theorem Am6 {x r:List UInt8} {n:Nat} (h:x.length=n):tkL n (x++r)=some (x,r):=by
 unfold tkL;rw[zp (by rw[ze];omega),List.take_left' h,List.drop_left' h]
theorem O4 {l r:List UInt8} {x:Cn} (h:Ri l=some (x,r)):∃(k a b n m:UInt8) (y z:List UInt8),y.length=n.toNat∧z.length=m.toNat∧l=k::a::b::n::(y++m::(z++r))∧x=⟨k.toNat,a.toNat,b.toNat,bs y,bs z⟩:=by
 unfold Ri at h;simp only[Option.bind_eq_some_iff] at h;obtain⟨⟨k,r1⟩,h1,⟨a,r2⟩,h2,⟨b,r3⟩,h3,⟨n,r4⟩,h4,⟨y,r5⟩,h5,⟨m,r6⟩,h6,⟨z,r7⟩,h7,h8⟩:=h;obtain⟨k,rfl,rfl⟩:=Ru h1;obtain⟨a,rfl,rfl⟩:=Ru h2;obtain⟨b,rfl,rfl⟩:=Ru h3;obtain⟨n,rfl,rfl⟩:=Ru h4;obtain⟨rfl,e1⟩:=Aij h5;obtain⟨m,rfl,rfl⟩:=Ru h6;obtain⟨rfl,e2⟩:=Aij h7;simp only[Option.some.injEq,Prod.mk.injEq] at h8;obtain⟨rfl,rfl⟩:=h8;exact⟨k,a,b,n,m,y,z,e1,e2,rfl,rfl⟩
theorem Ad3 {k a b n m:UInt8} {y z r:List UInt8} (hy:y.length=n.toNat) (hz:z.length=m.toNat):Ri (k::a::b::n::(y++m::(z++r)))=some (⟨k.toNat,a.toNat,b.toNat,bs y,bs z⟩,r):=by
 unfold Ri;simp only[Ase,Am6 hy,Am6 hz,Option.bind_some]
theorem Abr {l r:List UInt8} {x:Cn} (h:Ri l=some (x,r)) (e:List UInt8):Ri (l++e)=some (x,r++e):=by
 obtain⟨k,a,b,n,m,y,z,hy,hz,rfl,rfl⟩:=O4 h;have:=Ad3 (k:=k) (a:=a) (b:=b) (r:=r++e) hy hz;simpa using this
def Jg (x:Cn):List UInt8:=UInt8.ofNat x.kind.toNat::UInt8.ofNat x.a.toNat::UInt8.ofNat x.b.toNat::UInt8.ofNat x.key.size::(x.key.data.toList++UInt8.ofNat x.body.size::x.body.data.toList)
theorem Ad2 (x:Cn):Aws x=bs (Jg x):=by
 obtain⟨k,a,b,y,z⟩:=x;have h:Aws ⟨k,a,b,y,z⟩=bs [UInt8.ofNat k.toNat,UInt8.ofNat a.toNat,UInt8.ofNat b.toNat,UInt8.ofNat y.size]++bs y.data.toList++bs [UInt8.ofNat z.size]++bs z.data.toList:=rfl;rw[h,Sj,Sj,Sj];unfold Jg;simp
theorem byte_back {n:Nat} (h:n≤255):(UInt8.ofNat n).toNat=n:=by rw[UInt8.toNat_ofNat'];omega
theorem Abs (x:Cn):(Jg x).length=5+x.key.size+x.body.size:=by
 unfold Jg;simp only[List.length_cons,ze,Array.length_toList]
 show x.key.size+(x.body.size+1)+1+1+1+1=_
 omega
theorem T7 {x:Cn} (h:Df x=true) (r:List UInt8):Ri (Jg x++r)=some (x,r):=by
 unfold Df at h;simp only[zc,zd] at h;obtain⟨⟨⟨⟨h1,h2⟩,h3⟩,h4⟩,h5⟩:=h;have:=Ad3 (k:=UInt8.ofNat x.kind.toNat) (a:=UInt8.ofNat x.a.toNat) (b:=UInt8.ofNat x.b.toNat) (n:=UInt8.ofNat x.key.size) (m:=UInt8.ofNat x.body.size) (y:=x.key.data.toList) (z:=x.body.data.toList) (r:=r)
  (by rw[byte_back h4];rfl) (by rw[byte_back h5];rfl)
 rw[byte_back (by omega),byte_back (by omega),byte_back (by omega),Px,Px,Int.toNat_of_nonneg h1.1,Int.toNat_of_nonneg h2.1,Int.toNat_of_nonneg h3.1] at this;unfold Jg;simpa using this
theorem Aqe {x:Cn} (h:Df x=true) {k:Nat} (hk:k < (Jg x).length):Ri ((Jg x).take k)=none:=by
 cases hc:Ri ((Jg x).take k) with
 |none=>rfl
 |some y=>
  obtain⟨y,r⟩:=y;have h1:=Abr hc ((Jg x).drop k);rw[List.take_append_drop] at h1;have h2:=T7 h [];rw[List.append_nil,h1] at h2;simp only[Option.some.injEq,Prod.mk.injEq,List.append_eq_nil_iff,List.drop_eq_nil_iff] at h2;omega
theorem Anf {l r:List UInt8} {x:Cn} (h:Ri l=some (x,r)):r.length+5≤l.length:=by
 obtain⟨k,a,b,n,m,y,z,hy,hz,rfl,rfl⟩:=O4 h;simp only[List.length_cons,ze];omega
def Jr:Nat→List UInt8→List Cn×List UInt8
 |0,l=>([],l)
 |n+1,l=>match Ri l with
  |none=>([],l)
  |some (x,r)=>(x::(Jr n r).1,(Jr n r).2)
theorem Am1:∀(n:Nat) (l:List UInt8),I5 n (bs l)=((Jr n l).1,bs (Jr n l).2)
 |0,l=>rfl
 |n+1,l=>by
  unfold I5 Jr;rw[Uu]
  cases h:Ri l with
  |none=>rfl
  |some y=>
   obtain⟨x,r⟩:=y;simp only[Option.map_some];rw[Am1 n r]
def Pn:List Cn→Nat→Nat
 | [],_=>0
 |x::l,k=>if (Jg x).length≤k then Pn l (k - (Jg x).length)+1 else 0
def Jh (l:List Cn):List UInt8:=l.flatMap Jg
theorem Ah6:∀(l:List Cn) (n k:Nat),l.length≤n→(∀x∈l,Df x=true)→(Jr n ((Jh l).take k)).1=l.take (Pn l k)
 | [],n,k,_,_=>by
  have e:(Jh []).take k=[]:=by simp[Jh]
  rw[e]
  cases n<;>rfl
 |x::l,0,k,h,_=>by simp at h
 |x::l,n+1,k,h,hx=>by
  have hx1:=hx x (List.mem_cons_self ..);have e:Jh (x::l)=Jg x++Jh l:=rfl;rw[e];unfold Pn;by_cases hk:(Jg x).length≤k
  ·rw[zp hk,List.take_append,List.take_of_length_le hk]
   unfold Jr;rw[T7 hx1];simp only[List.take_succ_cons];rw[Ah6 l n (k - (Jg x).length) (by simpa using h) fun y hy=>hx y (List.mem_cons_of_mem _ hy)]
  ·rw[zq hk,List.take_append_of_le_length (by omega)]
   unfold Jr;rw[Aqe hx1 (by omega)];rfl
theorem Aiu:∀(l:List Cn) (k:Nat),Pn l k≤l.length
 | [],_=>zn _
 |x::l,k=>by
  unfold Pn
  split
  ·have:=Aiu l (k - (Jg x).length)
   simp only[List.length_cons];omega
  ·exact Nat.zero_le _
def Ab4 (l:List Cn) (i:Nat):Nat:=(Jh (l.take i)).length
theorem Ab5 {x:Cn} {l:List Cn} {i:Nat} :Ab4 (x::l) (i+1)=(Jg x).length+Ab4 l i:=by
 unfold Ab4 Jh;rw[List.take_succ_cons,List.flatMap_cons,ze]
theorem Aiv:∀(l:List Cn) (k i:Nat),i < l.length→(Ab4 l (i+1)≤k↔i < Pn l k)
 | [],_,_,h=>by simp at h
 |x::l,k,0,_=>by
  rw[Ab5];have e:Ab4 l 0=0:=rfl;rw[e];unfold Pn
  split
  ·exact⟨fun _=>Nat.succ_pos _,fun _=>by omega⟩
  ·exact⟨fun h=>by omega,fun h=>by omega⟩
 |x::l,k,i+1,h=>by
  rw[Ab5];have ih:=Aiv l (k - (Jg x).length) i (by simpa using h);unfold Pn
  split
  ·constructor
   ·intro h1
    have:=ih.1 (by omega);omega
   ·intro h1
    have:=ih.2 (by omega);omega
  ·exact⟨fun h=>by omega,fun h=>by omega⟩
theorem Adc (p:Ab) (l:List Cn) (x:Cn):Ju p (l++[x])=Lb p (Ju p l) x:=by
 unfold Ju;rw[List.foldl_append];rfl
theorem Ade (p:Ab) (l:List Cn) {i:Nat} (h:i < l.length):Ju p (l.take (i+1))=Lb p (Ju p (l.take i)) l[i]:=by
 rw[zj h,Adc]
theorem Aua (s:ByteArray):Hp s=(Ri s.data.toList).map fun x=>(x.1,bs x.2):=by
 rw[←Uu,Px]
theorem Na {s r:ByteArray} {x:Cn} (h:Hp s=some (x,r)):Df x=true∧r.size+5≤s.size:=by
 rw[Aua,Option.map_eq_some_iff] at h;obtain⟨⟨y,t⟩,h1,h2⟩:=h;simp only[Prod.mk.injEq] at h2;obtain⟨rfl,rfl⟩:=h2;refine⟨?_,Anf h1⟩;obtain⟨k,a,b,n,m,y,z,hy,hz,_,rfl⟩:=O4 h1;have:=k.toNat_lt;have:=a.toNat_lt;have:=b.toNat_lt;have:=n.toNat_lt;have:=m.toNat_lt
 unfold Df;simp only[zc,zd,Me];exact⟨⟨⟨⟨⟨by omega,by omega⟩,by omega,by omega⟩,by omega,by omega⟩,decide_eq_true (by omega:y.length≤255)⟩,decide_eq_true (by omega:z.length≤255)⟩
/-! The reference's reading. -/
theorem Aqt (l:List UInt8) (i:Nat) (h:i < (bs l).size):(bs l)[i]=l[i]'h:=rfl
theorem Aql {s:ByteArray} (h:s.size < 5):Hp s=none:=by
 cases hc:Hp s with
 |none=>rfl
 |some y=>
  obtain⟨x,r⟩:=y;have:=(Na hc).2;omega
theorem Ad5 {s:ByteArray} (h5:5≤s.size):∃(k a b n:UInt8) (t:List UInt8),s=bs (k::a::b::n::t)∧s[0]=k∧s[1]=a∧s[2]=b∧s[3]=n∧s.size=t.length+4:=by
 have hl:5≤s.data.toList.length:=h5;obtain⟨k,l1,e1⟩:=List.exists_cons_of_ne_nil (l:=s.data.toList) (fun e=>by rw[e] at hl;simp at hl);obtain⟨a,l2,e2⟩:=List.exists_cons_of_ne_nil (l:=l1) (fun e=>by rw[e1,e] at hl;simp at hl);obtain⟨b,l3,e3⟩:=List.exists_cons_of_ne_nil (l:=l2) (fun e=>by rw[e1,e2,e] at hl;simp at hl);obtain⟨n,l4,e4⟩:=List.exists_cons_of_ne_nil (l:=l3) (fun e=>by rw[e1,e2,e3,e] at hl;simp at hl);have e:s=bs (k::a::b::n::l4):=by rw[←e4,←e3,←e2,←e1,Px]
 subst e;exact⟨k,a,b,n,l4,rfl,rfl,rfl,rfl,rfl,by rw[Me];simp⟩
theorem Aqk {s:ByteArray} (h5:5≤s.size) (hk:s.size≤4+s[3].toNat):Hp s=none:=by
 cases hc:Hp s with
 |none=>rfl
 |some y=>
  exfalso
  obtain⟨k,a,b,n,t,rfl,_,_,_,e3,hs⟩:=Ad5 h5;obtain⟨x,r⟩:=y;rw[Uu,Option.map_eq_some_iff] at hc;obtain⟨⟨x',r'⟩,h1,_⟩:=hc;obtain⟨k',a',b',n',m,y,z,hy,hz,he,_⟩:=O4 h1;simp only[List.cons.injEq] at he;obtain⟨_,_,_,rfl,rfl⟩:=he;rw[e3] at hk;rw[hs] at hk;simp only[ze,List.length_cons] at hk;omega
theorem Aqj {s:ByteArray} (h5:5≤s.size) {q:Nat} (hq:4+s[3].toNat=q) (hk:q < s.size) (he:s.size < q+1+s[q].toNat):Hp s=none:=by
 cases hc:Hp s with
 |none=>rfl
 |some y=>
  exfalso
  obtain⟨k,a,b,n,t,rfl,_,_,_,e3,hs⟩:=Ad5 h5;obtain⟨x,r⟩:=y;rw[Uu,Option.map_eq_some_iff] at hc;obtain⟨⟨x',r'⟩,h1,_⟩:=hc;obtain⟨k',a',b',n',m,y,z,hy,hz,hl,_⟩:=O4 h1;simp only[List.cons.injEq] at hl;obtain⟨_,_,_,rfl,rfl⟩:=hl;rw[e3] at hq;have hm:(bs (k::a::b::n::(y++m::(z++r'))))[q]=m:=by
   have h2:(k::a::b::n::(y++m::(z++r')))[q]? =some m:=by
    rw[←hq,←hy,show 4+y.length=y.length+1+1+1+1 by omega];simp only[zK];rw[List.getElem?_append_right (zn _),Nat.sub_self];rfl
   rw[Aqt];exact(List.getElem?_eq_some_iff.1 h2).2
  rw[hm,hs] at he;simp only[ze,List.length_cons] at he;omega
theorem Avw {s:ByteArray} (h5:5≤s.size) {q e:Nat} (hq:4+s[3].toNat=q) (hk:q < s.size) (he:q+1+s[q].toNat=e) (hes:e≤s.size):
  Hp s=some (⟨s[0].toNat,s[1].toNat,s[2].toNat,s.extract 4 q,s.extract (q+1) e⟩,s.extract e s.size):=by
 obtain⟨k,a,b,n,t,rfl,e0,e1,e2,e3,hs⟩:=Ad5 h5;rw[e3] at hq;have hn:n.toNat < t.length:=by omega
 have ht:t=t.take n.toNat++t[n.toNat]::t.drop (n.toNat+1):=by rw[←List.drop_eq_getElem_cons hn,List.take_append_drop]
 have hm:(bs (k::a::b::n::t))[q]=t[n.toNat]:=by
  have h2:(k::a::b::n::t)[q]? =some t[n.toNat]:=by
   rw[←hq,show 4+n.toNat=n.toNat+1+1+1+1 by omega];simp only[zK];exact zG hn
  rw[Aqt];exact(List.getElem?_eq_some_iff.1 h2).2
 rw[hm] at he;have hz:t[n.toNat].toNat≤(t.drop (n.toNat+1)).length:=by rw[List.length_drop];omega
 have hd:t.drop (n.toNat+1)=(t.drop (n.toNat+1)).take t[n.toNat].toNat++(t.drop (n.toNat+1)).drop t[n.toNat].toNat:=(List.take_append_drop _ _).symm;have hL:=Ad3 (k:=k) (a:=a) (b:=b) (n:=n) (m:=t[n.toNat]) (y:=t.take n.toNat) (z:=(t.drop (n.toNat+1)).take t[n.toNat].toNat) (r:=(t.drop (n.toNat+1)).drop t[n.toNat].toNat) (List.length_take_of_le (by omega)) (List.length_take_of_le hz);rw[←hd,←ht] at hL;rw[Uu,hL,Option.map_some,e0,e1,e2,J6,J6,J6];have x1:((k::a::b::n::t).drop 4).take (q - 4)=t.take n.toNat:=by rw[←hq];simp
 have x2:((k::a::b::n::t).drop (q+1)).take (e - (q+1))=(t.drop (n.toNat+1)).take t[n.toNat].toNat:=by
  rw[←hq,show 4+n.toNat+1=n.toNat+1+1+1+1+1 by omega];simp only[List.drop_succ_cons];rw[show e - (n.toNat+1+1+1+1+1)=t[n.toNat].toNat by omega]
 have x3:((k::a::b::n::t).drop e).take ((bs (k::a::b::n::t)).size - e)=(t.drop (n.toNat+1)).drop t[n.toNat].toNat:=by
  rw[List.take_of_length_le (by rw[List.length_drop,Me];exact zn _),List.drop_drop,show e=n.toNat+1+t[n.toNat].toNat+1+1+1+1 by omega];simp only[List.drop_succ_cons]
 rw[x1,x2,x3]
open Go.RowKit
def Uk:PanicEntry:= { v:= .iface 192 (.agg #[]),recovered:=false }
def Jj (w:World) (g:Nat) (s:ByteArray):Prop:=Bk w g 168 #[.string s]
theorem Jj.cell {w:World} {g:Nat} {s:ByteArray} (h:Jj w g s):w.cell? ⟨g,0,none⟩=some (.string s)∧w.frozen? ⟨g,0,none⟩=false:=⟨Bk.cell h 0,Bk.frozen h 0⟩
theorem Jj.set {w:World} {g:Nat} {s:ByteArray} (h:Jj w g s) (r:ByteArray):Jj (w.setCell ⟨g,0,none⟩ (.string r)) g r:=by
 have:=Bk.ck h 0 (.string r);simpa [Jj] using this
theorem Au3 (w:World) (row:Option Nat):w.grownBy w row:=⟨rfl,rfl,rfl,zn _,fun _ _ _=>rfl⟩
theorem Axd (w:World) (g i:Nat) (v:Value):w.grownBy (w.setCell ⟨g,i,none⟩ v) (some g):=
 ⟨rfl,rfl,rfl,by simp[World.setCell],fun k _ hne=>Below.heap_setCell w ⟨g,i,none⟩ v k (fun e=>hne (by rw[e]))⟩
theorem Jj.alloc {w:World} {g:Nat} {s:ByteArray} (h:Jj w g s) (o:Obj):Jj (w.alloc o) g s:=Bk.alloc h o
def Ai9 {α:Type} (g:Nat) (w:World) (v:α→Value) (o:Option (α×ByteArray)) (e:Ending) (w':World):Prop:=
 w.grownBy w' (some g)∧match o with
  |some (x,r)=>e= .returned (v x)∧Jj w' g r
  |none=>e= .panicked [Uk]
theorem V7 (g:Nat) (s:ByteArray) (n:Nat) (w:World) (hg:Jj w g s):
  Calls Tryz.prog 132 #[.pointer (some ⟨g,0,none⟩),.int .i64 n] w (Ai9 g w Value.string (tkS n s)):=by
 obtain⟨hc,hf⟩:=hg.cell;have hlt:=Bk.lt hg;by_cases h:n≤s.size
 ·have hb:decide ((s.size:Int) < (n:Int))=false:=by simp;omega
  have ht:tkS n s=some (s.extract 0 n,s.extract n s.size):=by unfold tkS;rw[zp h]
  have HT:=zh ht;have HG:=zh hg;have hn0:(0:Int)≤(n:Int):=by omega
  have hn1:(n:Int)≤(s.size:Int):=by omega
  clear ht hg h;go_enter Tryz.func132,Tryz.ntmps132
  go_wp2_with fail
  go_ret
  unfold Ai9;rw[HT.out];exact⟨Axd _ _ _ _,rfl,HG.out.set _⟩
 ·have hb:s.size < n:=by omega
  have ht:tkS n s=none:=by unfold tkS;rw[zq h]
  have HT:=zh ht;clear ht hg h;go_enter Tryz.func132,Tryz.ntmps132
  go_wp2_with fail
  refine⟨rfl,?_⟩;rw[HT.out];exact⟨Au3 _ _,rfl⟩
theorem Auu (s:ByteArray) (h:0 < s.size) (h':0 < (s.extract 0 1).size):(s.extract 0 1)[0]=s[0]:=by
 simp[ByteArray.getElem_extract]
theorem Awv (b:UInt8):wrap64 (b.toNat:Int)=(b.toNat:Int):=by
 have:=b.toNat_lt;unfold wrap64;omega
theorem Rt (g:Nat) (s:ByteArray) (w:World) (hg:Jj w g s):
  Calls Tryz.prog 131 #[.pointer (some ⟨g,0,none⟩)] w (Ai9 g w (fun n=> .int .i64 (n:Nat)) (nmS s)):=by
 have htk:=V7 g s 1 w hg;by_cases h:0 < s.size
 ·have hn:nmS s=some (s[0].toNat,s.extract 1 s.size):=by unfold nmS;rw[dif_pos h]
  have ht:tkS 1 s=some (s.extract 0 1,s.extract 1 s.size):=by unfold tkS;rw[zp (by omega)]
  rw[ht] at htk;rw[hn];have HTK:=zh htk;clear htk hn ht;go_enter Tryz.func131,Tryz.ntmps131
  go_wp2_with fail
  refine HTK.out.mono ?_;rintro e w1 ⟨hgr,rfl,hg1⟩;go_wp2_with fail
  go_ret
  refine⟨hgr,?_,hg1⟩;simp only[Awv,Auu s h];rfl
 ·have hn:nmS s=none:=by unfold nmS;rw[dif_neg h]
  have ht:tkS 1 s=none:=by unfold tkS;rw[zq (by omega)]
  rw[ht] at htk;rw[hn];have HTK:=zh htk;clear htk hn ht;go_enter Tryz.func131,Tryz.ntmps131
  go_wp2_with fail
  refine HTK.out.mono ?_;rintro e w1 ⟨hgr,rfl⟩;go_wp2_with fail
  exact⟨rfl,hgr,rfl⟩
theorem Ai9.some {α:Type} {g:Nat} {w w':World} {v:α→Value} {x:α} {r:ByteArray} {e:Ending} (h:Ai9 g w v (some (x,r)) e w'):w.grownBy w' (some g)∧e= .returned (v x)∧Jj w' g r:=h
theorem Ai9.none {α:Type} {g:Nat} {w w':World} {v:α→Value} {e:Ending} (h:Ai9 (α:=α) g w v none e w'):w.grownBy w' (.some g)∧e= .panicked [Uk]:=h
open Go Go.RowKit
def Vk:Cn:=⟨0,0,0,⟨#[]⟩,⟨#[]⟩⟩
def Oh (s:ByteArray):Cn:=match Hp s with|some (x,_)=>x|none=>Vk
def Aag (s:ByteArray):ByteArray:=match Hp s with|some (_,r)=>r|none=>s
def Ui (s:ByteArray):Bool:=(Hp s).isSome
def T5 (s:ByteArray) (w:World) (e:Ending) (w':World):Prop:=
 e= .returned (.tuple #[.agg (Ez (Oh s)).toArray,.string (Aag s),.bool (Ui s)])∧Below w.heap.size w w'
structure Mk (w W:World) (s:ByteArray) (v0 v1 v2 v3 v4:Value) (r:ByteArray):Prop where
 str:Bk W (w.heap.size) 9 #[.string s]
 act:Bk W (w.heap.size+1) 57 #[v0,v1,v2,v3,v4]
 rest:Bk W (w.heap.size+1+1) 9 #[.string ⟨#[]⟩]
 isb:Bk W (w.heap.size+1+1+1) 4 #[.bool false]
 cr:Jj W (w.heap.size+1+1+1+1) r
 below:Below w.heap.size w W
theorem Mk.grown {w W W':World} {s r r':ByteArray} {v0 v1 v2 v3 v4:Value} (h:Mk w W s v0 v1 v2 v3 v4 r) (hg:W.grownBy W' (some (w.heap.size+1+1+1+1))) (hl:Jj W' (w.heap.size+1+1+1+1) r'):Mk w W' s v0 v1 v2 v3 v4 r':=
 ⟨h.str.grown hg (fun e=>by simp only[Option.some.injEq] at e;omega),h.act.grown hg (fun e=>by simp only[Option.some.injEq] at e;omega),h.rest.grown hg (fun e=>by simp only[Option.some.injEq] at e;omega),h.isb.grown hg (fun e=>by simp only[Option.some.injEq] at e;omega),hl,
  h.below.grown hg h.below.size fun k hk=>by simp only[Option.some.injEq] at hk;omega⟩
theorem Mk.set0 {w W:World} {s r:ByteArray} {v0 v1 v2 v3 v4:Value} (h:Mk w W s v0 v1 v2 v3 v4 r) (u:Value):Mk w (W.setCell ⟨w.heap.size+1,0,none⟩ u) s u v1 v2 v3 v4 r:=
 ⟨h.str.far (p:=⟨w.heap.size+1,0,none⟩) (by show w.heap.size≠w.heap.size+1;omega) u,h.act.ck 0 u,h.rest.far (p:=⟨w.heap.size+1,0,none⟩) (by show w.heap.size+1+1≠w.heap.size+1;omega) u,h.isb.far (p:=⟨w.heap.size+1,0,none⟩) (by show w.heap.size+1+1+1≠w.heap.size+1;omega) u,Bk.far (p:=⟨w.heap.size+1,0,none⟩) h.cr (by show w.heap.size+1+1+1+1≠w.heap.size+1;omega) u,h.below.setCell (p:=⟨w.heap.size+1,0,none⟩) (by show w.heap.size≤w.heap.size+1;omega) u⟩
theorem Mk.set1 {w W:World} {s r:ByteArray} {v0 v1 v2 v3 v4:Value} (h:Mk w W s v0 v1 v2 v3 v4 r) (u:Value):Mk w (W.setCell ⟨w.heap.size+1,1,none⟩ u) s v0 u v2 v3 v4 r:=
 ⟨h.str.far (p:=⟨w.heap.size+1,1,none⟩) (by show w.heap.size≠w.heap.size+1;omega) u,h.act.ck 1 u,h.rest.far (p:=⟨w.heap.size+1,1,none⟩) (by show w.heap.size+1+1≠w.heap.size+1;omega) u,h.isb.far (p:=⟨w.heap.size+1,1,none⟩) (by show w.heap.size+1+1+1≠w.heap.size+1;omega) u,Bk.far (p:=⟨w.heap.size+1,1,none⟩) h.cr (by show w.heap.size+1+1+1+1≠w.heap.size+1;omega) u,h.below.setCell (p:=⟨w.heap.size+1,1,none⟩) (by show w.heap.size≤w.heap.size+1;omega) u⟩
theorem Mk.set2 {w W:World} {s r:ByteArray} {v0 v1 v2 v3 v4:Value} (h:Mk w W s v0 v1 v2 v3 v4 r) (u:Value):Mk w (W.setCell ⟨w.heap.size+1,2,none⟩ u) s v0 v1 u v3 v4 r:=
 ⟨h.str.far (p:=⟨w.heap.size+1,2,none⟩) (by show w.heap.size≠w.heap.size+1;omega) u,h.act.ck 2 u,h.rest.far (p:=⟨w.heap.size+1,2,none⟩) (by show w.heap.size+1+1≠w.heap.size+1;omega) u,h.isb.far (p:=⟨w.heap.size+1,2,none⟩) (by show w.heap.size+1+1+1≠w.heap.size+1;omega) u,Bk.far (p:=⟨w.heap.size+1,2,none⟩) h.cr (by show w.heap.size+1+1+1+1≠w.heap.size+1;omega) u,h.below.setCell (p:=⟨w.heap.size+1,2,none⟩) (by show w.heap.size≤w.heap.size+1;omega) u⟩
theorem Mk.set3 {w W:World} {s r:ByteArray} {v0 v1 v2 v3 v4:Value} (h:Mk w W s v0 v1 v2 v3 v4 r) (u:Value):Mk w (W.setCell ⟨w.heap.size+1,3,none⟩ u) s v0 v1 v2 u v4 r:=
 ⟨h.str.far (p:=⟨w.heap.size+1,3,none⟩) (by show w.heap.size≠w.heap.size+1;omega) u,h.act.ck 3 u,h.rest.far (p:=⟨w.heap.size+1,3,none⟩) (by show w.heap.size+1+1≠w.heap.size+1;omega) u,h.isb.far (p:=⟨w.heap.size+1,3,none⟩) (by show w.heap.size+1+1+1≠w.heap.size+1;omega) u,Bk.far (p:=⟨w.heap.size+1,3,none⟩) h.cr (by show w.heap.size+1+1+1+1≠w.heap.size+1;omega) u,h.below.setCell (p:=⟨w.heap.size+1,3,none⟩) (by show w.heap.size≤w.heap.size+1;omega) u⟩
theorem Mk.set4 {w W:World} {s r:ByteArray} {v0 v1 v2 v3 v4:Value} (h:Mk w W s v0 v1 v2 v3 v4 r) (u:Value):Mk w (W.setCell ⟨w.heap.size+1,4,none⟩ u) s v0 v1 v2 v3 u r:=
 ⟨h.str.far (p:=⟨w.heap.size+1,4,none⟩) (by show w.heap.size≠w.heap.size+1;omega) u,h.act.ck 4 u,h.rest.far (p:=⟨w.heap.size+1,4,none⟩) (by show w.heap.size+1+1≠w.heap.size+1;omega) u,h.isb.far (p:=⟨w.heap.size+1,4,none⟩) (by show w.heap.size+1+1+1≠w.heap.size+1;omega) u,Bk.far (p:=⟨w.heap.size+1,4,none⟩) h.cr (by show w.heap.size+1+1+1+1≠w.heap.size+1;omega) u,h.below.setCell (p:=⟨w.heap.size+1,4,none⟩) (by show w.heap.size≤w.heap.size+1;omega) u⟩
theorem Mk.dr {w W:World} {s r:ByteArray} {v0 v1 v2 v3 v4:Value} (h:Mk w W s v0 v1 v2 v3 v4 r):Mk w W.drew s v0 v1 v2 v3 v4 r:=⟨h.str,h.act,h.rest,h.isb,h.cr,h.below.drew⟩
theorem Bk.dr' {w:World} {g:Nat} {t:TypeId} {cs:Array Value} (h:Bk w g t cs):Bk w.drew g t cs:=h
structure Ajb (w W:World) (s:ByteArray) (v0 v1 v2 v3 v4:Value):Prop where
 str:Bk W (w.heap.size) 9 #[.string s]
 act:Bk W (w.heap.size+1) 57 #[v0,v1,v2,v3,v4]
 rest:Bk W (w.heap.size+1+1) 9 #[.string ⟨#[]⟩]
 isb:Bk W (w.heap.size+1+1+1) 4 #[.bool false]
 below:Below w.heap.size w W
theorem Mk.dead {w W W':World} {s r:ByteArray} {v0 v1 v2 v3 v4:Value} (h:Mk w W s v0 v1 v2 v3 v4 r) (hg:W.grownBy W' (some (w.heap.size+1+1+1+1))):Ajb w W' s v0 v1 v2 v3 v4:=
 ⟨h.str.grown hg (fun e=>by simp only[Option.some.injEq] at e;omega),h.act.grown hg (fun e=>by simp only[Option.some.injEq] at e;omega),h.rest.grown hg (fun e=>by simp only[Option.some.injEq] at e;omega),h.isb.grown hg (fun e=>by simp only[Option.some.injEq] at e;omega),
  h.below.grown hg h.below.size fun k hk=>by simp only[Option.some.injEq] at hk;omega⟩
def Al9 (B:Nat):List Deferred:=[{ target:= .fn (.func 130) #[.pointer (some ⟨B,0,none⟩),.pointer (some ⟨B+1,0,none⟩),.pointer (some ⟨B+1+1,0,none⟩),.pointer (some ⟨B+1+1+1,0,none⟩)],args:= #[] }]
def Ov (B:Nat):Array Value:= #[.pointer (some ⟨B,0,none⟩),.pointer (some ⟨B+1,0,none⟩),.pointer (some ⟨B+1+1,0,none⟩),.pointer (some ⟨B+1+1+1,0,none⟩)]
theorem Arw (w W:World) (s:ByteArray) (v0 v1 v2 v3 v4:Value) (h:Ajb w W s v0 v1 v2 v3 v4):
  CallsD Tryz.prog 130 (Ov w.heap.size) (.panicking [Uk]) W fun en u' w'=>en= .returned (.tuple #[])∧u'= .panicking [{ Uk with recovered:=true }]∧
   Bk w' (w.heap.size+1) 57 #[.int .i64 0,.int .i64 0,.int .i64 0,.string ⟨#[]⟩,.string ⟨#[]⟩]∧Bk w' (w.heap.size+1+1) 9 #[.string s]∧Bk w' (w.heap.size+1+1+1) 4 #[.bool false]∧Below w.heap.size w w':=by
 have j0:W.cell? ⟨w.heap.size,0,none⟩=some (.string s):=h.str.cell 0;have k0:W.cell? ⟨w.heap.size+1,0,none⟩=some v0:=h.act.cell 0;have k1:W.cell? ⟨w.heap.size+1,1,none⟩=some v1:=h.act.cell 1;have k2:W.cell? ⟨w.heap.size+1,2,none⟩=some v2:=h.act.cell 2;have k3:W.cell? ⟨w.heap.size+1,3,none⟩=some v3:=h.act.cell 3;have k4:W.cell? ⟨w.heap.size+1,4,none⟩=some v4:=h.act.cell 4;have k5:W.cell? ⟨w.heap.size+1+1,0,none⟩=some (.string ⟨#[]⟩):=h.rest.cell 0;have k6:W.cell? ⟨w.heap.size+1+1+1,0,none⟩=some (.bool false):=h.isb.cell 0;have f0:=h.act.frozen 0;have f1:=h.act.frozen 1;have f2:=h.act.frozen 2;have f3:=h.act.frozen 3;have f4:=h.act.frozen 4
 have f5:=h.rest.frozen 0;have f6:=h.isb.frozen 0
 have l1:=h.act.lt;have l2:=h.rest.lt;have l3:=h.isb.lt
 have HD:=zh h;clear h;unfold Uk Ov;refine callsD_of_wpS Tryz.func130 rfl fun c₀ cs hu=> ?_
 apply wpS_seq
 apply wpS_region
 simp[wpOpsS,go_sem,recoverD,hu,Tryz.ntmps130,Exit.thenS];refine wpS_of_wp ?_
 change Code.wp _ _ _ (⟨#[.pointer (some ⟨w.heap.size,0,none⟩),.pointer (some ⟨w.heap.size+1,0,none⟩),.pointer (some ⟨w.heap.size+1+1,0,none⟩),.pointer (some ⟨w.heap.size+1+1+1,0,none⟩),.iface 192 (.agg #[]),.bool true,undef,undef],[]⟩:Act) _
 go_wp2_with fail
 have h:=HD.out;refine⟨rfl,_,rfl,_,results_none rfl _ _ _,rfl,rfl,?_,?_,?_,?_⟩
 ·have:=(((((((h.act.ck 0 (.int .i64 0)).ck 1 (.int .i64 0)).ck 2 (.int .i64 0)).ck 3 (.string ⟨#[]⟩)).ck 4 (.string ⟨#[]⟩)).far (p:=⟨w.heap.size+1+1,0,none⟩) (by show w.heap.size+1≠w.heap.size+1+1;omega) (.string s)).far (p:=⟨w.heap.size+1+1+1,0,none⟩) (by show w.heap.size+1≠w.heap.size+1+1+1;omega) (.bool false))
  simpa using this
 ·have:=(((((((h.rest.far (p:=⟨w.heap.size+1,0,none⟩) (by show w.heap.size+1+1≠w.heap.size+1;omega) (.int .i64 0)).far (p:=⟨w.heap.size+1,1,none⟩) (by show w.heap.size+1+1≠w.heap.size+1;omega) (.int .i64 0)).far (p:=⟨w.heap.size+1,2,none⟩) (by show w.heap.size+1+1≠w.heap.size+1;omega) (.int .i64 0)).far (p:=⟨w.heap.size+1,3,none⟩) (by show w.heap.size+1+1≠w.heap.size+1;omega) (.string ⟨#[]⟩)).far (p:=⟨w.heap.size+1,4,none⟩) (by show w.heap.size+1+1≠w.heap.size+1;omega) (.string ⟨#[]⟩)).ck 0 (.string s)).far (p:=⟨w.heap.size+1+1+1,0,none⟩) (by show w.heap.size+1+1≠w.heap.size+1+1+1;omega) (.bool false))
  simpa using this
 ·have:=(((((((h.isb.far (p:=⟨w.heap.size+1,0,none⟩) (by show w.heap.size+1+1+1≠w.heap.size+1;omega) (.int .i64 0)).far (p:=⟨w.heap.size+1,1,none⟩) (by show w.heap.size+1+1+1≠w.heap.size+1;omega) (.int .i64 0)).far (p:=⟨w.heap.size+1,2,none⟩) (by show w.heap.size+1+1+1≠w.heap.size+1;omega) (.int .i64 0)).far (p:=⟨w.heap.size+1,3,none⟩) (by show w.heap.size+1+1+1≠w.heap.size+1;omega) (.string ⟨#[]⟩)).far (p:=⟨w.heap.size+1,4,none⟩) (by show w.heap.size+1+1+1≠w.heap.size+1;omega) (.string ⟨#[]⟩)).far (p:=⟨w.heap.size+1+1,0,none⟩) (by show w.heap.size+1+1+1≠w.heap.size+1+1;omega) (.string s)).ck 0 (.bool false))
  simpa using this
 ·exact((((((h.below.setCell (p:=⟨w.heap.size+1,0,none⟩) (by show w.heap.size≤w.heap.size+1;omega) _).setCell (p:=⟨w.heap.size+1,1,none⟩) (by show w.heap.size≤w.heap.size+1;omega) _).setCell (p:=⟨w.heap.size+1,2,none⟩) (by show w.heap.size≤w.heap.size+1;omega) _).setCell (p:=⟨w.heap.size+1,3,none⟩) (by show w.heap.size≤w.heap.size+1;omega) _).setCell (p:=⟨w.heap.size+1,4,none⟩) (by show w.heap.size≤w.heap.size+1;omega) _).setCell (p:=⟨w.heap.size+1+1,0,none⟩) (by show w.heap.size≤w.heap.size+1+1;omega) _).setCell (p:=⟨w.heap.size+1+1+1,0,none⟩) (by show w.heap.size≤w.heap.size+1+1+1;omega) _
theorem Auy (B:Nat) (w:World):
  CallsD Tryz.prog 130 (Ov B) .returning w fun en u' w'=>en= .returned (.tuple #[])∧u'= .returning∧w'=w:=by
 unfold Ov;refine callsD_of_wpS Tryz.func130 rfl fun c₀ cs hu=> ?_
 apply wpS_seq
 apply wpS_region
 simp[wpOpsS,go_sem,recoverD,hu,Tryz.ntmps130,Exit.thenS];refine wpS_of_wp ?_
 change Code.wp _ _ _ (⟨#[.pointer (some ⟨B,0,none⟩),.pointer (some ⟨B+1,0,none⟩),.pointer (some ⟨B+1+1,0,none⟩),.pointer (some ⟨B+1+1+1,0,none⟩),.nilIface,.bool false,undef,undef],[]⟩:Act) _
 go_wp2_with fail
 refine⟨rfl,.returning,?_,_,results_none rfl _ _ _,rfl,rfl,rfl⟩
 cases c₀
 simp_all
theorem Qb {s:ByteArray} {w W:World} {a:Act} {v0 v1 v2 v3 v4:Value} (hd:a.defers=Al9 w.heap.size) (ht2:a.tmps[2]? =some (.pointer (some ⟨w.heap.size+1,0,none⟩))) (ht3:a.tmps[3]? =some (.pointer (some ⟨w.heap.size+1+1,0,none⟩))) (ht4:a.tmps[4]? =some (.pointer (some ⟨w.heap.size+1+1+1,0,none⟩)))
  (h:Ajb w W s v0 v1 v2 v3 v4) (hn:Hp s=none):
  bodyPostD Tryz.prog Tryz.f83 (T5 s w) (.panic [Uk]) a W:=by
 show Leaves Tryz.prog Tryz.f83 a.tmps (T5 s w) a.defers (.panicking [Uk]) W
 rw[hd];refine leaves_cons (f:=130) (args:=Ov w.heap.size) (by simp[Ov]) (by simp[go_sem,Ov]) ?_;refine(Arw w W s v0 v1 v2 v3 v4 h).mono ?_;rintro e u' w'' ⟨rfl,rfl,ha2,hr2,hi2,hb2⟩;have k0:=ha2.cell 0;have k1:=ha2.cell 1;have k2:=ha2.cell 2;have k3:=ha2.cell 3;have k4:=ha2.cell 4;have k5:=hr2.cell 0;have k6:=hi2.cell 0
 simp only[zI,zJ,zK] at k0 k1 k2 k3 k4 k5 k6
 show Leaves Tryz.prog Tryz.f83 a.tmps (T5 s w) [] .returning _
 refine⟨.tuple #[.agg #[.int .i64 0,.int .i64 0,.int .i64 0,.string ⟨#[]⟩,.string ⟨#[]⟩],.string s,.bool false],?_,?_,hb2⟩
 ·simp[results,Tryz.results83,ht2,ht3,ht4,go_sem,k0,k1,k2,k3,k4,k5,k6]
 ·unfold Oh Aag Ui
  rw[hn];rfl
theorem Aux {s r:ByteArray} {x:Cn} {w W:World} {a:Act} (hd:a.defers=Al9 w.heap.size) (ht2:a.tmps[2]? =some (.pointer (some ⟨w.heap.size+1,0,none⟩))) (ht3:a.tmps[3]? =some (.pointer (some ⟨w.heap.size+1+1,0,none⟩))) (ht4:a.tmps[4]? =some (.pointer (some ⟨w.heap.size+1+1+1,0,none⟩)))
  (hx:Bk W (w.heap.size+1) 57 (Ez x).toArray) (hr:Bk W (w.heap.size+1+1) 9 #[.string r]) (hi:Bk W (w.heap.size+1+1+1) 4 #[.bool true]) (hb:Below w.heap.size w W) (hn:Hp s=some (x,r)):
  bodyPostD Tryz.prog Tryz.f83 (T5 s w) .ret a W:=by
 show Leaves Tryz.prog Tryz.f83 a.tmps (T5 s w) a.defers .returning W
 rw[hd];refine leaves_cons (f:=130) (args:=Ov w.heap.size) (by simp[Ov]) (by simp[go_sem,Ov]) ?_;refine(Auy w.heap.size W).mono ?_;rintro e u' w'' ⟨rfl,rfl,rfl⟩;unfold Ez at hx;have k0:=hx.cell 0;have k1:=hx.cell 1;have k2:=hx.cell 2;have k3:=hx.cell 3;have k4:=hx.cell 4;have k5:=hr.cell 0;have k6:=hi.cell 0
 simp only[zI,zJ,zK] at k0 k1 k2 k3 k4 k5 k6
 show Leaves Tryz.prog Tryz.f83 a.tmps (T5 s w) [] .returning _
 refine⟨.tuple #[.agg (Ez x).toArray,.string r,.bool true],?_,?_,hb⟩
 ·simp[results,Tryz.results83,ht2,ht3,ht4,go_sem,Ez,k0,k1,k2,k3,k4,k5,k6]
 ·unfold Oh Aag Ui
  rw[hn];rfl
theorem As0 (s:ByteArray) (w:World):Calls Tryz.prog 83 #[.string s] w (T5 s w):=by
 have hmf:∀(fn:Fn) (first cap:Array Value) (w:World),(Instr.makeFunc fn first cap).run Tryz.prog w= .ok (.func fn first cap) w:=fun _ _ _ _=>rfl
 go_enter_defers Tryz.func83,Tryz.ntmps83
 go_wp2_with fail
 obtain⟨W0,hW0⟩:∃W0,(((((w.alloc (.cells #[.string s] 9)).alloc (.cells #[.int .i64 0,.int .i64 0,.int .i64 0,.string ⟨#[]⟩,.string ⟨#[]⟩] 57)).alloc (.cells #[.string ⟨#[]⟩] 9)).alloc (.cells #[.bool false] 4)).alloc (.cells #[.string s] 168))=W0:=⟨_,rfl⟩;have h0:Mk w W0 s (.int .i64 0) (.int .i64 0) (.int .i64 0) (.string ⟨#[]⟩) (.string ⟨#[]⟩) s:=by
  rw[←hW0];exact⟨((((Bk.new _ _ _).alloc _).alloc _).alloc _).alloc _,(((Bk.cg _ _ _ (by simp)).alloc _).alloc _).alloc _,((Bk.cg _ _ _ (by simp)).alloc _).alloc _,(Bk.cg _ _ _ (by simp)).alloc _,Bk.cg _ _ _ (by simp),
   (((((zb _ _).alloc (zn _) _).alloc (by simp) _).alloc (by simp;omega) _).alloc (by simp;omega) _).alloc (by simp;omega) _⟩
 rw[hW0];clear hW0;have HA0:=zh h0;clear h0
 have q1:=Rt (w.heap.size+1+1+1+1) s W0 HA0.out.cr;rcases o1:nmS s with _|⟨k,r1⟩
 ·rw[o1] at q1
  have HN:Hid (Hp s=none):=zh (by unfold Hp;simp only[o1,Option.bind_some,Option.bind_none]);have HQ:=zh q1;clear q1;refine HQ.out.mono ?_;rintro e wz ⟨hgr,rfl⟩;have HDD:=zh (HA0.out.dead hgr);clear hgr;go_wp2_with fail
  exact Qb rfl rfl rfl rfl HDD.out HN.out
 ·rw[o1] at q1
  have HQ:=zh q1;clear q1
  refine HQ.out.mono ?_;clear HQ;rintro e w1 ⟨hgr,rfl,hgl⟩;have h1:=HA0.out.grown hgr hgl;have hc:=h1.act.cell 0;have hf:=h1.act.frozen 0;have hlt:=h1.act.lt;have hs1:=h1.set0 (.int .i64 (k:Nat));have HS:=zh hs1;simp only[zI,zJ,zK] at hc;clear hgr hgl h1 hs1;go_wp2_with fail
  clear hc hf hlt;obtain⟨W1,hW1⟩:∃W,w1.setCell ⟨w.heap.size+1,0,none⟩ (.int .i64 (k:Nat))=W:=⟨_,rfl⟩;rw[hW1] at HS;rw[hW1];clear hW1;have HA1:=HS;clear HS;have q2:=Rt (w.heap.size+1+1+1+1) r1 W1 HA1.out.cr;rcases o2:nmS r1 with _|⟨a,r2⟩
  ·rw[o2] at q2
   have HN:Hid (Hp s=none):=zh (by unfold Hp;simp only[o1,o2,Option.bind_some,Option.bind_none]);have HQ:=zh q2;clear q2;refine HQ.out.mono ?_;rintro e wz ⟨hgr,rfl⟩;have HDD:=zh (HA1.out.dead hgr);clear hgr;go_wp2_with fail
   exact Qb rfl rfl rfl rfl HDD.out HN.out
  ·rw[o2] at q2
   have HQ:=zh q2;clear q2
   refine HQ.out.mono ?_;clear HQ;rintro e w2 ⟨hgr,rfl,hgl⟩;have h2:=HA1.out.grown hgr hgl;have hc:=h2.act.cell 1;have hf:=h2.act.frozen 1;have hlt:=h2.act.lt;have hs2:=h2.set1 (.int .i64 (a:Nat));have HS:=zh hs2;simp only[zI,zJ,zK] at hc;clear hgr hgl h2 hs2;go_wp2_with fail
   clear hc hf hlt;obtain⟨W2,hW2⟩:∃W,w2.setCell ⟨w.heap.size+1,1,none⟩ (.int .i64 (a:Nat))=W:=⟨_,rfl⟩;rw[hW2] at HS;rw[hW2];clear hW2;have HA2:=HS;clear HS;have q3:=Rt (w.heap.size+1+1+1+1) r2 W2 HA2.out.cr;rcases o3:nmS r2 with _|⟨b,r3⟩
   ·rw[o3] at q3
    have HN:Hid (Hp s=none):=zh (by unfold Hp;simp only[o1,o2,o3,Option.bind_some,Option.bind_none]);have HQ:=zh q3;clear q3;refine HQ.out.mono ?_;rintro e wz ⟨hgr,rfl⟩;have HDD:=zh (HA2.out.dead hgr);clear hgr;go_wp2_with fail
    exact Qb rfl rfl rfl rfl HDD.out HN.out
   ·rw[o3] at q3
    have HQ:=zh q3;clear q3
    refine HQ.out.mono ?_;clear HQ;rintro e w3 ⟨hgr,rfl,hgl⟩;have h3:=HA2.out.grown hgr hgl;have hc:=h3.act.cell 2;have hf:=h3.act.frozen 2;have hlt:=h3.act.lt;have hs3:=h3.set2 (.int .i64 (b:Nat));have HS:=zh hs3;simp only[zI,zJ,zK] at hc;clear hgr hgl h3 hs3;go_wp2_with fail
    clear hc hf hlt;obtain⟨W3,hW3⟩:∃W,w3.setCell ⟨w.heap.size+1,2,none⟩ (.int .i64 (b:Nat))=W:=⟨_,rfl⟩;rw[hW3] at HS;rw[hW3];clear hW3;have HA3:=HS;clear HS;have q4:=Rt (w.heap.size+1+1+1+1) r3 W3 HA3.out.cr;rcases o4:nmS r3 with _|⟨n,r4⟩
    ·rw[o4] at q4
     have HN:Hid (Hp s=none):=zh (by unfold Hp;simp only[o1,o2,o3,o4,Option.bind_some,Option.bind_none]);have HQ:=zh q4;clear q4;refine HQ.out.mono ?_;rintro e wz ⟨hgr,rfl⟩;have HDD:=zh (HA3.out.dead hgr);clear hgr;go_wp2_with fail
     exact Qb rfl rfl rfl rfl HDD.out HN.out
    ·rw[o4] at q4
     have HQ:=zh q4;clear q4
     refine HQ.out.mono ?_;clear HQ;rintro e w4 ⟨hgr,rfl,hgl⟩;have HA4:=zh (HA3.out.grown hgr hgl);clear hgr hgl;go_wp2_with fail
     have q5:=V7 (w.heap.size+1+1+1+1) r4 n w4 HA4.out.cr;rcases o5:tkS n r4 with _|⟨y,r5⟩
     ·rw[o5] at q5
      have HN:Hid (Hp s=none):=zh (by unfold Hp;simp only[o1,o2,o3,o4,o5,Option.bind_some,Option.bind_none]);have HQ:=zh q5;clear q5;refine HQ.out.mono ?_;rintro e wz ⟨hgr,rfl⟩;have HDD:=zh (HA4.out.dead hgr);clear hgr;go_wp2_with fail
      exact Qb rfl rfl rfl rfl HDD.out HN.out
     ·rw[o5] at q5
      have HQ:=zh q5;clear q5
      refine HQ.out.mono ?_;clear HQ;rintro e w5 ⟨hgr,rfl,hgl⟩;have h5:=HA4.out.grown hgr hgl;have hc:=h5.act.cell 3;have hf:=h5.act.frozen 3;have hlt:=h5.act.lt;have hs5:=h5.set3 (.string y);have HS:=zh hs5;simp only[zI,zJ,zK] at hc;clear hgr hgl h5 hs5;go_wp2_with fail
      clear hc hf hlt;obtain⟨W5,hW5⟩:∃W,w5.setCell ⟨w.heap.size+1,3,none⟩ (.string y)=W:=⟨_,rfl⟩;rw[hW5] at HS;rw[hW5];clear hW5;have HA5:=HS;clear HS;have q6:=Rt (w.heap.size+1+1+1+1) r5 W5 HA5.out.cr;rcases o6:nmS r5 with _|⟨m,r6⟩
      ·rw[o6] at q6
       have HN:Hid (Hp s=none):=zh (by unfold Hp;simp only[o1,o2,o3,o4,o5,o6,Option.bind_some,Option.bind_none]);have HQ:=zh q6;clear q6;refine HQ.out.mono ?_;rintro e wz ⟨hgr,rfl⟩;have HDD:=zh (HA5.out.dead hgr);clear hgr;go_wp2_with fail
       exact Qb rfl rfl rfl rfl HDD.out HN.out
      ·rw[o6] at q6
       have HQ:=zh q6;clear q6
       refine HQ.out.mono ?_;clear HQ;rintro e w6 ⟨hgr,rfl,hgl⟩;have HA6:=zh (HA5.out.grown hgr hgl);clear hgr hgl;go_wp2_with fail
       have q7:=V7 (w.heap.size+1+1+1+1) r6 m w6 HA6.out.cr;rcases o7:tkS m r6 with _|⟨z,r7⟩
       ·rw[o7] at q7
        have HN:Hid (Hp s=none):=zh (by unfold Hp;simp only[o1,o2,o3,o4,o5,o6,o7,Option.bind_some,Option.bind_none]);have HQ:=zh q7;clear q7;refine HQ.out.mono ?_;rintro e wz ⟨hgr,rfl⟩;have HDD:=zh (HA6.out.dead hgr);clear hgr;go_wp2_with fail
        exact Qb rfl rfl rfl rfl HDD.out HN.out
       ·rw[o7] at q7
        have HQ:=zh q7;clear q7
        refine HQ.out.mono ?_;clear HQ;rintro e w7 ⟨hgr,rfl,hgl⟩;have h7:=HA6.out.grown hgr hgl;have hc:=h7.act.cell 4;have hf:=h7.act.frozen 4;have hlt:=h7.act.lt;have hs7:=h7.set4 (.string z);have HS:=zh hs7;simp only[zI,zJ,zK] at hc;clear hgr hgl h7 hs7;go_upto_region 8 with fail
        clear hc hf hlt;obtain⟨W7,hW7⟩:∃W,w7.setCell ⟨w.heap.size+1,4,none⟩ (.string z)=W:=⟨_,rfl⟩;rw[hW7] at HS;rw[hW7];clear hW7;have HA7:=HS;clear HS;have HN:Hid (Hp s=some (⟨(k:Nat),(a:Nat),(b:Nat),y,z⟩,r7)):=zh (by unfold Hp;simp only[o1,o2,o3,o4,o5,o6,o7,Option.bind_some]);have hW:=HA7.out;have z0:Mk w W7.drew s (.int .i64 (k:Nat)) (.int .i64 (a:Nat)) (.int .i64 (b:Nat)) (.string y) (.string z) r7:=hW.dr;have z5:=((((hW.set0 (.int .i64 (k:Nat))).set1 (.int .i64 (a:Nat))).set2 (.int .i64 (b:Nat))).set3 (.string y)).set4 (.string z);have HF:Hid (Bk (((((((W7.setCell ⟨w.heap.size+1,0,none⟩ (.int .i64 (k:Nat))).setCell ⟨w.heap.size+1,1,none⟩ (.int .i64 (a:Nat))).setCell ⟨w.heap.size+1,2,none⟩ (.int .i64 (b:Nat))).setCell ⟨w.heap.size+1,3,none⟩ (.string y)).setCell ⟨w.heap.size+1,4,none⟩ (.string z)).setCell ⟨w.heap.size+1+1,0,none⟩ (.string r7)).setCell ⟨w.heap.size+1+1+1,0,none⟩ (.bool true)) (w.heap.size+1) 57 (Ez (⟨(k:Nat),(a:Nat),(b:Nat),y,z⟩:Cn)).toArray∧Bk (((((((W7.setCell ⟨w.heap.size+1,0,none⟩ (.int .i64 (k:Nat))).setCell ⟨w.heap.size+1,1,none⟩ (.int .i64 (a:Nat))).setCell ⟨w.heap.size+1,2,none⟩ (.int .i64 (b:Nat))).setCell ⟨w.heap.size+1,3,none⟩ (.string y)).setCell ⟨w.heap.size+1,4,none⟩ (.string z)).setCell ⟨w.heap.size+1+1,0,none⟩ (.string r7)).setCell ⟨w.heap.size+1+1+1,0,none⟩ (.bool true)) (w.heap.size+1+1) 9 #[.string r7]∧Bk (((((((W7.setCell ⟨w.heap.size+1,0,none⟩ (.int .i64 (k:Nat))).setCell ⟨w.heap.size+1,1,none⟩ (.int .i64 (a:Nat))).setCell ⟨w.heap.size+1,2,none⟩ (.int .i64 (b:Nat))).setCell ⟨w.heap.size+1,3,none⟩ (.string y)).setCell ⟨w.heap.size+1,4,none⟩ (.string z)).setCell ⟨w.heap.size+1+1,0,none⟩ (.string r7)).setCell ⟨w.heap.size+1+1+1,0,none⟩ (.bool true)) (w.heap.size+1+1+1) 4 #[.bool true]∧Jj (((((((W7.setCell ⟨w.heap.size+1,0,none⟩ (.int .i64 (k:Nat))).setCell ⟨w.heap.size+1,1,none⟩ (.int .i64 (a:Nat))).setCell ⟨w.heap.size+1,2,none⟩ (.int .i64 (b:Nat))).setCell ⟨w.heap.size+1,3,none⟩ (.string y)).setCell ⟨w.heap.size+1,4,none⟩ (.string z)).setCell ⟨w.heap.size+1+1,0,none⟩ (.string r7)).setCell ⟨w.heap.size+1+1+1,0,none⟩ (.bool true)) (w.heap.size+1+1+1+1) r7∧Below w.heap.size w (((((((W7.setCell ⟨w.heap.size+1,0,none⟩ (.int .i64 (k:Nat))).setCell ⟨w.heap.size+1,1,none⟩ (.int .i64 (a:Nat))).setCell ⟨w.heap.size+1,2,none⟩ (.int .i64 (b:Nat))).setCell ⟨w.heap.size+1,3,none⟩ (.string y)).setCell ⟨w.heap.size+1,4,none⟩ (.string z)).setCell ⟨w.heap.size+1+1,0,none⟩ (.string r7)).setCell ⟨w.heap.size+1+1+1,0,none⟩ (.bool true))):=zh
         ⟨(z5.act.far (p:=⟨w.heap.size+1+1,0,none⟩) (by show w.heap.size+1≠w.heap.size+1+1;omega) _).far (p:=⟨w.heap.size+1+1+1,0,none⟩) (by show w.heap.size+1≠w.heap.size+1+1+1;omega) _,(z5.rest.ck 0 (.string r7)).far (p:=⟨w.heap.size+1+1+1,0,none⟩) (by show w.heap.size+1+1≠w.heap.size+1+1+1;omega) _,(z5.isb.far (p:=⟨w.heap.size+1+1,0,none⟩) (by show w.heap.size+1+1+1≠w.heap.size+1+1;omega) _).ck 0 (.bool true),Bk.far (p:=⟨w.heap.size+1+1+1,0,none⟩) (Bk.far (p:=⟨w.heap.size+1+1,0,none⟩) z5.cr (by show w.heap.size+1+1+1+1≠w.heap.size+1+1;omega) (.string r7)) (by show w.heap.size+1+1+1+1≠w.heap.size+1+1+1;omega) (.bool true),(z5.below.setCell (p:=⟨w.heap.size+1+1,0,none⟩) (by show w.heap.size≤w.heap.size+1+1;omega) _).setCell (p:=⟨w.heap.size+1+1+1,0,none⟩) (by show w.heap.size≤w.heap.size+1+1+1;omega) _⟩
        have e0:(fun W=>W.cell? ⟨w.heap.size+1,0,none⟩=some (.int .i64 (k:Nat))∧W.cell? ⟨w.heap.size+1,1,none⟩=some (.int .i64 (a:Nat))∧W.cell? ⟨w.heap.size+1,2,none⟩=some (.int .i64 (b:Nat))∧W.cell? ⟨w.heap.size+1,3,none⟩=some (.string y)∧W.cell? ⟨w.heap.size+1,4,none⟩=some (.string z)∧W.cell? ⟨w.heap.size+1+1+1+1,0,none⟩=some (.string r7)) W7.drew:=⟨z0.act.cell 0,z0.act.cell 1,z0.act.cell 2,z0.act.cell 3,z0.act.cell 4,Bk.cell z0.cr 0⟩;have y5':=z5.dr;have e5:(fun W=>W.cell? ⟨w.heap.size+1,0,none⟩=some (.int .i64 (k:Nat))∧W.cell? ⟨w.heap.size+1,1,none⟩=some (.int .i64 (a:Nat))∧W.cell? ⟨w.heap.size+1,2,none⟩=some (.int .i64 (b:Nat))∧W.cell? ⟨w.heap.size+1,3,none⟩=some (.string y)∧W.cell? ⟨w.heap.size+1,4,none⟩=some (.string z)∧W.cell? ⟨w.heap.size+1+1+1+1,0,none⟩=some (.string r7)) (((((W7.setCell ⟨w.heap.size+1,0,none⟩ (.int .i64 (k:Nat))).setCell ⟨w.heap.size+1,1,none⟩ (.int .i64 (a:Nat))).setCell ⟨w.heap.size+1,2,none⟩ (.int .i64 (b:Nat))).setCell ⟨w.heap.size+1,3,none⟩ (.string y)).setCell ⟨w.heap.size+1,4,none⟩ (.string z)).drew:=⟨y5'.act.cell 0,y5'.act.cell 1,y5'.act.cell 2,y5'.act.cell 3,y5'.act.cell 4,Bk.cell y5'.cr 0⟩;have g6:=Bk.dr' (Bk.far (p:=⟨w.heap.size+1+1,0,none⟩) z5.cr (by show w.heap.size+1+1+1+1≠w.heap.size+1+1;omega) (.string r7));have a6:=Bk.dr' (z5.act.far (p:=⟨w.heap.size+1+1,0,none⟩) (by show w.heap.size+1≠w.heap.size+1+1;omega) (.string r7));have e6:(fun W=>W.cell? ⟨w.heap.size+1,0,none⟩=some (.int .i64 (k:Nat))∧W.cell? ⟨w.heap.size+1,1,none⟩=some (.int .i64 (a:Nat))∧W.cell? ⟨w.heap.size+1,2,none⟩=some (.int .i64 (b:Nat))∧W.cell? ⟨w.heap.size+1,3,none⟩=some (.string y)∧W.cell? ⟨w.heap.size+1,4,none⟩=some (.string z)∧W.cell? ⟨w.heap.size+1+1+1+1,0,none⟩=some (.string r7)) ((((((W7.setCell ⟨w.heap.size+1,0,none⟩ (.int .i64 (k:Nat))).setCell ⟨w.heap.size+1,1,none⟩ (.int .i64 (a:Nat))).setCell ⟨w.heap.size+1,2,none⟩ (.int .i64 (b:Nat))).setCell ⟨w.heap.size+1,3,none⟩ (.string y)).setCell ⟨w.heap.size+1,4,none⟩ (.string z)).setCell ⟨w.heap.size+1+1,0,none⟩ (.string r7)).drew:=⟨a6.cell 0,a6.cell 1,a6.cell 2,a6.cell 3,a6.cell 4,Bk.cell g6 0⟩;have g7:=Bk.dr' HF.out.2.2.2.1;have a7:=Bk.dr' HF.out.1;have e7:(fun W=>W.cell? ⟨w.heap.size+1,0,none⟩=some (.int .i64 (k:Nat))∧W.cell? ⟨w.heap.size+1,1,none⟩=some (.int .i64 (a:Nat))∧W.cell? ⟨w.heap.size+1,2,none⟩=some (.int .i64 (b:Nat))∧W.cell? ⟨w.heap.size+1,3,none⟩=some (.string y)∧W.cell? ⟨w.heap.size+1,4,none⟩=some (.string z)∧W.cell? ⟨w.heap.size+1+1+1+1,0,none⟩=some (.string r7)) (((((((W7.setCell ⟨w.heap.size+1,0,none⟩ (.int .i64 (k:Nat))).setCell ⟨w.heap.size+1,1,none⟩ (.int .i64 (a:Nat))).setCell ⟨w.heap.size+1,2,none⟩ (.int .i64 (b:Nat))).setCell ⟨w.heap.size+1,3,none⟩ (.string y)).setCell ⟨w.heap.size+1,4,none⟩ (.string z)).setCell ⟨w.heap.size+1+1,0,none⟩ (.string r7)).setCell ⟨w.heap.size+1+1+1,0,none⟩ (.bool true)).drew:=⟨a7.cell 0,a7.cell 1,a7.cell 2,a7.cell 3,a7.cell 4,Bk.cell g7 0⟩;have l1:=hW.act.lt;have l2:=hW.rest.lt;have l3:=hW.isb.lt
        have m1:w.heap.size+1 < W7.drew.heap.size:=l1;have m2:w.heap.size+1+1 < W7.drew.heap.size:=l2;have m3:w.heap.size+1+1+1 < W7.drew.heap.size:=l3;have f0:W7.drew.frozen? ⟨w.heap.size+1,0,none⟩=false:=z0.act.frozen 0;have f1:W7.drew.frozen? ⟨w.heap.size+1,1,none⟩=false:=z0.act.frozen 1;have f2:W7.drew.frozen? ⟨w.heap.size+1,2,none⟩=false:=z0.act.frozen 2;have f3:W7.drew.frozen? ⟨w.heap.size+1,3,none⟩=false:=z0.act.frozen 3;have f4:W7.drew.frozen? ⟨w.heap.size+1,4,none⟩=false:=z0.act.frozen 4;have f5:W7.drew.frozen? ⟨w.heap.size+1+1,0,none⟩=false:=z0.rest.frozen 0;have f6:W7.drew.frozen? ⟨w.heap.size+1+1+1,0,none⟩=false:=z0.isb.frozen 0;have y5:W7.drew.cell? ⟨w.heap.size+1+1,0,none⟩=some (.string ⟨#[]⟩):=z0.rest.cell 0;have y6:W7.drew.cell? ⟨w.heap.size+1+1+1,0,none⟩=some (.bool false):=z0.isb.cell 0;have xx0:W7.cell? ⟨w.heap.size+1,0,none⟩=some (.int .i64 (k:Nat)):=hW.act.cell 0;have ff0:W7.frozen? ⟨w.heap.size+1,0,none⟩=false:=hW.act.frozen 0;have xx1:W7.cell? ⟨w.heap.size+1,1,none⟩=some (.int .i64 (a:Nat)):=hW.act.cell 1;have ff1:W7.frozen? ⟨w.heap.size+1,1,none⟩=false:=hW.act.frozen 1;have xx2:W7.cell? ⟨w.heap.size+1,2,none⟩=some (.int .i64 (b:Nat)):=hW.act.cell 2;have ff2:W7.frozen? ⟨w.heap.size+1,2,none⟩=false:=hW.act.frozen 2;have xx3:W7.cell? ⟨w.heap.size+1,3,none⟩=some (.string y):=hW.act.cell 3;have ff3:W7.frozen? ⟨w.heap.size+1,3,none⟩=false:=hW.act.frozen 3;have xx4:W7.cell? ⟨w.heap.size+1,4,none⟩=some (.string z):=hW.act.cell 4;have ff4:W7.frozen? ⟨w.heap.size+1,4,none⟩=false:=hW.act.frozen 4;have ff5:W7.frozen? ⟨w.heap.size+1+1,0,none⟩=false:=hW.rest.frozen 0;have ff6:W7.frozen? ⟨w.heap.size+1+1+1,0,none⟩=false:=hW.isb.frozen 0;have yy5:W7.cell? ⟨w.heap.size+1+1,0,none⟩=some (.string ⟨#[]⟩):=hW.rest.cell 0;have yy6:W7.cell? ⟨w.heap.size+1+1+1,0,none⟩=some (.bool false):=hW.isb.cell 0;obtain⟨x0,x1,x2,x3,x4,_⟩:=e0;have e0:(fun W=>W.cell? ⟨w.heap.size+1,0,none⟩=some (.int .i64 (k:Nat))∧W.cell? ⟨w.heap.size+1,1,none⟩=some (.int .i64 (a:Nat))∧W.cell? ⟨w.heap.size+1,2,none⟩=some (.int .i64 (b:Nat))∧W.cell? ⟨w.heap.size+1,3,none⟩=some (.string y)∧W.cell? ⟨w.heap.size+1,4,none⟩=some (.string z)∧W.cell? ⟨w.heap.size+1+1+1+1,0,none⟩=some (.string r7)) W7.drew:=⟨x0,x1,x2,x3,x4,Bk.cell z0.cr 0⟩;clear z0 z5 g6 a6 g7 a7 y5' hW;refine Is ?_;refine wp_region_held_drew (S:=(fun W=>W.cell? ⟨w.heap.size+1,0,none⟩=some (.int .i64 (k:Nat))∧W.cell? ⟨w.heap.size+1,1,none⟩=some (.int .i64 (a:Nat))∧W.cell? ⟨w.heap.size+1,2,none⟩=some (.int .i64 (b:Nat))∧W.cell? ⟨w.heap.size+1,3,none⟩=some (.string y)∧W.cell? ⟨w.heap.size+1,4,none⟩=some (.string z)∧W.cell? ⟨w.heap.size+1+1+1+1,0,none⟩=some (.string r7))) (by kernel_rfl) (by first|assumption|exact e0) (fun hHeld=> ?_)
        first|(refine zH 0 ?_)|(refine zU 0 ?_)
        first|(refine zH 1 ?_)|(refine zU 1 ?_)
        first|(refine zH 2 ?_)|(refine zU 2 ?_)
        first|(refine zH 3 ?_)|(refine zU 3 ?_)
        first|(refine zH 4 ?_)|(refine zU 4 ?_)
        clear hHeld;refine zR 5 fun K hK=> ?_
        go_simp
        refine hK.out _ _ (by exact e5) (fun hHeld=> ?_);clear hK K
        try simp only[Act.put,zA,zB,zC,zD,zE,zF]
        refine zR 6 fun K hK=> ?_;clear hHeld
        go_simp
        refine hK.out _ _ (by exact e6) (fun hHeld=> ?_);clear hK K
        try simp only[Act.put,zA,zB,zC,zD,zE,zF]
        refine zR 7 fun K hK=> ?_;clear hHeld
        go_simp
        refine hK.out _ _ (by exact e7) (fun hHeld=> ?_);clear hK K
        try simp only[Act.put,zA,zB,zC,zD,zE,zF]
        refine wpAnyH_done (by kernel_rfl) ?_ _;refine RQ0.normal ?_;clear hHeld e0 e5 e6 e7;go_wp2_with fail
        exact Aux rfl rfl rfl rfl (Bk.dr' HF.out.1) (Bk.dr' HF.out.2.1) (Bk.dr' HF.out.2.2.1) HF.out.2.2.2.2.drew HN.out
open Go Go.RowKit
theorem Al2:(Tryz.prog.info? 57).map (fun i=>(i.zero,i.size,i.bytes))=some (some (.agg #[.int .i64 0,.int .i64 0,.int .i64 0,.string ⟨#[]⟩,.string ⟨#[]⟩]),5,56):=by kernel_rfl
def Vr (t:ByteArray) (w:World) (e:Ending) (w':World):Prop:=
 ∃a c,e= .returned (.tuple #[.slice a (Dq t).length c,.int .i64 (J4 t),.int .i64 (Dd t)])∧Sl w' w.heap.size w'.heap.size a ((Dq t).flatMap Ez)∧Below w.heap.size w w'
def Ayh (t:ByteArray) (W0:World) (l left:Value) (wr:World):Prop:=
 ∃(done:List Cn) (r:ByteArray),done.length≤60∧left= .string r∧(I5 60 t).1=done++(I5 (60 - done.length) r).1∧(I5 60 t).2=(I5 (60 - done.length) r).2∧r.size≤t.size∧
  wr.ownsRow W0.heap.size 57 5 l done.length (done.flatMap Ez)∧Below W0.heap.size W0 wr
def rpM (l:Value):Nat:=match l with| .slice _ n _=>60 - n|_=>0
theorem Afc (a:Option Addr) (n c:Nat):rpM (.slice a n c)=60 - n:=rfl
theorem Adg {n:Nat} {r:ByteArray} (h:Hp r=none):I5 n r=([],r):=by
 cases n with
 |zero=>rfl
 |succ n=>unfold I5;rw[h]
theorem Adh {n:Nat} {r r2:ByteArray} {x:Cn} (h:Hp r=some (x,r2)):I5 (n+1) r=(x::(I5 n r2).1,(I5 n r2).2):=by rw[I5,h]
theorem Pt (t:ByteArray) (ht:t.size≤1048576) (w:World):Calls Tryz.prog 39 #[.string t] w (Vr t w):=by
 by_cases h4:4096 < t.size
 ·have HR:Hid (Dq t=[]∧J4 t=0∧Dd t=2):=zh ⟨zp h4,zp h4,zp h4⟩
  go_enter Tryz.func39,Tryz.ntmps39
  go_wp2_with fail
  refine bodyPost_ret (v:= .tuple #[.slice none 0 0,.int .i64 0,.int .i64 2]) (by simp[results,Tryz.results39,go_sem]) rfl ?_;exact⟨none,0,by rw[HR.out.1,HR.out.2.1,HR.out.2.2];rfl,by rw[HR.out.1];exact Sl.nil _ _ _ _,zb _ _⟩
 ·have HN:=zh h4
  have HR:Hid (Dq t=(I5 60 t).1∧J4 t=(t.size:Int) - ((I5 60 t).2.size:Int)∧Dd t=0):=zh ⟨zq h4,zq h4,zq h4⟩;go_enter Tryz.func39,Tryz.ntmps39
  go_wp2_with fail
  go_loopw [5,6] (fun l left wr=>Ayh t w l left wr) (fun l _ _=>rpM l)
  case atStart=>exact⟨[],t,Nat.zero_le _,rfl,rfl,rfl,zn _,World.ownsRow_nil _ _ _ _,zb _ _⟩
  case round=>
   obtain⟨done,r,hd,rfl,h1,h2,hrt,hown,hB⟩:=hrel;obtain⟨al,cl,rfl,_⟩:=Ad hown;have HOW:=zh hown;have HB:=zh hB;have HRT:=zh hrt;by_cases hlt:done.length < 60
   ·obtain⟨m,hm⟩:∃m,60 - done.length=m+1:=⟨60 - done.length - 1,by omega⟩
    have hlt':((done.length:Int) < 60):=by omega
    rw[hm] at h1 h2;have HM:=zh (zi hm hlt);have H12:=zh (zi h1 h2);clear h1 h2 hown hB hrt hm hlt hd;go_wp2_with fail
    refine(As0 r wr).mono ?_;rintro e w1 ⟨rfl,hb1⟩;have HB1:=zh (HB.out.trans (hb1.mono HB.out.size));have HOW1:=zh (own_below HOW.out hb1);clear hb1
    cases hc:Hp r with
    |none=>
     have HE:Hid ((I5 60 t).1=done∧(I5 60 t).2=r):=zh (by
      obtain⟨h1,h2⟩:=H12.out;rw[Adg hc] at h1 h2;exact⟨by rw[h1,List.append_nil],h2⟩)
     have e1:Oh r=Vk:=by unfold Oh;rw[hc]
     have e2:Aag r=r:=by unfold Aag;rw[hc]
     have e3:Ui r=false:=by unfold Ui;rw[hc];rfl
     rw[e1,e2,e3];unfold Vk Ez;clear e1 e2 e3 hc;have hrt:=HRT.out;have hwr:wrap64 ((t.size:Int) - (r.size:Int))=(t.size:Int) - (r.size:Int):=by unfold wrap64;omega
     go_wp2_with fail
     refine bodyPost_ret (v:= .tuple #[.slice al done.length cl,.int .i64 ((t.size:Int) - (r.size:Int)),.int .i64 0]) (by simp[results,Tryz.results39,go_sem]) rfl ?_;have hl:Dq t=done:=HR.out.1.trans HE.out.1;have ho:=HOW1.out.alloc (.cells #[.int .i64 0,.int .i64 0,.int .i64 0,.string ⟨#[]⟩,.string ⟨#[]⟩] 57);exact⟨al,cl,by rw[hl,HR.out.2.1,HR.out.2.2,HE.out.2],by rw[hl];exact Sl.cu ho,HB1.out.alloc HB1.out.size _⟩
    |some y=>
     obtain⟨x,r2⟩:=y;have e1:Oh r=x:=by unfold Oh;rw[hc]
     have e2:Aag r=r2:=by unfold Aag;rw[hc]
     have e3:Ui r=true:=by unfold Ui;rw[hc];rfl
     rw[e1,e2,e3];unfold Ez;have HE:=zh (Adh (n:=m) hc);have HSZ:=zh (Na hc).2;clear e1 e2 e3 hc;have hbase:w.heap.size≤w1.heap.size:=HB1.out.size;have hdl:done.length < 4294967296:=by have:=HM.out;omega
     go_upto_region 8 with fail
     have HO2:=zh (HOW1.out.alloc (.cells (zX x) 57));have HB2:=zh (HB1.out.alloc HB1.out.size (.cells (zX x) 57));have hk2:=Bk.new w1 57 (zX x);obtain⟨W2,hW2⟩:∃W2,w1.alloc (.cells (zX x) 57)=W2:=⟨_,rfl⟩;rw[hW2] at HO2 HB2 hk2;rw[hW2];clear hW2 hbase;have y0:=hk2.cell 0;have y1:=hk2.cell 1;have y2:=hk2.cell 2;have y3:=hk2.cell 3;have y4:=hk2.cell 4
     simp only[zI,zJ,zK] at y0 y1 y2 y3 y4;have hbase:w.heap.size≤W2.heap.size:=HB2.out.size;clear hk2;go_wp2_with (at_builtin;refine D6 rfl _ _ 62 rfl w.heap.size 57 Al2 Tryz.underlying62 rfl (by decide) (by decide) W2 _ _ _ rfl HO2.out [.int .i64 x.kind,.int .i64 x.a,.int .i64 x.b,.string x.key,.string x.body] rfl rfl rfl (by simp[Value.oneCell']) hdl hbase ?_;intro v3 w3 ho3 hg3;have HO3:=zh (zi ho3 hg3);clear ho3 hg3)
     obtain⟨h1,h2⟩:=H12.out;rw[HE.out] at h1 h2;obtain⟨a3,c3,rfl,_⟩:=Ad HO3.out.1;have hm:=HM.out.1;have hl:=HM.out.2;have e60:60 - (done++[x]).length=m:=by rw[ze,List.length_singleton];omega
     refine⟨⟨done++[x],r2,by rw[ze,List.length_singleton];omega,rfl,?_,?_,by have:=HSZ.out;have:=HRT.out;omega,?_,Bl HO2.out HO3.out.2 HB2.out (zn _) HB2.out.size⟩,by rw[Afc,Afc];omega⟩
     ·rw[e60,h1,List.append_assoc];rfl
     ·rw[e60,h2]
     ·rw[ze,List.flatMap_append]
      exact HO3.out.1
   ·have hd0:60 - done.length=0:=by omega
    rw[hd0] at h1 h2;have HE:Hid ((I5 60 t).1=done∧(I5 60 t).2=r):=zh ⟨h1.trans (List.append_nil _),h2⟩;have hwr:wrap64 ((t.size:Int) - (r.size:Int))=(t.size:Int) - (r.size:Int):=by unfold wrap64;omega
    have hge:¬ ((done.length:Int) < 60):=by omega
    clear h1 h2 hown hB hd0 hd;go_wp2_with fail
    refine bodyPost_ret (v:= .tuple #[.slice al done.length cl,.int .i64 ((t.size:Int) - (r.size:Int)),.int .i64 0]) (by simp[results,Tryz.results39,go_sem]) rfl ?_;have hl:Dq t=done:=HR.out.1.trans HE.out.1;exact⟨al,cl,by rw[hl,HR.out.2.1,HR.out.2.2,HE.out.2],by rw[hl];exact Sl.cu HOW.out,HB.out⟩
open Go Go.RowKit
def Ie (x:Cn):List Int:=[x.kind,x.a,x.b,x.key.size,x.body.size]
def inB (n:Int):Bool:=decide (0≤n∧n≤255)
theorem Qm (x:Cn):Df x=(Ie x).all inB:=by
 rw[Bool.eq_iff_iff];simp only[Df,Ie,inB,List.all_cons,List.all_nil,zc,zd,Bool.and_true];omega
def bV (b:UInt8):Value:= .int .u8 (b.toNat:Int)
theorem Zn {n:Int} (h:0≤n):((UInt8.ofNat n.toNat).toNat:Int)=n % 256:=by
 rw[UInt8.toNat_ofNat'];omega
theorem Zo (W:World) (l:List UInt8) (n:Nat) (hn:n=l.length) (vals:Array Value) (hv:vals=(l.map bV).toArray):
  (convert 116 9 (.slice (some ⟨W.heap.size,0,none⟩) n n)).run Tryz.prog (W.alloc (.cells vals 5))= .ok (.string (bs l)) (W.alloc (.cells vals 5)):=by
 subst hn hv;refine run_convert_bytes_back _ 116 9 5 ⟨W.heap.size,0,none⟩ l.length l Tryz.underlying116 Tryz.underlying5 Tryz.underlying9 (fun j hj=> ?_);have hk:=(Bk.new W 5 (l.map bV).toArray).cell j;have e:((⟨W.heap.size,0,none⟩:Addr).add j)=⟨W.heap.size,j,none⟩:=by
  unfold Addr.add
  split
  ·simp_all
  ·simp
 rw[e,hk,zI,List.getElem?_map,zG hj];rfl
def Ab9 (x:Cn):List UInt8:=[UInt8.ofNat x.kind.toNat,UInt8.ofNat x.a.toNat,UInt8.ofNat x.b.toNat,UInt8.ofNat x.key.size]
theorem Aif (n:Nat):((UInt8.ofNat n).toNat:Int)=(n:Int) % 256:=by
 rw[UInt8.toNat_ofNat'];omega
theorem Xl {x:Cn} (h:Df x=true):(#[.int .u8 (x.kind % 256),.int .u8 (x.a % 256),.int .u8 (x.b % 256),.int .u8 ((x.key.size:Int) % 256)]:Array Value)=((Ab9 x).map bV).toArray:=by
 unfold Df at h;simp only[zc,zd] at h;unfold Ab9 bV;simp only[List.map_cons,List.map_nil,Zn h.1.1.1.1.1,Zn h.1.1.1.2.1,Zn h.1.1.2.1,Aif]
theorem Ww (x:Cn):(#[.int .u8 ((x.body.size:Int) % 256)]:Array Value)=([UInt8.ofNat x.body.size].map bV).toArray:=by
 unfold bV;simp only[List.map_cons,List.map_nil,Aif]
def Avs (x:Cn) (R:Nat) (W0:World) (i:Value) (wr:World):Prop:=∃k:Nat,k≤5∧i= .int .i64 k∧((Ie x).take k).all inB=true∧Bk wr R 3 ((Ie x).map (Value.int .i64)).toArray∧Bk wr W0.heap.size 57 (Ez x).toArray∧Below W0.heap.size W0 wr
theorem Acs {x:Cn} {k:Nat} (hk:k < 5) {n:Int} (hn:(Ie x)[k]? =some n):((Ie x).take (k+1)).all inB=(((Ie x).take k).all inB && inB n):=by
 obtain⟨h1,h2⟩:=List.getElem?_eq_some_iff.1 hn;rw[zj h1,List.all_append,h2];simp
theorem Jv (x:Cn) (hx:Eb x) (w:World):Calls Tryz.prog 37 #[.agg (Ez x).toArray] w fun e w'=>e= .returned (.tuple #[.string (Gc x),.int .i64 (F0 x)])∧Below w.heap.size w w':=by
 have HX:=zh hx;have hk1:x.key.size≤9223372036854775807:=by have:=hx.key;omega
 have hb1:x.body.size≤9223372036854775807:=by have:=hx.body;omega
 clear hx;unfold Ez;go_enter Tryz.func37,Tryz.ntmps37
 go_wp2_with fail
 obtain⟨W1,hW1⟩:∃W1,(w.alloc (.cells (zX x) 57)).alloc (.cells #[.int .i64 x.kind,.int .i64 x.a,.int .i64 x.b,.int .i64 x.key.size,.int .i64 x.body.size] 3)=W1:=⟨_,rfl⟩;have HK0:Hid (Bk W1 w.heap.size 57 (Ez x).toArray∧Bk W1 (w.heap.size+1) 3 ((Ie x).map (Value.int .i64)).toArray∧Below w.heap.size w W1):=by
  rw[←hW1];exact⟨(Bk.new _ _ _).alloc _,Bk.cg _ _ _ (by simp),((zb _ _).alloc (zn _) _).alloc (by simp) _⟩
 rw[hW1];clear hW1
 go_loopw [5,21] (fun v i wr=>Avs x (w.heap.size+1) w i wr) (fun _ i _=>5 - (intOf i).toNat)
 case atStart=>exact⟨0,by omega,rfl,rfl,HK0.out.2.1,HK0.out.1,HK0.out.2.2⟩
 case round=>
  obtain⟨k,hk,rfl,hall,hrow,hact,hB⟩:=hrel;have HROW:=zh hrow;have HACT:=zh hact;have HB:=zh hB;have HALL:=zh hall;by_cases hlt:k < 5
  ·obtain⟨n,hn⟩:∃n,(Ie x)[k]? =some n:=⟨_,zG (by simpa [Ie] using hlt)⟩
   have e0:wr.cell? ⟨w.heap.size+1,k,none⟩=some (.int .i64 n):=by rw[hrow.cell,zI,List.getElem?_map,hn];rfl
   have HST:=zh (Acs hlt hn);clear hn hall hrow hact hB;by_cases hin:inB n=true
   ·have h2:0≤n∧n≤255:=by simpa [inB] using hin
    have HIN:=zh hin;have h3:(decide (n < 0))=false:=by simp;omega
    have h4:(decide ((255:Int) < n))=false:=by simp;omega
    obtain⟨h5,h6⟩:=h2;clear hin;go_wp2_with fail
    exact⟨⟨k+1,by omega,rfl,by rw[HST.out,HALL.out,HIN.out];rfl,HROW.out,HACT.out,HB.out⟩,by simp[intOf];omega⟩
   ·have HR:Hid (Df x=false):=by
     refine(?_:Df x=false);rw[Qm];rw[←List.take_append_drop (k+1) (Ie x),List.all_append,HST.out];simp[hin]
    by_cases h0:n < 0
    ·clear hin
     go_wp2_with fail
     refine bodyPost_ret (v:= .tuple #[.string ⟨#[]⟩,.int .i64 3]) (by simp[results,Tryz.results37,go_sem]) rfl ?_;unfold Gc F0;rw[HR.out];exact⟨rfl,HB.out⟩
    ·have h1:255 < n:=by
      have:¬ (0≤n∧n≤255):=by simpa [inB] using hin
      omega
     clear hin;go_wp2_with fail
     refine bodyPost_ret (v:= .tuple #[.string ⟨#[]⟩,.int .i64 3]) (by simp[results,Tryz.results37,go_sem]) rfl ?_;unfold Gc F0;rw[HR.out];exact⟨rfl,HB.out⟩
  ·obtain rfl:k=5:=by omega
   have HR:Hid (Df x=true):=by
    refine(?_:Df x=true);rw[Qm];exact hall
   have n0:wr.cell? ⟨w.heap.size,0,none⟩=some (.int .i64 x.kind):=hact.cell 0;have n1:wr.cell? ⟨w.heap.size,1,none⟩=some (.int .i64 x.a):=hact.cell 1;have n2:wr.cell? ⟨w.heap.size,2,none⟩=some (.int .i64 x.b):=hact.cell 2;have n3:wr.cell? ⟨w.heap.size,3,none⟩=some (.string x.key):=hact.cell 3;have n4:wr.cell? ⟨w.heap.size,4,none⟩=some (.string x.body):=hact.cell 4;clear hall hrow hact hB;have hcv1:=Zo wr (Ab9 x) 4 rfl _ (Xl HR.out);have hcv2:=Zo (wr.alloc (.cells #[.int .u8 (x.kind % 256),.int .u8 (x.a % 256),.int .u8 (x.b % 256),.int .u8 ((x.key.size:Int) % 256)] 5)) [UInt8.ofNat x.body.size] 1 rfl _ (Ww x);rw[show(wr.alloc (.cells #[.int .u8 (x.kind % 256),.int .u8 (x.a % 256),.int .u8 (x.b % 256),.int .u8 ((x.key.size:Int) % 256)] 5)).heap.size=wr.heap.size+1 by simp] at hcv2;have hlt2:=HACT.out.lt;have hs1:(bs (Ab9 x)).size=4:=rfl;have hs2:(bs [UInt8.ofNat x.body.size]).size=1:=rfl;have hk2:=HX.out.key;have hb2:=HX.out.body;go_wp2_with fail
   refine bodyPost_ret (v:= .tuple #[.string (bs (Ab9 x)++x.key++bs [UInt8.ofNat x.body.size]++x.body),.int .i64 0]) (by simp[results,Tryz.results37,go_sem]) rfl ?_;unfold Gc F0;rw[HR.out];have hs:=HB.out.size;exact⟨rfl,(HB.out.alloc hs _).alloc (by simp;omega) _⟩
end Go.Proofs.YtaanpcjkflhomaaGreatDoor
