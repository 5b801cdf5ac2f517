/-
  The plain law of the log: acts as bytes. No program in sight.
-/
import Derived.Test.YtaanpcjkflhomaaGreatDoorDoP
import Derived.Test.YtaanpcjkflhomaaGreatDoorBunF
set_option maxHeartbeats 20000000
set_option maxRecDepth 100000
set_option linter.unusedSimpArgs false
set_option linter.unusedVariables false
namespace Go.Proofs.YtaanpcjkflhomaaGreatDoor
/-! What is read. -/
def nmS (s:ByteArray):Option (Nat×ByteArray):=if h:0 < s.size then some (s[0].toNat,s.extract 1 s.size) else none
def tkS (n:Nat) (s:ByteArray):Option (ByteArray×ByteArray):=if n≤s.size then some (s.extract 0 n,s.extract n s.size) else none
def Hp (s:ByteArray):Option (Cn×ByteArray):=
 (nmS s).bind fun k=>(nmS k.2).bind fun a=>(nmS a.2).bind fun b=>(nmS b.2).bind fun n=>(tkS n.1 n.2).bind fun y=>(nmS y.2).bind fun m=>(tkS m.1 m.2).bind fun z=>some (⟨(k.1:Nat),(a.1:Nat),(b.1:Nat),y.1,z.1⟩,z.2)
def I5:Nat→ByteArray→List Cn×ByteArray
 |0,s=>([],s)
 |n+1,s=>match Hp s with
  |none=>([],s)
  |some (x,r)=>(x::(I5 n r).1,(I5 n r).2)
def Dd (t:ByteArray):Int:=if 4096 < t.size then 2 else 0
def Dq (t:ByteArray):List Cn:=if 4096 < t.size then [] else (I5 60 t).1
def J4 (t:ByteArray):Int:=if 4096 < t.size then 0 else (t.size:Int) - ((I5 60 t).2.size:Int)
def Lb (p:Ab) (s:Aa) (x:Cn):Aa:=if E2 p s x=0 then doS p s x else s
def Ju (p:Ab) (l:List Cn):Aa:=l.foldl (Lb p) (Cx p)
def Hn (p:Ab) (t:ByteArray):Int:=if Bf p≠0 then Bf p else Dd t
def Df (x:Cn):Bool:=decide (0≤x.kind∧x.kind≤255) && decide (0≤x.a∧x.a≤255) && decide (0≤x.b∧x.b≤255) && decide (x.key.size≤255) && decide (x.body.size≤255)
def Aws (x:Cn):ByteArray:=⟨#[UInt8.ofNat x.kind.toNat,UInt8.ofNat x.a.toNat,UInt8.ofNat x.b.toNat,UInt8.ofNat x.key.size]⟩++x.key++⟨#[UInt8.ofNat x.body.size]⟩++x.body
def F0 (x:Cn):Int:=if Df x=true then 0 else 3
def Gc (x:Cn):ByteArray:=if Df x=true then Aws x else ByteArray.empty
/-! The same over lists. -/
def bs (l:List UInt8):ByteArray:=⟨l.toArray⟩
theorem Px (s:ByteArray):bs s.data.toList=s:=rfl
theorem Me (l:List UInt8):(bs l).size=l.length:=rfl
theorem J6 (l:List UInt8) (a b:Nat):(bs l).extract a b=bs ((l.drop a).take (b - a)):=by
 have h:((bs l).extract a b).data.toList=(l.drop a).take (b - a):=by
  rw[ByteArray.data_extract,Array.toList_extract]
  rfl
 rw[←h,Px]
theorem Sj (l r:List UInt8):bs l++bs r=bs (l++r):=by
 have h:(bs l++bs r).data.toList=l++r:=by
  rw[ByteArray.data_append,Array.toList_append]
  rfl
 rw[←h,Px]
def nmL:List UInt8→Option (Nat×List UInt8)
 | []=>none
 |b::r=>some (b.toNat,r)
def tkL (n:Nat) (l:List UInt8):Option (List UInt8×List UInt8):=if n≤l.length then some (l.take n,l.drop n) else none
theorem Axe (l:List UInt8):nmS (bs l)=(nmL l).map fun x=>(x.1,bs x.2):=by
 cases l with
 |nil=>rfl
 |cons b r=>
  unfold nmS nmL
  have e:(bs (b::r)).extract 1 (bs (b::r)).size=bs r:=by
   rw[J6,List.take_of_length_le (by rw[List.length_drop,Me];exact zn _)]
   rfl
  rw[dif_pos (by rw[Me];exact Nat.succ_pos _),e]
  rfl
theorem Axp (n:Nat) (l:List UInt8):tkS n (bs l)=(tkL n l).map fun x=>(bs x.1,bs x.2):=by
 unfold tkS tkL
 rw[Me]
 by_cases h:n≤l.length
 ·rw[if_pos h,if_pos h,J6,J6,List.take_of_length_le (l:=l.drop n) (by rw[List.length_drop];exact zn _)]
  rfl
 ·rw[if_neg h,if_neg h];rfl
def Ri (l:List UInt8):Option (Cn×List UInt8):=
 (nmL l).bind fun k=>(nmL k.2).bind fun a=>(nmL a.2).bind fun b=>(nmL b.2).bind fun n=>(tkL n.1 n.2).bind fun y=>(nmL y.2).bind fun m=>(tkL m.1 m.2).bind fun z=>some (⟨(k.1:Nat),(a.1:Nat),(b.1:Nat),bs y.1,bs z.1⟩,z.2)
theorem Aqq {α β γ:Type} (o:Option α) (f:α→β) (g:β→Option γ):(o.map f).bind g=o.bind fun x=>g (f x):=by cases o<;>rfl
theorem Ar7 {α β γ:Type} (o:Option α) (f:α→Option β) (g:β→γ):(o.bind f).map g=o.bind fun x=>(f x).map g:=by cases o<;>rfl
theorem Uu (l:List UInt8):Hp (bs l)=(Ri l).map fun x=>(x.1,bs x.2):=by
 unfold Hp Ri
 simp only[Axe,Axp,Aqq,Ar7,Option.map_some]
theorem Ru {l r:List UInt8} {n:Nat} (h:nmL l=some (n,r)):∃b:UInt8,l=b::r∧n=b.toNat:=by
 cases l with
 |nil=>cases h
 |cons b t=>simp only[nmL,Option.some.injEq,Prod.mk.injEq] at h;exact⟨b,by rw[h.2],h.1.symm⟩
theorem Aij {l x r:List UInt8} {n:Nat} (h:tkL n l=some (x,r)):l=x++r∧x.length=n:=by
 unfold tkL at h
 split at h
 ·rename_i hn
  simp only[Option.some.injEq,Prod.mk.injEq] at h
  obtain⟨rfl,rfl⟩:=h
  exact⟨(List.take_append_drop _ _).symm,List.length_take_of_le hn⟩
 ·cases h
theorem Ase (b:UInt8) (r:List UInt8):nmL (b::r)=some (b.toNat,r):=rfl
theorem Am6 {x r:List UInt8} {n:Nat} (h:x.length=n):tkL n (x++r)=some (x,r):=by
 unfold tkL
 rw[if_pos (by rw[List.length_append];omega),List.take_left' h,List.drop_left' h]
theorem O4 {l r:List UInt8} {x:Cn} (h:Ri l=some (x,r)):∃(k a b n m:UInt8) (y z:List UInt8),y.length=n.toNat∧z.length=m.toNat∧l=k::a::b::n::(y++m::(z++r))∧x=⟨k.toNat,a.toNat,b.toNat,bs y,bs z⟩:=by
 unfold Ri at h
 simp only[Option.bind_eq_some_iff] at h
 obtain⟨⟨k,r1⟩,h1,⟨a,r2⟩,h2,⟨b,r3⟩,h3,⟨n,r4⟩,h4,⟨y,r5⟩,h5,⟨m,r6⟩,h6,⟨z,r7⟩,h7,h8⟩:=h
 obtain⟨k,rfl,rfl⟩:=Ru h1
 obtain⟨a,rfl,rfl⟩:=Ru h2
 obtain⟨b,rfl,rfl⟩:=Ru h3
 obtain⟨n,rfl,rfl⟩:=Ru h4
 obtain⟨rfl,e1⟩:=Aij h5
 obtain⟨m,rfl,rfl⟩:=Ru h6
 obtain⟨rfl,e2⟩:=Aij h7
 simp only[Option.some.injEq,Prod.mk.injEq] at h8
 obtain⟨rfl,rfl⟩:=h8
 exact⟨k,a,b,n,m,y,z,e1,e2,rfl,rfl⟩
theorem Ad3 {k a b n m:UInt8} {y z r:List UInt8} (hy:y.length=n.toNat) (hz:z.length=m.toNat):Ri (k::a::b::n::(y++m::(z++r)))=some (⟨k.toNat,a.toNat,b.toNat,bs y,bs z⟩,r):=by
 unfold Ri
 simp only[Ase,Am6 hy,Am6 hz,Option.bind_some]
theorem Abr {l r:List UInt8} {x:Cn} (h:Ri l=some (x,r)) (e:List UInt8):Ri (l++e)=some (x,r++e):=by
 obtain⟨k,a,b,n,m,y,z,hy,hz,rfl,rfl⟩:=O4 h
 have:=Ad3 (k:=k) (a:=a) (b:=b) (r:=r++e) hy hz
 simpa using this
def Jg (x:Cn):List UInt8:=UInt8.ofNat x.kind.toNat::UInt8.ofNat x.a.toNat::UInt8.ofNat x.b.toNat::UInt8.ofNat x.key.size::(x.key.data.toList++UInt8.ofNat x.body.size::x.body.data.toList)
theorem Ad2 (x:Cn):Aws x=bs (Jg x):=by
 obtain⟨k,a,b,y,z⟩:=x
 have h:Aws ⟨k,a,b,y,z⟩=bs [UInt8.ofNat k.toNat,UInt8.ofNat a.toNat,UInt8.ofNat b.toNat,UInt8.ofNat y.size]++bs y.data.toList++bs [UInt8.ofNat z.size]++bs z.data.toList:=rfl
 rw[h,Sj,Sj,Sj]
 unfold Jg
 simp
theorem byte_back {n:Nat} (h:n≤255):(UInt8.ofNat n).toNat=n:=by rw[UInt8.toNat_ofNat'];omega
theorem Abs (x:Cn):(Jg x).length=5+x.key.size+x.body.size:=by
 unfold Jg
 simp only[List.length_cons,List.length_append,Array.length_toList]
 show x.key.size+(x.body.size+1)+1+1+1+1=_
 omega
theorem T7 {x:Cn} (h:Df x=true) (r:List UInt8):Ri (Jg x++r)=some (x,r):=by
 unfold Df at h
 simp only[Bool.and_eq_true,decide_eq_true_eq] at h
 obtain⟨⟨⟨⟨h1,h2⟩,h3⟩,h4⟩,h5⟩:=h
 have:=Ad3 (k:=UInt8.ofNat x.kind.toNat) (a:=UInt8.ofNat x.a.toNat) (b:=UInt8.ofNat x.b.toNat) (n:=UInt8.ofNat x.key.size) (m:=UInt8.ofNat x.body.size) (y:=x.key.data.toList) (z:=x.body.data.toList) (r:=r)
  (by rw[byte_back h4];rfl) (by rw[byte_back h5];rfl)
 rw[byte_back (by omega),byte_back (by omega),byte_back (by omega),Px,Px,Int.toNat_of_nonneg h1.1,Int.toNat_of_nonneg h2.1,Int.toNat_of_nonneg h3.1] at this
 unfold Jg
 simpa using this
theorem Anf {l r:List UInt8} {x:Cn} (h:Ri l=some (x,r)):r.length+5≤l.length:=by
 obtain⟨k,a,b,n,m,y,z,hy,hz,rfl,rfl⟩:=O4 h
 simp only[List.length_cons,List.length_append]
 omega
def Jr:Nat→List UInt8→List Cn×List UInt8
 |0,l=>([],l)
 |n+1,l=>match Ri l with
  |none=>([],l)
  |some (x,r)=>(x::(Jr n r).1,(Jr n r).2)
theorem Am1:∀(n:Nat) (l:List UInt8),I5 n (bs l)=((Jr n l).1,bs (Jr n l).2)
 |0,l=>rfl
 |n+1,l=>by
  unfold I5 Jr
  rw[Uu]
  cases h:Ri l with
  |none=>rfl
  |some y=>
   obtain⟨x,r⟩:=y
   simp only[Option.map_some]
   rw[Am1 n r]
theorem Adf:∀(n:Nat) (t:List UInt8) (w:List UInt8),(Jr n t).2=[]→(Jr n t).1.length < n→(Jr n (t++w)).1=(Jr n t).1++(Jr (n - (Jr n t).1.length) w).1
 |0,t,w,_,h=>by simp at h
 |n+1,t,w,h,hl=>by
  cases hc:Ri t with
  |none=>
   have e:Jr (n+1) t=([],t):=by unfold Jr;rw[hc]
   rw[e] at h⊢
   simp only at h
   subst h
   rfl
  |some y=>
   obtain⟨x,r⟩:=y
   have e:Jr (n+1) t=(x::(Jr n r).1,(Jr n r).2):=by rw[Jr,hc]
   have e2:Jr (n+1) (t++w)=(x::(Jr n (r++w)).1,(Jr n (r++w)).2):=by rw[Jr,Abr hc]
   rw[e] at h hl⊢
   rw[e2]
   simp only[List.length_cons] at hl⊢
   rw[Adf n r w h (by omega),List.cons_append,Nat.succ_sub_succ]
theorem As5 {x:Cn} (h:Df x=true) (n:Nat):(Jr (n+1) (Jg x)).1=[x]:=by
 have e:=T7 h []
 rw[List.append_nil] at e
 unfold Jr
 rw[e]
 cases n<;>rfl
theorem Adc (p:Ab) (l:List Cn) (x:Cn):Ju p (l++[x])=Lb p (Ju p l) x:=by
 unfold Ju
 rw[List.foldl_append]
 rfl
theorem Ade (p:Ab) (l:List Cn) {i:Nat} (h:i < l.length):Ju p (l.take (i+1))=Lb p (Ju p (l.take i)) l[i]:=by
 rw[List.take_succ_eq_append_getElem h,Adc]
theorem Aua (s:ByteArray):Hp s=(Ri s.data.toList).map fun x=>(x.1,bs x.2):=by
 rw[←Uu,Px]
theorem Na {s r:ByteArray} {x:Cn} (h:Hp s=some (x,r)):Df x=true∧r.size+5≤s.size:=by
 rw[Aua,Option.map_eq_some_iff] at h
 obtain⟨⟨y,t⟩,h1,h2⟩:=h
 simp only[Prod.mk.injEq] at h2
 obtain⟨rfl,rfl⟩:=h2
 refine⟨?_,Anf h1⟩
 obtain⟨k,a,b,n,m,y,z,hy,hz,_,rfl⟩:=O4 h1
 have:=k.toNat_lt;have:=a.toNat_lt;have:=b.toNat_lt;have:=n.toNat_lt;have:=m.toNat_lt
 unfold Df
 simp only[Bool.and_eq_true,decide_eq_true_eq,Me]
 exact⟨⟨⟨⟨⟨by omega,by omega⟩,by omega,by omega⟩,by omega,by omega⟩,decide_eq_true (by omega:y.length≤255)⟩,decide_eq_true (by omega:z.length≤255)⟩
/-! The reference's reading. -/
theorem Aqt (l:List UInt8) (i:Nat) (h:i < (bs l).size):(bs l)[i]=l[i]'h:=rfl
theorem Aql {s:ByteArray} (h:s.size < 5):Hp s=none:=by
 cases hc:Hp s with
 |none=>rfl
 |some y=>
  obtain⟨x,r⟩:=y
  have:=(Na hc).2
  omega
theorem Ad5 {s:ByteArray} (h5:5≤s.size):∃(k a b n:UInt8) (t:List UInt8),s=bs (k::a::b::n::t)∧s[0]=k∧s[1]=a∧s[2]=b∧s[3]=n∧s.size=t.length+4:=by
 have hl:5≤s.data.toList.length:=h5
 obtain⟨k,l1,e1⟩:=List.exists_cons_of_ne_nil (l:=s.data.toList) (fun e=>by rw[e] at hl;simp at hl)
 obtain⟨a,l2,e2⟩:=List.exists_cons_of_ne_nil (l:=l1) (fun e=>by rw[e1,e] at hl;simp at hl)
 obtain⟨b,l3,e3⟩:=List.exists_cons_of_ne_nil (l:=l2) (fun e=>by rw[e1,e2,e] at hl;simp at hl)
 obtain⟨n,l4,e4⟩:=List.exists_cons_of_ne_nil (l:=l3) (fun e=>by rw[e1,e2,e3,e] at hl;simp at hl)
 have e:s=bs (k::a::b::n::l4):=by rw[←e4,←e3,←e2,←e1,Px]
 subst e
 exact⟨k,a,b,n,l4,rfl,rfl,rfl,rfl,rfl,by rw[Me];simp⟩
theorem Aqk {s:ByteArray} (h5:5≤s.size) (hk:s.size≤4+s[3].toNat):Hp s=none:=by
 cases hc:Hp s with
 |none=>rfl
 |some y=>
  exfalso
  obtain⟨k,a,b,n,t,rfl,_,_,_,e3,hs⟩:=Ad5 h5
  obtain⟨x,r⟩:=y
  rw[Uu,Option.map_eq_some_iff] at hc
  obtain⟨⟨x',r'⟩,h1,_⟩:=hc
  obtain⟨k',a',b',n',m,y,z,hy,hz,he,_⟩:=O4 h1
  simp only[List.cons.injEq] at he
  obtain⟨_,_,_,rfl,rfl⟩:=he
  rw[e3] at hk
  rw[hs] at hk
  simp only[List.length_append,List.length_cons] at hk
  omega
theorem Aqj {s:ByteArray} (h5:5≤s.size) {q:Nat} (hq:4+s[3].toNat=q) (hk:q < s.size) (he:s.size < q+1+s[q].toNat):Hp s=none:=by
 cases hc:Hp s with
 |none=>rfl
 |some y=>
  exfalso
  obtain⟨k,a,b,n,t,rfl,_,_,_,e3,hs⟩:=Ad5 h5
  obtain⟨x,r⟩:=y
  rw[Uu,Option.map_eq_some_iff] at hc
  obtain⟨⟨x',r'⟩,h1,_⟩:=hc
  obtain⟨k',a',b',n',m,y,z,hy,hz,hl,_⟩:=O4 h1
  simp only[List.cons.injEq] at hl
  obtain⟨_,_,_,rfl,rfl⟩:=hl
  rw[e3] at hq
  have hm:(bs (k::a::b::n::(y++m::(z++r'))))[q]=m:=by
   have h2:(k::a::b::n::(y++m::(z++r')))[q]? =some m:=by
    rw[←hq,←hy,show 4+y.length=y.length+1+1+1+1 by omega]
    simp only[zK]
    rw[List.getElem?_append_right (zn _),Nat.sub_self]
    rfl
   rw[Aqt]
   exact(List.getElem?_eq_some_iff.1 h2).2
  rw[hm,hs] at he
  simp only[List.length_append,List.length_cons] at he
  omega
theorem Avw {s:ByteArray} (h5:5≤s.size) {q e:Nat} (hq:4+s[3].toNat=q) (hk:q < s.size) (he:q+1+s[q].toNat=e) (hes:e≤s.size):
  Hp s=some (⟨s[0].toNat,s[1].toNat,s[2].toNat,s.extract 4 q,s.extract (q+1) e⟩,s.extract e s.size):=by
 obtain⟨k,a,b,n,t,rfl,e0,e1,e2,e3,hs⟩:=Ad5 h5
 rw[e3] at hq
 have hn:n.toNat < t.length:=by omega
 have ht:t=t.take n.toNat++t[n.toNat]::t.drop (n.toNat+1):=by rw[←List.drop_eq_getElem_cons hn,List.take_append_drop]
 have hm:(bs (k::a::b::n::t))[q]=t[n.toNat]:=by
  have h2:(k::a::b::n::t)[q]? =some t[n.toNat]:=by
   rw[←hq,show 4+n.toNat=n.toNat+1+1+1+1 by omega]
   simp only[zK]
   exact zG hn
  rw[Aqt]
  exact(List.getElem?_eq_some_iff.1 h2).2
 rw[hm] at he
 have hz:t[n.toNat].toNat≤(t.drop (n.toNat+1)).length:=by rw[List.length_drop];omega
 have hd:t.drop (n.toNat+1)=(t.drop (n.toNat+1)).take t[n.toNat].toNat++(t.drop (n.toNat+1)).drop t[n.toNat].toNat:=(List.take_append_drop _ _).symm
 have hL:=Ad3 (k:=k) (a:=a) (b:=b) (n:=n) (m:=t[n.toNat]) (y:=t.take n.toNat) (z:=(t.drop (n.toNat+1)).take t[n.toNat].toNat) (r:=(t.drop (n.toNat+1)).drop t[n.toNat].toNat) (List.length_take_of_le (by omega)) (List.length_take_of_le hz)
 rw[←hd,←ht] at hL
 rw[Uu,hL,Option.map_some,e0,e1,e2,J6,J6,J6]
 have x1:((k::a::b::n::t).drop 4).take (q - 4)=t.take n.toNat:=by rw[←hq];simp
 have x2:((k::a::b::n::t).drop (q+1)).take (e - (q+1))=(t.drop (n.toNat+1)).take t[n.toNat].toNat:=by
  rw[←hq,show 4+n.toNat+1=n.toNat+1+1+1+1+1 by omega]
  simp only[List.drop_succ_cons]
  rw[show e - (n.toNat+1+1+1+1+1)=t[n.toNat].toNat by omega]
 have x3:((k::a::b::n::t).drop e).take ((bs (k::a::b::n::t)).size - e)=(t.drop (n.toNat+1)).drop t[n.toNat].toNat:=by
  rw[List.take_of_length_le (by rw[List.length_drop,Me];exact zn _),List.drop_drop,show e=n.toNat+1+t[n.toNat].toNat+1+1+1+1 by omega]
  simp only[List.drop_succ_cons]
 rw[x1,x2,x3]
end Go.Proofs.YtaanpcjkflhomaaGreatDoor
