/- Lemmas. -/
import Derived.Test.YtpkneogjdfolaaaGreatDoorBunO
import Derived.Test.YtpkneogjdfolaaaGreatDoorBunI
import Derived.Test.YtpkneogjdfolaaaGreatDoorBunW
set_option maxHeartbeats 20000000
set_option maxRecDepth 100000
set_option linter.unusedSimpArgs false
set_option linter.unusedVariables false
namespace Go.Proofs.YtpkneogjdfolaaaGreatDoor
def Bz(p:Ab)(q:Int):F7:=(p.ag[q.toNat]?).getD ⟨⟨#[]⟩,0,-1⟩
def Fa(p:Ab)(q:Int)(x:Ao):List Aj:=
 if (Bz p q).dead < 0∨2≤x.au then [] else (ofL p (Bz p q).dead x.key).map fun k=>⟨k,x.key,x.body,x.au+1⟩
def Ww(l:List Ao):Ao:=(l[0]?).getD ⟨0,⟨#[]⟩,⟨#[]⟩,false,0⟩
def Ei(p:Ab)(s:Aa)(q:Int)(x:Ao):Aa×List Aj:=
 if ((Bt (Ak s q) x).length:Int)≤(Bz p q).bm then ({ s with ready:=s.ready.set q.toNat (Bt (Ak s q) x) },[])
 else ({ s with ready:=s.ready.set q.toNat ((Bt (Ak s q) x).drop 1),dropped:=s.dropped+1 },Fa p q (Ww (Bt (Ak s q) x)))
def Fe(s:Aa):Aa:= { s with ah:=s.ah+1,aw:=s.aw+1 }
def Co(s:Aa)(a:Aj):Ao:=⟨s.ah,a.key,a.body,false,a.au⟩
def Fv(p:Ab)(c:Aa×List Aj):Aa×List Aj:=
 match c.2 with
 | []=>c
 |a::l=>((Ei p (Fe c.1) a.queue (Co c.1 a)).1,l++(Ei p (Fe c.1) a.queue (Co c.1 a)).2)
def Aju(p:Ab):Nat→Aa×List Aj→Aa×List Aj
 |0,c=>c
 |n+1,c=>Fv p (Aju p n c)
def Dv(p:Ab)(s:Aa)(l:List Aj):Aa:=(Aju p 700 (s,l)).1
theorem Aco{p:Ab}{c:Aa×List Aj}{n:Nat}{s:Aa}(h:Aju p n c=(s,[])):∀m,Aju p (n+m) c=(s,[])
 |0=>h
 |m+1=>by
  show Fv p (Aju p (n+m) c)=_
  rw[Aco h m];rfl
theorem Jy{p:Ab}{s s':Aa}{l:List Aj}{n:Nat}(h:Aju p n (s,l)=(s',[]))(hn:n≤700):Dv p s l=s':=by
 have:=Aco h (700 - n);rw[show n+(700 - n)=700 by omega] at this;unfold Dv;rw[this]
theorem count_in'{n:Int}(h:countB n=true):0≤n∧n≤1048576:=by
 unfold countB at h;simpa [zc,zd] using h
def wI(x:Ao):Nat:=if x.au≤0 then 20 else if x.au=1 then 4 else 0
def wA(a:Aj):Nat:=(if a.au≤0 then 20 else if a.au=1 then 4 else 0)+1
def wL(l:List Ao):Nat:=(l.map wI).sum
def wS(s:Aa):Nat:=(s.ready.map wL).sum
def wC(c:Aa×List Aj):Nat:=wS c.1+(c.2.map wA).sum
structure Ahm (p:Ab) (a:Aj):Prop where
 queue:0≤a.queue∧a.queue < (p.ag.length:Int)
 key:Be isWord a.key=0
 body:a.body.size≤12
 au:0≤a.au∧a.au≤2
theorem Oa:∀(l:List Ao)(x:Ao),(Bt l x).Perm (x::l)
 | [],x=> .refl _
 |y::r,x=>by
  unfold Bt
  split
  ·exact .refl _
  ·exact((Oa r x).cons y).trans (.swap x y r)
theorem J7{l:List Ao}{x y:Ao} :y∈Bt l x↔y=x∨y∈l:=by
 rw[(Oa l x).mem_iff,List.mem_cons]
theorem Acj(l:List Ao)(x:Ao):(Bt l x).length=l.length+1:=(Oa l x).length_eq
theorem Ng:∀ {l:List Ao} {x:Ao},(l.Pairwise fun x y=>x.seq < y.seq)→(∀y∈l,y.seq≠x.seq)→(Bt l x).Pairwise fun x y=>x.seq < y.seq
 | [],x,_,_=>List.pairwise_singleton _ _
 |y::r,x,h,hn=>by
  obtain⟨h1,h2⟩:=List.pairwise_cons.1 h;unfold Bt
  split
  ·rename_i hlt
   exact List.pairwise_cons.2 ⟨fun z hz=>by
    rcases List.mem_cons.1 hz with rfl|hz
    ·exact hlt
    ·have:=h1 z hz;omega,h⟩
  ·rename_i hlt
   refine List.pairwise_cons.2 ⟨fun z hz=> ?_,Ng h2 fun z hz=>hn z (List.mem_cons_of_mem _ hz)⟩;rcases J7.1 hz with rfl|hz
   ·have:=hn y List.mem_cons_self;omega
   ·exact h1 z hz
theorem Vn:∀ {l:List Ao} {x:Ao},(∀y∈l,y.seq < x.seq)→Bt l x=l++[x]
 | [],_,_=>rfl
 |y::r,x,h=>by
  have:=h y List.mem_cons_self;unfold Bt;rw[zq (by omega),Vn fun z hz=>h z (List.mem_cons_of_mem _ hz)];rfl
theorem Axn{l r:List Ao}(h:l.Perm r):wL l=wL r:=(h.map wI).sum_nat
theorem Xr{α:Type}(f:α→Nat):∀(l:List α)(i:Nat)(x:α)(h:i < l.length),((l.set i x).map f).sum+f l[i]=(l.map f).sum+f x
 |y::l,0,x,_=>by simp;omega
 |y::l,i+1,x,h=>by
  have:=Xr f l i x (by simpa using h);simp only[zC,List.map_cons,List.sum_cons,zF];omega
theorem Ev{s:Aa}{q:Int}(h:q.toNat < s.ready.length):Ak s q=s.ready[q.toNat]:=by
 unfold Ak;rw[zG h];rfl
theorem N1{s:Aa}{q:Int}(h:q.toNat < s.ready.length):Ak s q∈s.ready:=by
 rw[Ev h];exact zg h
theorem Apr{l:List Ao}(h:0 < l.length):Ww l∈l:=by
 unfold Ww;rw[zG h];exact zg h
theorem Alk{l:List Ao}(h:0 < l.length):l=Ww l::l.drop 1:=by
 cases l with
 |nil=>simp at h
 |cons x r=>rfl
structure Aro (p:Ab) (s:Aa):Prop extends Formed p s,Ranged p s where
 bz:Bc p=0
 many:s.ae.length≤4
 sum:s.aw=((E8 s:Nat):Int)+1+((s.outs.length:Nat):Int)+s.ar+s.dropped
 same:s.aw=s.ah
theorem Aa2{p:Ab}(hr:B8 p){k:Nat}(hk:k < p.aj.length){key:zN} :(ofL p k key).length≤4:=by
 have h1:=Lq p.ag.length ((T8 p k key).imp fun h=>by omega) fun x hx=>Aam hr hk hx;have:=hr.ag;omega
theorem Tw{p:Ab}(hr:B8 p){q:Int}(hq:0≤q∧q < (p.ag.length:Int)):1≤(Bz p q).bm∧(Bz p q).bm≤6∧ -1≤(Bz p q).dead∧(Bz p q).dead < (p.aj.length:Int):=by
 have h1:q.toNat < p.ag.length:=by omega
 have h2:Bz p q=p.ag[q.toNat]:=by unfold Bz;rw[zG h1];rfl
 have:=hr.queue _ (zg h1);rw[h2];omega
theorem Aii{p:Ab}(hr:B8 p){q:Int}(hq:0≤q∧q < (p.ag.length:Int)){x:Ao}(hx:Bl x=true):(∀a∈Fa p q x,Ahm p a)∧((Fa p q x).map wA).sum≤wI x:=by
 unfold Bl at hx;simp only[zc,zd] at hx;obtain⟨⟨⟨⟨⟨h1,h2⟩,h3⟩,h4⟩,h5⟩,h6⟩:=hx;have hd:=Tw hr hq;unfold Fa
 split
 ·exact⟨fun a ha=>(by cases ha),Nat.zero_le _⟩
 ·rename_i hc
  obtain⟨k,hk⟩:=Int.eq_ofNat_of_zero_le (show 0≤(Bz p q).dead by omega);have hkl:k < p.aj.length:=by omega
  rw[hk];refine⟨fun a ha=> ?_,?_⟩
  ·obtain⟨z,hz,rfl⟩:=List.mem_map.1 ha
   exact⟨Aam hr hkl hz,h1,h4,by simp only;omega⟩
  ·have hl:=Aa2 hr hkl (key:=x.key)
   have hw:∀(l:List Int),((l.map fun k=>(⟨k,x.key,x.body,x.au+1⟩:Aj)).map wA).sum=l.length * (if x.au=0 then 5 else 1):=by
    intro l
    induction l with
    |nil=>simp
    |cons z l ih=>
     rw[List.map_cons,List.map_cons,List.sum_cons,ih,List.length_cons,Nat.succ_mul];have:wA ⟨z,x.key,x.body,x.au+1⟩=if x.au=0 then 5 else 1:=by
      unfold wA;simp only;by_cases e:x.au=0
      ·rw[zp e,zq (by omega),zp (by omega)]
      ·rw[zq e,zq (by omega),zq (by omega)]
     omega
   rw[hw];unfold wI;by_cases e:x.au=0
   ·rw[zp e,zp (by omega)];omega
   ·rw[zq e,zq (by omega),zp (by omega)];omega
theorem Afh{l:List (List Ao)}{i:Nat}{r:List Ao}(h:i < l.length):(Dj (l.set i r)).Perm ((r.map (·.seq))++Dj (l.eraseIdx i)):=by
 induction l generalizing i with
 |nil=>simp at h
 |cons y l ih=>
  cases i with
  |zero=>simp[Dj]
  |succ i=>
   have:=ih (i:=i) (by simpa using h);simp only[Dj,zC,List.flatMap_cons,List.eraseIdx_cons_succ] at this⊢;exact(this.append_left _).trans (by
    rw[←List.append_assoc,←List.append_assoc];exact List.perm_append_comm.append_right _)
theorem Aqf{l:List (List Ao)}{i:Nat}(h:i < l.length):(Dj l).Perm ((l[i].map (·.seq))++Dj (l.eraseIdx i)):=by
 have:=Afh (r:=l[i]) h;rwa [List.set_getElem_self] at this
theorem Aeq{p:Ab}{s:Aa}(h:Aro p s){q:Int}(hq:0≤q∧q < (p.ag.length:Int)){x:Ao}(hx:Bl x=true)(hs:x.seq < s.ah)(hn:x.seq∉Dh s):
  Bw p (Ei p s q x).1∧(∀a∈(Ei p s q x).2,Ahm p a)∧wC (Ei p s q x)≤wS s+wI x:=by
 have hr:=Cp h.bz;have hql:q.toNat < s.ready.length:=by rw[h.len];omega
 have hline:=h.line _ (N1 hql);have hfine:=E7.1 hline;have hne:∀y∈Ak s q,y.seq≠x.seq:=fun y hy e=>hn (by
  unfold Dh Dj;rw[List.mem_append]
  left
  rw[List.mem_flatMap];exact⟨_,N1 hql,List.mem_map.2 ⟨y,hy,e⟩⟩)
 have hpf:Ct (Bt (Ak s q) x)=true:=E7.2 ⟨fun y hy=>by
  rcases J7.1 hy with rfl|hy
  ·exact hx
  ·exact hfine.1 y hy,Ng hfine.2 hne⟩
 have hlen:=Acj (Ak s q) x;have hlim:((Ak s q).length:Int)≤(Bz p q).bm:=by
  have h1:q.toNat < p.ag.length:=by omega
  have h2:Bz p q=p.ag[q.toNat]:=by unfold Bz;rw[zG h1];rfl
  rw[h2];refine h.bm q.toNat _ _ ?_ (zG h1);rw[Ev hql,zG hql]
 have hseq:(Dh s).Nodup:=h.nodup;have hperm:((Dh { s with ready:=s.ready.set q.toNat (Bt (Ak s q) x) })).Perm (x.seq::Dh s):=by
  unfold Dh;simp only;have h1:=Afh (r:=Bt (Ak s q) x) hql;have h2:=Aqf hql;rw[←Ev hql] at h2;have h3:=(Oa (Ak s q) x).map (·.seq);rw[List.map_cons] at h3;have h4:(Dj (s.ready.set q.toNat (Bt (Ak s q) x))).Perm (x.seq::Dj s.ready):=
   (h1.trans (h3.append_right _)).trans (h2.symm.cons _)
  exact h4.append_right _
 have hw1:=Xr wL s.ready q.toNat (Bt (Ak s q) x) hql;have hl1:=Xr List.length s.ready q.toNat (Bt (Ak s q) x) hql;rw[←Ev hql] at hw1 hl1;have hwp:=Axn (Oa (Ak s q) x);have hwc:wL (x::Ak s q)=wI x+wL (Ak s q):=by unfold wL;rw[List.map_cons,List.sum_cons]
 have hsum:=h.sum;unfold E8 at hsum
 -- what both ways share
 have hready:∀(r:List Ao)(s':Aa),s'.ready=s.ready.set q.toNat r→s'.outs=s.outs→s'.ae=s.ae→s'.ah=s.ah→s'.af=s.af→s'.aw=s.aw→s'.ar=s.ar→countB s'.dropped=true→
   Ct r=true→(r.length:Int)≤(Bz p q).bm→(Dh s').Nodup→(∀n∈Dh s',n < s.ah)→s'.aw=((E8 s':Nat):Int)+((s'.outs.length:Nat):Int)+s'.ar+s'.dropped→Bw p s':=by
  intro r s' e1 e2 e3 e4 e5 e6 e7 e8 k1 k2 k3 k4 k5;refine { len:=by rw[e1,List.length_set];exact h.len,ah:=by rw[e4];exact h.ah,af:=by rw[e5];exact h.af,aw:=by rw[e6];exact h.aw,ar:=by rw[e7];exact h.ar,dropped:=e8,line:= ?_,bg:=by rw[e3];exact h.bg,out:= ?_,order:=by rw[e2];exact h.order,nodup:=k3,below:=by rw[e4];exact k4,bm:= ?_,held:= ?_,bz:=h.bz,many:=by rw[e3];exact h.many,sum:=k5,same:=by rw[e6,e4];exact h.same }
  ·intro l hl
   rw[e1] at hl;rcases List.mem_or_eq_of_mem_set hl with hl|rfl
   ·exact h.line l hl
   ·exact k1
  ·intro y hy
   rw[e2] at hy;have:=h.out y hy;unfold Mt at this⊢;rw[e3,e5];exact this
  ·intro i l qd hl hqd
   rw[e1,List.getElem?_set] at hl
   split at hl
   ·rename_i e
    subst e;have hl:r=l:=by simpa [hql] using hl
    subst hl;have:Bz p q=qd:=by unfold Bz;rw[hqd];rfl
    rw[←this];exact k2
   ·exact h.bm i l qd hl hqd
  ·intro k t ht
   rw[e3] at ht;have:=h.held k t ht;unfold Ck at this⊢;rw[e2];exact this
 unfold Ei;by_cases hc:((Bt (Ak s q) x).length:Int)≤(Bz p q).bm
 ·rw[zp hc]
  refine⟨?_,fun a ha=>(by cases ha),?_⟩
  ·refine hready (Bt (Ak s q) x) _ rfl rfl rfl rfl rfl rfl rfl h.dropped hpf hc (hperm.nodup_iff.2 (List.nodup_cons.2 ⟨hn,hseq⟩)) (fun n hm=> ?_) ?_
   ·rcases List.mem_cons.1 (hperm.mem_iff.1 hm) with rfl|hm
    ·exact hs
    ·exact h.below n hm
   ·unfold E8
    simp only;omega
  ·unfold wC wS
   simp only[List.map_nil,List.sum_nil];omega
 ·rw[zq hc]
  have h0:0 < (Bt (Ak s q) x).length:=by omega
  have hcons:=Alk h0;have hhead:=hpf;rw[E7] at hhead;have hd:=Aii hr hq (hhead.1 _ (Apr h0));have hsub:((Bt (Ak s q) x).drop 1).Sublist (Bt (Ak s q) x):=List.drop_sublist 1 _;have hw2:=Xr wL s.ready q.toNat ((Bt (Ak s q) x).drop 1) hql;have hl2:=Xr List.length s.ready q.toNat ((Bt (Ak s q) x).drop 1) hql;rw[←Ev hql] at hw2 hl2;have hwd:wL (Bt (Ak s q) x)=wI (Ww (Bt (Ak s q) x))+wL ((Bt (Ak s q) x).drop 1):=by
   conv=>lhs;rw[hcons]
   unfold wL;rw[List.map_cons,List.sum_cons]
  have hdl:((Bt (Ak s q) x).drop 1).length=(Ak s q).length:=by rw[List.length_drop];omega
  have hss:(Dh { s with ready:=s.ready.set q.toNat ((Bt (Ak s q) x).drop 1),dropped:=s.dropped+1 }).Sublist (Dh { s with ready:=s.ready.set q.toNat (Bt (Ak s q) x) }):=by
   unfold Dh;simp only;refine List.Sublist.append_right ?_ _;have key:∀(l:List (List Ao))(i:Nat)(a b:List Ao),a.Sublist b→(Dj (l.set i a)).Sublist (Dj (l.set i b)):=by
    intro l
    induction l with
    |nil=>intro i a b _;exact List.Sublist.refl _
    |cons y l ih=>
     intro i a b hab
     cases i with
     |zero=>exact(hab.map _).append_right _
     |succ i=>exact(ih i a b hab).append_left _
   exact key _ _ _ _ hsub
  refine⟨?_,hd.1,?_⟩
  ·refine hready ((Bt (Ak s q) x).drop 1) _ rfl rfl rfl rfl rfl rfl rfl ?_ ?_ (by rw[hdl];exact hlim) ((hperm.nodup_iff.2 (List.nodup_cons.2 ⟨hn,hseq⟩)).sublist hss) (fun n hm=> ?_) ?_
   ·have h1:=count_in' h.dropped
    have h2:=count_in' h.aw;have h3:=count_in' h.ar;unfold countB;simp only[zc,zd];omega
   ·exact E7.2 ⟨fun y hy=>hhead.1 y (hsub.subset hy),hhead.2.sublist hsub⟩
   ·rcases List.mem_cons.1 (hperm.mem_iff.1 (hss.subset hm)) with rfl|hm
    ·exact hs
    ·exact h.below n hm
   ·unfold E8
    simp only;omega
  ·unfold wC wS
   simp only;have:=hd.2;omega
theorem Ap4{p:Ab}{s:Aa}(h:Bw p s)(hn:s.ah < 1048576):Aro p (Fe s):=by
 have h1:=count_in' h.aw;have h2:=h.same;have h3:=h.sum;refine { len:=h.len,ah:= ?_,af:=h.af,aw:= ?_,ar:=h.ar,dropped:=h.dropped,line:=h.line,bg:=h.bg,out:=h.out,order:=h.order,nodup:=h.nodup,below:= ?_,bm:=h.bm,held:=h.held,bz:=h.bz,many:=h.many,sum:= ?_,same:= ?_ }
 ·unfold countB Fe
  simp only[zc,zd];omega
 ·unfold countB Fe
  simp only[zc,zd];omega
 ·intro n hm
  have:=h.below n hm
  show n < s.ah+1
  omega
 ·show s.aw+1=((E8 s:Nat):Int)+1+((s.outs.length:Nat):Int)+s.ar+s.dropped
  omega
 ·show s.aw+1=s.ah+1
  omega
theorem Anh{p:Ab}{s:Aa}(h:Bw p s)(hn:s.ah < 1048576){a:Aj}(ha:Ahm p a):Bl (Co s a)=true:=by
 have h1:=count_in' h.ah;unfold Bl Co;simp only[zc,zd];exact⟨⟨⟨⟨⟨ha.key,by omega⟩,by omega⟩,ha.body⟩,ha.au.1⟩,ha.au.2⟩
structure O4 (p:Ab) (c:Aa×List Aj):Prop where
 right:Bw p c.1
 wait:∀a∈c.2,Ahm p a
theorem Acy{p:Ab}{s:Aa}{a:Aj}{l:List Aj}(h:O4 p (s,a::l))(hn:s.ah < 1048576):O4 p (Fv p (s,a::l))∧wC (Fv p (s,a::l))+1≤wC (s,a::l):=by
 have ha:=h.wait a List.mem_cons_self;have hfr:(Co s a).seq∉Dh (Fe s):=fun hm=>by
  have:(Co s a).seq < s.ah:=h.right.below _ hm;have e:(Co s a).seq=s.ah:=rfl;omega
 obtain⟨h1,h2,h3⟩:=Aeq (Ap4 h.right hn) ha.queue (Anh h.right hn ha) (show s.ah < s.ah+1 by omega) hfr;refine⟨⟨h1,fun b hb=> ?_⟩,?_⟩
 ·rcases List.mem_append.1 hb with hb|hb
  ·exact h.wait b (List.mem_cons_of_mem _ hb)
  ·exact h2 b hb
 ·have e1:wS (Fe s)=wS s:=rfl
  have e2:wI (Co s a)+1=wA a:=rfl;unfold wC at h3⊢;simp only[Fv,List.map_append,List.sum_append,List.map_cons,List.sum_cons] at h3⊢;omega
theorem Aqk{p:Ab}{s:Aa}{a:Aj}{l:List Aj} :(Fv p (s,a::l)).1.ah=s.ah+1∧(Fv p (s,a::l)).1.aw=s.aw+1:=by
 simp only[Fv,Ei]
 split<;>exact⟨rfl,rfl⟩
structure Im (p:Ab) (s:Aa) (l:List Aj) (n:Nat) (c:Aa×List Aj):Prop where
 run:Aju p n (s,l)=c
 ok:O4 p c
 seq:c.1.ah=s.ah+n
 less:n+wC c≤wC (s,l)
theorem Im.start{p:Ab}{s:Aa}{l:List Aj}(h:O4 p (s,l)):Im p s l 0 (s,l):=⟨rfl,h,by simp,by omega⟩
theorem Im.next{p:Ab}{s s1:Aa}{l l1:List Aj}{a:Aj}{n:Nat}(h:Im p s l n (s1,a::l1))(hs:s.ah≤524288)(hw:wC (s,l)≤700):Im p s l (n+1) (Fv p (s1,a::l1)):=by
 have h1:=h.seq;have h2:=h.less;simp only at h1;obtain⟨h3,h4⟩:=Acy h.ok (by omega);refine⟨by rw[Aju,h.run],h3,by rw[Aqk.1];omega,by omega⟩
theorem Im.end_{p:Ab}{s s1:Aa}{l:List Aj}{n:Nat}(h:Im p s l n (s1,[]))(hw:wC (s,l)≤700):Dv p s l=s1∧(n:Int)=s1.ah - s.ah:=by
 have h1:=h.seq;have h2:=h.less;simp only at h1;exact⟨Jy h.run (by omega),by omega⟩
theorem U4{p:Ab}{s:Aa}{l:List Aj}(hs:s.ah≤524288)(hw:wC (s,l)≤700):∀(m n:Nat)(c:Aa×List Aj),wC c≤m→Im p s l n c→∃n s1,Im p s l n (s1,[])
 |m,n,(s1,[]),_,h=>⟨n,s1,h⟩
 |0,n,(s1,a::l1),hm,h=>by
  exfalso
  unfold wC wA at hm;simp only[List.map_cons,List.sum_cons] at hm;omega
 |m+1,n,(s1,a::l1),hm,h=>by
  have h1:=h.next hs hw;have h2:=(Acy h.ok (by have h8:=h.seq;have h9:=h.less;simp only at h8;omega)).2;exact U4 hs hw m (n+1) _ (by omega) h1
theorem Auy:∀(l:List Ao),wL l≤20 * l.length
 | []=>Nat.zero_le _
 |x::l=>by
  have h1:=Auy l;have h2:wI x≤20:=by unfold wI;split<;>(try split)<;>omega
  unfold wL at h1⊢;rw[List.map_cons,List.sum_cons,List.length_cons];omega
theorem Ayd{p:Ab}{s:Aa}(h:Bw p s):wS s≤480:=by
 have hr:=Cp h.bz;have hq:=hr.ag;have hlim:∀l∈s.ready,l.length≤6:=fun l hl=>by
  obtain⟨i,hi⟩:=List.getElem?_of_mem hl;have hil:=(List.getElem?_eq_some_iff.1 hi).1;rw[h.len] at hil;have h1:=h.bm i l _ hi (zG hil);have h2:=hr.queue _ (zg hil);omega
 have:∀(L:List (List Ao)),(∀l∈L,l.length≤6)→(L.map wL).sum≤120 * L.length:=by
  intro L
  induction L with
  |nil=>intro _;simp
  |cons l L ih=>
   intro hL;have h1:=ih fun x hx=>hL x (List.mem_cons_of_mem _ hx);have h2:=Auy l;have h3:=hL l List.mem_cons_self;rw[List.map_cons,List.sum_cons,List.length_cons];omega
 have h1:=this s.ready hlim;rw[h.len] at h1;unfold wS;omega
theorem Auw:∀(l:List Aj),(l.map wA).sum≤21 * l.length
 | []=>Nat.zero_le _
 |x::l=>by
  have h1:=Auw l;have h2:wA x≤21:=by unfold wA;split<;>(try split)<;>omega
  rw[List.map_cons,List.sum_cons,List.length_cons];omega
theorem Aj5{p:Ab}{s:Aa}(h:Bw p s){l:List Aj}(hl:l.length≤4):wC (s,l)≤700:=by
 have h1:=Ayd h;have h2:=Auw l;unfold wC;simp only;omega
def Lz(p:Ab)(a:Aj):Bool:=decide (0≤a.queue) && decide (a.queue < (p.ag.length:Int))
def En(a:Aj):Bool:=decide (Be isWord a.key=0) && decide (a.body.size≤12) && decide (0≤a.au) && decide (a.au≤2)
def Bh(p:Ab)(s:Aa)(l:List Aj):Int:=
 if Am p s≠0 then Am p s else if 4 < l.length then 2 else if l.all (Lz p)=false then 5 else if l.all En=false then 1 else if 524288 < s.ah then 2 else 0
def Cy(p:Ab)(s:Aa)(l:List Aj):Aa:=if Bh p s l=0 then Dv p s l else Bd
def E3(p:Ab)(s:Aa)(l:List Aj):Int:=if Bh p s l=0 then (Dv p s l).ah - s.ah else 0
theorem Oj{p:Ab}{s:Aa}{l:List Aj}(h:Bh p s l=0):O4 p (s,l)∧l.length≤4∧s.ah≤524288:=by
 unfold Bh at h
 split at h
 ·rename_i h1;exact absurd h h1
 ·rename_i h1
  split at h
  ·cases h
  ·split at h
   ·cases h
   ·rename_i h2 h3
    split at h
    ·cases h
    ·rename_i h4
     split at h
     ·cases h
     ·rename_i h5
      rw[Bool.not_eq_false,List.all_eq_true] at h3 h4;refine⟨⟨Cv.1 (Decidable.not_not.1 h1),fun a ha=> ?_⟩,by omega,by omega⟩;have k1:=h3 a ha;have k2:=h4 a ha;unfold Lz at k1;unfold En at k2;simp only[zc,zd] at k1 k2;exact⟨k1,k2.1.1.1,k2.1.1.2,k2.1.2,k2.2⟩
theorem Ak0{p:Ab}{s:Aa}{l:List Aj}(h:Bh p s l=0):∃n s1,Im p s l n (s1,[])∧Cy p s l=s1∧E3 p s l=(n:Int):=by
 obtain⟨h1,h2,h3⟩:=Oj h;have hw:=Aj5 h1.right h2;obtain⟨n,s1,h4⟩:=U4 h3 hw _ 0 _ (zn _) (.start h1);obtain⟨h5,h6⟩:=h4.end_ hw;refine⟨n,s1,h4,?_,?_⟩
 ·unfold Cy;rw[zp h,h5]
 ·unfold E3;rw[zp h,h5];omega
theorem Tq{p:Ab}{s:Aa}{l:List Aj}(h:Bh p s l=0):Bw p (Cy p s l):=by
 obtain⟨n,s1,h1,h2,_⟩:=Ak0 h;rw[h2];exact h1.ok.right
open Go Go.RowKit
structure BK (lo:Nat) (w W:zW):Prop where
 b:Below lo w W
 o:∀b cs,Bk w b 115 cs→Bk W b 115 cs
theorem BK.refl(lo:Nat)(w:zW):BK lo w w:=⟨zb _ _,fun _ _ h=>h⟩
theorem BK.trans{lo:Nat}{w w1 w2:zW}(h:BK lo w w1)(h':BK lo w1 w2):BK lo w w2:=⟨h.b.trans h'.b,fun b cs hb=>h'.o b cs (h.o b cs hb)⟩
theorem BK.of{ts:List TypeId}{lo:Nat}{w W:zW}(hb:Below lo w W)(hk:Ah ts w W)(h:115∉ts:=by decide):BK lo w W:=⟨hb,fun b cs hc=>hk b _ cs h hc⟩
theorem BK.since{lo:Nat}{w W:zW}(hb:Below w.heap.size w W)(hl:lo≤w.heap.size):BK lo w W:=⟨hb.mono hl,fun _ _ hc=>hc.below hb hc.lt⟩
theorem BK.size{lo:Nat}{w W:zW}(h:BK lo w W):w.heap.size≤W.heap.size:=h.b.size
def Ro(g:Nat)(p:Ab)(p1 p2 p3:zZ)(q1 q2 q3:Nat)(wv:Value):Array Value:= #[zt g,.slice p1 p.aj.length q1,.slice p2 p.ag.length q2,.slice p3 p.binds.length q3,wv]
structure Ec (w:zW) (lo g h:Nat) (p:Ab) (p1 p2 p3:zZ) (q1 q2 q3:Nat) (v1 v2 v3 wv:Value) (rows:List Bm) (s:Aa) (l:List Aj):Prop where
 bz:Au w 0 lo p1 p2 p3 p
 env:Og lo w
 size:lo≤w.heap.size
 hall:Bk w h 227 (Ro g p p1 p2 p3 q1 q2 q3 wv)
 box:Bk w g 40 (Ey s v1 v2 v3)
 held:Ca w lo v1 v2 v3 rows s
 wait:w.ownsRow lo 142 4 wv l.length (l.flatMap Bp)
 gl:lo≤g
 hl:lo≤h
theorem Ec.kept{ts:List TypeId}{w W:zW}{lo g h:Nat}{p:Ab}{p1 p2 p3:zZ}{q1 q2 q3:Nat}{v1 v2 v3 wv:Value}{rows:List Bm}{s:Aa}{l:List Aj}(H:Ec w lo g h p p1 p2 p3 q1 q2 q3 v1 v2 v3 wv rows s l)(hk:Ah ts w W)(hb:Below lo w W)
  (h1:132∉ts) (h2:113∉ts) (h3:115∉ts) (h4:147∉ts) (h5:142∉ts) (h6:40∉ts) (h7:227∉ts):Ec W lo g h p p1 p2 p3 q1 q2 q3 v1 v2 v3 wv rows s l:=
 ⟨H.bz.below hb (zn _),H.env.keep fun p hp=>hb.cell hp,zr H.size hb.size,hk _ _ _ h7 H.hall,hk _ _ _ h6 H.box,H.held.kept hk h1 h2 h3 h4,Dl H.wait hk h5,H.gl,H.hl⟩
theorem Ec.since{w W:zW}{lo g h:Nat}{p:Ab}{p1 p2 p3:zZ}{q1 q2 q3:Nat}{v1 v2 v3 wv:Value}{rows:List Bm}{s:Aa}{l:List Aj}(H:Ec w lo g h p p1 p2 p3 q1 q2 q3 v1 v2 v3 wv rows s l)(hb:Below w.heap.size w W):Ec W lo g h p p1 p2 p3 q1 q2 q3 v1 v2 v3 wv rows s l:=
 H.kept (Ah.oqb (ts:=[]) hb) (hb.mono H.size) (by simp) (by simp) (by simp) (by simp) (by simp) (by simp) (by simp)
theorem Ec.num{w:zW}{lo g h:Nat}{p:Ab}{p1 p2 p3:zZ}{q1 q2 q3:Nat}{v1 v2 v3 wv:Value}{rows:List Bm}{s:Aa}{l:List Aj}(H:Ec w lo g h p p1 p2 p3 q1 q2 q3 v1 v2 v3 wv rows s l)(i:Nat)(u:Value)(a b c d e:Int)
  (hu:(Ey s v1 v2 v3).setIfInBounds i u=Ey ⟨s.ready,s.outs,s.ae,a,b,c,d,e⟩ v1 v2 v3):Ec (w.setCell ⟨g,i,none⟩ u) lo g h p p1 p2 p3 q1 q2 q3 v1 v2 v3 wv rows ⟨s.ready,s.outs,s.ae,a,b,c,d,e⟩ l∧Ah [40] w (w.setCell ⟨g,i,none⟩ u)∧Below lo w (w.setCell ⟨g,i,none⟩ u):=by
 have hk:=Ah.set H.box (ts:=[40]) (by decide) i u;have hb:Below lo w (w.setCell ⟨g,i,none⟩ u):=(zb _ _).setCell (p:=⟨g,i,none⟩) H.gl u;refine⟨⟨H.bz.below hb (zn _),H.env.keep fun p hp=>hb.cell hp,zr H.size hb.size,hk _ _ _ (by decide) H.hall,?_,(H.held.kept hk).nums _ _ _ _ _,Dl H.wait hk (by decide),H.gl,H.hl⟩,hk,hb⟩;rw[←hu];exact H.box.ck i u
theorem Ec.waits{ts:List TypeId}{w W6:zW}{lo g h:Nat}{p:Ab}{p1 p2 p3:zZ}{q1 q2 q3:Nat}{v1 v2 v3 wv wv':Value}{rows:List Bm}{s:Aa}{l l':List Aj}(H:Ec w lo g h p p1 p2 p3 q1 q2 q3 v1 v2 v3 wv rows s l)(hk:Ah [142] w W6)(hb:Below lo w W6)
  (ho:W6.ownsRow lo 142 4 wv' l'.length (l'.flatMap Bp)):Ec (W6.setCell ⟨h,4,none⟩ wv') lo g h p p1 p2 p3 q1 q2 q3 v1 v2 v3 wv' rows s l'∧Ah [142,227] w (W6.setCell ⟨h,4,none⟩ wv')∧Below lo w (W6.setCell ⟨h,4,none⟩ wv'):=by
 have h6:=hk _ _ _ (by decide) H.hall;have hk6:=Ah.set h6 (ts:=[227]) (by decide) 4 wv';have hk2:Ah [142,227] w (W6.setCell ⟨h,4,none⟩ wv'):=(hk.more (by simp)).trans (hk6.more (by simp));have hb2:Below lo w (W6.setCell ⟨h,4,none⟩ wv'):=hb.setCell (p:=⟨h,4,none⟩) H.hl wv';exact⟨⟨H.bz.below hb2 (zn _),H.env.keep fun p hp=>hb2.cell hp,zr H.size hb2.size,h6.ck 4 wv',hk2 _ _ _ (by decide) H.box,H.held.kept hk2,Dl ho hk6 (by decide),H.gl,H.hl⟩,hk2,hb2⟩
theorem Ec.queue{w:zW}{lo g h:Nat}{p:Ab}{p1 p2 p3:zZ}{q1 q2 q3:Nat}{v1 v2 v3 wv:Value}{rows:List Bm}{s:Aa}{l:List Aj}(H:Ec w lo g h p p1 p2 p3 q1 q2 q3 v1 v2 v3 wv rows s l){k:Nat}(hk:k < p.ag.length):
  ∃b o,p2=some ⟨b,o,none⟩∧zM w b (o+k * 3) (.string (Bz p k).name)∧zM w b (o+k * 3+1) (.int .i64 (Bz p k).bm)∧zM w b (o+k * 3+2) (.int .i64 (Bz p k).dead):=by
 obtain⟨b,o,rfl,_,_,hx⟩:=Bf Hg (by decide) H.bz.ag hk;have e:Bz p (k:Int)=p.ag[k]:=by
  unfold Bz;rw[show((k:Int)).toNat=k by omega,zG hk];rfl
 rw[e];exact⟨b,o,rfl,hx 0 _ rfl,hx 1 _ rfl,hx 2 _ rfl⟩
def di7_T(Hb xb nq Cq i:Nat)(Aq:zZ)(y:Int)(t:Array Value):Array Value:=fj [[zt Hb],fr t 1 4,[zt xb,gd t 6,gd t 7,.int .i64 y],fr t 9 33,[.slice Aq nq Cq,.int .i64 (nq:Int),.int .i64 (i:Int)],fr t 45 22]
theorem Aid{Hb xb nq Cq i:Nat}{Aq:zZ}{y:Int}{t:Array Value}(h:t=(di7_T Hb xb nq Cq i Aq y t)):∃u:Nat→Value,t= #[zt Hb,u 1,u 2,u 3,u 4,zt xb,u 6,u 7,.int .i64 y,u 9,u 10,u 11,u 12,u 13,u 14,u 15,u 16,u 17,u 18,u 19,u 20,u 21,u 22,u 23,u 24,u 25,u 26,u 27,u 28,u 29,u 30,u 31,u 32,u 33,u 34,u 35,u 36,u 37,u 38,u 39,u 40,u 41,.slice Aq nq Cq,.int .i64 (nq:Int),.int .i64 (i:Int),u 45,u 46,u 47,u 48,u 49,u 50,u 51,u 52,u 53,u 54,u 55,u 56,u 57,u 58,u 59,u 60,u 61,u 62,u 63,u 64,u 65,u 66]:=⟨fun i=>t.getD i undef,h⟩
def Hc(n:Nat):Code→Option Code
 | .region id ops b=>if id=n then some (.region id ops b) else none
 | .loop c=>Hc n c
 | .seq a b=>match Hc n a with
  |some c=>some c
  |none=>Hc n b
 | .block _ c=>Hc n c
 | .scope c=>Hc n c
 | .cond _ a b=>match Hc n a with
  |some c=>some c
  |none=>Hc n b
 |_=>none
def RM(R:Act→zW→Prop):Exit→Act→zW→Prop
 | .normal,a,W=>R a W
 |_,_,_=>False
theorem Pi{P:Program}{c:Code}{Q:Exit→Act→zW→Prop}{a:Act}{w:zW}(R:Act→zW→Prop)(h:c.wp P (RM R) a w)(hq:∀a' W',R a' W'→Q .normal a' W'):c.wp P Q a w:=
 Code.wp_mono (fun e a W h=>by cases e<;>first|exact hq _ _ h|exact h.elim) h
theorem Ou:(Tryz.prog.info? 142).map (fun i=>(i.zero,i.size,i.bytes))=some (some (.agg #[.int .i64 0,.string ⟨#[]⟩,.string ⟨#[]⟩,.int .i64 0]),4,48):=by kernel_rfl
theorem Wg(l:List Aj):∀u∈l.flatMap Bp,u.oneCell'=true:=by
 intro u hu;obtain⟨x,_,hx⟩:=List.mem_flatMap.1 hu;simp only[Bp,List.mem_cons,List.not_mem_nil,or_false] at hx;rcases hx with rfl|rfl|rfl|rfl<;>rfl
theorem Ahb{W:zW}{B:Nat}{o:Oper}{a:Act}{K:Act→zW→Prop}{Q:Exit→Act→zW→Prop}(s x:Operand)(ho:o.op= .call { callee:= .builtin .append,args:= #[s,x],argTypes:= #[139,139] }){v:Value}{n:Nat}{us:List Value}(hs:a.eval s=v)(hown:W.ownsRow B 142 4 v n us)
  {gb:Nat} {ad:Aj} (hx:a.eval x= .slice (some ⟨gb,0,none⟩) 1 1) (hb:Bk W gb 142 (Bp ad).toArray) (hn:n≤4294967290) (hBW:B≤W.heap.size)
  (h:∀v' w',w'.ownsRow B 142 4 v' (n+1) (us++Bp ad)→W.grownBy w' v.ownBlock→K (a.put o.dst v') w'):o.wp Tryz.prog a W K Q:=by
 obtain⟨v',w',hr,ho',hg⟩:=Hk (P:=Tryz.prog) W B 139 o.type 142 Tryz.underlying139 Ou rfl (by decide) (by decide) v n us hown 0 W.heap.size (some ⟨gb,0,none⟩) 1 1 (Bp ad) (D4 ad) (Sl.of_bk hb (Nat.zero_le _) hb.lt (by simp)) (fun u hu=>Wg [ad] u (by simpa using hu)) (by omega) hBW;exact Lib.wp_append_run W s x _ _ ho _ _ hs hx _ _ hr (h _ w' ho' hg)
theorem Pw{W:zW}{xb:Nat}{x:Ao}(h:Bk W xb 113 (Ax x).toArray):zM W xb 1 (.string x.key)∧zM W xb 2 (.string x.body)∧zM W xb 4 (.int .i64 x.au):=
 ⟨h.cell 1,h.cell 2,h.cell 4⟩
theorem Abu{W W5 W6:zW}{lo n:Nat}{v:Value}{us:List Value}(hlo:lo≤W.heap.size)(ho:W.ownsRow lo 142 4 v n us)(hg:W5.grownBy W6 v.ownBlock)(hb:Below W.heap.size W W5):Below lo W W6:=
 Br (own_below ho hb) hg (hb.mono hlo) (zn _) (zr hlo hb.size)
def RdR(W:zW)(lo Hb:Nat)(l:List Aj)(ad:Aj)(F:Array Value→Prop)(a':Act)(W':zW):Prop:=
 ∃(t:Array Value)(A:zZ),a'=⟨t,[]⟩∧F t∧∃(C:Nat)(W6:zW),W6.ownsRow lo 142 4 (.slice A (l.length+1) C) (l.length+1) (l.flatMap Bp++Bp ad)∧Ah [142] W W6∧Below lo W W6∧W'=W6.setCell ⟨Hb,4,none⟩ (.slice A (l.length+1) C)
noncomputable def Asu:Code:=It Tryz.f179 0
theorem Av5(xb Hb lo nq Cq i:Nat)(Aq:zZ)(y:Int)(x:Ao)(A0:zZ)(C0:Nat)(l:List Aj)(f0 f1 f2 f3:Value)(W:zW)(hX:Bk W xb 113 (Ax x).toArray)(hH:Bk W Hb 227 #[f0,f1,f2,f3,.slice A0 l.length C0])
  (hO:W.ownsRow lo 142 4 (.slice A0 l.length C0) l.length (l.flatMap Bp)) (hlen:l.length≤1048576) (hlo:lo≤W.heap.size) (hd:0≤x.au∧x.au≤2) (Q:Exit→Act→zW→Prop)
  (hq:∀(t:Array Value)(A:zZ)(C:Nat)(W6:zW),t=(di7_T Hb xb nq Cq i Aq y t)→W6.ownsRow lo 142 4 (.slice A (l.length+1) C) (l.length+1) (l.flatMap Bp++Bp (⟨y,x.key,x.body,x.au+1⟩:Aj))→Ah [142] W W6→Below lo W W6→Q .normal ⟨t,[]⟩ (W6.setCell ⟨Hb,4,none⟩ (.slice A (l.length+1) C)))
  (t:Array Value) (ht:t=(di7_T Hb xb nq Cq i Aq y t)):((Hc 7 Asu).getD .skip).wp Tryz.prog Q ⟨t,[]⟩ W:=by
 obtain⟨u,rfl⟩:=Aid ht;clear ht;refine Pi (RdR W lo Hb l (⟨y,x.key,x.body,x.au+1⟩:Aj) (fun t=>t=(di7_T Hb xb nq Cq i Aq y t))) ?_ ?_
 ·have HK:Hid (∀W',Below W.heap.size W W'→(fun W=>zM W xb 1 (.string x.key)∧zM W xb 2 (.string x.body)∧zM W xb 4 (.int .i64 x.au)) W'):=zh fun W' hb=>Pw (hX.below hb hX.lt)
  have HX:=zh hX;have HH:=zh hH;have hHlt:=hH.lt;have HO:=zh hO;obtain⟨hd1,hd2⟩:=hd;have HWR:Hid (IntKind.i64.wrap (x.au+1)=x.au+1):=zh (IntWalk.i64_in _ (by omega));clear hX hH hO hq
  conv=>arg 2;whnf
  refine wp_region_held_drew (S:=(fun W=>zM W xb 1 (.string x.key)∧zM W xb 2 (.string x.body)∧zM W xb 4 (.int .i64 x.au))) (by kernel_rfl) (HK.out _ (zb _ _).drew) (fun hHeld=> ?_);have hN:Below W.heap.size W W.drew:=(zb _ _).drew;have h4:=(HH.out.below hN hHlt).cell 4;simp only[zI,zJ,zK] at h4;generalize W.drew=Wd at *
  refine zH 0 ?_;refine zH 1 ?_;refine zH 2 ?_;refine zH 3 ?_;refine zH 5 ?_;refine zH 6 ?_;refine zH 7 ?_;refine zH 8 ?_;refine zH 9 ?_;refine zH 10 ?_;refine zH 11 ?_;refine zH 12 ?_;refine zH 13 ?_
  refine zR2 4 14 (fun K hK=> ?_) (fun K hK=> ?_)
  ·go_simp
   refine zk hK (by first|assumption|exact HK.out _ hN) (fun hHeld=> ?_);clear hK K
   refine zR 14 fun K hK=> ?_
   go_simp
   generalize hW:World.alloc _ (Obj.cells _ _)=W5;rw[HWR.out] at hW;have hN5:Below W.heap.size W W5:=by rw[←hW];exact hN.alloc hN.size _
   have HE:Hid (Bk W5 Wd.heap.size 142 (Bp (⟨y,x.key,x.body,x.au+1⟩:Aj)).toArray):=by rw[←hW];exact zh (Bk.cg _ _ _ (by rfl))
   have hN:=hN5;have HN5:=zh hN5;have h4:=(HH.out.below hN hHlt).cell 4;simp only[zI,zJ,zK] at h4;clear hW hN5;refine zk hK (by first|assumption|exact HK.out _ hN) (fun hHeld=> ?_);clear hK K
   refine zR 15 fun K hK=> ?_;rw[zp (by rfl)];refine Ahb (.tmp 52) (.tmp 62) rfl rfl (own_below HO.out hN) (gb:=Wd.heap.size) (ad:=(⟨y,x.key,x.body,x.au+1⟩:Aj)) rfl HE.out (by omega) (zr hlo hN.size) ?_;intro v6 W6 ho6 hg6;obtain⟨A6,C6,rfl,_⟩:=Ae ho6;have HO6:Hid (W6.ownsRow lo 142 4 (.slice A6 (l.length+1) C6) (l.length+1) (l.flatMap Bp++Bp (⟨y,x.key,x.body,x.au+1⟩:Aj))∧Ah [142] W W6∧W5.grownBy W6 (Value.slice A0 l.length C0).ownBlock∧Below W.heap.size W W5):=zh ⟨ho6,(Ah.oqb hN).trans (Ah.grown (own_below HO.out hN) hg6 (by simp)),hg6,hN⟩;have ky:=HO6.out.2.1 _ _ _ (by decide) HH.out;have y4:=ky.cell 4;have yf:=ky.frozen 4;have yl:=ky.lt;simp only[zI,zJ,zK] at y4;clear ho6 hg6;refine zk hK (by exact Pw (HO6.out.2.1 _ _ _ (by decide) HX.out)) (fun hHeld=> ?_);clear hK K
   refine zH 16 ?_;refine zH 17 ?_
   refine zR 18 fun K hK=> ?_
   go_simp
   skip
   refine zk hK (by exact Pw ((Ah.set (HO6.out.2.1 _ _ _ (by decide) HH.out) (ts:=[227]) (by decide) 4 _) _ _ _ (by decide) (HO6.out.2.1 _ _ _ (by decide) HX.out))) (fun hHeld=> ?_);clear hK K
   refine zx ?_;exact⟨_,A6,rfl,rfl,C6,W6,HO6.out.1,HO6.out.2.1,Abu hlo HO.out HO6.out.2.2.1 HO6.out.2.2.2,rfl⟩
  ·go_simp
   generalize hW:World.alloc _ (Obj.cells _ _)=W5;rw[HWR.out] at hW;have hN5:Below W.heap.size W W5:=by rw[←hW];exact hN.alloc hN.size _
   have HE:Hid (Bk W5 Wd.heap.size 142 (Bp (⟨y,x.key,x.body,x.au+1⟩:Aj)).toArray):=by rw[←hW];exact zh (Bk.cg _ _ _ (by rfl))
   have hN:=hN5;have HN5:=zh hN5;have h4:=(HH.out.below hN hHlt).cell 4;simp only[zI,zJ,zK] at h4;clear hW hN5;refine zk hK (by first|assumption|exact HK.out _ hN) (fun hHeld=> ?_);clear hK K
   refine zR 4 fun K hK=> ?_
   go_simp
   refine zk hK (by first|assumption|exact HK.out _ hN) (fun hHeld=> ?_);clear hK K
   refine zR 15 fun K hK=> ?_;rw[zp (by rfl)];refine Ahb (.tmp 52) (.tmp 62) rfl rfl (own_below HO.out hN) (gb:=Wd.heap.size) (ad:=(⟨y,x.key,x.body,x.au+1⟩:Aj)) rfl HE.out (by omega) (zr hlo hN.size) ?_;intro v6 W6 ho6 hg6;obtain⟨A6,C6,rfl,_⟩:=Ae ho6;have HO6:Hid (W6.ownsRow lo 142 4 (.slice A6 (l.length+1) C6) (l.length+1) (l.flatMap Bp++Bp (⟨y,x.key,x.body,x.au+1⟩:Aj))∧Ah [142] W W6∧W5.grownBy W6 (Value.slice A0 l.length C0).ownBlock∧Below W.heap.size W W5):=zh ⟨ho6,(Ah.oqb hN).trans (Ah.grown (own_below HO.out hN) hg6 (by simp)),hg6,hN⟩;have ky:=HO6.out.2.1 _ _ _ (by decide) HH.out;have y4:=ky.cell 4;have yf:=ky.frozen 4;have yl:=ky.lt;simp only[zI,zJ,zK] at y4;clear ho6 hg6;refine zk hK (by exact Pw (HO6.out.2.1 _ _ _ (by decide) HX.out)) (fun hHeld=> ?_);clear hK K
   refine zH 16 ?_;refine zH 17 ?_
   refine zR 18 fun K hK=> ?_
   go_simp
   skip
   refine zk hK (by exact Pw ((Ah.set (HO6.out.2.1 _ _ _ (by decide) HH.out) (ts:=[227]) (by decide) 4 _) _ _ _ (by decide) (HO6.out.2.1 _ _ _ (by decide) HX.out))) (fun hHeld=> ?_);clear hK K
   refine zx ?_;exact⟨_,A6,rfl,rfl,C6,W6,HO6.out.1,HO6.out.2.1,Abu hlo HO.out HO6.out.2.2.1 HO6.out.2.2.2,rfl⟩
 ·rintro a' W' ⟨t,A,rfl,ht,C,W6,ho,hk,hb,rfl⟩
  exact hq t A C W6 ht ho hk hb
def dl1_T(Hb xb Cq i:Nat)(Aq:zZ)(ys:List Int)(t:Array Value):Array Value:=fj [[zt Hb],fr t 1 4,[zt xb],fr t 6 36,[.slice Aq ys.length Cq,.int .i64 (ys.length:Int),.int .i64 (i:Int)],fr t 45 22]
theorem Aie{Hb xb Cq i:Nat}{Aq:zZ}{ys:List Int}{t:Array Value}(h:t=(dl1_T Hb xb Cq i Aq ys t)):∃u:Nat→Value,t= #[zt Hb,u 1,u 2,u 3,u 4,zt xb,u 6,u 7,u 8,u 9,u 10,u 11,u 12,u 13,u 14,u 15,u 16,u 17,u 18,u 19,u 20,u 21,u 22,u 23,u 24,u 25,u 26,u 27,u 28,u 29,u 30,u 31,u 32,u 33,u 34,u 35,u 36,u 37,u 38,u 39,u 40,u 41,.slice Aq ys.length Cq,.int .i64 (ys.length:Int),.int .i64 (i:Int),u 45,u 46,u 47,u 48,u 49,u 50,u 51,u 52,u 53,u 54,u 55,u 56,u 57,u 58,u 59,u 60,u 61,u 62,u 63,u 64,u 65,u 66]:=⟨fun i=>t.getD i undef,h⟩
def Uo(x:Ao)(k:Int):Aj:=⟨k,x.key,x.body,x.au+1⟩
def DiR(lo g Hb xb B:Nat)(p:Ab)(p1 p2 p3:zZ)(q1 q2 q3:Nat)(v1 v2 v3 vq:Value)(rows:List Bm)(s:Aa)(l:List Aj)(x:Ao)(ys:List Int)(w:zW)(i:Nat)(W:zW):Prop:=
 ∃wv,Ec W lo g Hb p p1 p2 p3 q1 q2 q3 v1 v2 v3 wv rows s (l++(ys.take i).map (Uo x))∧Bk W xb 113 (Ax x).toArray∧Cs W B vq ys∧BK lo w W
theorem Ae6{W:zW}{lo:Nat}{v:Value}{L:List Aj}{a:Aj}(h:W.ownsRow lo 142 4 v (L.length+1) (L.flatMap Bp++Bp a)):W.ownsRow lo 142 4 v (L++[a]).length ((L++[a]).flatMap Bp):=by
 rw[ze,List.flatMap_append,List.flatMap_cons,List.flatMap_nil,List.append_nil];exact h
def Am4(lo g Hb xb B Cq:Nat)(Aq:zZ)(p:Ab)(p1 p2 p3:zZ)(q1 q2 q3:Nat)(v1 v2 v3:Value)(rows:List Bm)(s:Aa)(l:List Aj)(x:Ao)(ys:List Int)(w:zW)(a:Act)(wr:zW):Prop:=
 ∃(t:Array Value)(i:Nat),t=(dl1_T Hb xb Cq i Aq ys t)∧i≤ys.length∧DiR lo g Hb xb B p p1 p2 p3 q1 q2 q3 v1 v2 v3 (.slice Aq ys.length Cq) rows s l x ys w i wr∧a=⟨t,[]⟩
theorem Asv(lo g Hb xb B Cq:Nat)(Aq:zZ)(p:Ab)(p1 p2 p3:zZ)(q1 q2 q3:Nat)(v1 v2 v3:Value)(rows:List Bm)(s:Aa)(l:List Aj)(x:Ao)(ys:List Int)(w:zW)(hd:0≤x.au∧x.au≤2)(hl:l.length≤100000)(hys:ys.length≤100000)(Q0:Exit→Act→zW→Prop)
  (hend:∀(t:Array Value)(i:Nat)(W:zW),t=(dl1_T Hb xb Cq i Aq ys t)→DiR lo g Hb xb B p p1 p2 p3 q1 q2 q3 v1 v2 v3 (.slice Aq ys.length Cq) rows s l x ys w ys.length W→Q0 (.exit 0) ⟨t,[]⟩ W) (t:Array Value) (i:Nat) (W:zW) (ht:t=(dl1_T Hb xb Cq i Aq ys t)) (hi:i≤ys.length) (hW:DiR lo g Hb xb B p p1 p2 p3 q1 q2 q3 v1 v2 v3 (.slice Aq ys.length Cq) rows s l x ys w i W):
  (Code.loop Asu).wp Tryz.prog Q0 ⟨t,[]⟩ W:=by
 refine wp_loop (Am4 lo g Hb xb B Cq Aq p p1 p2 p3 q1 q2 q3 v1 v2 v3 rows s l x ys w) (fun a _=>ys.length - (intOf (a.tmps.getD 44 undef)).toNat) ⟨t,i,ht,hi,hW,rfl⟩ ?_;clear ht hi hW t i W;rintro a' wr ⟨t,i,ht,hi,hR,rfl⟩;obtain⟨u,rfl⟩:=Aie ht;clear ht;have HEND:=zh hend;clear hend
 conv=>arg 2;whnf
 by_cases hlt:i < ys.length
 ·obtain⟨wv,hH,hX,hI,hB⟩:=hR
  have hj2:(i:Int) < (ys.length:Int):=by omega
  obtain⟨b,o,rfl,hbb,hc⟩:=Nh (Nb hI).2 hlt;have htk:ys.take (i+1)=ys.take i++[ys[i]]:=by rw[List.take_add_one,zG hlt];rfl
  generalize ys[i]=y at *;obtain⟨L,hL⟩:=zo (l++(ys.take i).map (Uo x));have hlen:L.length≤1048576:=by rw[←hL];simp;omega
  rw[hL] at hH;have HL:=zh hL;clear hL;obtain⟨A0,C0,rfl,_⟩:=Ae hH.wait;have HTK:=zh htk;have HH:=zh hH;have HX:=zh hX;have HI:=zh hI;have HB:=zh hB;have HLEN:=zh hlen;have HR:Hid (∀t:Array Value,∀(i':Nat),i'=i+1→t=fj [[zt Hb,gd t 1,gd t 2,gd t 3,gd t 4,zt xb],fr t 6 36,[.slice (some ⟨b,o,none⟩) ys.length Cq,.int .i64 (ys.length:Int),.int .i64 (i':Int)],fr t 45 22]→∀W,DiR lo g Hb xb B p p1 p2 p3 q1 q2 q3 v1 v2 v3 (.slice (some ⟨b,o,none⟩) ys.length Cq) rows s l x ys w (i+1) W→Am4 lo g Hb xb B Cq (some ⟨b,o,none⟩) p p1 p2 p3 q1 q2 q3 v1 v2 v3 rows s l x ys w ⟨t,[]⟩ W):=
   zh fun t i' hi' ht W hW=>⟨t,i',ht,by omega,by rw[hi'];exact hW,rfl⟩
  clear htk hH hX hI hB hlen;go_wp2_with fail
  refine Av5 xb Hb lo ys.length Cq i (some ⟨b,o,none⟩) y x A0 C0 L _ _ _ _ wr HX.out HH.out.hall HH.out.wait HLEN.out HH.out.size hd _ ?_ _ rfl;rintro t A C W6 ht ho hk hb;obtain⟨u,rfl⟩:=Aid ht;have HN:Hid (DiR lo g Hb xb B p p1 p2 p3 q1 q2 q3 v1 v2 v3 (.slice (some ⟨b,o,none⟩) ys.length Cq) rows s l x ys w (i+1) (W6.setCell ⟨Hb,4,none⟩ (.slice A (L.length+1) C))):=zh (by
   have e:l++(ys.take (i+1)).map (Uo x)=L++[Uo x y]:=by rw[←HL.out,HTK.out,List.map_append,List.append_assoc];rfl
   obtain⟨k1,k2,k3⟩:=HH.out.waits (l':=l++(ys.take (i+1)).map (Uo x)) (wv':= .slice A (L.length+1) C) (ts:=[]) hk hb (by
    rw[e];exact Ae6 ho)
   exact⟨_,k1,k2 _ _ _ (by decide) HX.out,Dl HI.out k2 (by decide),HB.out.trans (BK.of k3 k2)⟩)
  clear ht ho hk hb hc hbb
  go_wp2
  exact⟨HR.out _ _ rfl rfl _ HN.out,by simp[intOf];omega⟩
 ·obtain rfl:i=ys.length:=by omega
  have HF:=zh hR;clear hR
  go_wp2
  exact HEND.out _ ys.length _ rfl HF.out
theorem Abw{p:Ab}{q:Int}{x:Ao}{k:Nat}(h:(Bz p q).dead=(k:Int))(hx:¬ 2≤x.au):Fa p q x=((ofL p k x.key).take (ofL p k x.key).length).map (Uo x):=by
 unfold Fa;rw[zq (by omega),List.take_length,h];rfl
theorem Qn{p:Ab}{q:Int}{x:Ao}(h:(Bz p q).dead < 0∨2≤x.au):Fa p q x=[]:=by
 unfold Fa;rw[zp h]
def Avj(lo g Hb:Nat)(p:Ab)(p1 p2 p3:zZ)(q1 q2 q3:Nat)(v1 v2 v3:Value)(rows:List Bm)(s:Aa)(l:List Aj)(w:zW)(e:Ending)(W:zW):Prop:=
 e= .returned (.tuple #[])∧∃wv,Ec W lo g Hb p p1 p2 p3 q1 q2 q3 v1 v2 v3 wv rows s l∧BK lo w W
theorem Amh(lo g Hb:Nat)(p:Ab)(p1 p2 p3:zZ)(q1 q2 q3:Nat)(hr:B8 p)(hs:Ai p)(v1 v2 v3 wv:Value)(rows:List Bm)(s:Aa)(l:List Aj)(q:Nat)(x:Ao)(w:zW)(H:Ec w lo g Hb p p1 p2 p3 q1 q2 q3 v1 v2 v3 wv rows s l)(hq:q < p.ag.length)(hd:0≤x.au∧x.au≤2)(hkey:x.key.size≤1048576)(hl:l.length≤100000)(hdr:0≤s.dropped∧s.dropped≤1048576):
  Calls Tryz.prog 179 #[zt Hb,.int .i64 (q:Int),.agg (Ax x).toArray] w (Avj lo g Hb p p1 p2 p3 q1 q2 q3 v1 v2 v3 rows { s with dropped:=s.dropped+1 } (l++Fa p q x) w):=by
 have hwr:IntKind.i64.wrap (s.dropped+1)=s.dropped+1:=IntWalk.i64_in _ (by omega);have hbd:=Tw hr (q:=(q:Int)) (by omega);unfold Ax;obtain⟨W0,hW0⟩:=zo (w.alloc (.cells (zY x) 113));have hX:Bk W0 w.heap.size 113 (Ax x).toArray:=by rw[←hW0];exact Bk.new _ _ _
 have hb0:=zu hW0
 have hH:=H.since hb0;have hlow:=H.size;clear H;obtain⟨W1,hW1⟩:=zo (W0.setCell ⟨g,7,none⟩ (.int .i64 (s.dropped+1)));have a0:=hH.hall.cell 0;have a7:=hH.box.cell 7;have f7:=hH.box.frozen 7;have l7:=hH.box.lt;obtain⟨h1,k1,b1⟩:=hH.num 7 (.int .i64 (s.dropped+1)) s.ah s.af s.aw s.ar (s.dropped+1) rfl;rw[hW1] at h1 k1 b1;have hX1:=k1 _ _ _ (by decide) hX;have x4:=hX1.cell 4;have x1:=hX1.cell 1;have c1:=h1.hall.cell 1;have c2:=h1.hall.cell 2;have c3:=h1.hall.cell 3;obtain⟨b,o,rfl,_,_,d2⟩:=h1.queue hq;simp only[Ro,Ey,Ax,zI,zJ,zK] at a0 a7 x1 x4 c1 c2 c3;have hj2:(q:Int) < (p.ag.length:Int):=by omega
 have HH:=zh h1;have HX:=zh hX1;have HB:=zh (zi ((BK.since hb0 hlow).trans (BK.of b1 k1)) hlow);clear h1 k1 b1 hX1 hH hb0 hX;go_enter Tryz.func179,Tryz.ntmps179
 by_cases hdd:(Bz p q).dead < 0
 ·have HP:=zh (Qn (.inl hdd):Fa p q x=[])
  clear hbd
  go_wp2
  refine bodyPost_ret (v:= .tuple #[]) (by simp[results,Tryz.results179,go_sem]) rfl ?_;exact⟨rfl,wv,by rw[HP.out,List.append_nil];exact HH.out,HB.out.1⟩
 ·by_cases h2:x.au=2
  ·have HP:=zh (Qn (.inr (by omega)):Fa p q x=[])
   have b2:(x.au == 2)=true:=by simp[h2]
   clear hbd h2
   go_wp2
   refine bodyPost_ret (v:= .tuple #[]) (by simp[results,Tryz.results179,go_sem]) rfl ?_;exact⟨rfl,wv,by rw[HP.out,List.append_nil];exact HH.out,HB.out.1⟩
  ·have b2:(x.au == 2)=false:=by simp[h2]
   obtain⟨k,hk⟩:=Int.eq_ofNat_of_zero_le (show 0≤(Bz p q).dead by omega);have hkl:k < p.aj.length:=by omega
   have HP:=zh (Abw hk (by omega):Fa p q x=_);have HLY:=zh (Aa2 hr hkl (key:=x.key));have HOF:Hid (∀W,Below W1.heap.size W1 W→Calls Tryz.prog 196 #[.agg (zP p p1 (some ⟨b,o,none⟩) p3 q1 q2 q3),.int .i64 (k:Int),.string x.key] W fun e w'=>∃v,e= .returned v∧Cs w' W.heap.size v (ofL p k x.key)∧Below W.heap.size W w'):=zh fun W hW=>
    Aml p k x.key p1 (some ⟨b,o,none⟩) p3 q1 q2 q3 lo W hkl hr hkey hs (HH.out.since hW).bz (HH.out.since hW).env (HH.out.since hW).size
   have HK:Hid (∀W,Below W1.heap.size W1 W→(zM W Hb 1 (.slice p1 p.aj.length q1)∧zM W Hb 2 (.slice (some ⟨b,o,none⟩) p.ag.length q2)∧zM W Hb 3 (.slice p3 p.binds.length q3)∧zM W w.heap.size 1 (.string x.key))∧Below W1.heap.size W1 W):=zh fun W hW=>
    ⟨⟨(HH.out.since hW).hall.cell 1,(HH.out.since hW).hall.cell 2,(HH.out.since hW).hall.cell 3,(HX.out.below hW HX.out.lt).cell 1⟩,hW⟩
   rw[hk] at d2;have hk0:¬ (k:Int) < 0:=by omega
   clear hbd hdd h2 hk;go_wp2_with fail
   clear a0 a7 f7 l7 x4 x1 c1 c2 c3 d2;refine Kl [(0,false),(1,false),(2,false),(3,false),(4,false),(5,false),(6,false),(9,false),(7,true),(8,false)] (by kernel_rfl) (fun hOrd=> ?_);refine zS HK hOrd (by kernel_rfl) (fun hHeld=> ?_);clear hOrd
   iterate 10 ((first|(refine zT ?_)|(refine zL ?_)|(refine NW.call rfl (fun K hK=> ?_);go_simp;((go_at_call 196;(with_reducible refine(HOF.out _ hHeld.2).mono ?_);rintro e w4 ⟨v4,rfl,n1,n2⟩;obtain⟨Aq,Cq,rfl,_⟩:=Ae n1;have HI4:=zh n1;have hN:Below W1.heap.size W1 w4:=hHeld.2.trans (n2.mono hHeld.2.size);have HN4:=zh hN;clear n1 n2));refine zk hK (by first|assumption|exact HK.out _ hN) (fun hHeld=> ?_);clear hK K)))
   refine NW.done ?_;go_wp2_with fail
   refine Asv lo g Hb w.heap.size _ Cq Aq p p1 (some ⟨b,o,none⟩) p3 q1 q2 q3 v1 v2 v3 rows { s with dropped:=s.dropped+1 } l x (ofL p k x.key) w hd hl (by have:=HLY.out;omega) _ ?_ _ 0 w4 rfl (Nat.zero_le _) ⟨wv,?_,HX.out.below HN4.out HX.out.lt,HI4.out,HB.out.1.trans (BK.since HN4.out HH.out.size)⟩
   ·rintro t i W ht ⟨wv',hh,_,_,hbw⟩
    obtain⟨u,rfl⟩:=Aie ht;have HF:=zh (zi hh hbw);clear ht hh hbw
    go_wp2
    refine bodyPost_ret (v:= .tuple #[]) (by simp[results,Tryz.results179,go_sem]) rfl ?_;exact⟨rfl,wv',by rw[HP.out];exact HF.out.1,HF.out.2⟩
   ·have h:=HH.out.since HN4.out
    simpa using h
theorem Aia(ra:zZ)(n rc:Nat)(hn:1≤n)(W:zW):(Instr.slice 132 (.slice ra n rc) (some (.int .i64 1)) none none).run Tryz.prog W= .ok (.slice (E6 ra rc 1 5) (n - 1) (rc - 1)) W:=
 Mk (P:=Tryz.prog) (t:=132) (size:=5) Tryz.underlying132 Ho ra n rc 1 1 rfl hn W
theorem Ec.rowSet{w:zW}{lo g h gr n C k:Nat}{p:Ab}{p1 p2 p3:zZ}{q1 q2 q3:Nat}{v2 v3 wv:Value}{rows:List Bm}{s:Aa}{l:List Aj}(H:Ec w lo g h p p1 p2 p3 q1 q2 q3 (.slice (some ⟨gr,0,none⟩) n C) v2 v3 wv rows s l)(hn:n=s.ready.length)(ra:zZ)(rc:Nat)(ys:List Ao)
  (hsl:SlT w lo 113 ra (ys.flatMap Ax)) (hc:ys.length≤rc):
  Ec (w.setCell ⟨gr,k,none⟩ (.slice ra ys.length rc)) lo g h p p1 p2 p3 q1 q2 q3 (.slice (some ⟨gr,0,none⟩) n C) v2 v3 wv (rows.set k ⟨ra,rc,ys⟩) { s with ready:=s.ready.set k ys } l∧Ah [132] w (w.setCell ⟨gr,k,none⟩ (.slice ra ys.length rc))∧Below lo w (w.setCell ⟨gr,k,none⟩ (.slice ra ys.length rc)):=by
 obtain⟨h1,hk⟩:=H.held.rowSet (k:=k) hn ra rc ys hsl hc;have hg:lo≤gr:=(H.held.ready.lt gr rfl).1;have hb:Below lo w (w.setCell ⟨gr,k,none⟩ (.slice ra ys.length rc)):=(zb _ _).setCell (p:=⟨gr,k,none⟩) hg _;exact⟨⟨H.bz.below hb (zn _),H.env.keep fun p hp=>hb.cell hp,zr H.size hb.size,hk _ _ _ (by decide) H.hall,hk _ _ _ (by decide) H.box,h1,Dl H.wait hk (by decide),H.gl,H.hl⟩,hk,hb⟩
theorem Ec.drew{w:zW}{lo g h:Nat}{p:Ab}{p1 p2 p3:zZ}{q1 q2 q3:Nat}{v1 v2 v3 wv:Value}{rows:List Bm}{s:Aa}{l:List Aj}(H:Ec w lo g h p p1 p2 p3 q1 q2 q3 v1 v2 v3 wv rows s l):Ec w.drew lo g h p p1 p2 p3 q1 q2 q3 v1 v2 v3 wv rows s l:=
 H.since (zb _ _).drew
theorem Apw{p:Ab}{s:Aa}{q:Int}{x:Ao}(h:((Bt (Ak s q) x).length:Int)≤(Bz p q).bm):Ei p s q x=({ s with ready:=s.ready.set q.toNat (Bt (Ak s q) x) },[]):=by
 unfold Ei;rw[zp h]
theorem Apx{p:Ab}{s:Aa}{q:Int}{x y:Ao}{r:List Ao}(h:¬ ((Bt (Ak s q) x).length:Int)≤(Bz p q).bm)(hy:Bt (Ak s q) x=y::r):Ei p s q x=({ s with ready:=s.ready.set q.toNat r,dropped:=s.dropped+1 },Fa p q y):=by
 unfold Ei;rw[zq h,hy];rfl
def Amj(lo g Hb:Nat)(p:Ab)(p1 p2 p3:zZ)(q1 q2 q3:Nat)(v1 v2 v3:Value)(c:Aa×List Aj)(l:List Aj)(w:zW)(e:Ending)(W:zW):Prop:=
 e= .returned (.tuple #[])∧∃wv rows,Ec W lo g Hb p p1 p2 p3 q1 q2 q3 v1 v2 v3 wv rows c.1 (l++c.2)∧BK lo w W
theorem Amk(lo g Hb:Nat)(p:Ab)(p1 p2 p3:zZ)(q1 q2 q3:Nat)(hr:B8 p)(hs:Ai p)(v1 v2 v3 wv:Value)(rows:List Bm)(s:Aa)(l:List Aj)(q:Nat)(x:Ao)(w:zW)(H:Ec w lo g Hb p p1 p2 p3 q1 q2 q3 v1 v2 v3 wv rows s l)(hq:q < p.ag.length)(hsl:s.ready.length=p.ag.length)
  (hp:(Ak s q).Pairwise fun x y=>x.seq < y.seq) (hn:(Ak s q).any (fun y=>decide (y.seq=x.seq))=false) (hll:(Ak s q).length≤100000) (hok:∀y∈Bt (Ak s q) x,y.key.size≤1048576∧0≤y.au∧y.au≤2) (hl:l.length≤100000) (hdr:0≤s.dropped∧s.dropped≤1048576):
  Calls Tryz.prog 178 #[zt Hb,.int .i64 (q:Int),.agg (Ax x).toArray] w (Amj lo g Hb p p1 p2 p3 q1 q2 q3 v1 v2 v3 (Ei p s q x) l w):=by
 have hrow:s.ready[q]? =some (Ak s q):=by
  have h1:q < s.ready.length:=by omega
  rw[Ev (show((q:Int)).toNat < s.ready.length by omega),zG h1];rfl
 have HLAY:=zh (zi (fun h=>Apw (p:=p) (s:=s) (q:=(q:Int)) (x:=x) h) (fun y r h hy=>Apx (p:=p) (s:=s) (q:=(q:Int)) (x:=x) (y:=y) (r:=r) h hy));generalize Ak s q=line at *;have HPL:=zh (Acj line x);obtain⟨A1,C1,hv1,_⟩:=Ae H.held.ready;subst hv1;obtain⟨gr,rfl⟩:=Fs H.held.ready (by omega);unfold Ax;obtain⟨W0,hW0⟩:=zo (w.alloc (.cells (zY x) 113));have hX:=zw hW0
 have hb0:=zu hW0
 have hH:=H.since hb0;have hlow:=H.size;clear H;obtain⟨ra,rc,hrc,hrsl,hcell⟩:=hH.held.rowAt rfl hrow;have HPUT:Hid (∀W,Below W0.heap.size W0 W→Calls Tryz.prog 202 #[.slice ra line.length rc,.agg (zY x)] W fun e w'=>∃v,e= .returned v∧w'.ownsRow W.heap.size 113 5 v (Bt line x).length ((Bt line x).flatMap Ax)∧Below W.heap.size W w'):=zh fun W hW=>
  Aq4 ra rc line x lo W (hrsl.keep (Ah.oqb (ts:=[]) hW) (by simp)).sl (by omega) hp hn
 have HCELL:=zh hcell;have HK:Hid (∀W,Below W0.heap.size W0 W→(zM W Hb 0 (zt g)∧zM W g 0 (.slice (some ⟨gr,0,none⟩) s.ready.length C1)∧zM W gr q (.slice ra line.length rc)∧zM W w.heap.size 0 (.int .i64 x.seq)∧zM W w.heap.size 1 (.string x.key)∧zM W w.heap.size 2 (.string x.body)∧zM W w.heap.size 3 (.bool x.again)∧zM W w.heap.size 4 (.int .i64 x.au))∧Below W0.heap.size W0 W):=zh fun W hW=>
  have k:=hX.below hW hX.lt
  ⟨⟨(hH.since hW).hall.cell 0,(hH.since hW).box.cell 0,(hcell [] W (by simp) (Ah.oqb hW)).1,k.cell 0,k.cell 1,k.cell 2,k.cell 3,k.cell 4⟩,hW⟩
 have HH:=zh hH;have HB:=zh (zi (BK.since hb0 hlow) hlow);have hj2:(q:Int) < (s.ready.length:Int):=by omega
 have hj3:(q:Int) < (p.ag.length:Int):=by omega
 have HW0:=zh (show W0.heap.size=w.heap.size+1 by rw[←hW0];simp);clear hX hb0 hH hrsl hcell hrow hp hn hsl;go_enter Tryz.func178,Tryz.ntmps178
 go_wp2_with fail
 refine Kl [(0,false),(1,false),(2,false),(3,false),(4,false),(5,false),(6,false),(7,false),(8,false),(9,false),(10,false),(11,true),(12,false)] (by kernel_rfl) (fun hOrd=> ?_);refine zS HK hOrd (by kernel_rfl) (fun hHeld=> ?_);clear hOrd
 iterate 13 ((first|(refine zT ?_)|(refine zL ?_)|(refine NW.call rfl (fun K hK=> ?_);go_simp;((go_at_call 202;(with_reducible refine(HPUT.out _ hHeld.2).mono ?_);rintro e w4 ⟨v4,rfl,n1,n2⟩;obtain⟨Ar,Cr,rfl,hcr⟩:=Ae n1;have HP4:=zh (zi ((SlT.cu n1).wider (zr HH.out.size hHeld.2.size)) hcr);have hN:Below W0.heap.size W0 w4:=hHeld.2.trans (n2.mono hHeld.2.size);have HN4:=zh hN;clear n1 n2 hcr));refine zk hK (by first|assumption|exact HK.out _ hN) (fun hHeld=> ?_);clear hK K)))
 refine NW.done ?_;have h4:=HH.out.since HN4.out;have a0:=h4.hall.cell 0;have a2:=h4.hall.cell 2;have b0:=h4.box.cell 0;obtain⟨b,o,rfl,_,d1,_⟩:=h4.queue hq;simp only[Ro,Ey,zI,zJ,zK] at a0 a2 b0;obtain⟨z1,z2,z3⟩:=HCELL.out [] w4 (by simp) (Ah.oqb HN4.out);have H4:=zh h4;have HB4:=zh (zi (HB.out.1.trans (BK.since HN4.out HH.out.size)) HB.out.2);clear h4 hHeld hN;by_cases hc:((Bt line x).length:Int)≤(Bz p q).bm
 ·have hcb:¬ (Bz p q).bm < ((Bt line x).length:Int):=by omega
  have HL:=zh (HLAY.out.1 hc);have HF:=zh (H4.out.rowSet (k:=q) rfl Ar Cr (Bt line x) HP4.out.1 HP4.out.2);clear hc
  go_wp2
  refine bodyPost_ret (v:= .tuple #[]) (by simp[results,Tryz.results178,go_sem]) rfl ?_;refine⟨rfl,wv,rows.set q ⟨Ar,Cr,Bt line x⟩,?_,HB4.out.1.trans (BK.of HF.out.2.2 HF.out.2.1)⟩;rw[HL.out,List.append_nil];exact HF.out.1
 ·have hcb:(Bz p q).bm < ((Bt line x).length:Int):=by omega
  obtain⟨y,rest,hyr⟩:∃y rest,Bt line x=y::rest:=by
   cases hpx:Bt line x with
   |nil=>have h:=HPL.out;rw[hpx] at h;simp at h
   |cons y r=>exact⟨y,r,rfl⟩
  have HL:=zh (HLAY.out.2 y rest (by omega) hyr);have HOK:=zh (hok y (by rw[hyr];exact List.mem_cons_self));obtain⟨hsl4,hcr⟩:=HP4.out;rw[hyr] at hsl4;obtain⟨rb,ro,rfl,hlrb,hitem⟩:=hsl4.head;obtain⟨i0,i1,i2,i3,i4⟩:=hitem [] w4 (by simp) (Ah.refl _ _);obtain⟨nl,hnl⟩:=zo ((Bt line x).length);rw[hnl] at hcr hcb⊢;have hnl1:1≤nl:=by rw[←hnl,hyr];exact Nat.succ_le_succ (Nat.zero_le _)
  have hnl0:(0:Int) < (nl:Int):=by omega
  have HTAIL:Hid (SlT w4 lo 113 (E6 (some ⟨rb,ro,none⟩) Cr 1 5) (rest.flatMap Ax)∧rest.length=nl - 1∧rest.length≤Cr - 1):=by
   have hl2:((y::rest).flatMap Ax).length=nl * 5:=by rw[Dd Cu,←hyr,hnl]
   have h:=hsl4.cut (k:=1) hl2 hnl1 hcr;have hd:((y::rest).flatMap Ax).drop (1 * 5)=rest.flatMap Ax:=by rw[List.flatMap_cons];rfl
   rw[hd] at h;have hl:rest.length=nl - 1:=by rw[←hnl,hyr];rfl
   exact⟨h,hl,by omega⟩
  obtain⟨X1,hX1⟩:=zo (w4.alloc (.cells (zY y) 113));have hi1:=zw hX1
  have hbx:=zu hX1
  have hcut:=Aia (some ⟨rb,ro,none⟩) nl Cr hnl1;have hx1:=H4.out.since hbx;have e0:X1.drew.cell? ⟨Hb,0,none⟩=some (zt g)∧X1.drew.cell? ⟨g,0,none⟩=some (.slice (some ⟨gr,0,none⟩) s.ready.length C1):=⟨hx1.hall.cell 0,hx1.box.cell 0⟩;obtain⟨t1,t2,t3⟩:=HCELL.out [] X1 (by simp) (Ah.oqb (HN4.out.trans (hbx.mono HN4.out.size)));have HTL:=zh (HTAIL.out.1.keep (Ah.oqb (ts:=[]) (hbx.trans (zb _ _).drew)) (by simp));have hset:=hx1.drew.rowSet (k:=q) rfl (E6 (some ⟨rb,ro,none⟩) Cr 1 5) (Cr - 1) rest HTL.out HTAIL.out.2.2;rw[HTAIL.out.2.1] at hset;have HY:Hid (Ec ((X1.setCell ⟨gr,q,none⟩ (.slice (E6 (some ⟨rb,ro,none⟩) Cr 1 5) (nl - 1) (Cr - 1))).drew) lo g Hb p p1 (some ⟨b,o,none⟩) p3 q1 q2 q3 (.slice (some ⟨gr,0,none⟩) s.ready.length C1) v2 v3 wv (rows.set q ⟨E6 (some ⟨rb,ro,none⟩) Cr 1 5,Cr - 1,rest⟩) { s with ready:=s.ready.set q rest } l∧Bk ((X1.setCell ⟨gr,q,none⟩ (.slice (E6 (some ⟨rb,ro,none⟩) Cr 1 5) (nl - 1) (Cr - 1))).drew) w4.heap.size 113 (zY y)∧BK lo w ((X1.setCell ⟨gr,q,none⟩ (.slice (E6 (some ⟨rb,ro,none⟩) Cr 1 5) (nl - 1) (Cr - 1))).drew)):=
   zh ⟨hset.1,hset.2.1 _ _ _ (by decide) hi1,(HB4.out.1.trans (BK.since hbx H4.out.size)).trans ((BK.since (zb _ _).drew (zr H4.out.size hbx.size)).trans (BK.of hset.2.2 hset.2.1))⟩
  have e1:((X1.setCell ⟨gr,q,none⟩ (.slice (E6 (some ⟨rb,ro,none⟩) Cr 1 5) (nl - 1) (Cr - 1))).drew).cell? ⟨Hb,0,none⟩=some (zt g)∧((X1.setCell ⟨gr,q,none⟩ (.slice (E6 (some ⟨rb,ro,none⟩) Cr 1 5) (nl - 1) (Cr - 1))).drew).cell? ⟨g,0,none⟩=some (.slice (some ⟨gr,0,none⟩) s.ready.length C1):=⟨HY.out.1.hall.cell 0,HY.out.1.box.cell 0⟩;have z4:X1.drew.cell? ⟨gr,q,none⟩=some (.slice ra line.length rc):=t1;clear hset hx1 hi1 hbx hsl4 hitem hc hok hyr hnl;go_wp2_with fail
  clear a0 a2 b0 d1 z1 z2 z3 i0 i1 i2 i3 i4;refine Kl [(0,false),(1,false),(2,false),(3,false),(4,false),(5,false),(6,false),(7,false),(8,false),(9,true),(10,false),(11,true)] (by kernel_rfl) (fun hOrd=> ?_);refine Rt (S:=(fun W=>zM W Hb 0 (zt g)∧zM W g 0 (.slice (some ⟨gr,0,none⟩) s.ready.length C1))) hOrd (by kernel_rfl) (by first|assumption|exact e0|exact e1) (fun hHeld=> ?_);clear hOrd
  iterate 12 ((first|(refine zT ?_)|(refine zL ?_)|(refine NW.call rfl (fun K hK=> ?_);go_simp;refine zk hK (by first|assumption|exact e0|exact e1) (fun hHeld=> ?_);clear hK K)))
  refine NW.done ?_;clear e0 e1 t1 t2 t3 z4 hHeld hcut;obtain⟨Y,hYY⟩:=zo ((X1.setCell ⟨gr,q,none⟩ (.slice (E6 (some ⟨rb,ro,none⟩) Cr 1 5) (nl - 1) (Cr - 1))).drew);rw[hYY] at HY;rw[hYY];clear hYY HTAIL HTL;obtain⟨i0,i1,i2,i3,i4⟩:=(⟨HY.out.2.1.cell 0,HY.out.2.1.cell 1,HY.out.2.1.cell 2,HY.out.2.1.cell 3,HY.out.2.1.cell 4⟩:zM Y w4.heap.size 0 (.int .i64 y.seq)∧zM Y w4.heap.size 1 (.string y.key)∧zM Y w4.heap.size 2 (.string y.body)∧zM Y w4.heap.size 3 (.bool y.again)∧zM Y w4.heap.size 4 (.int .i64 y.au));have HD:=zh (Amh lo g Hb p p1 (some ⟨b,o,none⟩) p3 q1 q2 q3 hr hs _ v2 v3 wv _ _ l q y Y HY.out.1 hq HOK.out.2 HOK.out.1 hl hdr);go_wp2_with fail
  refine HD.out.mono ?_;rintro e w5 ⟨rfl,wv5,h5,hb5⟩;have H5:=zh (zi h5 (HY.out.2.2.trans hb5));clear h5 hb5 i0 i1 i2 i3 i4
  go_wp2
  refine bodyPost_ret (v:= .tuple #[]) (by simp[results,Tryz.results178,go_sem]) rfl ?_;refine⟨rfl,wv5,rows.set q ⟨E6 (some ⟨rb,ro,none⟩) Cr 1 5,Cr - 1,rest⟩,?_,H5.out.2⟩;rw[HL.out];exact H5.out.1
theorem Afs(s:Aa)(l:List Aj):l.length≤wC (s,l):=by
 have h:∀l:List Aj,l.length≤(l.map wA).sum:=by
  intro l
  induction l with
  |nil=>simp
  |cons a l ih=>rw[List.map_cons,List.sum_cons,List.length_cons];unfold wA at *;omega
 have:=h l;unfold wC;simp only;omega
structure Akv (p:Ab) (s:Aa) (a:Aj) (k:Nat):Prop where
 kq:a.queue=(k:Int)
 kl:k < p.ag.length
 len:s.ready.length=p.ag.length
 sorted:(Ak s k).Pairwise fun x y=>x.seq < y.seq
 none:(Ak s k).any (fun y=>decide (y.seq=s.ah))=false
 short:(Ak s k).length≤100000
 ok:∀y∈Bt (Ak s k) (Co s a),y.key.size≤1048576∧0≤y.au∧y.au≤2
 dropped:0≤s.dropped∧s.dropped≤1048576
 ah:0≤s.ah
 aw:0≤s.aw∧s.aw≤1048576
theorem L6{y:Ao}(h:Bl y=true):y.key.size≤1048576∧0≤y.au∧y.au≤2:=by
 unfold Bl at h;simp only[zc,zd] at h;obtain⟨⟨⟨⟨⟨h1,h2⟩,h3⟩,h4⟩,h5⟩,h6⟩:=h;have:=Ry h1;omega
theorem Ani{p:Ab}{s:Aa}{a:Aj}(h:Bw p s)(hn:s.ah < 1048576)(ha:Ahm p a):∃k,Akv p s a k:=by
 obtain⟨k,hk⟩:=Int.eq_ofNat_of_zero_le ha.queue.1;have h2:=ha.queue.2;have hkl:k < p.ag.length:=by omega
 have hkr:((k:Int)).toNat < s.ready.length:=by rw[h.len];omega
 have hm:=N1 (s:=s) (q:=(k:Int)) hkr;have hf:=E7.1 (h.line _ hm);have hr:=Cp h.bz;have hlim:((Ak s k).length:Int)≤p.ag[k].bm:=by
  refine h.bm k _ _ ?_ (zG hkl);rw[Ev hkr,zG (by omega)];rfl
 have hq:=hr.queue _ (zg hkl);refine⟨k,hk,hkl,h.len,hf.2,?_,by omega,fun y hy=> ?_,count_in' h.dropped,(count_in' h.ah).1,count_in' h.aw⟩
 ·rw[List.any_eq_false]
  intro y hy;have:y.seq < s.ah:=h.below _ (by
   unfold Dh Dj;rw[List.mem_append]
   left
   rw[List.mem_flatMap];exact⟨_,hm,List.mem_map.2 ⟨y,hy,rfl⟩⟩)
  simp;omega
 ·rcases J7.1 hy with rfl|hy
  ·exact L6 (Anh h hn ha)
  ·exact L6 (hf.1 y hy)
theorem Oc(W:zW)(base:Nat)(v:Value)(xs ys:List Aj)(a:zZ)(c lo hi:Nat)(h:W.ownsRow base 142 4 v xs.length (xs.flatMap Bp))(hs:Sl W lo hi a (ys.flatMap Bp))(hn:xs.length+ys.length≤4294967296)(hb:base≤W.heap.size)(ty:TypeId):
  ∃v' w',(Builtin.append_ #[139,139] ty #[v,.slice a ys.length c]).run Tryz.prog W= .ok v' w'∧w'.ownsRow base 142 4 v' (xs++ys).length ((xs++ys).flatMap Bp)∧W.grownBy w' v.ownBlock:=by
 obtain⟨v',w',h1,h2,h3⟩:=Hk (P:=Tryz.prog) W base 139 ty 142 Tryz.underlying139 Ou rfl (by decide) (by decide) v xs.length (xs.flatMap Bp) h lo hi a ys.length c (ys.flatMap Bp) (Dd D4 _) hs (Wg ys) hn hb;exact⟨v',w',h1,by rw[ze,List.flatMap_append];exact h2,h3⟩
theorem Adi{W:zW}{lo g C:Nat}{L:List Aj}(h:W.ownsRow lo 142 4 (.slice (some ⟨g,0,none⟩) L.length C) L.length (L.flatMap Bp)){i:Nat}(hi:i < L.length):
  W.cell? ⟨g,i * 4,none⟩=some (.int .i64 L[i].queue)∧W.cell? ⟨g,i * 4+1,none⟩=some (.string L[i].key)∧W.cell? ⟨g,i * 4+2,none⟩=some (.string L[i].body)∧W.cell? ⟨g,i * 4+3,none⟩=some (.int .i64 L[i].au):=by
 refine⟨?_,?_,?_,?_⟩
 ·rw[h.cellAt _ (by omega)]
  exact(flat_get D4 _ i hi 0 (by decide)).trans rfl
 ·rw[h.cellAt _ (by omega)]
  exact(flat_get D4 _ i hi 1 (by decide)).trans rfl
 ·rw[h.cellAt _ (by omega)]
  exact(flat_get D4 _ i hi 2 (by decide)).trans rfl
 ·rw[h.cellAt _ (by omega)]
  exact(flat_get D4 _ i hi 3 (by decide)).trans rfl
def st1_T(Hb n:Nat)(t:Array Value):Array Value:=fj [[zt Hb,gd t 1,gd t 2,gd t 3,.int .i64 0,.int .i64 (n:Int)],fr t 6 70]
theorem Acx{Hb n:Nat}{t:Array Value}(h:t=(st1_T Hb n t)):∃u:Nat→Value,t= #[zt Hb,u 1,u 2,u 3,.int .i64 0,.int .i64 (n:Int),u 6,u 7,u 8,u 9,u 10,u 11,u 12,u 13,u 14,u 15,u 16,u 17,u 18,u 19,u 20,u 21,u 22,u 23,u 24,u 25,u 26,u 27,u 28,u 29,u 30,u 31,u 32,u 33,u 34,u 35,u 36,u 37,u 38,u 39,u 40,u 41,u 42,u 43,u 44,u 45,u 46,u 47,u 48,u 49,u 50,u 51,u 52,u 53,u 54,u 55,u 56,u 57,u 58,u 59,u 60,u 61,u 62,u 63,u 64,u 65,u 66,u 67,u 68,u 69,u 70,u 71,u 72,u 73,u 74,u 75]:=⟨fun i=>t.getD i undef,h⟩
noncomputable def Azu:Code:=It Tryz.f180 0
def StR(lo g Hb:Nat)(p:Ab)(p1 p2 p3:zZ)(q1 q2 q3:Nat)(v1 v2 v3:Value)(s:Aa)(l:List Aj)(w:zW)(n:Nat)(W:zW):Prop:=
 ∃(wv:Value)(rows:List Bm)(s1:Aa)(L:List Aj),Ec W lo g Hb p p1 p2 p3 q1 q2 q3 v1 v2 v3 wv rows s1 L∧Im p s l n (s1,L.drop n)∧n≤L.length∧BK lo w W
def Aoh(lo g Hb:Nat)(p:Ab)(p1 p2 p3:zZ)(q1 q2 q3:Nat)(v1 v2 v3:Value)(s:Aa)(l:List Aj)(w:zW)(a:Act)(wr:zW):Prop:=
 ∃(t:Array Value)(n:Nat),t=(st1_T Hb n t)∧StR lo g Hb p p1 p2 p3 q1 q2 q3 v1 v2 v3 s l w n wr∧a=⟨t,[]⟩
theorem Aql{p:Ab}{s1:Aa}{L new:List Aj}{n:Nat}{c:Aa×List Aj}{a:Aj}(hn:n < L.length)(ha:L[n]=a)(hc:Ei p (Fe s1) a.queue (Co s1 a)=c):Fv p (s1,L.drop n)=(c.1,(L++c.2).drop (n+1)):=by
 rw[List.drop_eq_getElem_cons hn,ha,List.drop_append_of_le_length (by omega)]
 show((Ei p (Fe s1) a.queue (Co s1 a)).1,L.drop (n+1)++(Ei p (Fe s1) a.queue (Co s1 a)).2)=_
 rw[hc]
theorem Aoi(lo g Hb:Nat)(p:Ab)(p1 p2 p3:zZ)(q1 q2 q3:Nat)(hr:B8 p)(hs:Ai p)(v1 v2 v3:Value)(s:Aa)(l:List Aj)(w:zW)(hsq:s.ah≤524288)(hw:wC (s,l)≤700)(Q0:Exit→Act→zW→Prop)
  (hend:∀(t:Array Value)(n:Nat)(W:zW),t=(st1_T Hb n t)→(∃wv rows s1 L,Ec W lo g Hb p p1 p2 p3 q1 q2 q3 v1 v2 v3 wv rows s1 L∧Im p s l n (s1,[])∧BK lo w W)→Q0 (.exit 0) ⟨t,[]⟩ W) (t:Array Value) (n:Nat) (W:zW) (ht:t=(st1_T Hb n t)) (hW:StR lo g Hb p p1 p2 p3 q1 q2 q3 v1 v2 v3 s l w n W):
  (Code.loop Azu).wp Tryz.prog Q0 ⟨t,[]⟩ W:=by
 refine wp_loop (Aoh lo g Hb p p1 p2 p3 q1 q2 q3 v1 v2 v3 s l w) (fun a _=>701 - (intOf (a.tmps.getD 5 undef)).toNat) ⟨t,n,ht,hW,rfl⟩ ?_;clear ht hW t n W;rintro a' wr ⟨t,n,ht,⟨wv,rows,s1,L,hH,hR,hnl,hB⟩,rfl⟩;obtain⟨u,rfl⟩:=Acx ht;clear ht;have HEND:=zh hend;clear hend;obtain⟨A0,C0,rfl,_⟩:=Ae hH.wait;have m4:=hH.hall.cell 4;simp only[Ro,zI,zJ,zK] at m4;have hn7:n≤700:=by have:=hR.less;omega
 have hL7:L.length≤1400:=by
  have h1:=hR.less;have h2:=Afs s1 (L.drop n);rw[List.length_drop] at h2;omega
 conv=>arg 2;whnf
 by_cases hlt:n < L.length
 ·have hj2:(n:Int) < (L.length:Int):=by omega
  obtain⟨gw,rfl⟩:=Fs hH.wait (by omega);obtain⟨e0,e1,e2,e3⟩:=Adi hH.wait hlt;have hsq1:s1.ah < 1048576:=by have:=hR.seq;simp only at this;omega
  have hwa:=hR.ok.wait L[n] (by rw[List.drop_eq_getElem_cons hlt];exact List.mem_cons_self);obtain⟨k,hpre⟩:∃k,Akv p s1 L[n] k:=Ani hR.ok.right hsq1 hwa;have HST:=zh (fun c hc=>Aql (p:=p) (s1:=s1) (L:=L) (n:=n) (new:=[]) (c:=c) hlt rfl hc);have HNX:Hid (Im p s l (n+1) (Fv p (s1,L.drop n))):=zh (by
   have h:=hR;rw[List.drop_eq_getElem_cons hlt] at h⊢;exact h.next hsq hw)
  generalize hLn:L[n]=a at *;clear hLn hwa;obtain⟨X1,hX1⟩:=zo (wr.alloc (.cells #[.int .i64 a.queue,.string a.key,.string a.body,.int .i64 a.au] 142));have hbx:=zw hX1
  have hal:=zu hX1
  have h1:=hH.since hal;obtain⟨X2,hX2⟩:=zo (X1.setCell ⟨g,3,none⟩ (.int .i64 (s1.ah+1)));obtain⟨h2,k2,b2⟩:=h1.num 3 (.int .i64 (s1.ah+1)) (s1.ah+1) s1.af s1.aw s1.ar s1.dropped rfl;rw[hX2] at h2 k2 b2;obtain⟨X3,hX3⟩:=zo (X2.setCell ⟨g,5,none⟩ (.int .i64 (s1.aw+1)));obtain⟨h3,k3,b3⟩:=h2.num 5 (.int .i64 (s1.aw+1)) (s1.ah+1) s1.af (s1.aw+1) s1.ar s1.dropped rfl;rw[hX3] at h3 k3 b3;have a1:=h1.hall.cell 0;have n1:=h1.box.cell 3;have f1:=h1.box.frozen 3;have l1:=h1.box.lt;have a2:=h2.hall.cell 0;have n2:=h2.box.cell 5;have f2:=h2.box.frozen 5;have l2:=h2.box.lt;have hb3:=(k2.trans k3) _ _ _ (by decide) hbx;have x0:=hb3.cell 0;have x1:=hb3.cell 1;have x2:=hb3.cell 2;have x3:=hb3.cell 3;simp only[Ro,Ey,zI,zJ,zK] at a1 n1 a2 n2 x0 x1 x2 x3;have hw1:IntKind.i64.wrap (s1.ah+1)=s1.ah+1:=IntWalk.i64_in _ (by have:=hpre.ah;omega);have hw2:IntKind.i64.wrap (s1.aw+1)=s1.aw+1:=IntWalk.i64_in _ (by have:=hpre.aw;omega);have hkq:=hpre.kq;rw[hkq] at x0;have HLAY:Hid (Calls Tryz.prog 178 #[zt Hb,.int .i64 (k:Int),.agg #[.int .i64 s1.ah,.string a.key,.string a.body,.bool false,.int .i64 a.au]] X3 (Amj lo g Hb p p1 p2 p3 q1 q2 q3 v1 v2 v3 (Ei p (Fe s1) k (Co s1 a)) L X3)):=zh
   (Amk lo g Hb p p1 p2 p3 q1 q2 q3 hr hs v1 v2 v3 _ rows (Fe s1) L k (Co s1 a) X3 h3 hpre.kl hpre.len hpre.sorted hpre.none hpre.short hpre.ok (by omega) hpre.dropped)
  have HSTEP:Hid (Fv p (s1,L.drop n)=((Ei p (Fe s1) k (Co s1 a)).1,(L++(Ei p (Fe s1) k (Co s1 a)).2).drop (n+1))):=zh (HST.out _ (by rw[hkq]));have HB:=zh ((hB.trans (BK.since hal hH.size)).trans ((BK.of b2 k2).trans (BK.of b3 k3)));have HR:Hid (∀t:Array Value,∀(n':Nat),n'=n+1→t=fj [[zt Hb,gd t 1,gd t 2,gd t 3,.int .i64 0,.int .i64 (n':Int)],fr t 6 70]→∀W,StR lo g Hb p p1 p2 p3 q1 q2 q3 v1 v2 v3 s l w (n+1) W→Aoh lo g Hb p p1 p2 p3 q1 q2 q3 v1 v2 v3 s l w ⟨t,[]⟩ W):=
   zh fun t n' hn' ht W hW=>⟨t,n',ht,by rw[hn'];exact hW,rfl⟩
  clear hpre hH hR hB hal h1 h2 k2 b2 h3 k3 b3 hb3 hbx HST hkq hsq1;go_wp2_with fail
  refine HLAY.out.mono ?_;rintro e w5 ⟨rfl,wv5,rows5,h5,b5⟩;have HN:Hid (StR lo g Hb p p1 p2 p3 q1 q2 q3 v1 v2 v3 s l w (n+1) w5):=zh (by
   refine⟨wv5,rows5,_,_,h5,?_,?_,HB.out.trans b5⟩
   ·rw[←HSTEP.out]
    exact HNX.out
   ·rw[ze];omega)
  clear h5 b5 m4 e0 e1 e2 e3 a1 n1 f1 l1 a2 n2 f2 l2 x0 x1 x2 x3
  go_wp2
  exact⟨HR.out _ _ rfl rfl _ HN.out,by simp[intOf];omega⟩
 ·have hj3:¬ (n:Int) < (L.length:Int):=by omega
  have HF:Hid (∃wv rows s1 L,Ec wr lo g Hb p p1 p2 p3 q1 q2 q3 v1 v2 v3 wv rows s1 L∧Im p s l n (s1,[])∧BK lo w wr):=zh ⟨_,rows,s1,L,hH,by rw[List.drop_of_length_le (by omega)] at hR;exact hR,hB⟩;clear hH hR hB
  go_wp2
  exact HEND.out _ n _ rfl HF.out
def Abj(lo g Hb:Nat)(p:Ab)(p1 p2 p3:zZ)(q1 q2 q3:Nat)(v1 v2 v3:Value)(s:Aa)(l:List Aj)(w:zW)(e:Ending)(W:zW):Prop:=
 e= .returned (.int .i64 ((Dv p s l).ah - s.ah))∧∃wv rows,Ec W lo g Hb p p1 p2 p3 q1 q2 q3 v1 v2 v3 wv rows (Dv p s l) []∧BK lo w W
theorem Aky(lo g Hb:Nat)(p:Ab)(p1 p2 p3:zZ)(q1 q2 q3:Nat)(hr:B8 p)(hs:Ai p)(v1 v2 v3 wv:Value)(rows:List Bm)(s:Aa)(l:List Aj)(al:zZ)(cl:Nat)(w:zW)(H:Ec w lo g Hb p p1 p2 p3 q1 q2 q3 v1 v2 v3 wv rows s [])(hal:Sl w 0 w.heap.size al (l.flatMap Bp))(hok:O4 p (s,l))(hsq:s.ah≤524288)(hw:wC (s,l)≤700):
  Calls Tryz.prog 180 #[zt Hb,.slice al l.length cl] w (Abj lo g Hb p p1 p2 p3 q1 q2 q3 v1 v2 v3 s l w):=by
 have hll:=Afs s l;obtain⟨A0,C0,rfl,_⟩:=Ae H.wait;obtain⟨v6,W6,hr6,ho6,hg6⟩:=Oc w lo _ [] l al cl 0 w.heap.size H.wait hal (by simp;omega) H.size 139;have a4:=H.hall.cell 4;simp only[Ro,zI,zJ,zK] at a4;have k6:Ah [142] w W6:=Ah.grown H.wait hg6 (by simp);have hh6:=k6 _ _ _ (by decide) H.hall;have y4:=hh6.cell 4;have f4:=hh6.frozen 4;have l4:=hh6.lt;simp only[Ro,zI,zJ,zK] at y4;obtain⟨A6,C6,rfl,_⟩:=Ae ho6;obtain⟨W7,hW7⟩:=zo (W6.setCell ⟨Hb,4,none⟩ (.slice A6 l.length C6));obtain⟨h7,k7,b7⟩:=H.waits (l':=l) (wv':= .slice A6 l.length C6) (ts:=[]) k6 (Br H.wait hg6 (zb _ _) (zn _) H.size) ho6;rw[hW7] at h7 k7 b7;have HR6:=zh hr6;have H7:=zh (zi h7 (BK.of b7 k7));have HOK:=zh hok;clear hr6 ho6 hg6 k6 hh6 h7 k7 b7 H hal hok;go_enter Tryz.func180,Tryz.ntmps180
 go_wp2_with (at_builtin;refine Lib.wpList_append_run _ rfl _ _ _ _ rfl _ _ rfl rfl _ _ HR6.out ?_)
 refine Aoi lo g Hb p p1 p2 p3 q1 q2 q3 hr hs v1 v2 v3 s l w hsq hw _ ?_ _ 0 W7 rfl ⟨_,rows,s,l,H7.out.1,Im.start HOK.out,Nat.zero_le _,H7.out.2⟩;rintro t n W ht ⟨wv',rows',s1,L,hH,hR,hB⟩;obtain⟨u,rfl⟩:=Acx ht;obtain⟨e1,e2⟩:=hR.end_ hw;have hhall:=hH.hall;have c4:=hhall.cell 4;have g4:=hhall.frozen 4;have m4:=hhall.lt;obtain⟨A8,C8,rfl,_⟩:=Ae hH.wait;simp only[Ro,zI,zJ,zK] at c4;obtain⟨h9,k9,b9⟩:=hH.waits (l':=[]) (wv':= .slice none 0 0) (ts:=[]) (Ah.refl _ _) (zb _ _) (World.ownsRow_nil _ _ _ _);have HF:Hid (s1=Dv p s l∧(n:Int)=(Dv p s l).ah - s.ah∧Ec (W.setCell ⟨Hb,4,none⟩ (.slice none 0 0)) lo g Hb p p1 p2 p3 q1 q2 q3 v1 v2 v3 (.slice none 0 0) rows' s1 []∧BK lo w (W.setCell ⟨Hb,4,none⟩ (.slice none 0 0))):=zh ⟨e1.symm,by rw[e1];exact e2,h9,hB.trans (BK.of b9 k9)⟩;clear ht hH hR hB hhall h9 k9 b9 e1 e2
 go_wp2
 go_ret
 refine⟨by rw[HF.out.2.1];rfl,.slice none 0 0,rows',?_,HF.out.2.2.2⟩;rw[←HF.out.1];exact HF.out.2.2.1
theorem Qx{s s':Aa}{q q':Int}{r:List Ao}(h:s'.ready=s.ready.set q.toNat r)(hq:q.toNat < s.ready.length):Ak s' q'=if q'.toNat=q.toNat then r else Ak s q':=by
 unfold Ak;rw[h,List.getElem?_set];by_cases e:q'.toNat=q.toNat
 ·rw[zp e,zp e.symm,zp hq]
  rfl
 ·rw[zq e,zq (fun h=>e h.symm)]
theorem T7{p:Ab}{s:Aa}(h:Bw p s)(q:Int):∀y∈Ak s q,y.seq < s.ah:=fun y hy=>by
 refine h.below _ ?_;unfold Dh Dj;rw[List.mem_append]
 left
 rw[List.mem_flatMap];refine⟨Ak s q,?_,List.mem_map.2 ⟨y,hy,rfl⟩⟩;by_cases hq:q.toNat < s.ready.length
 ·exact N1 hq
 ·exfalso
  unfold Ak at hy;rw[List.getElem?_eq_none (by omega)] at hy
  cases hy
def Mg(b:Int)(old now:List Ao):Prop:=∃k new,now=old.drop k++new∧∀y∈new,b≤y.seq
theorem Mg.refl(b:Int)(l:List Ao):Mg b l l:=⟨0,[],by simp,fun y hy=>(by cases hy)⟩
theorem Mg.push{b:Int}{old now:List Ao}{x:Ao}(h:Mg b old now)(hx:b≤x.seq):Mg b old (now++[x]):=by
 obtain⟨k,new,rfl,hn⟩:=h;refine⟨k,new++[x],by rw[List.append_assoc],fun y hy=> ?_⟩;rcases List.mem_append.1 hy with hy|hy
 ·exact hn y hy
 ·rw[List.mem_singleton.1 hy];exact hx
theorem Mg.drop{b:Int}{old now:List Ao}(h:Mg b old now):Mg b old (now.drop 1):=by
 obtain⟨k,new,rfl,hn⟩:=h;by_cases hk:k < old.length
 ·refine⟨k+1,new,?_,hn⟩
  have h1:1≤(old.drop k).length:=by rw[List.length_drop];omega
  rw[List.drop_append_of_le_length h1,List.drop_drop]
 ·have e:old.drop k=[]:=List.drop_eq_nil_of_le (by omega)
  refine⟨k,new.drop 1,by rw[e];rfl,fun y hy=>hn y (List.mem_of_mem_drop hy)⟩
structure Kept (s:Aa) (l:List Aj) (n:Nat) (c:Aa×List Aj):Prop where
 outs:c.1.outs=s.outs
 ae:c.1.ae=s.ae
 ar:c.1.ar=s.ar
 tag:c.1.af=s.af
 dropped:s.dropped≤c.1.dropped
 len:c.1.ready.length=s.ready.length
 more:l.length≤n+c.2.length
 tail:∀q:Int,Mg s.ah (Ak s q) (Ak c.1 q)
theorem Kept.start(s:Aa)(l:List Aj):Kept s l 0 (s,l):=⟨rfl,rfl,rfl,rfl,Int.le_refl _,rfl,by simp,fun q=> .refl _ _⟩
theorem Kept.next{p:Ab}{s s1:Aa}{l l1:List Aj}{a:Aj}{n:Nat}(h:Kept s l n (s1,a::l1))(hr:Im p s l n (s1,a::l1)):Kept s l (n+1) (Fv p (s1,a::l1)):=by
 have hq:=hr.ok.wait a List.mem_cons_self;have hseq:=hr.seq;simp only at hseq;have hR:Bw p s1:=hr.ok.right;have hql:a.queue.toNat < s1.ready.length:=by have:=hR.len;have:=hq.queue;omega
 have hpush:Bt (Ak (Fe s1) a.queue) (Co s1 a)=Ak s1 a.queue++[Co s1 a]:=Vn fun y hy=>T7 hR a.queue y hy;have hx:s.ah≤(Co s1 a).seq:=by show s.ah≤s1.ah;omega
 have hm:=h.more;simp only[List.length_cons] at hm;have hT:=h.tail a.queue;simp only at hT;simp only[Fv];unfold Ei;rw[hpush]
 split
 ·refine⟨h.outs,h.ae,h.ar,h.tag,h.dropped,?_,?_,fun q=> ?_⟩
  ·simp only[List.length_set];exact h.len
  ·simp only[List.append_nil];omega
  ·conv=>arg 3;rw[Qx (s:=s1) (q:=a.queue) rfl hql]
   split
   ·rename_i e
    have:Ak s q=Ak s a.queue:=by unfold Ak;rw[e]
    rw[this];exact hT.push hx
   ·exact h.tail q
 ·refine⟨h.outs,h.ae,h.ar,h.tag,?_,?_,?_,fun q=> ?_⟩
  ·have:=h.dropped
   simp only[Fe] at this⊢;omega
  ·simp only[List.length_set];exact h.len
  ·simp only[ze];omega
  ·conv=>arg 3;rw[Qx (s:=s1) (q:=a.queue) rfl hql]
   split
   ·rename_i e
    have:Ak s q=Ak s a.queue:=by unfold Ak;rw[e]
    rw[this];exact(hT.push hx).drop
   ·exact h.tail q
theorem Sv{p:Ab}{s:Aa}{l:List Aj}(hs:s.ah≤524288)(hw:wC (s,l)≤700):∀(m n:Nat)(c:Aa×List Aj),wC c≤m→Im p s l n c→Kept s l n c→∃n s1,Im p s l n (s1,[])∧Kept s l n (s1,[])
 |m,n,(s1,[]),_,h,hk=>⟨n,s1,h,hk⟩
 |0,n,(s1,a::l1),hm,h,hk=>by
  exfalso
  unfold wC wA at hm;simp only[List.map_cons,List.sum_cons] at hm;omega
 |m+1,n,(s1,a::l1),hm,h,hk=>by
  have h1:=h.next hs hw;have h2:=(Acy h.ok (by have h8:=h.seq;have h9:=h.less;simp only at h8;omega)).2;exact Sv hs hw m (n+1) _ (by omega) h1 (hk.next h)
theorem Ada{p:Ab}{s:Aa}{l:List Aj}(h:Bh p s l=0):∃n:Nat,E3 p s l=(n:Int)∧Im p s l n (Cy p s l,[])∧Kept s l n (Cy p s l,[]):=by
 obtain⟨h1,h2,h3⟩:=Oj h;have hw:=Aj5 h1.right h2;obtain⟨n,s1,h4,h5⟩:=Sv h3 hw _ 0 _ (zn _) (.start h1) (.start s l);obtain⟨h6,h7⟩:=h4.end_ hw;have e:Cy p s l=s1:=by unfold Cy;rw[zp h,h6]
 rw[e];exact⟨n,by unfold E3;rw[zp h,h6];omega,h4,h5⟩
end Go.Proofs.YtpkneogjdfolaaaGreatDoor
