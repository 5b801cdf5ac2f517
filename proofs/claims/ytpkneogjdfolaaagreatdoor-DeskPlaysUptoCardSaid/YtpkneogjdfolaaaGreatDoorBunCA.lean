/- Lemmas. -/
import Derived.Deep.RegionLaw
import Derived.ArgAppend
import Derived.Test.YtpkneogjdfolaaaGreatDoorBunS
import Derived.Test.YtpkneogjdfolaaaGreatDoorBunJ
set_option maxHeartbeats 20000000
set_option maxRecDepth 100000
set_option linter.unusedSimpArgs false
set_option linter.unusedVariables false
namespace Go.Proofs.YtpkneogjdfolaaaGreatDoor
open Go.RowKit
theorem Adn(g:Nat)(lb:Array Value)(eg:∀args w,(callFunc g args).run Tryz.prog w= .ok (.enter g args) w)(p:D8→Bool)(xs:List D8)(a:zZ)(c lo:Nat)(w:zW)
  (hp:∀x∈xs,∀W,Below w.heap.size w W→Calls Tryz.prog g (#[.agg (D6 x).toArray]++lb) W fun e W'=>e= .returned (.bool (p x))∧Below W.heap.size W W')
  (hx:Sl w lo w.heap.size a (xs.flatMap (D6))) (hl:xs.length≤4294967296):
  Calls Tryz.prog 181 #[.slice a xs.length c,.func (.func g) #[] lb] w fun e w'=>e= .returned (.int .i64 (idxOf p xs))∧Below w.heap.size w w':=by
 have HX:=zh hx;clear hx
 have HP:=zh hp;clear hp
 go_enter Tryz.func181,Tryz.ntmps181
 go_wp2_with fail
 go_loopw [8] (fun i wr=>Ky p xs w.heap.size w i wr) (fun i _=>xs.length - (intOf i).toNat)
 case atStart=>exact⟨0,by omega,rfl,zb _ _,fun j x hj=>absurd hj (by omega)⟩
 case round=>
  obtain⟨k,hk,rfl,hB,hall⟩:=hrel;have HA:=zh hall;clear hall
  by_cases hlt:k < xs.length
  ·obtain⟨b,o,rfl,_,hb,hc⟩:=Bf (enc:=D6) (size:=8) (fun _=>rfl) (by decide) HX.out hlt
   obtain⟨e0,e1,e2,e3,e4,e5,e6,e7⟩:=Gd (wr:=wr) (b:=b) (o:=o) (k:=k) (x:=xs[k]) fun j u hu=>(hB.cell (p:=⟨b,_,none⟩) hb).trans (hc j u hu);have HPk:=zh (HP.out xs[k] (zg hlt) wr hB);have HB:=zh hB;clear hc hB
   cases hq:p xs[k]
   ·have HQ:=zh hq;clear hq
    go_wp2_with fail
    refine HPk.out.mono ?_;rw[HQ.out];rintro e w1 ⟨rfl,hb1⟩;have H1:=zm HB hb1;clear hb1
    go_wp2_with fail
    exact⟨E0 HA.out hlt HQ.out H1.out,by simp[intOf];omega⟩
   ·have HQ:=zh (idxOf_hit HA.out hlt hq)
    have HQ2:=zh hq;clear hq
    go_wp2_with fail
    refine HPk.out.mono ?_;rw[HQ2.out];rintro e w1 ⟨rfl,hb1⟩;have H1:=zm HB hb1;clear hb1
    go_wp2_with fail
    go_ret
    exact⟨by rw[HQ.out];rfl,H1.out⟩
  ·have HQ:=zh (idxOf_miss HA.out (by omega))
   go_wp2_with fail
   go_ret
   exact⟨by rw[HQ.out];rfl,hB⟩
def Kn(s:Aa)(tag:Int):Option Nat:=s.outs.findIdx? fun x=>decide (x.tag=tag)
def A08:D8:=⟨0,0,0,⟨0,⟨#[]⟩,⟨#[]⟩,false,0⟩⟩
def Jm(s:Aa)(k:Nat):D8:=(s.outs[k]?).getD A08
def As(s:Aa)(k:Nat):Aa:= { s with outs:=s.outs.eraseIdx k }
def Df(p:Ab)(s:Aa)(tag:Int):Int:=if Am p s≠0 then Am p s else if Kn s tag=none then 5 else 0
def Gy(p:Ab)(s:Aa)(tag:Int):Aa:=if Df p s tag=0 then { As s ((Kn s tag).getD 0) with ar:=s.ar+1 } else Bd
def Fb(x:Ao):Ao:= { x with again:=true }
def Eh(p:Ab)(s:Aa)(k:Nat)(x:D8)(back:Bool):Aa×List Aj:=
 if back=true then Ei p (As s k) x.queue (Fb x.item) else ({ As s k with dropped:=s.dropped+1 },Fa p x.queue x.item)
def Ki(p:Ab)(s:Aa)(k:Nat)(x:D8)(back:Bool):Aa:=Dv p (Eh p s k x back).1 (Eh p s k x back).2
def Az(p:Ab)(s:Aa)(tag:Int):Int:=if Am p s≠0 then Am p s else if Kn s tag=none then 5 else if 524288 < s.ah then 2 else 0
def Cb(p:Ab)(s:Aa)(tag:Int)(back:Bool):Aa:=if Az p s tag=0 then Ki p s ((Kn s tag).getD 0) (Jm s ((Kn s tag).getD 0)) back else Bd
def Ib(p:Ab)(t:Int):List D8→Aa→Aa×Int
 | [],c=>(c,0)
 |x::l,c=>if x.bg=t then (if Az p c x.tag=0 then Ib p t l (Cb p c x.tag true) else (Bd,Az p c x.tag)) else Ib p t l c
def Ni(s:Aa)(t:Int):Cf:=(s.ae[t.toNat]?).getD ⟨-1,1⟩
def Ij(s:Aa)(t:Int):Prop:=t < 0∨(s.ae.length:Int)≤t∨(Ni s t).queue < 0
instance (s:Aa) (t:Int):Decidable (Ij s t):=by unfold Ij;infer_instance
def Bv(p:Ab)(s:Aa)(t:Int):Int:=if Am p s≠0 then Am p s else if Ij s t then 5 else (Ib p t s.outs s).2
def Qv(s:Aa)(t:Int)(c:Aa):Aa:= { c with ae:=s.ae.set t.toNat ⟨-1,(Ni s t).cf⟩ }
def De(p:Ab)(s:Aa)(t:Int):Aa:=if Bv p s t=0 then Qv s t (Ib p t s.outs s).1 else Bd
theorem Ju{s:Aa}{tag:Int}{k:Nat}(h:Kn s tag=some k):∃hk:k < s.outs.length,s.outs[k].tag=tag∧∀j (hj:j < k),s.outs[j].tag≠tag:=by
 unfold Kn at h;rw[List.findIdx?_eq_some_iff_getElem] at h;obtain⟨h1,h2,h3⟩:=h;exact⟨h1,by simpa using h2,fun j hj=>by simpa using h3 j hj⟩
theorem Ae4{s:Aa}{tag:Int}(h:Kn s tag=none):∀x∈s.outs,x.tag≠tag:=by
 unfold Kn at h;rw[List.findIdx?_eq_none_iff] at h;intro x hx;simpa using h x hx
theorem Ag5{s:Aa}{tag:Int}{k:Nat}(hk:k < s.outs.length)(h1:s.outs[k].tag=tag)(h2:∀j (hj:j < k),s.outs[j].tag≠tag):Kn s tag=some k:=by
 unfold Kn;rw[List.findIdx?_eq_some_iff_getElem];exact⟨hk,by simpa using h1,fun j hj=>by simpa using h2 j hj⟩
theorem Km{s:Aa}{k:Nat}(hk:k < s.outs.length):Jm s k=s.outs[k]:=by
 unfold Jm;rw[zG hk];rfl
theorem Aby:∀(l:List D8)(k:Nat)(hk:k < l.length),(l[k]::l.eraseIdx k).Perm l
 |x::l,0,_=> .refl _
 |x::l,k+1,h=>(List.Perm.swap x _ _).trans ((Aby l k (by simpa using h)).cons x)
theorem Rl{p:Ab}{s:Aa}(h:Bw p s){k:Nat}(hk:k < s.outs.length):Aro p (As s k)∧s.outs[k].item.seq∉Dh (As s k)∧s.outs[k].item.seq < s.ah:=by
 have hsub:(s.outs.eraseIdx k).Sublist s.outs:=List.eraseIdx_sublist _ _;have hss:(Dh (As s k)).Sublist (Dh s):=(hsub.map _).append_left _;have hperm:(Dh s).Perm (s.outs[k].item.seq::Dh (As s k)):=by
  have h1:=((Aby s.outs k hk).map fun x:D8=>x.item.seq).symm;rw[List.map_cons] at h1;exact(h1.append_left (Dj s.ready)).trans List.perm_middle
 have hnd:=hperm.nodup_iff.1 h.nodup;refine⟨?_,(List.nodup_cons.1 hnd).1,h.below _ (hperm.mem_iff.2 List.mem_cons_self)⟩;refine { len:=h.len,ah:=h.ah,af:=h.af,aw:=h.aw,ar:=h.ar,dropped:=h.dropped,line:=h.line,bg:=h.bg,out:=fun y hy=>h.out y (hsub.subset hy),order:=h.order.sublist hsub,nodup:=h.nodup.sublist hss,below:=fun n hn=>h.below n (hss.subset hn),bm:=h.bm,held:=fun i t ht=> ?_,bz:=h.bz,many:=h.many,sum:= ?_,same:=h.same }
 ·have h1:=h.held i t ht
  have h2:Ck (As s k) i≤Ck s i:=hsub.countP_le;omega
 ·have h1:=h.sum
  have h2:(As s k).outs.length=s.outs.length - 1:=List.length_eraseIdx_of_lt hk
  show s.aw=((E8 s:Nat):Int)+1+(((As s k).outs.length:Nat):Int)+s.ar+s.dropped
  omega
theorem Rf{p:Ab}{s:Aa}(h:Bw p s):s.outs.length≤1048576:=by
 have h1:=count_in' h.aw;have h2:=count_in' h.ar;have h3:=count_in' h.dropped;have h4:=h.sum;omega
theorem Alw{p:Ab}{s:Aa}(h:Aro p s):Bw p { s with ar:=s.ar+1 } :=by
 have h1:=count_in' h.aw;have h2:=count_in' h.ar;have h3:=count_in' h.dropped;have h4:=h.sum;refine { len:=h.len,ah:=h.ah,af:=h.af,aw:=h.aw,ar:= ?_,dropped:=h.dropped,line:=h.line,bg:=h.bg,out:=h.out,order:=h.order,nodup:=h.nodup,below:=h.below,bm:=h.bm,held:=h.held,bz:=h.bz,many:=h.many,sum:= ?_,same:=h.same }
 ·unfold countB
  simp only[zc,zd];omega
 ·show s.aw=((E8 s:Nat):Int)+((s.outs.length:Nat):Int)+(s.ar+1)+s.dropped
  omega
theorem Ag2{p:Ab}{s:Aa}(h:Aro p s):Bw p { s with dropped:=s.dropped+1 } :=by
 have h1:=count_in' h.aw;have h2:=count_in' h.ar;have h3:=count_in' h.dropped;have h4:=h.sum;refine { len:=h.len,ah:=h.ah,af:=h.af,aw:=h.aw,ar:=h.ar,dropped:= ?_,line:=h.line,bg:=h.bg,out:=h.out,order:=h.order,nodup:=h.nodup,below:=h.below,bm:=h.bm,held:=h.held,bz:=h.bz,many:=h.many,sum:= ?_,same:=h.same }
 ·unfold countB
  simp only[zc,zd];omega
 ·show s.aw=((E8 s:Nat):Int)+((s.outs.length:Nat):Int)+s.ar+(s.dropped+1)
  omega
theorem Q6{p:Ab}{s:Aa}(h:Bw p s){k:Nat}(hk:k < s.outs.length):Bl s.outs[k].item=true∧0≤s.outs[k].queue∧s.outs[k].queue < (p.ag.length:Int)∧s.outs[k].tag < s.af:=by
 obtain⟨t,ht,h0,h1,h2,h3,h4,h5,h6⟩:=Pn h.toFormed (zg hk);have:=Ma h ht;exact⟨h6,by omega,by omega,h3⟩
theorem Abm{x:Ao}(h:Bl x=true):Bl (Fb x)=true:=h
theorem Ar6(x:Ao):wI (Fb x)=wI x:=rfl
theorem A1c(x:Ao):wI x≤20:=by unfold wI;split<;>(try split)<;>omega
theorem Aln(p:Ab)(s:Aa)(q:Int)(x:Ao):(Ei p s q x).1.outs=s.outs∧(Ei p s q x).1.ae=s.ae∧(Ei p s q x).1.ar=s.ar∧(Ei p s q x).1.af=s.af∧(Ei p s q x).1.ah=s.ah∧(Ei p s q x).1.aw=s.aw∧s.dropped≤(Ei p s q x).1.dropped∧(Ei p s q x).1.ready.length=s.ready.length:=by
 unfold Ei
 split
 ·exact⟨rfl,rfl,rfl,rfl,rfl,rfl,Int.le_refl _,by simp⟩
 ·exact⟨rfl,rfl,rfl,rfl,rfl,rfl,by show s.dropped≤s.dropped+1;omega,by simp⟩
structure A1n (p:Ab) (s:Aa) (k:Nat) (c:Aa×List Aj):Prop where
 hall:O4 p c
 less:wC c≤500
 outs:c.1.outs=s.outs.eraseIdx k
 ae:c.1.ae=s.ae
 ar:c.1.ar=s.ar
 tag:c.1.af=s.af
 seq:c.1.ah=s.ah
 aw:c.1.aw=s.aw
 dropped:s.dropped≤c.1.dropped
 len:c.1.ready.length=s.ready.length
theorem Acn{p:Ab}{s:Aa}(h:Bw p s){k:Nat}(hk:k < s.outs.length)(back:Bool):A1n p s k (Eh p s k s.outs[k] back):=by
 obtain⟨h1,h2,h3⟩:=Rl h hk;obtain⟨f1,f2,f3,f4⟩:=Q6 h hk;have hw:=Ayd h;have hwi:=A1c s.outs[k].item;unfold Eh
 cases back with
 |true=>
  rw[zp rfl];obtain⟨l1,l2,l3⟩:=Aeq h1 ⟨f2,f3⟩ (Abm f1) (show(Fb s.outs[k].item).seq < (As s k).ah from h3) h2;rw[Ar6] at l3;have e:wS (As s k)=wS s:=rfl;obtain⟨k1,k2,k3,k4,k5,k6,k7,k8⟩:=Aln p (As s k) s.outs[k].queue (Fb s.outs[k].item);exact⟨⟨l1,l2⟩,by omega,k1,k2,k3,k4,k5,k6,k7,k8⟩
 |false=>
  rw[zq (by decide)];obtain⟨d1,d2⟩:=Aii (Cp h.bz) ⟨f2,f3⟩ f1;refine⟨⟨Ag2 h1,d1⟩,?_,rfl,rfl,rfl,rfl,rfl,rfl,by show s.dropped≤s.dropped+1;omega,rfl⟩;have e:wS (As s k)=wS s:=rfl;unfold wC
  show wS (As s k)+((Fa p s.outs[k].queue s.outs[k].item).map wA).sum≤500
  omega
structure Art (p:Ab) (s:Aa) (k:Nat) (x:Aa):Prop where
 right:Bw p x
 outs:x.outs=s.outs.eraseIdx k
 ae:x.ae=s.ae
 ar:x.ar=s.ar
 tag:x.af=s.af
 seq:s.ah≤x.ah
 aw:s.aw≤x.aw
 dropped:s.dropped≤x.dropped
 len:x.ready.length=s.ready.length
theorem Aui{p:Ab}{s:Aa}(h:Bw p s){k:Nat}(hk:k < s.outs.length)(hs:s.ah≤524288)(back:Bool):Art p s k (Ki p s k s.outs[k] back):=by
 have hc:=Acn h hk back;unfold Ki;generalize Eh p s k s.outs[k] back=c at *;obtain⟨c1,c2⟩:=c;have hs1:c1.ah≤524288:=by have:=hc.seq;simp only at this;omega
 have hw1:wC (c1,c2)≤700:=by have:=hc.less;omega
 obtain⟨n,s1,h4,h5⟩:=Sv hs1 hw1 _ 0 _ (zn _) (.start hc.hall) (.start c1 c2);obtain⟨h6,h7⟩:=h4.end_ hw1
 show Art p s k (Dv p c1 c2)
 rw[h6];have hr:Bw p s1:=h4.ok.right;have hq:=h4.seq;have e1:=hc.seq;have e2:=h5.dropped;have e3:=hc.dropped;have e4:=hr.same;have e5:=h.same;simp only at hq e1 e2 e3;refine⟨hr,h5.outs.trans hc.outs,h5.ae.trans hc.ae,h5.ar.trans hc.ar,h5.tag.trans hc.tag,by omega,by omega,by omega,h5.len.trans hc.len⟩
theorem Adh{p:Ab}{s:Aa}{tag:Int} :Df p s tag=0↔Bw p s∧∃k,Kn s tag=some k:=by
 unfold Df;rw[←Cv]
 split
 ·rename_i h;exact⟨fun e=>absurd e h,fun e=>absurd e.1 h⟩
 ·rename_i h
  split
  ·rename_i h1
   exact⟨fun e=>(by cases e),fun e=>(by obtain⟨_,k,hk⟩:=e;rw[hk] at h1;cases h1)⟩
  ·rename_i h1
   exact⟨fun _=>⟨Decidable.not_not.1 h,Option.ne_none_iff_exists'.1 h1⟩,fun _=>rfl⟩
theorem Ol{p:Ab}{s:Aa}{tag:Int} :Az p s tag=0↔Bw p s∧(∃k,Kn s tag=some k)∧s.ah≤524288:=by
 unfold Az;rw[←Cv]
 split
 ·rename_i h;exact⟨fun e=>absurd e h,fun e=>absurd e.1 h⟩
 ·rename_i h
  split
  ·rename_i h1
   exact⟨fun e=>(by cases e),fun e=>(by obtain⟨_,⟨k,hk⟩,_⟩:=e;rw[hk] at h1;cases h1)⟩
  ·rename_i h1
   split
   ·rename_i h2
    exact⟨fun e=>(by cases e),fun e=>(by have:=e.2.2;omega)⟩
   ·rename_i h2
    exact⟨fun _=>⟨Decidable.not_not.1 h,Option.ne_none_iff_exists'.1 h1,by omega⟩,fun _=>rfl⟩
theorem Sa{p:Ab}{s:Aa}{tag:Int}{k:Nat}(h:Bw p s)(hk:Kn s tag=some k):Df p s tag=0∧Gy p s tag= { As s k with ar:=s.ar+1 } ∧Bw p (Gy p s tag):=by
 have e:=Adh.2 ⟨h,k,hk⟩;have e2:Gy p s tag= { As s k with ar:=s.ar+1 } :=by unfold Gy;rw[zp e,hk];rfl
 obtain⟨hl,_⟩:=Ju hk;refine⟨e,e2,?_⟩;rw[e2];exact Alw (Rl h hl).1
theorem Ku{p:Ab}{s:Aa}{tag:Int}{k:Nat}(h:Bw p s)(hk:Kn s tag=some k)(hs:s.ah≤524288)(back:Bool):Az p s tag=0∧Cb p s tag back=Ki p s k (Jm s k) back∧Art p s k (Cb p s tag back):=by
 have e:=Ol.2 ⟨h,⟨k,hk⟩,hs⟩;have e2:Cb p s tag back=Ki p s k (Jm s k) back:=by unfold Cb;rw[zp e,hk];rfl
 obtain⟨hl,_⟩:=Ju hk;refine⟨e,e2,?_⟩;rw[e2,Km hl];exact Aui h hl hs back
structure Fo (p:Ab) (s:Aa) (t:Int) (i:Nat) (c:Aa):Prop where
 right:Bw p c
 go:Ib p t s.outs s=Ib p t (s.outs.drop i) c
 ae:c.ae=s.ae
 ar:c.ar=s.ar
 tag:c.af=s.af
 len:c.ready.length=s.ready.length
 aw:s.aw≤c.aw
 dropped:s.dropped≤c.dropped
 outs:c.outs=((s.outs.take i).filter fun x=>decide (x.bg≠t))++s.outs.drop i
theorem Fo.start{p:Ab}{s:Aa}(h:Bw p s)(t:Int):Fo p s t 0 s:=⟨h,rfl,rfl,rfl,rfl,rfl,Int.le_refl _,Int.le_refl _,by simp⟩
theorem Fo.skip{p:Ab}{s c:Aa}{t:Int}{i:Nat}(h:Fo p s t i c)(hi:i < s.outs.length)(hx:s.outs[i].bg≠t):Fo p s t (i+1) c:=by
 have hd:s.outs.drop i=s.outs[i]::s.outs.drop (i+1):=List.drop_eq_getElem_cons hi;refine⟨h.right,?_,h.ae,h.ar,h.tag,h.len,h.aw,h.dropped,?_⟩
 ·rw[h.go,hd]
  show(if _ then _ else _)=_
  rw[zq hx]
 ·rw[h.outs,hd,zj hi,List.filter_append,List.append_assoc]
  congr 1
  simp[hx]
theorem Fo.tagK{p:Ab}{s c:Aa}{t:Int}{i:Nat}(h:Fo p s t i c)(hi:i < s.outs.length):Kn c s.outs[i].tag=some (((s.outs.take i).filter fun x=>decide (x.bg≠t)).length)∧c.outs.eraseIdx (((s.outs.take i).filter fun x=>decide (x.bg≠t)).length)=((s.outs.take i).filter fun x=>decide (x.bg≠t))++s.outs.drop (i+1):=by
 have hd:s.outs.drop i=s.outs[i]::s.outs.drop (i+1):=List.drop_eq_getElem_cons hi;have ho:=h.outs;rw[hd] at ho;have hord:=h.right.order;generalize ((s.outs.take i).filter fun x=>decide (x.bg≠t))=A at *;have hlen:A.length < c.outs.length:=by rw[ho,ze,List.length_cons];omega
 have hat:c.outs[A.length]=s.outs[i]:=by
  have:c.outs[A.length]? =some s.outs[i]:=by rw[ho,List.getElem?_append_right (zn _),Nat.sub_self];rfl
  rw[zG hlen] at this;simpa using this
 refine⟨Ag5 hlen (by rw[hat]) (fun j hj=> ?_),?_⟩
 ·have:=List.pairwise_iff_getElem.1 hord j A.length (by omega) hlen hj
  rw[hat] at this;omega
 ·rw[ho,List.eraseIdx_append_of_length_le (zn _),Nat.sub_self]
  rfl
theorem Fo.back{p:Ab}{s c:Aa}{t:Int}{i:Nat}(h:Fo p s t i c)(hi:i < s.outs.length)(hx:s.outs[i].bg=t)(he:Az p c s.outs[i].tag=0):Fo p s t (i+1) (Cb p c s.outs[i].tag true):=by
 have hd:s.outs.drop i=s.outs[i]::s.outs.drop (i+1):=List.drop_eq_getElem_cons hi;obtain⟨h1,h2⟩:=h.tagK hi;obtain⟨_,_,hs⟩:=Ol.1 he;obtain⟨_,_,r⟩:=Ku h.right h1 hs true;refine⟨r.right,?_,r.ae.trans h.ae,r.ar.trans h.ar,r.tag.trans h.tag,r.len.trans h.len,Int.le_trans h.aw r.aw,Int.le_trans h.dropped r.dropped,?_⟩
 ·rw[h.go,hd]
  show(if _ then (if _ then _ else _) else _)=_
  rw[zp hx,zp he]
 ·rw[r.outs,h2,zj hi,List.filter_append,List.append_assoc]
  congr 1
  simp[hx]
theorem Fo.stop{p:Ab}{s c:Aa}{t:Int}{i:Nat}(h:Fo p s t i c)(hi:i < s.outs.length)(hx:s.outs[i].bg=t)(he:Az p c s.outs[i].tag≠0):Ib p t s.outs s=(Bd,Az p c s.outs[i].tag)∧Az p c s.outs[i].tag=2:=by
 have hd:s.outs.drop i=s.outs[i]::s.outs.drop (i+1):=List.drop_eq_getElem_cons hi;refine⟨?_,?_⟩
 ·rw[h.go,hd]
  show(if _ then (if _ then _ else _) else _)=_
  rw[zp hx,zq he]
 ·obtain⟨h1,_⟩:=h.tagK hi
  unfold Az at he⊢;rw[zq (by rw[Cv.2 h.right];decide),h1] at he⊢;simp only[reduceCtorEq,if_false] at he⊢
  split
  ·rfl
  ·rename_i h2;rw[zq h2] at he;exact absurd rfl he
theorem Fo.end_{p:Ab}{s c:Aa}{t:Int}(h:Fo p s t s.outs.length c):Ib p t s.outs s=(c,0)∧c.outs=s.outs.filter fun x=>decide (x.bg≠t):=by
 refine⟨?_,?_⟩
 ·rw[h.go,List.drop_length]
  rfl
 ·rw[h.outs,List.drop_length,List.take_length,List.append_nil]
theorem Qw{p:Ab}{s:Aa}{t:Int} :∀(m i:Nat)(c:Aa),i+m=s.outs.length→Fo p s t i c→(∃c',Fo p s t s.outs.length c')∨Ib p t s.outs s=(Bd,2)
 |0,i,c,hm,h=> .inl ⟨c,by rwa [show s.outs.length=i by omega]⟩
 |m+1,i,c,hm,h=>by
  have hi:i < s.outs.length:=by omega
  by_cases hx:s.outs[i].bg=t
  ·by_cases he:Az p c s.outs[i].tag=0
   ·exact Qw m (i+1) _ (by omega) (h.back hi hx he)
   ·obtain⟨h1,h2⟩:=h.stop hi hx he
    rw[h2] at h1;exact .inr h1
  ·exact Qw m (i+1) _ (by omega) (h.skip hi hx)
theorem Adq{p:Ab}{s:Aa}(h:Bw p s){t:Int}(hn:¬ Ij s t):∃k:Nat,t=(k:Int)∧∃hk:k < s.ae.length,Ni s t=s.ae[k]∧0≤s.ae[k].queue∧s.ae[k].queue < (p.ag.length:Int)∧1≤s.ae[k].cf∧s.ae[k].cf≤4:=by
 unfold Ij at hn;obtain⟨k,hk⟩:=Int.eq_ofNat_of_zero_le (show 0≤t by omega);subst hk;have hkl:k < s.ae.length:=by omega
 have e:Ni s (k:Int)=s.ae[k]:=by unfold Ni;rw[Int.toNat_natCast,zG hkl];rfl
 have:=Ma h (zG hkl);rw[e] at hn;exact⟨k,rfl,hkl,e,by omega,by omega,by omega,by omega⟩
structure Ayr (p:Ab) (s:Aa) (t:Int) (x:Aa):Prop where
 right:Bw p x
 outs:x.outs=s.outs.filter fun y=>decide (y.bg≠t)
 held:Ck x t=0
 ae:x.ae.length=s.ae.length
 ar:x.ar=s.ar
 tag:x.af=s.af
 len:x.ready.length=s.ready.length
 aw:s.aw≤x.aw
 dropped:s.dropped≤x.dropped
theorem Aer{p:Ab}{s:Aa}{t:Int}(h:Bv p s t=0):Bw p s∧¬ Ij s t∧∃c,Fo p s t s.outs.length c∧De p s t=Qv s t c:=by
 have h0:=h;unfold Bv at h
 split at h
 ·rename_i h1;exact absurd h h1
 ·rename_i h1
  split at h
  ·cases h
  ·rename_i h2
   have hR:=Cv.1 (Decidable.not_not.1 h1);rcases Qw _ 0 s (Nat.zero_add _) (.start hR t) with⟨c,hc⟩|hc
   ·exact⟨hR,h2,c,hc,by unfold De;rw[zp h0,hc.end_.1]⟩
   ·rw[hc] at h;cases h
theorem Yk{p:Ab}{s:Aa}{t:Int}(h:Bv p s t=0):Ayr p s t (De p s t):=by
 obtain⟨hR,hn,c,hc,e⟩:=Aer h;obtain⟨k,rfl,hk,hta,hq0,hq1,ha1,ha4⟩:=Adq hR hn;obtain⟨_,ho⟩:=hc.end_;have hr:=hc.right;rw[e];have hset:(Qv s k c).ae=s.ae.set k ⟨-1,s.ae[k].cf⟩:=by unfold Qv;rw[Int.toNat_natCast,hta]
 have houts:(Qv s k c).outs=c.outs:=rfl;have hmem:∀x∈c.outs,x.bg≠(k:Int):=fun x hx=>by
  rw[ho,List.mem_filter] at hx;simpa using hx.2
 have hheld:Ck (Qv s k c) (k:Int)=0:=by
  unfold Ck;rw[List.countP_eq_zero];intro x hx;simpa using hmem x hx
 have hlen:(Qv s k c).ae.length=s.ae.length:=by rw[hset,List.length_set]
 refine⟨?_,ho,hheld,hlen,hc.ar,hc.tag,hc.len,hc.aw,hc.dropped⟩;refine { len:=hr.len,ah:=hr.ah,af:=hr.af,aw:=hr.aw,ar:=hr.ar,dropped:=hr.dropped,line:=hr.line,bg:=fun x hx=> ?_,out:=fun x hx=> ?_,order:=hr.order,nodup:=hr.nodup,below:=hr.below,bm:=hr.bm,held:=fun i x hx=> ?_,bz:=hr.bz,many:=by rw[hlen];exact hR.many,sum:=hr.sum,same:=hr.same }
 ·rw[hset] at hx
  rcases List.mem_or_eq_of_mem_set hx with h1|rfl
  ·exact hR.bg x h1
  ·unfold Iv
   simp only[zc,zd];exact⟨⟨⟨by omega,by omega⟩,ha1⟩,ha4⟩
 ·obtain⟨y,h1,h2,h3,h4,h5,h6,h7,h8⟩:=Pn hr.toFormed (show x∈c.outs from hx)
  refine Aj4 (t:=y) ?_ h2 h3 h4 h5 h6 h8;rw[hset,List.getElem?_set,zq (fun e1=>hmem x hx (by omega)),←hc.ae];exact h1
 ·rw[hset,List.getElem?_set] at hx
  split at hx
  ·rename_i h1
   subst h1;have hx:(⟨-1,s.ae[k].cf⟩:Cf)=x:=by simpa [hk] using hx
   rw[hheld,←hx]
   show((0:Nat):Int)≤s.ae[k].cf
   omega
  ·rw[←hc.ae] at hx
   exact hr.held i x hx
open Go Go.RowKit
theorem Abk(lo g Hb:Nat)(p:Ab)(p1 p2 p3:zZ)(q1 q2 q3:Nat)(hr:B8 p)(hs:Ai p)(v1 v2 v3 wv:Value)(rows:List Bm)(s:Aa)(l:List Aj)(w:zW)(H:Ec w lo g Hb p p1 p2 p3 q1 q2 q3 v1 v2 v3 wv rows s l)(hok:O4 p (s,l))(hsq:s.ah≤524288)(hw:wC (s,l)≤700):
  Calls Tryz.prog 180 #[zt Hb,.slice none 0 0] w (Abj lo g Hb p p1 p2 p3 q1 q2 q3 v1 v2 v3 s l w):=by
 have hll:=Afs s l;obtain⟨A0,C0,rfl,_⟩:=Ae H.wait;obtain⟨v6,W6,hr6,ho6,hg6⟩:=Oc w lo _ l [] none 0 0 w.heap.size H.wait (Sl.nil _ _ _ _) (by simp;omega) H.size 139;rw[List.append_nil] at ho6;have a4:=H.hall.cell 4;simp only[Ro,zI,zJ,zK] at a4;have k6:Ah [142] w W6:=Ah.grown H.wait hg6 (by simp);have hh6:=k6 _ _ _ (by decide) H.hall;have y4:=hh6.cell 4;have f4:=hh6.frozen 4;have l4:=hh6.lt;simp only[Ro,zI,zJ,zK] at y4;obtain⟨A6,C6,rfl,_⟩:=Ae ho6;obtain⟨W7,hW7⟩:=zo (W6.setCell ⟨Hb,4,none⟩ (.slice A6 l.length C6));obtain⟨h7,k7,b7⟩:=H.waits (l':=l) (wv':= .slice A6 l.length C6) (ts:=[]) k6 (Br H.wait hg6 (zb _ _) (zn _) H.size) ho6;rw[hW7] at h7 k7 b7;have HR6:=zh hr6;have H7:=zh (zi h7 (BK.of b7 k7));have HOK:=zh hok;clear hr6 ho6 hg6 k6 hh6 h7 k7 b7 H hok;go_enter Tryz.func180,Tryz.ntmps180
 go_wp2_with (at_builtin;refine Lib.wpList_append_run _ rfl _ _ _ _ rfl _ _ rfl rfl _ _ HR6.out ?_)
 refine Aoi lo g Hb p p1 p2 p3 q1 q2 q3 hr hs v1 v2 v3 s l w hsq hw _ ?_ _ 0 W7 rfl ⟨_,rows,s,l,H7.out.1,Im.start HOK.out,Nat.zero_le _,H7.out.2⟩;rintro t n W ht ⟨wv',rows',s1,L,hH,hR,hB⟩;obtain⟨u,rfl⟩:=Acx ht;obtain⟨e1,e2⟩:=hR.end_ hw;have hhall:=hH.hall;have c4:=hhall.cell 4;have g4:=hhall.frozen 4;have m4:=hhall.lt;obtain⟨A8,C8,rfl,_⟩:=Ae hH.wait;simp only[Ro,zI,zJ,zK] at c4;obtain⟨h9,k9,b9⟩:=hH.waits (l':=[]) (wv':= .slice none 0 0) (ts:=[]) (Ah.refl _ _) (zb _ _) (World.ownsRow_nil _ _ _ _);have HF:Hid (s1=Dv p s l∧(n:Int)=(Dv p s l).ah - s.ah∧Ec (W.setCell ⟨Hb,4,none⟩ (.slice none 0 0)) lo g Hb p p1 p2 p3 q1 q2 q3 v1 v2 v3 (.slice none 0 0) rows' s1 []∧BK lo w (W.setCell ⟨Hb,4,none⟩ (.slice none 0 0))):=zh ⟨e1.symm,by rw[e1];exact e2,h9,hB.trans (BK.of b9 k9)⟩;clear ht hH hR hB hhall h9 k9 b9 e1 e2
 go_wp2
 go_ret
 refine⟨by rw[HF.out.2.1];rfl,.slice none 0 0,rows',?_,HF.out.2.2.2⟩;rw[←HF.out.1];exact HF.out.2.2.1
def Adp(us:List Value):Nat→List Value→List Value
 |_,[]=>us
 |o,v::r=>Adp (us.set o v) (o+1) r
theorem Ags:∀(vs:List Value)(us:List Value)(o:Nat),o+vs.length≤us.length→Adp us o vs=us.take o++vs++us.drop (o+vs.length)
 | [],us,o,_=>by simp[Adp]
 |v::r,us,o,h=>by
  have hl:o < us.length:=by simp at h;omega
  rw[Adp,Ags r (us.set o v) (o+1) (by simp at h⊢;omega)];rw[List.drop_set_of_lt (by omega),zj (by simpa using hl),List.getElem_set_self];rw[List.take_set_of_le (zn _)];simp only[List.append_assoc,List.singleton_append,List.length_cons,List.cons_append];rw[show o+1+r.length=o+(r.length+1) by omega];rfl
theorem Q7{B g n cap size:Nat}{e:TypeId} :∀(vs:List Value)(o:Nat)(w:zW)(us:List Value),w.ownsRow B e size (.slice (some ⟨g,0,none⟩) n cap) n us→
  (w.setCells g o vs).ownsRow B e size (.slice (some ⟨g,0,none⟩) n cap) n (Adp us o vs)∧w.grownBy (w.setCells g o vs) (some g)
 | [],o,w,us,h=>⟨h,⟨rfl,rfl,rfl,zn _,fun _ _ _=>rfl⟩⟩
 |v::r,o,w,us,h=>by
  have h1:=h.stored o v;have h2:=Q7 r (o+1) _ _ h1.1;exact⟨h2.1,Dq h1.2 h2.2⟩
theorem Ap7{w:zW}{B g n m cap size:Nat}{e:TypeId}{us:List Value}(h:w.ownsRow B e size (.slice (some ⟨g,0,none⟩) n cap) n us)(hm:m≤n):w.ownsRow B e size (.slice (some ⟨g,0,none⟩) m cap) m (us.take (m * size)):=by
 obtain⟨hl,h⟩:=h;refine⟨by rw[List.length_take,hl];exact Nat.min_eq_left (Nat.mul_le_mul_right _ hm),?_⟩;rcases h with⟨h1,_⟩|⟨g',cap',cur,hv,hg,hh,hnc,hcm,hcs,ht⟩
 ·cases h1
 ·right
  simp only[Value.slice.injEq,Option.some.injEq,Addr.mk.injEq,and_true,true_and] at hv;obtain⟨rfl,rfl⟩:=hv;refine⟨g,cap,cur,rfl,hg,hh,by omega,hcm,hcs,?_⟩;rw[←ht,List.take_take,Nat.min_eq_left (Nat.mul_le_mul_right _ hm)]
theorem Adm{w w':zW}{g:Option Nat}(h:w.drew.grownBy w' g):w.grownBy w' g:=Dq (Ab0 _ _) h
theorem Ama{P:Program}(w:zW)(t e ty:TypeId)(z:Value)(zs:List Value)(ht:P.underlying t=some (.slice e))(hv:∀w,(zeroValue e).run P w= .ok z w)(hz:z.cells.toList=zs)(b o c:Nat)
  (h1:∀u∈zs,u.oneCell'=true) (hc:∀j,j < zs.length→(w.cell? ⟨b,o+j,none⟩).isSome=true) (hf:∀j,j < zs.length→w.frozen? ⟨b,o+j,none⟩=false):
  (Builtin.clear_ #[t] ty #[.slice (some ⟨b,o,none⟩) 1 c]).run P w= .ok (.tuple #[]) (w.setCells b o zs):=by
 have hzc:(Builtin.zeroCells z.cells 1).toList=zs:=by
  rw[←hz];unfold Builtin.zeroCells
  apply List.ext_getElem
  ·simp
  ·intro i h1 h2
   have hi:i < z.cells.size:=by simpa using h2
   simp[Nat.mod_eq_of_lt hi,hi]
 have hst:=run_storeCells_cells (P:=P) b o zs 0 w (by simpa using hc) (by simpa using hf) h1;simp only[Nat.add_zero] at hst;simp[Builtin.clear_,run_underlying ht,hv,hzc,hst]
def Ys:List Value:=[.int .i64 0,.int .i64 0,.int .i64 0,.int .i64 0,.string ⟨#[]⟩,.string ⟨#[]⟩,.bool false,.int .i64 0]
theorem Au5:∀w,(zeroValue 115).run Tryz.prog w= .ok (.agg #[.int .i64 0,.int .i64 0,.int .i64 0,.int .i64 0,.string ⟨#[]⟩,.string ⟨#[]⟩,.bool false,.int .i64 0]) w:=fun w=>by
 obtain⟨i,hi,hz0,_,_⟩:=info_parts (P:=Tryz.prog) Ov;simp[zeroValue,typeInfo,hi,hz0]
theorem Alf(l:List D8)(k:Nat)(hk:k < l.length):(Adp (Adp (l.flatMap D6) (k * 8) ((l.drop (k+1)).flatMap D6)) ((l.length - 1) * 8) Ys).take ((l.length - 1) * 8)=(l.eraseIdx k).flatMap D6:=by
 have e0:(l.flatMap D6).length=l.length * 8:=Dd Dx l;have e1:((l.drop (k+1)).flatMap D6).length=(l.length - (k+1)) * 8:=by rw[Dd Dx,List.length_drop]
 have e2:(l.flatMap D6).take (k * 8)=(l.take k).flatMap D6:=Nu Dx k l;have a1:=Ags ((l.drop (k+1)).flatMap D6) (l.flatMap D6) (k * 8) (by rw[e0,e1];omega);have hl1:(Adp (l.flatMap D6) (k * 8) ((l.drop (k+1)).flatMap D6)).length=l.length * 8:=by
  rw[a1];simp only[ze,List.length_take,List.length_drop,e0,e1];omega
 rw[Ags Ys _ _ (by rw[hl1];show(l.length - 1) * 8+8≤l.length * 8;omega)];rw[List.append_assoc,List.take_append_of_le_length (by rw[List.length_take,hl1];omega),List.take_take,Nat.min_self,a1];have hA:((l.flatMap D6).take (k * 8)++(l.drop (k+1)).flatMap D6).length=(l.length - 1) * 8:=by
  rw[ze,List.length_take,e0,e1];omega
 rw[←hA,List.take_left,e2,←List.flatMap_append,List.eraseIdx_eq_take_drop_succ]
theorem L4:∀w,(sizeOf (Tryz.prog.elem 37)).run Tryz.prog w= .ok 8 w:=fun _=>by kernel_rfl
theorem Ae5(l:List D8):∀u∈l.flatMap D6,u.oneCell'=true:=by
 intro u hu;obtain⟨x,_,hx⟩:=List.mem_flatMap.1 hu;exact Xj x u hx
theorem Aho(B g C k:Nat)(l:List D8)(w:zW)(hown:w.ownsRow B 115 8 (.slice (some ⟨g,0,none⟩) l.length C) l.length (l.flatMap D6))(hk:k < l.length)(hl:l.length≤1048576):
  Calls Tryz.prog 183 #[.slice (some ⟨g,0,none⟩) l.length C,.int .i64 (k:Int),.int .i64 ((k:Int)+1)] w fun e w'=>e= .returned (.slice (some ⟨g,0,none⟩) (l.length - 1) C)∧w'.ownsRow B 115 8 (.slice (some ⟨g,0,none⟩) (l.length - 1) C) (l.length - 1) ((l.eraseIdx k).flatMap D6)∧w.grownBy w' (some g):=by
 obtain⟨_,_,he,hnC⟩:=Ae hown;simp only[Value.slice.injEq,true_and] at he;obtain⟨rfl,rfl⟩:=he;obtain⟨i0,hi0,hz0,hz1,hz2⟩:=info_parts (P:=Tryz.prog) Ov;have hfe:=Alf l k hk;obtain⟨news,hnews⟩:=zo ((l.drop (k+1)).flatMap D6);obtain⟨m,hm⟩:∃m,l.length=k+m+1:=⟨l.length - (k+1),by omega⟩;have hnl:news.length=m * 8:=by rw[←hnews,Dd Dx,List.length_drop,hm];congr 1;omega
 have hul:(l.flatMap D6).length=(k+m+1) * 8:=by rw[Dd Dx,hm]
 rw[hnews] at hfe;have hdrop:(l.flatMap D6).drop ((k+1) * 8)=news:=by rw[Nt Dx,hnews]
 rw[hm] at hown hnC hfe⊢;have hsl:=(Sl.cu hown).cut (k:=k+1) (n:=k+m+1) (cap:=C) hul (by omega) hnC;rw[hdrop] at hsl;obtain⟨A,hA,hsrc⟩:∃A:Addr,E6 (some ⟨g,0,none⟩) C (k+1) 8=some A∧Hid (∀j u,news[j]? =some u→w.drew.cell? (A.add j)=some u):=by
  have h0:∃A,E6 (some ⟨g,0,none⟩) C (k+1) 8=some A:=by unfold E6;split<;>exact⟨_,rfl⟩
  obtain⟨A,hA⟩:=h0;refine⟨A,hA,zh fun j u hu=> ?_⟩;rw[hA] at hsl;rcases hsl with h|⟨b,o,e,_,_,hc⟩
  ·rw[h] at hu;simp at hu
  ·simp only[Option.some.injEq] at e
   rw[e,addr_add'];exact hc j u hu
 have HNO:Hid (∀u∈news,u.oneCell'=true):=zh (by rw[←hnews];exact Ae5 _);have HSP:Hid (∀t,t < news.length→(w.drew.cell? ⟨g,0+k * 8+t,none⟩).isSome=true∧w.drew.frozen? ⟨g,0+k * 8+t,none⟩=false):=zh fun t ht=>by
  rw[hnl] at ht;have hlt:0+k * 8+t < (l.flatMap D6).length:=by rw[hul];omega
  refine⟨?_,hown.frozenAt _⟩;have:=hown.cellAt (0+k * 8+t) (by omega)
  show(w.cell? _).isSome=true
  rw[this,zG hlt];rfl
 obtain⟨W1,hW1⟩:=zo (w.drew.setCells g (0+k * 8) news);have hown0:w.drew.ownsRow B 115 8 (.slice (some ⟨g,0,none⟩) (k+m+1) C) (k+m+1) (l.flatMap D6):=hown.drew;obtain⟨o1,g1⟩:=Q7 news (0+k * 8) _ _ hown0;rw[hW1] at o1 g1;obtain⟨o2,g2⟩:=Q7 Ys ((k+m) * 8) _ _ o1;have hl1:(Adp (l.flatMap D6) (0+k * 8) news).length=(k+m+1) * 8:=o1.1;have hclr:∀ty,(Builtin.clear_ #[37] ty #[.slice (some ⟨g,(k+m) * 8,none⟩) 1 (C - (k+m))]).run Tryz.prog W1= .ok (.tuple #[]) (W1.setCells g ((k+m) * 8) Ys):=fun ty=>
  Ama W1 _ _ ty _ Ys Tryz.underlying37 Au5 rfl g ((k+m) * 8) _ (by unfold Ys;simp[Value.oneCell']) (fun j hj=>by
   have hlt:(k+m) * 8+j < (Adp (l.flatMap D6) (0+k * 8) news).length:=by rw[hl1];have:Ys.length=8:=rfl;omega
   have:=o1.cellAt ((k+m) * 8+j) (by rw[hl1] at hlt;omega);rw[this,zG hlt];rfl) (fun j hj=>o1.frozenAt _)
 have o3:=Ap7 (m:=k+m) o2 (by omega);rw[show(0+k * 8)=k * 8 by omega] at o3;rw[show k+m+1 - 1=k+m by omega] at hfe⊢;rw[hfe] at o3;have HO3:=zh o3;have HG:Hid (w.grownBy (W1.setCells g ((k+m) * 8) Ys) (some g)):=zh (Adm (Dq g1 g2));have HW:=zh hW1;have hcut:=fun W=>Mk (P:=Tryz.prog) (t:=37) (size:=8) Tryz.underlying37 L4 (some ⟨g,0,none⟩) (k+m+1) C (k+1) ((k:Int)+1) (by omega) (by omega) W;rw[hA,show k+m+1 - (k+1)=m by omega] at hcut;have hhi:=fun W=>P8 (P:=Tryz.prog) (t:=37) (size:=8) Tryz.underlying37 L4 (some ⟨g,0,none⟩) (k+m+1) C k (k:Int) rfl (by omega) W;have hlhm:∀W:zW,∃v,(Instr.slice 37 (.slice (some ⟨g,0,none⟩) (k+m+1) C) (some (.int .i64 (k:Int))) (some (.int .i64 ((k:Int)+1))) (some (.int .i64 ((k+m+1:Nat):Int)))).run Tryz.prog W= .ok v W:=fun W=>by
  refine⟨sliced (some ⟨g,0,none⟩) (k:Int).toNat ((k:Int)+1).toNat (((k+m+1:Nat):Int)).toNat 8,(run_slice_lhm W _ (some ⟨g,0,none⟩) (k+m+1) C Tryz.underlying37 .i64 .i64 .i64 (k:Int) ((k:Int)+1) ((k+m+1:Nat):Int) (by omega) (by omega) (by omega) (by omega)).trans ?_⟩;rw[L4];rfl
 have hend:∀W,(Instr.slice 37 (.slice (some ⟨g,0,none⟩) (k+m) C) (some (.int .i64 ((k+m:Nat):Int))) (some (.int .i64 ((k+m+1:Nat):Int))) none).run Tryz.prog W= .ok (.slice (some ⟨g,(k+m) * 8,none⟩) 1 (C - (k+m))) W:=fun W=>by
  refine(run_slice_lh W _ (some ⟨g,0,none⟩) (k+m) C Tryz.underlying37 .i64 .i64 ((k+m:Nat):Int) ((k+m+1:Nat):Int) (by omega) (by omega) (by omega)).trans ?_;rw[L4];simp only[Result.andThen,sliced,Int.toNat_natCast];rw[zq (by omega),show k+m+1 - (k+m)=1 by omega];simp[addr_add']
 have hcne:((k:Int) == (k:Int)+1)=false:=beq_eq_false_iff_ne.2 (by omega);clear hW1 o1 o2 o3 g1 g2 hown0 hown hsl hdrop hfe hA hul hl1;have mixed:Tryz.prog.follows .mixedOrders=true:=by kernel_rfl
 obtain⟨v0,hv0⟩:=hlhm w;clear hlhm;go_enter Tryz.func183,Tryz.ntmps183
 go_wp2_with fail
 go_region_law_o (refine step_append_room rfl (.tmp 22) (.tmp 25) 37 rfl 115 i0 8 Tryz.underlying37 hi0 hz1 g 0 k C (by simp[Act.eval,Act.put]) A m (C - (k+1)) news (by simp[Act.eval,Act.put]) hnl hsrc.out HNO.out (by omega) HSP.out ?_;rw[HW.out])
 go_wp2
 go_ret
 exact⟨rfl,HO3.out,HG.out⟩
theorem Agn(s:Aa)(tag:Int):idxOf (fun x:D8=>decide (x.tag=tag)) s.outs=match Kn s tag with|some k=>(k:Int)|none=> -1:=by
 cases hg:Kn s tag with
 |none=>exact idxOf_miss (k:=s.outs.length) (fun j x _ hx=>by simpa using Ae4 hg x (List.mem_of_getElem? hx)) (zn _)
 |some k=>
  obtain⟨hk,h1,h2⟩:=Ju hg;refine idxOf_hit (fun j x hj hx=> ?_) hk (by simpa using h1);rw[zG (by omega)] at hx
  cases hx
  simpa using h2 j hj
theorem As7:∀args w,(callFunc 182 args).run Tryz.prog w= .ok (.enter 182 args) w:=enters_of Tryz.func182 (by kernel_rfl) rfl
theorem Aqn(x:D8)(tag:Int)(tb:Nat)(w:zW)(ht:w.cell? ⟨tb,0,none⟩=some (.int .i64 tag)):Calls Tryz.prog 182 #[.agg (D6 x).toArray,zt tb] w fun e w'=>e= .returned (.bool (decide (x.tag=tag)))∧Below w.heap.size w w':=by
 have hb:=(zb w.heap.size w).alloc (zn _) (.cells #[.int .i64 x.tag,.int .i64 x.bg,.int .i64 x.queue,.int .i64 x.item.seq,.string x.item.key,.string x.item.body,.bool x.item.again,.int .i64 x.item.au] 115);have ht1:(w.alloc (.cells #[.int .i64 x.tag,.int .i64 x.bg,.int .i64 x.queue,.int .i64 x.item.seq,.string x.item.key,.string x.item.body,.bool x.item.again,.int .i64 x.item.au] 115)).cell? ⟨tb,0,none⟩=some (.int .i64 tag):=(hb.cell (p:=⟨tb,0,none⟩) (lt_of_cell ht)).trans ht;have hq:(x.tag == tag)=decide (x.tag=tag):=by by_cases e:x.tag=tag<;>simp[e]
 unfold D6;go_enter Tryz.func182,Tryz.ntmps182
 go_wp2_with fail
 go_ret
 exact⟨by first|rfl|rw[hq],hb⟩
theorem Qq(w:zW)(g i:Nat)(v:Value):w.grownBy (w.setCell ⟨g,i,none⟩ v) (some g):=⟨rfl,rfl,rfl,by simp[World.setCell],fun k _ hk=>heap_setCell_other w ⟨g,i,none⟩ k v (fun e=>hk (by simp[e]))⟩
theorem Alj(w:zW)(g:Nat)(u0 u1 u2 u3 u4 u5 u6 u7:Value):w.grownBy ((((((((w.setCell ⟨g,0,none⟩ u0).setCell ⟨g,1,none⟩ u1).setCell ⟨g,2,none⟩ u2).setCell ⟨g,3,none⟩ u3).setCell ⟨g,4,none⟩ u4).setCell ⟨g,5,none⟩ u5).setCell ⟨g,6,none⟩ u6).setCell ⟨g,7,none⟩ u7) (some g):=
 Dq (Dq (Dq (Dq (Dq (Dq (Dq (Qq _ _ _ _) (Qq _ _ _ _)) (Qq _ _ _ _)) (Qq _ _ _ _)) (Qq _ _ _ _)) (Qq _ _ _ _)) (Qq _ _ _ _)) (Qq _ _ _ _)
def KO(v:Value)(w W:zW):Prop:=∀b cs,v.ownBlock≠some b→Bk w b 115 cs→Bk W b 115 cs
def Ary(lo g:Nat)(v1 v2 v3:Value)(rows:List Bm)(s:Aa)(tag:Int)(w:zW)(e:Ending)(W:zW):Prop:=
 (Kn s tag=none∧e= .returned (.tuple #[.agg Ys.toArray,.bool false])∧Below w.heap.size w W)∨
 ∃k,Kn s tag=some k∧e= .returned (.tuple #[.agg (D6 (Jm s k)).toArray,.bool true])∧∃v2',Ed W lo g v1 v2' v3 rows (As s k)∧Ah [115,40] w W∧Below lo w W∧v2'.ownBlock=v2.ownBlock∧KO v2 w W
theorem Aab(lo g:Nat)(v1 v2 v3:Value)(rows:List Bm)(s:Aa)(tag:Int)(w:zW)(H:Ed w lo g v1 v2 v3 rows s)(hl:s.outs.length≤1048576):
  Calls Tryz.prog 146 #[zt g,.int .i64 tag] w (Ary lo g v1 v2 v3 rows s tag w):=by
 obtain⟨A2,C2,rfl,hC2⟩:=Ae H.held.outs;have hlow:=H.size;have hG:∀b,A2=some ⟨b,0,none⟩→b < w.heap.size:=fun b e=>by subst e;exact(H.held.outs.lt b rfl).2
 have HG2:=zh hG;have HGL:=zh H.box.lt;obtain⟨V0,hV0⟩:=zo (w.alloc (.cells #[.int .i64 tag] 3));have kt:=zw hV0
 have hb0:=zu hV0
 obtain⟨W0,hW0⟩:=zo (V0.alloc (.cells #[.int .i64 0,.int .i64 0,.int .i64 0,.int .i64 0,.string ⟨#[]⟩,.string ⟨#[]⟩,.bool false,.int .i64 0] 115));have kz:=zw hW0
 have hb1:=zu hW0
 have kt0:=kt.below hb1 kt.lt;have hz1:V0.heap.size=w.heap.size+1:=by rw[←hV0];simp
 have HB0:=zh (hb0.trans (hb1.mono hb0.size));have hH0:=H.since HB0.out;have n1:W0.cell? ⟨g,1,none⟩=some (.slice A2 s.outs.length C2):=hH0.box.cell 1;have HH0:=zh hH0;have HKT:=zh kt0;rw[hz1] at kz;have HKZ:=zh kz;have HLOW:=zh hlow;clear hb0 hb1 kt kt0 kz H hH0 hlow hG;go_enter Tryz.func146,Tryz.ntmps146
 go_wp2_with fail
 clear n1;refine(Adn 182 #[zt w.heap.size] As7 (fun x=>decide (x.tag=tag)) s.outs A2 C2 lo W0 (fun x _ W hW=>by simpa using Aqn x tag w.heap.size W ((HKT.out.below hW HKT.out.lt).cell 0)) (Sl.cu HH0.out.held.outs) (by omega)).mono ?_;rw[Agn];rintro e W1 ⟨rfl,hb1⟩;have HB1:=zm HB0 hb1;have HH1:=zh (HH0.out.since hb1);have HKZ1:=zh (HKZ.out.below hb1 HKZ.out.lt);clear hb1 HKZ HKT HH0 HB0
 cases hk:Kn s tag with
 |none=>
  obtain⟨k0,k1,k2,k3,k4,k5,k6,k7,f0,f1,f2,f3,f4,f5,f6,f7,hlt⟩:=Af HKZ1.out;dsimp only;go_wp2_with fail
  refine bodyPost_ret (v:= .tuple #[.agg Ys.toArray,.bool false]) (by simp[results,Tryz.results146,go_sem,Ys,k0,k1,k2,k3,k4,k5,k6,k7,hlt]) rfl ?_;exact .inl ⟨hk,rfl,Al HB1.out (by omega) _ _ _ _ _ _ _ _⟩
 |some k=>
  obtain⟨hkl,htg,hnt⟩:=Ju hk;clear htg hnt;have hx:=Km hkl;obtain⟨g2,rfl⟩:=Fs HH1.out.held.outs (by omega);have hg2:g2 < W1.heap.size:=(HH1.out.held.outs.lt g2 rfl).2;obtain⟨e0,e1,e2,e3,e4,e5,e6,e7⟩:=Gd (wr:=W1) (b:=g2) (o:=0) (k:=k) (x:=s.outs[k]) fun j u hu=>by
   obtain⟨b,o,e,_,_,hc⟩:=Bf Dx (by decide) (Sl.cu HH1.out.held.outs) hkl;simp only[Option.some.injEq,Addr.mk.injEq,and_true] at e;obtain⟨rfl,rfl⟩:=e;exact hc j u hu
  rw[←hx] at e0 e1 e2 e3 e4 e5 e6 e7;simp only[Nat.zero_add] at e0 e1 e2 e3 e4 e5 e6 e7;have HX:=zh hx;generalize Jm s k=x at *;clear hx;have n1:W1.cell? ⟨g,1,none⟩=some (.slice (some ⟨g2,0,none⟩) s.outs.length C2):=HH1.out.box.cell 1;have hj:(k:Int) < (s.outs.length:Int):=by omega
  dsimp only;go_upto_region 5 with fail
  obtain⟨W2,hW2⟩:=zo (W1.alloc (.cells #[.int .i64 x.tag,.int .i64 x.bg,.int .i64 x.queue,.int .i64 x.item.seq,.string x.item.key,.string x.item.body,.bool x.item.again,.int .i64 x.item.au] 115));have kx2:=zw hW2
  have hb2:=zu hW2
  have HB2:=zm HB1 hb2;have hH2:=HH1.out.since hb2;have HKZ2:=zh (HKZ1.out.below hb2 HKZ1.out.lt);have HKX2:=zh kx2;have HH2:=zh hH2;rw[hW2];clear e0 e1 e2 e3 e4 e5 e6 e7 n1 hb2 kx2 hW2;have n1:W2.cell? ⟨g,1,none⟩=some (.slice (some ⟨g2,0,none⟩) s.outs.length C2):=hH2.box.cell 1;clear hH2;go_wp2_with fail
  refine(Aho lo g2 C2 k s.outs W2 HH2.out.held.outs hkl hl).mono ?_;rintro e W3 ⟨rfl,ho3,hg3⟩;clear n1;have hgz:(w.heap.size+1)≠g2:=by
   have h1:=HG2.out g2 rfl;omega
  have kx3:=HKX2.out.grown hg3 (by simp only[ne_eq,Option.some.injEq];omega);have kz3:=HKZ2.out.grown hg3 (by simp only[ne_eq,Option.some.injEq];exact hgz);have kb3:=HH2.out.box.grown hg3 (F0 HH2.out.held.outs HH2.out.box (by decide));have hkk:Ah [115] W2 W3:=Ah.grown HH2.out.held.outs hg3 (by simp);have hbl3:=Br HH2.out.held.outs hg3 (HB2.out.mono HLOW.out) (zn _) HH2.out.size;rw[←List.length_eraseIdx_of_lt hkl] at ho3;have hhe:=HH2.out.held.outsTo hkk ho3;have hgl:=HH2.out.gl;obtain⟨W4,hW4⟩:=zo (W3.setCell ⟨g,1,none⟩ (.slice (some ⟨g2,0,none⟩) (s.outs.length - 1) C2));have kk4:=Ah.set kb3 (ts:=[40]) (by decide) 1 (.slice (some ⟨g2,0,none⟩) (s.outs.length - 1) C2);have kb4:Bk W4 g 40 (Ey (As s k) v1 (.slice (some ⟨g2,0,none⟩) (s.outs.length - 1) C2) v3):=by rw[←hW4];exact kb3.ck 1 _
  have hbl4:=hbl3.setCell (p:=⟨g,1,none⟩) hgl (.slice (some ⟨g2,0,none⟩) (s.outs.length - 1) C2);have hgV:(w.heap.size+1)≠g:=by have h1:=HGL.out;omega
  have hgX:W1.heap.size≠g:=by have h1:=HGL.out;have h2:=HB1.out.size;omega
  have kx4:=kx3.far (p:=⟨g,1,none⟩) hgX (.slice (some ⟨g2,0,none⟩) (s.outs.length - 1) C2);have kz4:=kz3.far (p:=⟨g,1,none⟩) hgV (.slice (some ⟨g2,0,none⟩) (s.outs.length - 1) C2);rw[hW4] at kk4 hbl4 kx4 kz4;rw[List.length_eraseIdx_of_lt hkl] at hhe;have hR4:Ed W4 lo g v1 (.slice (some ⟨g2,0,none⟩) (s.outs.length - 1) C2) v3 rows (As s k):=⟨hbl4.size |> fun h=>zr HLOW.out h,kb4,hhe.kept kk4,hgl⟩;have b1:=kb3.cell 1;have fb1:=kb3.frozen 1;have lb1:=kb3.lt;simp only[Ey,zI,zJ,zK] at b1;have HKO:Hid (∀b cs,b≠g2→Bk w b 115 cs→Bk W4 b 115 cs):=zh fun b cs hne hbk=>
   kk4 b _ cs (by decide) ((hbk.below HB2.out hbk.lt).grown hg3 (by simp only[ne_eq,Option.some.injEq];exact hne))
  have HR4:=zh (zi hR4 (zi hbl4 ((Ah.oqb (ts:=[]) HB2.out).more (by simp) |>.trans ((hkk.more (by simp)).trans (kk4.more (by simp))):Ah [115,40] w W4)));have HKX4:=zh kx4;have HKZ4:=zh kz4;clear kx3 kz3 kb3 hkk hbl3 hhe kk4 kb4 hbl4 kx4 kz4 hR4 ho3 hg3;go_upto_region 6 with fail
  clear b1 fb1 lb1 hW4;obtain⟨q0,q1,q2,q3,q4,q5,q6,q7,_,_,_,_,_,_,_,_,_⟩:=Af HKX4.out;obtain⟨k0,k1,k2,k3,k4,k5,k6,k7,f0,f1,f2,f3,f4,f5,f6,f7,hlt⟩:=Af HKZ4.out;go_wp2_with fail
  refine bodyPost_ret (v:= .tuple #[.agg #[.int .i64 x.tag,.int .i64 x.bg,.int .i64 x.queue,.int .i64 x.item.seq,.string x.item.key,.string x.item.body,.bool x.item.again,.int .i64 x.item.au],.bool true]) (by simp[results,Tryz.results146,go_sem,k0,k1,k2,k3,k4,k5,k6,k7,hlt]) rfl ?_;have hgr:=Alj W4 (w.heap.size+1) (.int .i64 x.tag) (.int .i64 x.bg) (.int .i64 x.queue) (.int .i64 x.item.seq) (.string x.item.key) (.string x.item.body) (.bool x.item.again) (.int .i64 x.item.au);have hk5:Ah [115] W4 _:=Ah.dg HKZ4.out (by decide) (.int .i64 x.tag) (.int .i64 x.bg) (.int .i64 x.queue) (.int .i64 x.item.seq) (.string x.item.key) (.string x.item.body) (.bool x.item.again) (.int .i64 x.item.au);have hb5:=Al (B:=lo) HR4.out.2.1 (show lo≤(w.heap.size+1) by have h1:=HLOW.out;omega) (.int .i64 x.tag) (.int .i64 x.bg) (.int .i64 x.queue) (.int .i64 x.item.seq) (.string x.item.key) (.string x.item.body) (.bool x.item.again) (.int .i64 x.item.au);have hko5:∀b cs,b≠g2→Bk w b 115 cs→Bk ((((((((W4.setCell ⟨(w.heap.size+1),0,none⟩ (.int .i64 x.tag)).setCell ⟨(w.heap.size+1),1,none⟩ (.int .i64 x.bg)).setCell ⟨(w.heap.size+1),2,none⟩ (.int .i64 x.queue)).setCell ⟨(w.heap.size+1),3,none⟩ (.int .i64 x.item.seq)).setCell ⟨(w.heap.size+1),4,none⟩ (.string x.item.key)).setCell ⟨(w.heap.size+1),5,none⟩ (.string x.item.body)).setCell ⟨(w.heap.size+1),6,none⟩ (.bool x.item.again)).setCell ⟨(w.heap.size+1),7,none⟩ (.int .i64 x.item.au)) b 115 cs:=fun b cs hne hbk=>
   Sn (HKO.out b cs hne hbk) (by have:=hbk.lt;omega) _ _ _ _ _ _ _ _
  have ho5:=HR4.out.1.held.outs.kept hgr (.inr (by show some g2≠some (w.heap.size+1);simp only[ne_eq,Option.some.injEq];omega));exact .inr ⟨k,hk,by rw[Km hkl,←HX.out];rfl,.slice (some ⟨g2,0,none⟩) (s.outs.length - 1) C2,⟨zr HLOW.out hb5.size,hk5 _ _ _ (by decide) HR4.out.1.box,HR4.out.1.held.outsTo hk5 ho5,HR4.out.1.gl⟩,HR4.out.2.2.trans (hk5.more (by simp)),hb5,rfl,fun b cs hne hbk=>hko5 b cs (fun e=>hne (by rw[e];rfl)) hbk⟩
def Ps(lo g:Nat)(E:Int)(X:Aa)(w:zW)(e:Ending)(W:zW):Prop:=
 e= .returned (.int .i64 E)∧Below lo w W∧(E=0→∃v1 v2 v3 rows,Ed W lo g v1 v2 v3 rows X)
theorem O0(p:Ab)(s:Aa)(E:Int)(X:Aa)(gf:Nat)(lb:Array Value)(eg:∀args w,(callFunc gf args).run Tryz.prog w= .ok (.enter gf args) w)(p1 p2 p3 a1 a2 a3:zZ)(q1 q2 q3 c1 c2 c3:Nat)(rows:List Bm)(w:zW)(hE:Env w)(hp:Au w 0 w.heap.size p1 p2 p3 p)(hps:Ai p)(hs:Av w 0 w.heap.size a1 a2 a3 rows s)(hss:Ap s)(hsi:A9 s)
  (Y:Aa) (F:Int) (hYF:(Am p s≠0→Y=Bd∧F=Am p s)∧(Am p s=0→F=E∧(E=0→Y=X)∧(E≠0→Y=Bd)))
  (hT:Bw p s→∀(W:zW)(lo g:Nat)(v1 v2 v3:Value)(rows:List Bm),w.heap.size≤lo→Below w.heap.size w W→Ed W lo g v1 v2 v3 rows s→Calls Tryz.prog gf (#[zt g]++lb) W (Ps lo g E X W)):
  Calls Tryz.prog 141 #[Ay p p1 p2 p3 q1 q2 q3,Ad s a1 a2 a3 c1 c2 c3,.func (.func gf) #[] lb] w (G1 Y F w):=by
 have HT:=zh hT;have HYF:=zh hYF;clear hT hYF;have hbx:=Cj q1 q2 q3 c1 c2 c3 hE hp hs 26 40;unfold Ag at hbx;unfold Ad Ay Ag;have htl:=hss.ae;have HPS:=zh hps;have HSS:=zh hss;have HSI:=zh hsi;clear hE hp hs hps hss hsi;go_enter Tryz.func141,Tryz.ntmps141
 obtain⟨⟨m0,m1,m2⟩,⟨n0,n1,n2,n3,n4,n5,n6,n7⟩,_,_,_,_⟩:=hbx _ ((zb _ _).alloc (zn _) (.cells zO 40));go_wp2_with fail
 clear m0 m1 m2 n0 n1 n2 n3 n4 n5 n6 n7;obtain⟨V0,hV0⟩:=zo ((w.alloc (.cells (zP p p1 p2 p3 q1 q2 q3) 26)).alloc (.cells (zV s a1 a2 a3 c1 c2 c3) 40));have hzV:V0.heap.size=w.heap.size+1+1:=by rw[←hV0];simp
 rw[hV0] at hbx;have HBV:=zh hbx;obtain⟨W0,hW0⟩:=zo (V0.alloc (.cells zO 40));have hbV:=zu hW0
 have HZ:Hid (W0.heap.size=w.heap.size+1+1+1):=by refine(?_:W0.heap.size=_);rw[←hW0,←hzV];simp
 have HBX:Hid (∀W,Below W0.heap.size W0 W→Me w p s p1 p2 p3 a1 a2 a3 q1 q2 q3 c1 c2 c3 rows W∧Bk W (w.heap.size+1+1) 40 zeroCells):=fun W hW=>by
  have k:Bk W0 (w.heap.size+1+1) 40 zeroCells:=by rw[←hW0];exact Bk.cg _ _ _ hzV.symm
  exact⟨HBV.out W (hbV.trans (hW.mono hbV.size)),k.below hW k.lt⟩
 rw[hV0,hW0];clear hbx hbV hzV HBV hV0 hW0;refine(Fx p s p1 p2 p3 a1 a2 a3 q1 q2 q3 c1 c2 c3 rows W0 (HBX.out _ (zb _ _)).1.env (HBX.out _ (zb _ _)).1.bu HPS.out (HBX.out _ (zb _ _)).1.bc HSS.out HSI.out).mono ?_;rintro e W1 ⟨rfl,hb1⟩;have HB1:=zh hb1;clear hb1;by_cases hc:Am p s=0
 ·have b1:(Am p s != 0)=false:=by simp[hc]
  have HC:=zh hc;have HRT:=zh (Cv.1 hc);clear hc;obtain⟨n0,n1,n2,n3,n4,n5,n6,n7⟩:=(HBX.out _ HB1.out).1.state;go_wp2_with fail
  have hcall:=Aat s a1 a2 a3 c1 c2 c3 rows W1 (HBX.out _ HB1.out).1.bc HSS.out;unfold Ad Ag at hcall;refine hcall.mono ?_;clear hcall n0 n1 n2 n3 n4 n5 n6 n7;rintro e W5 ⟨v1,v2,v3,rows5,rfl,ho5,hb5⟩;unfold Ey;obtain⟨W6,hW6⟩:=zo (W5.alloc (.cells #[v1,v2,v3,.int .i64 s.ah,.int .i64 s.af,.int .i64 s.aw,.int .i64 s.ar,.int .i64 s.dropped] 40));have kb6:Bk W6 W5.heap.size 40 (Ey s v1 v2 v3):=by rw[←hW6];exact Bk.new _ _ _
  have hal6:=zu hW6
  have h16:Below W1.heap.size W1 W6:=hb5.trans (hal6.mono hb5.size);have HB6:=zm HB1 h16;have HLO:=zh (zr (HBX.out _ (zb _ _)).1.below.size HB1.out.size);have HR6:=zh (show Ed W6 W1.heap.size W5.heap.size v1 v2 v3 rows5 s from⟨h16.size,kb6,(ho5.below hal6).held,hb5.size⟩);obtain⟨A1,C1,rfl,_⟩:=Ae ho5.ready;obtain⟨A2,C2,rfl,_⟩:=Ae ho5.outs;obtain⟨A3,C3,rfl,_⟩:=Ae ho5.ae;clear ho5 hb5 kb6 hal6 h16;go_wp2_with fail
  clear hW6;refine(HT.out HRT.out W6 W1.heap.size W5.heap.size _ _ _ rows5 HLO.out (HBX.out _ HB6.out).1.below HR6.out).mono ?_;rintro e W7 ⟨rfl,hb7,hr7⟩;have HB7:=zh (HB6.out.trans (hb7.mono HB1.out.size));have HR7:=zh hr7;clear hb7 hr7;by_cases hE0:E=0
  ·have b2:(E != 0)=false:=by simp[hE0]
   have HY:=zh (zi ((HYF.out.2 HC.out).2.1 hE0) (HYF.out.2 HC.out).1);obtain⟨v1,v2,v3,rows7,h8⟩:=HR7.out hE0;have HE0:=zh hE0;clear hE0;obtain⟨A1,C1,rfl,_⟩:=Ae h8.held.ready;obtain⟨A2,C2,rfl,_⟩:=Ae h8.held.outs;obtain⟨A3,C3,rfl,_⟩:=Ae h8.held.ae;have g0:=h8.box.cell 0;have g1:=h8.box.cell 1;have g2:=h8.box.cell 2;have g3:=h8.box.cell 3;have g4:=h8.box.cell 4;have g5:=h8.box.cell 5;have g6:=h8.box.cell 6;have g7:=h8.box.cell 7;simp only[Ey,zI,zJ,zK] at g0 g1 g2 g3 g4 g5 g6 g7;have HH8:=zh h8;clear h8;have hzk:=(HBX.out _ HB7.out).2;have HZS:=zh hzk;unfold zeroCells at hzk;obtain⟨k0,k1,k2,k3,k4,k5,k6,k7,f0,f1,f2,f3,f4,f5,f6,f7,hlt⟩:=Af hzk;clear hzk;go_wp2_with fail
   refine bodyPost_ret (v:= .tuple #[.agg (zV X A1 A2 A3 C1 C2 C3),.int .i64 0]) (by simp[results,Tryz.results141,go_sem,k0,k1,k2,k3,k4,k5,k6,k7,hlt]) rfl ?_;have hfin:=(HH8.out.held.kept (Ah.dg HZS.out (ts:=[40]) (by decide) (.slice A1 X.ready.length C1) (.slice A2 X.outs.length C2) (.slice A3 X.ae.length C3) (.int .i64 X.ah) (.int .i64 X.af) (.int .i64 X.aw) (.int .i64 X.ar) (.int .i64 X.dropped)));refine⟨A1,A2,A3,C1,C2,C3,_,(by rw[HY.out.1,HY.out.2,HE0.out];rfl),(by rw[HY.out.1];exact hfin.wider HLO.out),Al (HBX.out _ HB7.out).1.below (by omega) _ _ _ _ _ _ _ _⟩
  ·have b2:(E != 0)=true:=by simp[hE0]
   have HY:=zh (zi ((HYF.out.2 HC.out).2.2 hE0) (HYF.out.2 HC.out).1);clear hE0;obtain⟨k0,k1,k2,k3,k4,k5,k6,k7,f0,f1,f2,f3,f4,f5,f6,f7,hlt⟩:=Af (HBX.out _ HB7.out).2;go_wp2_with fail
   refine bodyPost_ret (v:= .tuple #[Ad Bd none none none 0 0 0,.int .i64 E]) (by simp[results,Tryz.results141,go_sem,Ad,Ag,Bd,k0,k1,k2,k3,k4,k5,k6,k7,hlt]) rfl ?_;exact⟨none,none,none,0,0,0,[],by rw[HY.out.1,HY.out.2],by rw[HY.out.1];exact Dm _ _,Al (HBX.out _ HB7.out).1.below (by omega) _ _ _ _ _ _ _ _⟩
 ·have b1:(Am p s != 0)=true:=by simp[hc]
  have HY:=zh (HYF.out.1 hc);clear hc;obtain⟨k0,k1,k2,k3,k4,k5,k6,k7,f0,f1,f2,f3,f4,f5,f6,f7,hlt⟩:=Af (HBX.out _ HB1.out).2;go_wp2_with fail
  refine bodyPost_ret (v:= .tuple #[Ad Bd none none none 0 0 0,.int .i64 (Am p s)]) (by simp[results,Tryz.results141,go_sem,Ad,Ag,Bd,k0,k1,k2,k3,k4,k5,k6,k7,hlt]) rfl ?_;exact⟨none,none,none,0,0,0,[],by rw[HY.out.1,HY.out.2],by rw[HY.out.1];exact Dm _ _,Al (HBX.out _ HB1.out).1.below (by omega) _ _ _ _ _ _ _ _⟩
theorem Ar1(lo g tb:Nat)(p:Ab)(s:Aa)(hR:Bw p s)(tag:Int)(v1 v2 v3:Value)(rows:List Bm)(w:zW)(ht:w.cell? ⟨tb,0,none⟩=some (.int .i64 tag))(H:Ed w lo g v1 v2 v3 rows s):
  Calls Tryz.prog 145 #[zt g,zt tb] w (Ps lo g (Df p s tag) (Gy p s tag) w):=by
 have hoc:=Rf hR;have hac:=count_in' hR.ar;have HCALL:=zh (Aab lo g v1 v2 v3 rows s tag w H hoc);have HLOW:=zh H.size;have HR:=zh hR;clear H hR hoc;go_enter Tryz.func145,Tryz.ntmps145
 go_wp2_with fail
 clear ht;refine HCALL.out.mono ?_;rintro e W1 h;rcases h with⟨hk,rfl,hb⟩|⟨k,hk,rfl,v2',h1,hk1,hb1,_,_⟩
 ·have he:Df p s tag=5:=by unfold Df;rw[zq (by rw[Cv.2 HR.out];decide),zp hk]
  have HE:=zh he;have HB:=zh (hb.mono HLOW.out);clear hb he hk;unfold Ys;go_wp2_with fail
  go_ret
  exact⟨by rw[HE.out];rfl,HB.out.alloc (zr HLOW.out HB.out.size) _,fun h=>absurd h (by rw[HE.out];decide)⟩
 ·obtain⟨he,hS,_⟩:=Sa HR.out hk
  have HE:=zh (zi he hS);obtain⟨W2,hW2⟩:=zo (W1.alloc (.cells (D6 (Jm s k)).toArray 115));have hb2:=zu hW2
  have h2:=h1.since hb2;have m6:W2.cell? ⟨g,6,none⟩=some (.int .i64 s.ar):=h2.box.cell 6;have z6:=h2.box.frozen 6;have l6:=h2.box.lt;obtain⟨r3,k3,b3⟩:=h2.num 6 (.int .i64 (s.ar+1)) s.ah s.af s.aw (s.ar+1) s.dropped rfl;have HF:=zh (zi r3 ((hb1.trans (hb2.mono h1.size)).trans b3));have hwr:IntKind.i64.wrap (s.ar+1)=s.ar+1:=IntWalk.i64_in _ (by omega);clear h1 hk1 hb1 hb2 h2 r3 k3 b3 he hS hk;generalize Jm s k=x at *;unfold D6 at *;go_upto_region 2 with fail
  clear hW2;go_wp2_with fail
  go_ret
  exact⟨by rw[HE.out.1];rfl,HF.out.2,fun _=>⟨_,_,_,_,by rw[HE.out.2];exact HF.out.1⟩⟩
theorem Awf:∀args w,(callFunc 145 args).run Tryz.prog w= .ok (.enter 145 args) w:=enters_of Tryz.func145 (by kernel_rfl) rfl
theorem Ar2(p:Ab)(s:Aa)(tag:Int):(Am p s≠0→Gy p s tag=Bd∧Df p s tag=Am p s)∧(Am p s=0→Df p s tag=Df p s tag∧(Df p s tag=0→Gy p s tag=Gy p s tag)∧(Df p s tag≠0→Gy p s tag=Bd)):=by
 have h0:Df p s tag≠0→Gy p s tag=Bd:=fun h=>by unfold Gy;rw[zq h]
 refine⟨fun h=> ?_,fun _=>⟨rfl,fun _=>rfl,h0⟩⟩;have e:Df p s tag=Am p s:=by unfold Df;rw[zp h]
 exact⟨h0 (by rw[e];exact h),e⟩
theorem Xk{w:zW}{B:Nat}{e:TypeId}{size n:Nat}{v:Value}{us:List Value}(h:w.ownsRow B e size v n us):∀b,w.heap.size≤b→v.ownBlock=none∨v.ownBlock≠some b:=fun b hb=>by
 obtain⟨a,c,rfl,_⟩:=Ae h
 cases a with
 |none=>exact .inl rfl
 |some ad=>
  right
  intro e;have e2:ad.block=b:=by simpa [Value.ownBlock] using e
  rcases h.2 with⟨h1,_⟩|⟨g,cap,cur,hv,_,hg,_⟩
  ·cases h1
  ·simp only[Value.slice.injEq,Option.some.injEq] at hv
   obtain⟨rfl,_⟩:=hv;have:=(Array.getElem?_eq_some_iff.1 hg).1;simp only at e2;omega
theorem Ca.setOut{w:zW}{lo:Nat}{v1 v2 v3:Value}{rows:List Bm}{s:Aa}(h:Ca w lo v1 v2 v3 rows s){b:Nat}{cs:Array Value}(hk:Bk w b 115 cs)(hne:v2.ownBlock=none∨v2.ownBlock≠some b)(i:Nat)(u:Value):Ca (w.setCell ⟨b,i,none⟩ u) lo v1 v2 v3 rows s:=
 h.outsTo (Ah.set hk (ts:=[115]) (by decide) i u) (h.outs.kept (Qq _ _ _ _) hne)
structure Avf (p:Ab) (s:Aa) (k q:Nat) (x:D8):Prop where
 is_:Jm s k=x
 qu:x.queue=(q:Int)
 ql:q < p.ag.length
 len:s.ready.length=p.ag.length
 sorted:(Ak s q).Pairwise fun x y=>x.seq < y.seq
 none:(Ak s q).any (fun y=>decide (y.seq=x.item.seq))=false
 short:(Ak s q).length≤100000
 ok:∀y∈Bt (Ak s q) (Fb x.item),y.key.size≤1048576∧0≤y.au∧y.au≤2
 dropped:0≤s.dropped∧s.dropped≤1048576
 au:0≤x.item.au∧x.item.au≤2
 key:x.item.key.size≤1048576
theorem Ah1{p:Ab}{s:Aa}(h:Bw p s){k:Nat}(hk:k < s.outs.length):∃q x,Avf p s k q x:=by
 obtain⟨h1,h2,h3⟩:=Rl h hk;obtain⟨f1,f2,f3,f4⟩:=Q6 h hk;have hr:=Cp h.bz;obtain⟨q,hq⟩:=Int.eq_ofNat_of_zero_le f2;have hql:q < p.ag.length:=by omega
 have hqr:((q:Int)).toNat < s.ready.length:=by rw[h.len];omega
 have hm:=N1 (s:=s) (q:=(q:Int)) hqr;have hf:=E7.1 (h.line _ hm);have hlim:((Ak s q).length:Int)≤p.ag[q].bm:=by
  refine h.bm q _ _ ?_ (zG hql);rw[Ev hqr];exact zG (by omega)
 have h6:=hr.queue _ (zg hql);refine⟨q,s.outs[k],Km hk,hq,hql,h.len,hf.2,?_,by omega,fun y hy=> ?_,count_in' h.dropped,(L6 f1).2,(L6 f1).1⟩
 ·rw[List.any_eq_false]
  intro y hy he
  apply h2
  unfold Dh Dj;rw[List.mem_append]
  left
  rw[List.mem_flatMap];exact⟨_,hm,List.mem_map.2 ⟨y,hy,by simpa using he⟩⟩
 ·rcases J7.1 hy with rfl|hy
  ·exact L6 (Abm f1)
  ·exact L6 (hf.1 y hy)
def VO(x:D8)(b:Bool):Array Value:= #[.int .i64 x.tag,.int .i64 x.bg,.int .i64 x.queue,.int .i64 x.item.seq,.string x.item.key,.string x.item.body,.bool b,.int .i64 x.item.au]
def Af0(lo g:Nat)(E:Int)(X:Aa)(v2:Value)(w:zW)(e:Ending)(W:zW):Prop:=
 e= .returned (.int .i64 E)∧Below lo w W∧(E=0→∃v1 v2' v3 rows,Ed W lo g v1 v2' v3 rows X∧v2'.ownBlock=v2.ownBlock∧KO v2 w W)
theorem Af0.turn{lo g:Nat}{E:Int}{X:Aa}{v2:Value}{w:zW}{e:Ending}{W:zW}(h:Af0 lo g E X v2 w e W):Ps lo g E X w e W:=
 ⟨h.1,h.2.1,fun h0=>by obtain⟨v1,v2',v3,rows,h1,_⟩:=h.2.2 h0;exact⟨v1,v2',v3,rows,h1⟩⟩
theorem Acm(lo g:Nat)(p:Ab)(p1 p2 p3:zZ)(q1 q2 q3:Nat)(s:Aa)(hR:Bw p s)(hps:Ai p)(tag:Int)(back:Bool)(v1 v2 v3:Value)(rows:List Bm)(w:zW)(hp:Au w 0 lo p1 p2 p3 p)(hE:Og lo w)(H:Ed w lo g v1 v2 v3 rows s):
  Calls Tryz.prog 144 #[.agg (zP p p1 p2 p3 q1 q2 q3),zt g,.int .i64 tag,.bool back] w (Af0 lo g (Az p s tag) (Cb p s tag back) v2 w):=by
 have hoc:=Rf hR;have hlow:=H.size;obtain⟨W0,hW0⟩:=zo (w.alloc (.cells (zP p p1 p2 p3 q1 q2 q3) 26));have kp:=zw hW0
 have hb0:=zu hW0
 have hH0:=H.since hb0;obtain⟨A1,C1,rfl,_⟩:=Ae H.held.ready;obtain⟨A2,C2,rfl,_⟩:=Ae H.held.outs;obtain⟨A3,C3,rfl,_⟩:=Ae H.held.ae;have n0:=hH0.box.cell 0;have n1:=hH0.box.cell 1;have n2:=hH0.box.cell 2;have n3:=hH0.box.cell 3;have n4:=hH0.box.cell 4;have n5:=hH0.box.cell 5;have n6:=hH0.box.cell 6;have n7:=hH0.box.cell 7;simp only[Ey,zI,zJ,zK] at n0 n1 n2 n3 n4 n5 n6 n7;have HPA:Hid (∀W,Below lo w W→Au W 0 lo p1 p2 p3 p∧Og lo W):=zh fun W hW=>⟨hp.below hW (zn _),hE.keep fun p hp=>hW.cell hp⟩;have HH0:=zh hH0;have HKP:=zh kp;have HR:=zh hR;have HB0:=zh hb0;have HLOW:=zh hlow;have HOC:=zh hoc;have HPS:=zh hps;clear hp hE H hH0 kp hb0 hR hlow hoc hps;go_enter Tryz.func144,Tryz.ntmps144
 go_wp2_with fail
 clear hW0;refine(Ahu s A1 A2 A3 C1 C2 C3 W0).mono ?_;rintro e W1 ⟨rfl,hb1⟩;have HH1:=zh (HH0.out.since hb1);have HB1:=zm HB0 hb1;have HKP1:=zh (HKP.out.below hb1 HKP.out.lt);clear hb1 n0 n1 n2 n3 n4 n5 n6 n7 HKP HH0;go_wp2_with fail
 refine(Aab lo g _ _ _ rows s tag W1 HH1.out HOC.out).mono ?_;rintro e W2 h;rcases h with⟨hk,rfl,hb⟩|⟨k,hk,rfl,v2',h2,hk2,hb2,hob2,hko2⟩
 ·have he:Az p s tag=5:=by unfold Az;rw[zq (by rw[Cv.2 HR.out];decide),zp hk]
  have HE:=zh he;have HB:=zh ((HB1.out.mono HLOW.out).trans (hb.mono HH1.out.size));clear hb he hk;unfold Ys;go_wp2_with fail
  go_ret
  exact⟨by rw[HE.out];rfl,HB.out.alloc (zr HLOW.out HB.out.size) _,fun h=>absurd h (by rw[HE.out];decide)⟩
 ·obtain⟨hkl,htg,hnt⟩:=Ju hk
  clear htg hnt;have HK:=zh hk;clear hk;obtain⟨q,x,hpre⟩:=Ah1 HR.out hkl;have hx:=hpre.is_;have HQU:=zh hpre.qu;obtain⟨W3,hW3⟩:=zo (W2.alloc (.cells (VO (Jm s k) (Jm s k).item.again) 115));have kx3:=zw hW3
  have hb23:=zu hW3
  have h3:=h2.since hb23;have HB3:=zh (((HB1.out.mono HLOW.out).trans hb2).trans (hb23.mono h2.size));have kp3:=(hk2 _ _ _ (by decide) HKP1.out).below hb23 (hk2 _ _ _ (by decide) HKP1.out).lt;have HRC:=zh (Acn HR.out hkl back);have HKO3:Hid (∀b cs,(Value.slice A2 s.outs.length C2).ownBlock≠some b→Bk w b 115 cs→Bk W3 b 115 cs):=zh fun b cs hne hbk=>by
   have h1:=hko2 b cs hne (hbk.below HB1.out hbk.lt);exact h1.below hb23 h1.lt
  have HOB2:=zh hob2;have HW2:=zh (zr HB1.out.size (hb2.size));have HOB:=zh (Xk h2.held.outs W2.heap.size (zn _));have hg23:g < W2.heap.size:=h2.box.lt;have hg23':g≠W2.heap.size:=by omega
  have HG:=zh hg23';have HPRE:=zh hpre;have HH3:=zh h3;have HKP3:=zh kp3;rw[←Km hkl] at HRC;have HXX:=zh hx;rw[hx] at hW3 kx3 HRC⊢;unfold VO at hW3 kx3;have HKX3:=zh kx3;have HLE2:=zh h2.size;clear hb2 hk2 h2 h3 kp3 hb23 hpre hg23 hg23' hx hob2 hko2;unfold D6;go_upto_region 3 with fail
  clear hW3 HKP1;by_cases hsq:s.ah≤524288
  ·have hd:decide (s.ah≤524288)=true:=by simp[hsq]
   obtain⟨he,hS,_⟩:=Ku HR.out HK.out hsq back;rw[HXX.out] at hS;have HE:=zh (zi he hS);have HSQ:=zh hsq;clear he hS hsq;rw[hd];obtain⟨m0,m1,m2⟩:zM W3 w.heap.size 0 (.slice p1 p.aj.length q1)∧zM W3 w.heap.size 1 (.slice p2 p.ag.length q2)∧zM W3 w.heap.size 2 (.slice p3 p.binds.length q3):=⟨HKP3.out.cell 0,HKP3.out.cell 1,HKP3.out.cell 2⟩;go_wp2_with fail
   refine(Ahs g p p1 p2 p3 q1 q2 q3 W3).mono ?_;clear m0 m1 m2;rintro e W4 ⟨rfl,kh4,hb4⟩;have hb34:=HB3.out.trans (hb4.mono HH3.out.size);have h4:=HH3.out.since hb4;have kx4:=HKX3.out.below hb4 HKX3.out.lt;have hhn:W3.heap.size+1≠W2.heap.size:=by have:=HKX3.out.lt;omega
   obtain⟨x0,x1,x2,x3,x4,x5,x6,x7,f0,f1,f2,f3,f4,f5,f6,f7,lx⟩:=Af kx4;rw[HQU.out] at x2;have HH4:=zh h4;have HKX4:=zh kx4;have HKH4:=zh kh4;have HB4:=zh hb34;have HHN:=zh hhn;have HKO4:Hid (∀b cs,(Value.slice A2 s.outs.length C2).ownBlock≠some b→Bk w b 115 cs→Bk W4 b 115 cs):=zh fun b cs hne hbk=>by
    have h1:=HKO3.out b cs hne hbk;exact h1.below hb4 h1.lt
   clear h4 kx4 kh4 hb34 hb4 hhn
   cases back with
   |true=>
    go_upto_region 10 with fail
    obtain⟨W5,hW5⟩:=zo (W4.setCell ⟨W2.heap.size,6,none⟩ (.bool true));have hb5:=HB4.out.setCell (p:=⟨W2.heap.size,6,none⟩) HLE2.out (.bool true);have kx5:=HKX4.out.ck 6 (.bool true);have kh5:=HKH4.out.far (p:=⟨W2.heap.size,6,none⟩) HHN.out (.bool true);have kb5:=HH4.out.box.far (p:=⟨W2.heap.size,6,none⟩) HG.out (.bool true);have he5:=HH4.out.held.setOut HKX4.out HOB.out 6 (.bool true);have hko5:∀b cs,(Value.slice A2 s.outs.length C2).ownBlock≠some b→Bk w b 115 cs→Bk (W4.setCell ⟨W2.heap.size,6,none⟩ (.bool true)) b 115 cs:=fun b cs hne hbk=>
     (HKO4.out b cs hne hbk).far (p:=⟨W2.heap.size,6,none⟩) (by have h1:=hbk.lt;have h2:=HW2.out;show b≠W2.heap.size;omega) _
    rw[hW5] at hb5 kx5 kh5 kb5 he5 hko5;have HKO5:=zh hko5;obtain⟨y0,y1,y2,y3,y4,y5,y6,y7,_,_,_,_,_,_,_,_,_⟩:=Af (show Bk W5 W2.heap.size 115 #[.int .i64 x.tag,.int .i64 x.bg,.int .i64 x.queue,.int .i64 x.item.seq,.string x.item.key,.string x.item.body,.bool true,.int .i64 x.item.au] from kx5);rw[HQU.out] at y2;rw[hW5];have HB5:=zh hb5;have hH5:Ec W5 lo g (W3.heap.size+1) p p1 p2 p3 q1 q2 q3 (.slice A1 s.ready.length C1) v2' (.slice A3 s.ae.length C3) (.slice none 0 0) rows (As s k) []:=
     ⟨(HPA.out _ hb5).1,(HPA.out _ hb5).2,zr HLOW.out hb5.size,kh5,kb5,he5,World.ownsRow_nil _ _ _ _,HH4.out.gl,zr HLE2.out (by have:=HKX3.out.lt;omega)⟩
    have HL:=zh (Amk lo g (W3.heap.size+1) p p1 p2 p3 q1 q2 q3 (Cp HR.out.bz) HPS.out _ _ _ _ rows (As s k) [] q (Fb x.item) W5 hH5 HPRE.out.ql HPRE.out.len HPRE.out.sorted HPRE.out.none HPRE.out.short HPRE.out.ok (by simp) HPRE.out.dropped);unfold Ax Fb at HL;clear hb5 kx5 kh5 kb5 he5 hH5 hW5 hko5 x0 x1 x2 x3 x4 x5 x6 x7 f0 f1 f2 f3 f4 f5 f6 f7 lx;go_wp2_with fail
    refine HL.out.mono ?_;rintro e W6 ⟨rfl,wv6,rows6,h6,⟨hb6,ho6⟩⟩;rw[List.nil_append] at h6;clear y0 y1 y2 y3 y4 y5 y6 y7;have hcc:Eh p s k x true=Ei p (As s k) (q:Int) ⟨x.item.seq,x.item.key,x.item.body,true,x.item.au⟩:=by unfold Eh;rw[zp rfl,HQU.out];rfl
    rw[←hcc] at h6;have HE2:=zh HE.out.2;unfold Ki at HE2;clear hcc;generalize Eh p s k x true=c at *;have hsq:c.1.ah≤524288:=by rw[HRC.out.seq];exact HSQ.out
    have HB6:=zh (HB5.out.trans hb6);have HO6:=zh ho6;have HST:=zh (Abk lo g (W3.heap.size+1) p p1 p2 p3 q1 q2 q3 (Cp HR.out.bz) HPS.out _ _ _ wv6 rows6 c.1 c.2 W6 h6 HRC.out.hall hsq (zr (show wC (c.1,c.2)≤500 from HRC.out.less) (by decide)));clear h6 hb6 hsq ho6;go_wp2_with fail
    refine HST.out.mono ?_;rintro e W7 ⟨rfl,wv7,rows7,h7,⟨hb7,ho7⟩⟩;have HKO7:Hid (KO (Value.slice A2 s.outs.length C2) w W7):=zh fun b cs hne hbk=>ho7 b cs (HO6.out b cs (HKO5.out b cs hne hbk));have HF:=zh (zi (HB6.out.trans hb7) (show Ed W7 lo g _ _ _ rows7 (Dv p c.1 c.2) from⟨h7.size,h7.box,h7.held,h7.gl⟩));clear h7 hb7 ho7;go_wp2_with fail
    go_ret
    exact⟨by rw[HE.out.1];rfl,HF.out.1,fun _=>⟨_,_,_,rows7,by rw[HE2.out];exact HF.out.2,HOB2.out,HKO7.out⟩⟩
   |false=>
    have hH5:Ec W4 lo g (W3.heap.size+1) p p1 p2 p3 q1 q2 q3 (.slice A1 s.ready.length C1) v2' (.slice A3 s.ae.length C3) (.slice none 0 0) rows (As s k) []:=
     ⟨(HPA.out _ HB4.out).1,(HPA.out _ HB4.out).2,zr HLOW.out HB4.out.size,HKH4.out,HH4.out.box,HH4.out.held,World.ownsRow_nil _ _ _ _,HH4.out.gl,zr HLE2.out (by have:=HKX3.out.lt;omega)⟩
    have HB5:=HB4;have HKO5:=HKO4;have HL:=zh (Amh lo g (W3.heap.size+1) p p1 p2 p3 q1 q2 q3 (Cp HR.out.bz) HPS.out _ _ _ _ rows (As s k) [] q x.item W4 hH5 HPRE.out.ql HPRE.out.au HPRE.out.key (by simp) HPRE.out.dropped);unfold Ax at HL;clear hH5;go_wp2_with fail
    refine HL.out.mono ?_;rintro e W6 ⟨rfl,wv6,h6,⟨hb6,ho6⟩⟩;rw[List.nil_append] at h6;have rows6:=rows;clear x0 x1 x2 x3 x4 x5 x6 x7 f0 f1 f2 f3 f4 f5 f6 f7 lx;have hcc:Eh p s k x false=({ As s k with dropped:=(As s k).dropped+1 },Fa p (q:Int) x.item):=by unfold Eh;rw[zq (by decide),HQU.out];rfl
    have h6:Ec W6 lo g (W3.heap.size+1) p p1 p2 p3 q1 q2 q3 (.slice A1 s.ready.length C1) v2' (.slice A3 s.ae.length C3) wv6 rows (Eh p s k x false).1 (Eh p s k x false).2:=by rw[hcc];exact h6
    have HE2:=zh HE.out.2;unfold Ki at HE2;clear hcc;generalize Eh p s k x false=c at *;have hsq:c.1.ah≤524288:=by rw[HRC.out.seq];exact HSQ.out
    have HB6:=zh (HB5.out.trans hb6);have HO6:=zh ho6;have HST:=zh (Abk lo g (W3.heap.size+1) p p1 p2 p3 q1 q2 q3 (Cp HR.out.bz) HPS.out _ _ _ wv6 rows c.1 c.2 W6 h6 HRC.out.hall hsq (zr (show wC (c.1,c.2)≤500 from HRC.out.less) (by decide)));clear h6 hb6 hsq ho6;go_wp2_with fail
    refine HST.out.mono ?_;rintro e W7 ⟨rfl,wv7,rows7,h7,⟨hb7,ho7⟩⟩;have HKO7:Hid (KO (Value.slice A2 s.outs.length C2) w W7):=zh fun b cs hne hbk=>ho7 b cs (HO6.out b cs (HKO5.out b cs hne hbk));have HF:=zh (zi (HB6.out.trans hb7) (show Ed W7 lo g _ _ _ rows7 (Dv p c.1 c.2) from⟨h7.size,h7.box,h7.held,h7.gl⟩));clear h7 hb7 ho7;go_wp2_with fail
    go_ret
    exact⟨by rw[HE.out.1];rfl,HF.out.1,fun _=>⟨_,_,_,rows7,by rw[HE2.out];exact HF.out.2,HOB2.out,HKO7.out⟩⟩
  ·have hd:decide (s.ah≤524288)=false:=by simp;omega
   have he:Az p s tag=2:=by unfold Az;rw[zq (by rw[Cv.2 HR.out];decide),HK.out,zq (by simp),zp (by omega)]
   have HE:=zh he;clear he hsq;rw[hd];go_wp2_with fail
   go_ret
   exact⟨by rw[HE.out];rfl,HB3.out,fun h=>absurd h (by rw[HE.out];decide)⟩
theorem Am6{W0 W:zW}{lo:Nat}(h:Env W0)(hb:Below W0.heap.size W0 W)(hl:W0.heap.size≤lo):Og lo W:=
 have k:=(Og.mk' h).keep fun p hp=>hb.cell hp
 ⟨k.1,Nat.lt_of_lt_of_le k.2 hl⟩
theorem Y9(p:Ab)(s:Aa)(tag:Int)(p1 p2 p3 a1 a2 a3:zZ)(q1 q2 q3 c1 c2 c3:Nat)(rows:List Bm)(w:zW)(hE:Env w)(hp:Au w 0 w.heap.size p1 p2 p3 p)(hps:Ai p)(hs:Av w 0 w.heap.size a1 a2 a3 rows s)(hss:Ap s)(hsi:A9 s):
  Calls Tryz.prog 96 #[Ay p p1 p2 p3 q1 q2 q3,Ad s a1 a2 a3 c1 c2 c3,.int .i64 tag] w (G1 (Gy p s tag) (Df p s tag) w):=by
 have hbx:=Cj q1 q2 q3 c1 c2 c3 hE hp hs 26 40;unfold Ag at hbx;unfold Ad Ay Ag;have HPS:=zh hps;have HSS:=zh hss;have HSI:=zh hsi;have HPQ:=zh hp;clear hE hp hs hps hss hsi;obtain⟨⟨m0,m1,m2⟩,⟨n0,n1,n2,n3,n4,n5,n6,n7⟩,_,_,_,_⟩:=hbx ((((w.alloc (.cells (zP p p1 p2 p3 q1 q2 q3) 26)).alloc (.cells (zV s a1 a2 a3 c1 c2 c3) 40)).alloc (.cells #[.int .i64 tag] 3)).alloc (.cells zO 40)) (((zb _ _).alloc (zn _) _).alloc (by simp) _);go_enter Tryz.func96,Tryz.ntmps96
 go_wp2_with fail
 clear m0 m1 m2 n0 n1 n2 n3 n4 n5 n6 n7;obtain⟨V2,hV2⟩:=zo ((w.alloc (.cells (zP p p1 p2 p3 q1 q2 q3) 26)).alloc (.cells (zV s a1 a2 a3 c1 c2 c3) 40));have hz2:V2.heap.size=w.heap.size+1+1:=by rw[←hV2];simp
 rw[hV2] at hbx;rw[hV2];clear hV2;obtain⟨U0,hU0⟩:=zo (V2.alloc (.cells #[.int .i64 tag] 3));have kb0:Bk U0 (w.heap.size+1+1) 3 #[.int .i64 tag]:=by rw[←hU0];exact Bk.cg _ _ _ (by rw[hz2])
 have zu0:U0.heap.size=w.heap.size+1+1+1:=by rw[←hU0];simp[hz2]
 have bu0:=zu hU0
 rw[hU0];obtain⟨W0,hW0⟩:=zo (U0.alloc (.cells zO 40));have kbz:Bk W0 (w.heap.size+1+1+1) 40 zeroCells:=by rw[←hW0];exact Bk.cg _ _ _ zu0.symm
 have bW:=zu hW0
 have HZ0:Hid (W0.heap.size=w.heap.size+1+1+1+1):=by refine(?_:W0.heap.size=_);rw[←hW0,←zu0];simp
 rw[hW0];have HBX:Hid (∀W,Below W0.heap.size W0 W→Me w p s p1 p2 p3 a1 a2 a3 q1 q2 q3 c1 c2 c3 rows W∧Bk W (w.heap.size+1+1+1) 40 zeroCells∧Bk W (w.heap.size+1+1) 3 #[.int .i64 tag]):=zh fun W hW=>
  ⟨hbx W ((bu0.trans (bW.mono bu0.size)).trans (hW.mono (bu0.trans (bW.mono bu0.size)).size)),kbz.below hW kbz.lt,((kb0.below bW (by rw[zu0];omega)).below hW (by have:=bW.size;rw[zu0] at this;omega))⟩
 clear hbx hz2 hW0 kbz bW kb0 zu0 bu0 hU0;have HIN:=zh (HBX.out _ (zb _ _)).1;refine(O0 p s (Df p s tag) (Gy p s tag) 145 #[zt (w.heap.size+1+1)] Awf p1 p2 p3 a1 a2 a3 q1 q2 q3 c1 c2 c3 rows W0 HIN.out.env HIN.out.bu HPS.out HIN.out.bc HSS.out HSI.out (Gy p s tag) (Df p s tag) (Ar2 p s tag) (fun hR W lo g v1 v2 v3 rows' hlo hW hr=>Ar1 lo g (w.heap.size+1+1) p s hR tag v1 v2 v3 rows' W ((HBX.out _ hW).2.2.cell 0) hr)).mono ?_;rintro e W1 ⟨b1,b2,b3,d1,d2,d3,rows1,rfl,hs1,hb1⟩;have HB1:=zh hb1;have HS1:=zh hs1;clear hb1 hs1;generalize Gy p s tag=Y at *;unfold Ad Ag;have hzk:=(HBX.out _ HB1.out).2.1;have HZS:=zh hzk;unfold zeroCells at hzk;obtain⟨k0,k1,k2,k3,k4,k5,k6,k7,f0,f1,f2,f3,f4,f5,f6,f7,hlt⟩:=Af hzk;clear hzk;go_wp2_with fail
 refine bodyPost_ret (v:= .tuple #[.agg (zV Y b1 b2 b3 d1 d2 d3),.int .i64 (Df p s tag)]) (by simp[results,Tryz.results96,go_sem,k0,k1,k2,k3,k4,k5,k6,k7,hlt]) rfl ?_;exact⟨b1,b2,b3,d1,d2,d3,rows1,rfl,(HS1.out.kept (Ah.dg HZS.out (ts:=[40]) (by decide) _ _ _ _ _ _ _ _)).wider (zr (by omega) (Nat.le_of_eq HZ0.out.symm)),Al (HBX.out _ HB1.out).1.below (by omega) _ _ _ _ _ _ _ _⟩
theorem Aug(lo g pb tb bb:Nat)(p:Ab)(p1 p2 p3:zZ)(q1 q2 q3:Nat)(s:Aa)(hR:Bw p s)(hps:Ai p)(tag:Int)(back:Bool)(v1 v2 v3:Value)(rows:List Bm)(w:zW)(hp:Au w 0 lo p1 p2 p3 p)(hE:Og lo w)
  (hm:zM w pb 0 (.slice p1 p.aj.length q1)∧zM w pb 1 (.slice p2 p.ag.length q2)∧zM w pb 2 (.slice p3 p.binds.length q3)) (ht:w.cell? ⟨tb,0,none⟩=some (.int .i64 tag)) (hbk:w.cell? ⟨bb,0,none⟩=some (.bool back)) (H:Ed w lo g v1 v2 v3 rows s):
  Calls Tryz.prog 147 #[zt g,zt pb,zt tb,zt bb] w (Ps lo g (Az p s tag) (Cb p s tag back) w):=by
 have HCALL:=zh (Acm lo g p p1 p2 p3 q1 q2 q3 s hR hps tag back v1 v2 v3 rows w hp hE H);obtain⟨m0,m1,m2⟩:=hm;clear hp hE H hR hps;go_enter Tryz.func147,Tryz.ntmps147
 go_wp2_with fail
 refine HCALL.out.mono ?_;intro e W1 hrp;obtain⟨rfl,hb1,h1⟩:=hrp.turn;clear hrp;have HF:=zh (zi hb1 h1);clear hb1 h1 m0 m1 m2 ht hbk;go_wp2_with fail
 go_ret
 exact⟨rfl,HF.out.1,HF.out.2⟩
theorem Awg:∀args w,(callFunc 147 args).run Tryz.prog w= .ok (.enter 147 args) w:=enters_of Tryz.func147 (by kernel_rfl) rfl
theorem Auh(p:Ab)(s:Aa)(tag:Int)(back:Bool):(Am p s≠0→Cb p s tag back=Bd∧Az p s tag=Am p s)∧(Am p s=0→Az p s tag=Az p s tag∧(Az p s tag=0→Cb p s tag back=Cb p s tag back)∧(Az p s tag≠0→Cb p s tag back=Bd)):=by
 have h0:Az p s tag≠0→Cb p s tag back=Bd:=fun h=>by unfold Cb;rw[zq h]
 refine⟨fun h=> ?_,fun _=>⟨rfl,fun _=>rfl,h0⟩⟩;have e:Az p s tag=Am p s:=by unfold Az;rw[zp h]
 exact⟨h0 (by rw[e];exact h),e⟩
theorem Oq(p:Ab)(s:Aa)(tag:Int)(back:Bool)(p1 p2 p3 a1 a2 a3:zZ)(q1 q2 q3 c1 c2 c3:Nat)(rows:List Bm)(w:zW)(hE:Env w)(hp:Au w 0 w.heap.size p1 p2 p3 p)(hps:Ai p)(hs:Av w 0 w.heap.size a1 a2 a3 rows s)(hss:Ap s)(hsi:A9 s):
  Calls Tryz.prog 98 #[Ay p p1 p2 p3 q1 q2 q3,Ad s a1 a2 a3 c1 c2 c3,.int .i64 tag,.bool back] w (G1 (Cb p s tag back) (Az p s tag) w):=by
 have hbx:=Cj q1 q2 q3 c1 c2 c3 hE hp hs 26 40;unfold Ag at hbx;unfold Ad Ay Ag;have HPS:=zh hps;have HSS:=zh hss;have HSI:=zh hsi;have HPQ:=zh hp;clear hE hp hs hps hss hsi;obtain⟨⟨m0,m1,m2⟩,⟨n0,n1,n2,n3,n4,n5,n6,n7⟩,_,_,_,_⟩:=hbx (((((w.alloc (.cells (zP p p1 p2 p3 q1 q2 q3) 26)).alloc (.cells (zV s a1 a2 a3 c1 c2 c3) 40)).alloc (.cells #[.int .i64 tag] 3)).alloc (.cells #[.bool back] 4)).alloc (.cells zO 40)) ((((zb _ _).alloc (zn _) _).alloc (by simp) _).alloc (by simp) _);go_enter Tryz.func98,Tryz.ntmps98
 go_wp2_with fail
 clear m0 m1 m2 n0 n1 n2 n3 n4 n5 n6 n7;obtain⟨V2,hV2⟩:=zo ((w.alloc (.cells (zP p p1 p2 p3 q1 q2 q3) 26)).alloc (.cells (zV s a1 a2 a3 c1 c2 c3) 40));have hz2:V2.heap.size=w.heap.size+1+1:=by rw[←hV2];simp
 rw[hV2] at hbx;rw[hV2];clear hV2;obtain⟨U0,hU0⟩:=zo (V2.alloc (.cells #[.int .i64 tag] 3));have kb0:Bk U0 (w.heap.size+1+1) 3 #[.int .i64 tag]:=by rw[←hU0];exact Bk.cg _ _ _ (by rw[hz2])
 have zu0:U0.heap.size=w.heap.size+1+1+1:=by rw[←hU0];simp[hz2]
 have bu0:=zu hU0
 rw[hU0];obtain⟨U1,hU1⟩:=zo (U0.alloc (.cells #[.bool back] 4));have kb1:Bk U1 (w.heap.size+1+1+1) 4 #[.bool back]:=by rw[←hU1];exact Bk.cg _ _ _ (by rw[zu0])
 have zu1:U1.heap.size=w.heap.size+1+1+1+1:=by rw[←hU1];simp[zu0]
 have bu1:=zu hU1
 rw[hU1];obtain⟨W0,hW0⟩:=zo (U1.alloc (.cells zO 40));have kbz:Bk W0 (w.heap.size+1+1+1+1) 40 zeroCells:=by rw[←hW0];exact Bk.cg _ _ _ zu1.symm
 have bW:=zu hW0
 have HZ0:Hid (W0.heap.size=w.heap.size+1+1+1+1+1):=by refine(?_:W0.heap.size=_);rw[←hW0,←zu1];simp
 rw[hW0];have HBX:Hid (∀W,Below W0.heap.size W0 W→Me w p s p1 p2 p3 a1 a2 a3 q1 q2 q3 c1 c2 c3 rows W∧Bk W (w.heap.size+1+1+1+1) 40 zeroCells∧Bk W (w.heap.size+1+1) 3 #[.int .i64 tag]∧Bk W (w.heap.size+1+1+1) 4 #[.bool back]):=zh fun W hW=>
  ⟨hbx W (((bu0.trans (bu1.mono bu0.size)).trans (bW.mono (bu0.trans (bu1.mono bu0.size)).size)).trans (hW.mono ((bu0.trans (bu1.mono bu0.size)).trans (bW.mono (bu0.trans (bu1.mono bu0.size)).size)).size)),kbz.below hW kbz.lt,(((kb0.below bu1 (by rw[zu0];omega)).below bW (by rw[zu1];omega)).below hW (by have:=bW.size;rw[zu1] at this;omega)),((kb1.below bW (by rw[zu1];omega)).below hW (by have:=bW.size;rw[zu1] at this;omega))⟩
 clear hbx hz2 hW0 kbz bW kb0 zu0 bu0 hU0 kb1 zu1 bu1 hU1;have HIN:=zh (HBX.out _ (zb _ _)).1;refine(O0 p s (Az p s tag) (Cb p s tag back) 147 #[zt w.heap.size,zt (w.heap.size+1+1),zt (w.heap.size+1+1+1)] Awg p1 p2 p3 a1 a2 a3 q1 q2 q3 c1 c2 c3 rows W0 HIN.out.env HIN.out.bu HPS.out HIN.out.bc HSS.out HSI.out (Cb p s tag back) (Az p s tag) (Auh p s tag back) (fun hR W lo g v1 v2 v3 rows' hlo hW hr=>Aug lo g w.heap.size (w.heap.size+1+1) (w.heap.size+1+1+1) p p1 p2 p3 q1 q2 q3 s hR HPS.out tag back v1 v2 v3 rows' W ((HPQ.out.below (HBX.out _ hW).1.below (zn _)).wider (zn _) (zr (HBX.out _ (zb _ _)).1.below.size hlo)) (Am6 (HIN.out.env) hW hlo) (HBX.out _ hW).1.bz ((HBX.out _ hW).2.2.1.cell 0) ((HBX.out _ hW).2.2.2.cell 0) hr)).mono ?_;rintro e W1 ⟨b1,b2,b3,d1,d2,d3,rows1,rfl,hs1,hb1⟩;have HB1:=zh hb1;have HS1:=zh hs1;clear hb1 hs1;generalize Cb p s tag back=Y at *;unfold Ad Ag;have hzk:=(HBX.out _ HB1.out).2.1;have HZS:=zh hzk;unfold zeroCells at hzk;obtain⟨k0,k1,k2,k3,k4,k5,k6,k7,f0,f1,f2,f3,f4,f5,f6,f7,hlt⟩:=Af hzk;clear hzk;go_wp2_with fail
 refine bodyPost_ret (v:= .tuple #[.agg (zV Y b1 b2 b3 d1 d2 d3),.int .i64 (Az p s tag)]) (by simp[results,Tryz.results98,go_sem,k0,k1,k2,k3,k4,k5,k6,k7,hlt]) rfl ?_;exact⟨b1,b2,b3,d1,d2,d3,rows1,rfl,(HS1.out.kept (Ah.dg HZS.out (ts:=[40]) (by decide) _ _ _ _ _ _ _ _)).wider (zr (by omega) (Nat.le_of_eq HZ0.out.symm)),Al (HBX.out _ HB1.out).1.below (by omega) _ _ _ _ _ _ _ _⟩
end Go.Proofs.YtpkneogjdfolaaaGreatDoor
