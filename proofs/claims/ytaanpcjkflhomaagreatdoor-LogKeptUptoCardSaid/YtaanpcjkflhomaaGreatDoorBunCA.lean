/-
  The library's IndexFunc at a slice of Outs: where the first stands of which the function says yes.
-/
import Derived.Test.YtaanpcjkflhomaaGreatDoorBunC
import Derived.Test.YtaanpcjkflhomaaGreatDoorBunB
import Derived.Test.YtaanpcjkflhomaaGreatDoorBunF
import Derived.Test.YtaanpcjkflhomaaGreatDoorBunR
import Derived.Test.YtaanpcjkflhomaaGreatDoorBunH
import Derived.Test.YtaanpcjkflhomaaGreatDoorBunW
import Derived.Lib.SliceRun
import Derived.Deep.RegionLaw
import Derived.ArgAppend
import Derived.Test.YtaanpcjkflhomaaGreatDoorBunS
import Derived.Test.YtaanpcjkflhomaaGreatDoorBunJ
set_option maxHeartbeats 20000000
set_option maxRecDepth 100000
set_option linter.unusedSimpArgs false
set_option linter.unusedVariables false
namespace Go.Proofs.YtaanpcjkflhomaaGreatDoor
open Go.RowKit
theorem Abb (g:Nat) (lb:Array Value) (eg:∀args w,(callFunc g args).run Tryz.prog w= .ok (.enter g args) w) (p:Eh→Bool) (xs:List Eh) (a:Option Addr) (c lo:Nat) (w:World)
  (hp:∀x∈xs,∀W,Below w.heap.size w W→Calls Tryz.prog g (#[.agg (Eg x).toArray]++lb) W fun e W'=>e= .returned (.bool (p x))∧Below W.heap.size W W')
  (hx:Sl w lo w.heap.size a (xs.flatMap (Eg))) (hl:xs.length≤4294967296):
  Calls Tryz.prog 91 #[.slice a xs.length c,.func (.func g) #[] lb] w fun e w'=>e= .returned (.int .i64 (idxOf p xs))∧Below w.heap.size w w':=by
 have HX:=zh hx;clear hx
 have HP:=zh hp;clear hp
 go_enter Tryz.func91,Tryz.ntmps91
 go_wp2_with fail
 go_loopw [8] (fun i wr=>Lx p xs w.heap.size w i wr) (fun i _=>xs.length - (intOf i).toNat)
 case atStart=>exact⟨0,by omega,rfl,zb _ _,fun j x hj=>absurd hj (by omega)⟩
 case round=>
  obtain⟨k,hk,rfl,hB,hall⟩:=hrel;have HA:=zh hall;clear hall
  by_cases hlt:k < xs.length
  ·obtain⟨b,o,rfl,_,hb,hc⟩:=Bd (enc:=Eg) (size:=8) (fun _=>rfl) (by decide) HX.out hlt
   obtain⟨e0,e1,e2,e3,e4,e5,e6,e7⟩:=G7 (wr:=wr) (b:=b) (o:=o) (k:=k) (x:=xs[k]) fun j u hu=>(hB.cell (p:=⟨b,_,none⟩) hb).trans (hc j u hu);have HPk:=zh (HP.out xs[k] (zg hlt) wr hB);have HB:=zh hB;clear hc hB
   cases hq:p xs[k]
   ·have HQ:=zh hq;clear hq
    go_wp2_with fail
    refine HPk.out.mono ?_;rw[HQ.out];rintro e w1 ⟨rfl,hb1⟩;have H1:=zh (HB.out.trans (hb1.mono HB.out.size));clear hb1
    go_wp2_with fail
    exact⟨Fj HA.out hlt HQ.out H1.out,by simp[intOf];omega⟩
   ·have HQ:=zh (idxOf_hit HA.out hlt hq)
    have HQ2:=zh hq;clear hq
    go_wp2_with fail
    refine HPk.out.mono ?_;rw[HQ2.out];rintro e w1 ⟨rfl,hb1⟩;have H1:=zh (HB.out.trans (hb1.mono HB.out.size));clear hb1
    go_wp2_with fail
    go_ret
    exact⟨by rw[HQ.out];rfl,H1.out⟩
  ·have HQ:=zh (idxOf_miss HA.out (by omega))
   go_wp2_with fail
   go_ret
   exact⟨by rw[HQ.out];rfl,hB⟩
def Ka (s:Aa) (tag:Int):Option Nat:=s.outs.findIdx? fun x=>decide (x.tag=tag)
def Ayx:Eh:=⟨0,0,0,⟨0,⟨#[]⟩,⟨#[]⟩,false,0⟩⟩
def Jo (s:Aa) (k:Nat):Eh:=(s.outs[k]?).getD Ayx
def Au (s:Aa) (k:Nat):Aa:= { s with outs:=s.outs.eraseIdx k }
def Dr (p:Ab) (s:Aa) (tag:Int):Int:=if Ao p s≠0 then Ao p s else if Ka s tag=none then 5 else 0
def Ha (p:Ab) (s:Aa) (tag:Int):Aa:=if Dr p s tag=0 then { Au s ((Ka s tag).getD 0) with ar:=s.ar+1 } else Ay
def Fc (x:Ap):Ap:= { x with again:=true }
def D1 (p:Ab) (s:Aa) (k:Nat) (x:Eh) (back:Bool):Aa×List Aj:=
 if back=true then Ek p (Au s k) x.queue (Fc x.item) else ({ Au s k with dropped:=s.dropped+1 },E9 p x.queue x.item)
def J3 (p:Ab) (s:Aa) (k:Nat) (x:Eh) (back:Bool):Aa:=D5 p (D1 p s k x back).1 (D1 p s k x back).2
def Bg (p:Ab) (s:Aa) (tag:Int):Int:=if Ao p s≠0 then Ao p s else if Ka s tag=none then 5 else if 524288 < s.ah then 2 else 0
def Cf (p:Ab) (s:Aa) (tag:Int) (back:Bool):Aa:=if Bg p s tag=0 then J3 p s ((Ka s tag).getD 0) (Jo s ((Ka s tag).getD 0)) back else Ay
def Hr (p:Ab) (t:Int):List Eh→Aa→Aa×Int
 | [],c=>(c,0)
 |x::l,c=>if x.bg=t then (if Bg p c x.tag=0 then Hr p t l (Cf p c x.tag true) else (Ay,Bg p c x.tag)) else Hr p t l c
def M1 (s:Aa) (t:Int):B6:=(s.ae[t.toNat]?).getD ⟨-1,1⟩
def Hv (s:Aa) (t:Int):Prop:=t < 0∨(s.ae.length:Int)≤t∨(M1 s t).queue < 0
instance (s:Aa) (t:Int):Decidable (Hv s t):=by unfold Hv;infer_instance
def Bv (p:Ab) (s:Aa) (t:Int):Int:=if Ao p s≠0 then Ao p s else if Hv s t then 5 else (Hr p t s.outs s).2
def Qd (s:Aa) (t:Int) (c:Aa):Aa:= { c with ae:=s.ae.set t.toNat ⟨-1,(M1 s t).cf⟩ }
def Dn (p:Ab) (s:Aa) (t:Int):Aa:=if Bv p s t=0 then Qd s t (Hr p t s.outs s).1 else Ay
theorem Jd {s:Aa} {tag:Int} {k:Nat} (h:Ka s tag=some k):∃hk:k < s.outs.length,s.outs[k].tag=tag∧∀j (hj:j < k),s.outs[j].tag≠tag:=by
 unfold Ka at h;rw[List.findIdx?_eq_some_iff_getElem] at h;obtain⟨h1,h2,h3⟩:=h;exact⟨h1,by simpa using h2,fun j hj=>by simpa using h3 j hj⟩
theorem Ac1 {s:Aa} {tag:Int} (h:Ka s tag=none):∀x∈s.outs,x.tag≠tag:=by
 unfold Ka at h;rw[List.findIdx?_eq_none_iff] at h;intro x hx;simpa using h x hx
theorem Ae0 {s:Aa} {tag:Int} {k:Nat} (hk:k < s.outs.length) (h1:s.outs[k].tag=tag) (h2:∀j (hj:j < k),s.outs[j].tag≠tag):Ka s tag=some k:=by
 unfold Ka;rw[List.findIdx?_eq_some_iff_getElem];exact⟨hk,by simpa using h1,fun j hj=>by simpa using h2 j hj⟩
theorem J9 {s:Aa} {k:Nat} (hk:k < s.outs.length):Jo s k=s.outs[k]:=by
 unfold Jo;rw[zG hk];rfl
theorem Zu:∀(l:List Eh) (k:Nat) (hk:k < l.length),(l[k]::l.eraseIdx k).Perm l
 |x::l,0,_=> .refl _
 |x::l,k+1,h=>(List.Perm.swap x _ _).trans ((Zu l k (by simpa using h)).cons x)
theorem Qr {p:Ab} {s:Aa} (h:Cs p s) {k:Nat} (hk:k < s.outs.length):Apz p (Au s k)∧s.outs[k].item.seq∉Db (Au s k)∧s.outs[k].item.seq < s.ah:=by
 have hsub:(s.outs.eraseIdx k).Sublist s.outs:=List.eraseIdx_sublist _ _;have hss:(Db (Au s k)).Sublist (Db s):=(hsub.map _).append_left _;have hperm:(Db s).Perm (s.outs[k].item.seq::Db (Au s k)):=by
  have h1:=((Zu s.outs k hk).map fun x:Eh=>x.item.seq).symm;rw[List.map_cons] at h1;exact(h1.append_left (Dj s.ready)).trans List.perm_middle
 have hnd:=hperm.nodup_iff.1 h.nodup;refine⟨?_,(List.nodup_cons.1 hnd).1,h.below _ (hperm.mem_iff.2 List.mem_cons_self)⟩;refine { len:=h.len,ah:=h.ah,af:=h.af,aw:=h.aw,ar:=h.ar,dropped:=h.dropped,line:=h.line,bg:=h.bg,out:=fun y hy=>h.out y (hsub.subset hy),order:=h.order.sublist hsub,nodup:=h.nodup.sublist hss,below:=fun n hn=>h.below n (hss.subset hn),bm:=h.bm,held:=fun i t ht=> ?_,bz:=h.bz,many:=h.many,sum:= ?_,same:=h.same }
 ·have h1:=h.held i t ht
  have h2:Cd (Au s k) i≤Cd s i:=hsub.countP_le;omega
 ·have h1:=h.sum
  have h2:(Au s k).outs.length=s.outs.length - 1:=List.length_eraseIdx_of_lt hk
  show s.aw=((Er s:Nat):Int)+1+(((Au s k).outs.length:Nat):Int)+s.ar+s.dropped
  omega
theorem Ns {p:Ab} {s:Aa} (h:Cs p s):s.outs.length≤1048576:=by
 have h1:=count_in' h.aw;have h2:=count_in' h.ar;have h3:=count_in' h.dropped;have h4:=h.sum;omega
theorem Akq {p:Ab} {s:Aa} (h:Apz p s):Cs p { s with ar:=s.ar+1 } :=by
 have h1:=count_in' h.aw;have h2:=count_in' h.ar;have h3:=count_in' h.dropped;have h4:=h.sum;refine { len:=h.len,ah:=h.ah,af:=h.af,aw:=h.aw,ar:= ?_,dropped:=h.dropped,line:=h.line,bg:=h.bg,out:=h.out,order:=h.order,nodup:=h.nodup,below:=h.below,bm:=h.bm,held:=h.held,bz:=h.bz,many:=h.many,sum:= ?_,same:=h.same }
 ·unfold countB
  simp only[zc,zd];omega
 ·show s.aw=((Er s:Nat):Int)+((s.outs.length:Nat):Int)+(s.ar+1)+s.dropped
  omega
theorem Aew {p:Ab} {s:Aa} (h:Apz p s):Cs p { s with dropped:=s.dropped+1 } :=by
 have h1:=count_in' h.aw;have h2:=count_in' h.ar;have h3:=count_in' h.dropped;have h4:=h.sum;refine { len:=h.len,ah:=h.ah,af:=h.af,aw:=h.aw,ar:=h.ar,dropped:= ?_,line:=h.line,bg:=h.bg,out:=h.out,order:=h.order,nodup:=h.nodup,below:=h.below,bm:=h.bm,held:=h.held,bz:=h.bz,many:=h.many,sum:= ?_,same:=h.same }
 ·unfold countB
  simp only[zc,zd];omega
 ·show s.aw=((Er s:Nat):Int)+((s.outs.length:Nat):Int)+s.ar+(s.dropped+1)
  omega
theorem Qj {p:Ab} {s:Aa} (h:Cs p s) {k:Nat} (hk:k < s.outs.length):Bi s.outs[k].item=true∧0≤s.outs[k].queue∧s.outs[k].queue < (p.ag.length:Int)∧s.outs[k].tag < s.af:=by
 obtain⟨t,ht,h0,h1,h2,h3,h4,h5,h6⟩:=O0 h.toFormed (zg hk);have:=Lm h ht;exact⟨h6,by omega,by omega,h3⟩
theorem Zh {x:Ap} (h:Bi x=true):Bi (Fc x)=true:=h
theorem Aqm (x:Ap):wI (Fc x)=wI x:=rfl
theorem Ay0 (x:Ap):wI x≤20:=by unfold wI;split<;>(try split)<;>omega
theorem Akc (p:Ab) (s:Aa) (q:Int) (x:Ap):(Ek p s q x).1.outs=s.outs∧(Ek p s q x).1.ae=s.ae∧(Ek p s q x).1.ar=s.ar∧(Ek p s q x).1.af=s.af∧(Ek p s q x).1.ah=s.ah∧(Ek p s q x).1.aw=s.aw∧s.dropped≤(Ek p s q x).1.dropped∧(Ek p s q x).1.ready.length=s.ready.length:=by
 unfold Ek
 split
 ·exact⟨rfl,rfl,rfl,rfl,rfl,rfl,Int.le_refl _,by simp⟩
 ·exact⟨rfl,rfl,rfl,rfl,rfl,rfl,by show s.dropped≤s.dropped+1;omega,by simp⟩
structure Ay9 (p:Ab) (s:Aa) (k:Nat) (c:Aa×List Aj):Prop where
 hall:Oi p c
 less:wC c≤500
 outs:c.1.outs=s.outs.eraseIdx k
 ae:c.1.ae=s.ae
 ar:c.1.ar=s.ar
 tag:c.1.af=s.af
 seq:c.1.ah=s.ah
 aw:c.1.aw=s.aw
 dropped:s.dropped≤c.1.dropped
 len:c.1.ready.length=s.ready.length
theorem Aaj {p:Ab} {s:Aa} (h:Cs p s) {k:Nat} (hk:k < s.outs.length) (back:Bool):Ay9 p s k (D1 p s k s.outs[k] back):=by
 obtain⟨h1,h2,h3⟩:=Qr h hk;obtain⟨f1,f2,f3,f4⟩:=Qj h hk;have hw:=Awc h;have hwi:=Ay0 s.outs[k].item;unfold D1
 cases back with
 |true=>
  rw[zp rfl];obtain⟨l1,l2,l3⟩:=Ace h1 ⟨f2,f3⟩ (Zh f1) (show(Fc s.outs[k].item).seq < (Au s k).ah from h3) h2;rw[Aqm] at l3;have e:wS (Au s k)=wS s:=rfl;obtain⟨k1,k2,k3,k4,k5,k6,k7,k8⟩:=Akc p (Au s k) s.outs[k].queue (Fc s.outs[k].item);exact⟨⟨l1,l2⟩,by omega,k1,k2,k3,k4,k5,k6,k7,k8⟩
 |false=>
  rw[zq (by decide)];obtain⟨d1,d2⟩:=Agy (Ct h.bz) ⟨f2,f3⟩ f1;refine⟨⟨Aew h1,d1⟩,?_,rfl,rfl,rfl,rfl,rfl,rfl,by show s.dropped≤s.dropped+1;omega,rfl⟩;have e:wS (Au s k)=wS s:=rfl;unfold wC
  show wS (Au s k)+((E9 p s.outs[k].queue s.outs[k].item).map wA).sum≤500
  omega
structure Ap3 (p:Ab) (s:Aa) (k:Nat) (x:Aa):Prop where
 right:Cs p x
 outs:x.outs=s.outs.eraseIdx k
 ae:x.ae=s.ae
 ar:x.ar=s.ar
 tag:x.af=s.af
 seq:s.ah≤x.ah
 aw:s.aw≤x.aw
 dropped:s.dropped≤x.dropped
 len:x.ready.length=s.ready.length
theorem As3 {p:Ab} {s:Aa} (h:Cs p s) {k:Nat} (hk:k < s.outs.length) (hs:s.ah≤524288) (back:Bool):Ap3 p s k (J3 p s k s.outs[k] back):=by
 have hc:=Aaj h hk back;unfold J3;generalize D1 p s k s.outs[k] back=c at *;obtain⟨c1,c2⟩:=c;have hs1:c1.ah≤524288:=by have:=hc.seq;simp only at this;omega
 have hw1:wC (c1,c2)≤700:=by have:=hc.less;omega
 obtain⟨n,s1,h4,h5⟩:=Rq hs1 hw1 _ 0 _ (zn _) (.start hc.hall) (.start c1 c2);obtain⟨h6,h7⟩:=h4.end_ hw1
 show Ap3 p s k (D5 p c1 c2)
 rw[h6];have hr:Cs p s1:=h4.ok.right;have hq:=h4.seq;have e1:=hc.seq;have e2:=h5.dropped;have e3:=hc.dropped;have e4:=hr.same;have e5:=h.same;simp only at hq e1 e2 e3;refine⟨hr,h5.outs.trans hc.outs,h5.ae.trans hc.ae,h5.ar.trans hc.ar,h5.tag.trans hc.tag,by omega,by omega,by omega,h5.len.trans hc.len⟩
theorem Afr {p:Ab} {s:Aa} {tag:Int} :Dr p s tag=0↔Cs p s∧∃k,Ka s tag=some k:=by
 unfold Dr;rw[←Da]
 split
 ·rename_i h;exact⟨fun e=>absurd e h,fun e=>absurd e.1 h⟩
 ·rename_i h
  split
  ·rename_i h1
   exact⟨fun e=>(by cases e),fun e=>(by obtain⟨_,k,hk⟩:=e;rw[hk] at h1;cases h1)⟩
  ·rename_i h1
   exact⟨fun _=>⟨Decidable.not_not.1 h,Option.ne_none_iff_exists'.1 h1⟩,fun _=>rfl⟩
theorem Q5 {p:Ab} {s:Aa} {tag:Int} :Bg p s tag=0↔Cs p s∧(∃k,Ka s tag=some k)∧s.ah≤524288:=by
 unfold Bg;rw[←Da]
 split
 ·rename_i h;exact⟨fun e=>absurd e h,fun e=>absurd e.1 h⟩
 ·rename_i h
  split
  ·rename_i h1
   exact⟨fun e=>(by cases e),fun e=>(by obtain⟨_,⟨k,hk⟩,_⟩:=e;rw[hk] at h1;cases h1)⟩
  ·rename_i h1
   split
   ·rename_i h2
    exact⟨fun e=>(by cases e),fun e=>(by have:=e.2.2;omega)⟩
   ·rename_i h2
    exact⟨fun _=>⟨Decidable.not_not.1 h,Option.ne_none_iff_exists'.1 h1,by omega⟩,fun _=>rfl⟩
theorem Rh {p:Ab} {s:Aa} {tag:Int} {k:Nat} (h:Cs p s) (hk:Ka s tag=some k):Dr p s tag=0∧Ha p s tag= { Au s k with ar:=s.ar+1 } ∧Cs p (Ha p s tag):=by
 have e:=Afr.2 ⟨h,k,hk⟩;have e2:Ha p s tag= { Au s k with ar:=s.ar+1 } :=by unfold Ha;rw[zp e,hk];rfl
 obtain⟨hl,_⟩:=Jd hk;refine⟨e,e2,?_⟩;rw[e2];exact Akq (Qr h hl).1
theorem Kf {p:Ab} {s:Aa} {tag:Int} {k:Nat} (h:Cs p s) (hk:Ka s tag=some k) (hs:s.ah≤524288) (back:Bool):Bg p s tag=0∧Cf p s tag back=J3 p s k (Jo s k) back∧Ap3 p s k (Cf p s tag back):=by
 have e:=Q5.2 ⟨h,⟨k,hk⟩,hs⟩;have e2:Cf p s tag back=J3 p s k (Jo s k) back:=by unfold Cf;rw[zp e,hk];rfl
 obtain⟨hl,_⟩:=Jd hk;refine⟨e,e2,?_⟩;rw[e2,J9 hl];exact As3 h hl hs back
structure Fl (p:Ab) (s:Aa) (t:Int) (i:Nat) (c:Aa):Prop where
 right:Cs p c
 go:Hr p t s.outs s=Hr p t (s.outs.drop i) c
 ae:c.ae=s.ae
 ar:c.ar=s.ar
 tag:c.af=s.af
 len:c.ready.length=s.ready.length
 aw:s.aw≤c.aw
 dropped:s.dropped≤c.dropped
 outs:c.outs=((s.outs.take i).filter fun x=>decide (x.bg≠t))++s.outs.drop i
theorem Fl.start {p:Ab} {s:Aa} (h:Cs p s) (t:Int):Fl p s t 0 s:=⟨h,rfl,rfl,rfl,rfl,rfl,Int.le_refl _,Int.le_refl _,by simp⟩
theorem Fl.skip {p:Ab} {s c:Aa} {t:Int} {i:Nat} (h:Fl p s t i c) (hi:i < s.outs.length) (hx:s.outs[i].bg≠t):Fl p s t (i+1) c:=by
 have hd:s.outs.drop i=s.outs[i]::s.outs.drop (i+1):=List.drop_eq_getElem_cons hi;refine⟨h.right,?_,h.ae,h.ar,h.tag,h.len,h.aw,h.dropped,?_⟩
 ·rw[h.go,hd]
  show(if _ then _ else _)=_
  rw[zq hx]
 ·rw[h.outs,hd,zj hi,List.filter_append,List.append_assoc]
  congr 1
  simp[hx]
theorem Fl.tagK {p:Ab} {s c:Aa} {t:Int} {i:Nat} (h:Fl p s t i c) (hi:i < s.outs.length):Ka c s.outs[i].tag=some (((s.outs.take i).filter fun x=>decide (x.bg≠t)).length)∧c.outs.eraseIdx (((s.outs.take i).filter fun x=>decide (x.bg≠t)).length)=((s.outs.take i).filter fun x=>decide (x.bg≠t))++s.outs.drop (i+1):=by
 have hd:s.outs.drop i=s.outs[i]::s.outs.drop (i+1):=List.drop_eq_getElem_cons hi;have ho:=h.outs;rw[hd] at ho;have hord:=h.right.order;generalize ((s.outs.take i).filter fun x=>decide (x.bg≠t))=A at *;have hlen:A.length < c.outs.length:=by rw[ho,ze,List.length_cons];omega
 have hat:c.outs[A.length]=s.outs[i]:=by
  have:c.outs[A.length]? =some s.outs[i]:=by rw[ho,List.getElem?_append_right (zn _),Nat.sub_self];rfl
  rw[zG hlen] at this;simpa using this
 refine⟨Ae0 hlen (by rw[hat]) (fun j hj=> ?_),?_⟩
 ·have:=List.pairwise_iff_getElem.1 hord j A.length (by omega) hlen hj
  rw[hat] at this;omega
 ·rw[ho,List.eraseIdx_append_of_length_le (zn _),Nat.sub_self]
  rfl
theorem Fl.back {p:Ab} {s c:Aa} {t:Int} {i:Nat} (h:Fl p s t i c) (hi:i < s.outs.length) (hx:s.outs[i].bg=t) (he:Bg p c s.outs[i].tag=0):Fl p s t (i+1) (Cf p c s.outs[i].tag true):=by
 have hd:s.outs.drop i=s.outs[i]::s.outs.drop (i+1):=List.drop_eq_getElem_cons hi;obtain⟨h1,h2⟩:=h.tagK hi;obtain⟨_,_,hs⟩:=Q5.1 he;obtain⟨_,_,r⟩:=Kf h.right h1 hs true;refine⟨r.right,?_,r.ae.trans h.ae,r.ar.trans h.ar,r.tag.trans h.tag,r.len.trans h.len,Int.le_trans h.aw r.aw,Int.le_trans h.dropped r.dropped,?_⟩
 ·rw[h.go,hd]
  show(if _ then (if _ then _ else _) else _)=_
  rw[zp hx,zp he]
 ·rw[r.outs,h2,zj hi,List.filter_append,List.append_assoc]
  congr 1
  simp[hx]
theorem Fl.stop {p:Ab} {s c:Aa} {t:Int} {i:Nat} (h:Fl p s t i c) (hi:i < s.outs.length) (hx:s.outs[i].bg=t) (he:Bg p c s.outs[i].tag≠0):Hr p t s.outs s=(Ay,Bg p c s.outs[i].tag)∧Bg p c s.outs[i].tag=2:=by
 have hd:s.outs.drop i=s.outs[i]::s.outs.drop (i+1):=List.drop_eq_getElem_cons hi;refine⟨?_,?_⟩
 ·rw[h.go,hd]
  show(if _ then (if _ then _ else _) else _)=_
  rw[zp hx,zq he]
 ·obtain⟨h1,_⟩:=h.tagK hi
  unfold Bg at he⊢;rw[zq (by rw[Da.2 h.right];decide),h1] at he⊢;simp only[reduceCtorEq,if_false] at he⊢
  split
  ·rfl
  ·rename_i h2;rw[zq h2] at he;exact absurd rfl he
theorem Fl.end_ {p:Ab} {s c:Aa} {t:Int} (h:Fl p s t s.outs.length c):Hr p t s.outs s=(c,0)∧c.outs=s.outs.filter fun x=>decide (x.bg≠t):=by
 refine⟨?_,?_⟩
 ·rw[h.go,List.drop_length]
  rfl
 ·rw[h.outs,List.drop_length,List.take_length,List.append_nil]
theorem Qe {p:Ab} {s:Aa} {t:Int} :∀(m i:Nat) (c:Aa),i+m=s.outs.length→Fl p s t i c→(∃c',Fl p s t s.outs.length c')∨Hr p t s.outs s=(Ay,2)
 |0,i,c,hm,h=> .inl ⟨c,by rwa [show s.outs.length=i by omega]⟩
 |m+1,i,c,hm,h=>by
  have hi:i < s.outs.length:=by omega
  by_cases hx:s.outs[i].bg=t
  ·by_cases he:Bg p c s.outs[i].tag=0
   ·exact Qe m (i+1) _ (by omega) (h.back hi hx he)
   ·obtain⟨h1,h2⟩:=h.stop hi hx he
    rw[h2] at h1;exact .inr h1
  ·exact Qe m (i+1) _ (by omega) (h.skip hi hx)
theorem Abe {p:Ab} {s:Aa} (h:Cs p s) {t:Int} (hn:¬ Hv s t):∃k:Nat,t=(k:Int)∧∃hk:k < s.ae.length,M1 s t=s.ae[k]∧0≤s.ae[k].queue∧s.ae[k].queue < (p.ag.length:Int)∧1≤s.ae[k].cf∧s.ae[k].cf≤4:=by
 unfold Hv at hn;obtain⟨k,hk⟩:=Int.eq_ofNat_of_zero_le (show 0≤t by omega);subst hk;have hkl:k < s.ae.length:=by omega
 have e:M1 s (k:Int)=s.ae[k]:=by unfold M1;rw[Int.toNat_natCast,zG hkl];rfl
 have:=Lm h (zG hkl);rw[e] at hn;exact⟨k,rfl,hkl,e,by omega,by omega,by omega,by omega⟩
structure Awp (p:Ab) (s:Aa) (t:Int) (x:Aa):Prop where
 right:Cs p x
 outs:x.outs=s.outs.filter fun y=>decide (y.bg≠t)
 held:Cd x t=0
 ae:x.ae.length=s.ae.length
 ar:x.ar=s.ar
 tag:x.af=s.af
 len:x.ready.length=s.ready.length
 aw:s.aw≤x.aw
 dropped:s.dropped≤x.dropped
theorem Aci {p:Ab} {s:Aa} {t:Int} (h:Bv p s t=0):Cs p s∧¬ Hv s t∧∃c,Fl p s t s.outs.length c∧Dn p s t=Qd s t c:=by
 have h0:=h;unfold Bv at h
 split at h
 ·rename_i h1;exact absurd h h1
 ·rename_i h1
  split at h
  ·cases h
  ·rename_i h2
   have hR:=Da.1 (Decidable.not_not.1 h1);rcases Qe _ 0 s (Nat.zero_add _) (.start hR t) with⟨c,hc⟩|hc
   ·exact⟨hR,h2,c,hc,by unfold Dn;rw[zp h0,hc.end_.1]⟩
   ·rw[hc] at h;cases h
theorem Uf {p:Ab} {s:Aa} {t:Int} (h:Bv p s t=0):Awp p s t (Dn p s t):=by
 obtain⟨hR,hn,c,hc,e⟩:=Aci h;obtain⟨k,rfl,hk,hta,hq0,hq1,ha1,ha4⟩:=Abe hR hn;obtain⟨_,ho⟩:=hc.end_;have hr:=hc.right;rw[e];have hset:(Qd s k c).ae=s.ae.set k ⟨-1,s.ae[k].cf⟩:=by unfold Qd;rw[Int.toNat_natCast,hta]
 have houts:(Qd s k c).outs=c.outs:=rfl;have hmem:∀x∈c.outs,x.bg≠(k:Int):=fun x hx=>by
  rw[ho,List.mem_filter] at hx;simpa using hx.2
 have hheld:Cd (Qd s k c) (k:Int)=0:=by
  unfold Cd;rw[List.countP_eq_zero];intro x hx;simpa using hmem x hx
 have hlen:(Qd s k c).ae.length=s.ae.length:=by rw[hset,List.length_set]
 refine⟨?_,ho,hheld,hlen,hc.ar,hc.tag,hc.len,hc.aw,hc.dropped⟩;refine { len:=hr.len,ah:=hr.ah,af:=hr.af,aw:=hr.aw,ar:=hr.ar,dropped:=hr.dropped,line:=hr.line,bg:=fun x hx=> ?_,out:=fun x hx=> ?_,order:=hr.order,nodup:=hr.nodup,below:=hr.below,bm:=hr.bm,held:=fun i x hx=> ?_,bz:=hr.bz,many:=by rw[hlen];exact hR.many,sum:=hr.sum,same:=hr.same }
 ·rw[hset] at hx
  rcases List.mem_or_eq_of_mem_set hx with h1|rfl
  ·exact hR.bg x h1
  ·unfold Im
   simp only[zc,zd];exact⟨⟨⟨by omega,by omega⟩,ha1⟩,ha4⟩
 ·obtain⟨y,h1,h2,h3,h4,h5,h6,h7,h8⟩:=O0 hr.toFormed (show x∈c.outs from hx)
  refine Aik (t:=y) ?_ h2 h3 h4 h5 h6 h8;rw[hset,List.getElem?_set,zq (fun e1=>hmem x hx (by omega)),←hc.ae];exact h1
 ·rw[hset,List.getElem?_set] at hx
  split at hx
  ·rename_i h1
   subst h1;have hx:(⟨-1,s.ae[k].cf⟩:B6)=x:=by simpa [hk] using hx
   rw[hheld,←hx]
   show((0:Nat):Int)≤s.ae[k].cf
   omega
  ·rw[←hc.ae] at hx
   exact hr.held i x hx
open Go Go.RowKit
theorem Zg (lo g Hb:Nat) (p:Ab) (p1 p2 p3:Option Addr) (q1 q2 q3:Nat) (hr:Bz p) (hs:Ai p) (v1 v2 v3 wv:Value) (rows:List Bq) (s:Aa) (l:List Aj) (w:World) (H:Ed w lo g Hb p p1 p2 p3 q1 q2 q3 v1 v2 v3 wv rows s l) (hok:Oi p (s,l)) (hsq:s.ah≤524288) (hw:wC (s,l)≤700):
  Calls Tryz.prog 98 #[.pointer (some ⟨Hb,0,none⟩),.slice none 0 0] w (Zf lo g Hb p p1 p2 p3 q1 q2 q3 v1 v2 v3 s l w):=by
 have hll:=Adt s l;obtain⟨A0,C0,rfl,_⟩:=Ad H.wait;obtain⟨v6,W6,hr6,ho6,hg6⟩:=Nt w lo _ l [] none 0 0 w.heap.size H.wait (Sl.nil _ _ _ _) (by simp;omega) H.size 88;rw[List.append_nil] at ho6;have a4:=H.hall.cell 4;simp only[Qu,zI,zJ,zK] at a4;have k6:Al [140] w W6:=Al.grown H.wait hg6 (by simp);have hh6:=k6 _ _ _ (by decide) H.hall;have y4:=hh6.cell 4;have f4:=hh6.frozen 4;have l4:=hh6.lt;simp only[Qu,zI,zJ,zK] at y4;obtain⟨A6,C6,rfl,_⟩:=Ad ho6;obtain⟨W7,hW7⟩:∃W7,W6.setCell ⟨Hb,4,none⟩ (.slice A6 l.length C6)=W7:=⟨_,rfl⟩;obtain⟨h7,k7,b7⟩:=H.waits (l':=l) (wv':= .slice A6 l.length C6) (ts:=[]) k6 (Bl H.wait hg6 (zb _ _) (zn _) H.size) ho6;rw[hW7] at h7 k7 b7;have HR6:=zh hr6;have H7:=zh (zi h7 (BK.of b7 k7));have HOK:=zh hok;clear hr6 ho6 hg6 k6 hh6 h7 k7 b7 H hok;go_enter Tryz.func98,Tryz.ntmps98
 go_wp2_with (at_builtin;refine Lib.wpList_append_run _ rfl _ _ _ _ rfl _ _ rfl rfl _ _ HR6.out ?_)
 refine Am5 lo g Hb p p1 p2 p3 q1 q2 q3 hr hs v1 v2 v3 s l w hsq hw _ ?_ _ 0 W7 rfl ⟨_,rows,s,l,H7.out.1,Hz.start HOK.out,Nat.zero_le _,H7.out.2⟩;rintro t n W ht ⟨wv',rows',s1,L,hH,hR,hB⟩;obtain⟨u,rfl⟩:=Aar ht;obtain⟨e1,e2⟩:=hR.end_ hw;have hhall:=hH.hall;have c4:=hhall.cell 4;have g4:=hhall.frozen 4;have m4:=hhall.lt;obtain⟨A8,C8,rfl,_⟩:=Ad hH.wait;simp only[Qu,zI,zJ,zK] at c4;obtain⟨h9,k9,b9⟩:=hH.waits (l':=[]) (wv':= .slice none 0 0) (ts:=[]) (Al.refl _ _) (zb _ _) (World.ownsRow_nil _ _ _ _);have HF:Hid (s1=D5 p s l∧(n:Int)=(D5 p s l).ah - s.ah∧Ed (W.setCell ⟨Hb,4,none⟩ (.slice none 0 0)) lo g Hb p p1 p2 p3 q1 q2 q3 v1 v2 v3 (.slice none 0 0) rows' s1 []∧BK lo w (W.setCell ⟨Hb,4,none⟩ (.slice none 0 0))):=zh ⟨e1.symm,by rw[e1];exact e2,h9,hB.trans (BK.of b9 k9)⟩;clear ht hH hR hB hhall h9 k9 b9 e1 e2
 go_wp2
 go_ret
 refine⟨by rw[HF.out.2.1];rfl,.slice none 0 0,rows',?_,HF.out.2.2.2⟩;rw[←HF.out.1];exact HF.out.2.2.1
open Go.RowKit
def Abd (us:List Value):Nat→List Value→List Value
 |_,[]=>us
 |o,v::r=>Abd (us.set o v) (o+1) r
theorem Aes:∀(vs:List Value) (us:List Value) (o:Nat),o+vs.length≤us.length→Abd us o vs=us.take o++vs++us.drop (o+vs.length)
 | [],us,o,_=>by simp[Abd]
 |v::r,us,o,h=>by
  have hl:o < us.length:=by simp at h;omega
  rw[Abd,Aes r (us.set o v) (o+1) (by simp at h⊢;omega)];rw[List.drop_set_of_lt (by omega),zj (by simpa using hl),List.getElem_set_self];rw[List.take_set_of_le (zn _)];simp only[List.append_assoc,List.singleton_append,List.length_cons,List.cons_append];rw[show o+1+r.length=o+(r.length+1) by omega];rfl
theorem Qk {B g n cap size:Nat} {e:TypeId} :∀(vs:List Value) (o:Nat) (w:World) (us:List Value),w.ownsRow B e size (.slice (some ⟨g,0,none⟩) n cap) n us→
  (w.setCells g o vs).ownsRow B e size (.slice (some ⟨g,0,none⟩) n cap) n (Abd us o vs)∧w.grownBy (w.setCells g o vs) (some g)
 | [],o,w,us,h=>⟨h,⟨rfl,rfl,rfl,zn _,fun _ _ _=>rfl⟩⟩
 |v::r,o,w,us,h=>by
  have h1:=h.stored o v;have h2:=Qk r (o+1) _ _ h1.1;exact⟨h2.1,Dt h1.2 h2.2⟩
theorem Aot {w:World} {B g n m cap size:Nat} {e:TypeId} {us:List Value} (h:w.ownsRow B e size (.slice (some ⟨g,0,none⟩) n cap) n us) (hm:m≤n):w.ownsRow B e size (.slice (some ⟨g,0,none⟩) m cap) m (us.take (m * size)):=by
 obtain⟨hl,h⟩:=h;refine⟨by rw[List.length_take,hl];exact Nat.min_eq_left (Nat.mul_le_mul_right _ hm),?_⟩;rcases h with⟨h1,_⟩|⟨g',cap',cur,hv,hg,hh,hnc,hcm,hcs,ht⟩
 ·cases h1
 ·right
  simp only[Value.slice.injEq,Option.some.injEq,Addr.mk.injEq,and_true,true_and] at hv;obtain⟨rfl,rfl⟩:=hv;refine⟨g,cap,cur,rfl,hg,hh,by omega,hcm,hcs,?_⟩;rw[←ht,List.take_take,Nat.min_eq_left (Nat.mul_le_mul_right _ hm)]
theorem Aba {w w':World} {g:Option Nat} (h:w.drew.grownBy w' g):w.grownBy w' g:=Dt (Zw _ _) h
theorem Ak0 {P:Program} (w:World) (t e ty:TypeId) (z:Value) (zs:List Value) (ht:P.underlying t=some (.slice e)) (hv:∀w,(zeroValue e).run P w= .ok z w) (hz:z.cells.toList=zs) (b o c:Nat)
  (h1:∀u∈zs,u.oneCell'=true) (hc:∀j,j < zs.length→(w.cell? ⟨b,o+j,none⟩).isSome=true) (hf:∀j,j < zs.length→w.frozen? ⟨b,o+j,none⟩=false):
  (Builtin.clear_ #[t] ty #[.slice (some ⟨b,o,none⟩) 1 c]).run P w= .ok (.tuple #[]) (w.setCells b o zs):=by
 have hzc:(Builtin.zeroCells z.cells 1).toList=zs:=by
  rw[←hz];unfold Builtin.zeroCells
  apply List.ext_getElem
  ·simp
  ·intro i h1 h2
   have hi:i < z.cells.size:=by simpa using h2
   simp[Nat.mod_eq_of_lt hi,hi]
 have hst:=run_storeCells_cells (P:=P) b o zs 0 w (by simpa using hc) (by simpa using hf) h1;simp only[Nat.add_zero] at hst;simp[Builtin.clear_,run_underlying ht,hv,hzc,hst]
def Wg:List Value:=[.int .i64 0,.int .i64 0,.int .i64 0,.int .i64 0,.string ⟨#[]⟩,.string ⟨#[]⟩,.bool false,.int .i64 0]
theorem Atk:∀w,(zeroValue 77).run Tryz.prog w= .ok (.agg #[.int .i64 0,.int .i64 0,.int .i64 0,.int .i64 0,.string ⟨#[]⟩,.string ⟨#[]⟩,.bool false,.int .i64 0]) w:=fun w=>by
 obtain⟨i,hi,hz0,_,_⟩:=info_parts (P:=Tryz.prog) Ob;simp[zeroValue,typeInfo,hi,hz0]
theorem Aj5 (l:List Eh) (k:Nat) (hk:k < l.length):(Abd (Abd (l.flatMap Eg) (k * 8) ((l.drop (k+1)).flatMap Eg)) ((l.length - 1) * 8) Wg).take ((l.length - 1) * 8)=(l.eraseIdx k).flatMap Eg:=by
 have e0:(l.flatMap Eg).length=l.length * 8:=Dc Dy l;have e1:((l.drop (k+1)).flatMap Eg).length=(l.length - (k+1)) * 8:=by rw[Dc Dy,List.length_drop]
 have e2:(l.flatMap Eg).take (k * 8)=(l.take k).flatMap Eg:=Nf Dy k l;have a1:=Aes ((l.drop (k+1)).flatMap Eg) (l.flatMap Eg) (k * 8) (by rw[e0,e1];omega);have hl1:(Abd (l.flatMap Eg) (k * 8) ((l.drop (k+1)).flatMap Eg)).length=l.length * 8:=by
  rw[a1];simp only[ze,List.length_take,List.length_drop,e0,e1];omega
 rw[Aes Wg _ _ (by rw[hl1];show(l.length - 1) * 8+8≤l.length * 8;omega)];rw[List.append_assoc,List.take_append_of_le_length (by rw[List.length_take,hl1];omega),List.take_take,Nat.min_self,a1];have hA:((l.flatMap Eg).take (k * 8)++(l.drop (k+1)).flatMap Eg).length=(l.length - 1) * 8:=by
  rw[ze,List.length_take,e0,e1];omega
 rw[←hA,List.take_left,e2,←List.flatMap_append,List.eraseIdx_eq_take_drop_succ]
theorem Lg:∀w,(sizeOf (Tryz.prog.elem 28)).run Tryz.prog w= .ok 8 w:=fun _=>by kernel_rfl
theorem Ac2 (l:List Eh):∀u∈l.flatMap Eg,u.oneCell'=true:=by
 intro u hu;obtain⟨x,_,hx⟩:=List.mem_flatMap.1 hu;exact Vd x u hx
theorem Afj (B g C k:Nat) (l:List Eh) (w:World) (hown:w.ownsRow B 77 8 (.slice (some ⟨g,0,none⟩) l.length C) l.length (l.flatMap Eg)) (hk:k < l.length) (hl:l.length≤1048576):
  Calls Tryz.prog 93 #[.slice (some ⟨g,0,none⟩) l.length C,.int .i64 (k:Int),.int .i64 ((k:Int)+1)] w fun e w'=>e= .returned (.slice (some ⟨g,0,none⟩) (l.length - 1) C)∧w'.ownsRow B 77 8 (.slice (some ⟨g,0,none⟩) (l.length - 1) C) (l.length - 1) ((l.eraseIdx k).flatMap Eg)∧w.grownBy w' (some g):=by
 obtain⟨_,_,he,hnC⟩:=Ad hown;simp only[Value.slice.injEq,true_and] at he;obtain⟨rfl,rfl⟩:=he;obtain⟨i0,hi0,hz0,hz1,hz2⟩:=info_parts (P:=Tryz.prog) Ob;have hfe:=Aj5 l k hk;obtain⟨news,hnews⟩:∃news,(l.drop (k+1)).flatMap Eg=news:=⟨_,rfl⟩;obtain⟨m,hm⟩:∃m,l.length=k+m+1:=⟨l.length - (k+1),by omega⟩;have hnl:news.length=m * 8:=by rw[←hnews,Dc Dy,List.length_drop,hm];congr 1;omega
 have hul:(l.flatMap Eg).length=(k+m+1) * 8:=by rw[Dc Dy,hm]
 rw[hnews] at hfe;have hdrop:(l.flatMap Eg).drop ((k+1) * 8)=news:=by rw[Nc Dy,hnews]
 rw[hm] at hown hnC hfe⊢;have hsl:=(Sl.cu hown).cut (k:=k+1) (n:=k+m+1) (cap:=C) hul (by omega) hnC;rw[hdrop] at hsl;obtain⟨A,hA,hsrc⟩:∃A:Addr,E6 (some ⟨g,0,none⟩) C (k+1) 8=some A∧Hid (∀j u,news[j]? =some u→w.drew.cell? (A.add j)=some u):=by
  have h0:∃A,E6 (some ⟨g,0,none⟩) C (k+1) 8=some A:=by unfold E6;split<;>exact⟨_,rfl⟩
  obtain⟨A,hA⟩:=h0;refine⟨A,hA,zh fun j u hu=> ?_⟩;rw[hA] at hsl;rcases hsl with h|⟨b,o,e,_,_,hc⟩
  ·rw[h] at hu;simp at hu
  ·simp only[Option.some.injEq] at e
   rw[e,addr_add'];exact hc j u hu
 have HNO:Hid (∀u∈news,u.oneCell'=true):=zh (by rw[←hnews];exact Ac2 _);have HSP:Hid (∀t,t < news.length→(w.drew.cell? ⟨g,0+k * 8+t,none⟩).isSome=true∧w.drew.frozen? ⟨g,0+k * 8+t,none⟩=false):=zh fun t ht=>by
  rw[hnl] at ht;have hlt:0+k * 8+t < (l.flatMap Eg).length:=by rw[hul];omega
  refine⟨?_,hown.frozenAt _⟩;have:=hown.cellAt (0+k * 8+t) (by omega)
  show(w.cell? _).isSome=true
  rw[this,zG hlt];rfl
 obtain⟨W1,hW1⟩:∃W1,w.drew.setCells g (0+k * 8) news=W1:=⟨_,rfl⟩;have hown0:w.drew.ownsRow B 77 8 (.slice (some ⟨g,0,none⟩) (k+m+1) C) (k+m+1) (l.flatMap Eg):=hown.drew;obtain⟨o1,g1⟩:=Qk news (0+k * 8) _ _ hown0;rw[hW1] at o1 g1;obtain⟨o2,g2⟩:=Qk Wg ((k+m) * 8) _ _ o1;have hl1:(Abd (l.flatMap Eg) (0+k * 8) news).length=(k+m+1) * 8:=o1.1;have hclr:∀ty,(Builtin.clear_ #[28] ty #[.slice (some ⟨g,(k+m) * 8,none⟩) 1 (C - (k+m))]).run Tryz.prog W1= .ok (.tuple #[]) (W1.setCells g ((k+m) * 8) Wg):=fun ty=>
  Ak0 W1 _ _ ty _ Wg Tryz.underlying28 Atk rfl g ((k+m) * 8) _ (by unfold Wg;simp[Value.oneCell']) (fun j hj=>by
   have hlt:(k+m) * 8+j < (Abd (l.flatMap Eg) (0+k * 8) news).length:=by rw[hl1];have:Wg.length=8:=rfl;omega
   have:=o1.cellAt ((k+m) * 8+j) (by rw[hl1] at hlt;omega);rw[this,zG hlt];rfl) (fun j hj=>o1.frozenAt _)
 have o3:=Aot (m:=k+m) o2 (by omega);rw[show(0+k * 8)=k * 8 by omega] at o3;rw[show k+m+1 - 1=k+m by omega] at hfe⊢;rw[hfe] at o3;have HO3:=zh o3;have HG:Hid (w.grownBy (W1.setCells g ((k+m) * 8) Wg) (some g)):=zh (Aba (Dt g1 g2));have HW:=zh hW1;have hcut:=fun W=>Lt (P:=Tryz.prog) (t:=28) (size:=8) Tryz.underlying28 Lg (some ⟨g,0,none⟩) (k+m+1) C (k+1) ((k:Int)+1) (by omega) (by omega) W;rw[hA,show k+m+1 - (k+1)=m by omega] at hcut;have hhi:=fun W=>Pk (P:=Tryz.prog) (t:=28) (size:=8) Tryz.underlying28 Lg (some ⟨g,0,none⟩) (k+m+1) C k (k:Int) rfl (by omega) W;have hlhm:∀W:World,∃v,(Instr.slice 28 (.slice (some ⟨g,0,none⟩) (k+m+1) C) (some (.int .i64 (k:Int))) (some (.int .i64 ((k:Int)+1))) (some (.int .i64 ((k+m+1:Nat):Int)))).run Tryz.prog W= .ok v W:=fun W=>by
  refine⟨sliced (some ⟨g,0,none⟩) (k:Int).toNat ((k:Int)+1).toNat (((k+m+1:Nat):Int)).toNat 8,(run_slice_lhm W _ (some ⟨g,0,none⟩) (k+m+1) C Tryz.underlying28 .i64 .i64 .i64 (k:Int) ((k:Int)+1) ((k+m+1:Nat):Int) (by omega) (by omega) (by omega) (by omega)).trans ?_⟩;rw[Lg];rfl
 have hend:∀W,(Instr.slice 28 (.slice (some ⟨g,0,none⟩) (k+m) C) (some (.int .i64 ((k+m:Nat):Int))) (some (.int .i64 ((k+m+1:Nat):Int))) none).run Tryz.prog W= .ok (.slice (some ⟨g,(k+m) * 8,none⟩) 1 (C - (k+m))) W:=fun W=>by
  refine(run_slice_lh W _ (some ⟨g,0,none⟩) (k+m) C Tryz.underlying28 .i64 .i64 ((k+m:Nat):Int) ((k+m+1:Nat):Int) (by omega) (by omega) (by omega)).trans ?_;rw[Lg];simp only[Result.andThen,sliced,Int.toNat_natCast];rw[zq (by omega),show k+m+1 - (k+m)=1 by omega];simp[addr_add']
 have hcne:((k:Int) == (k:Int)+1)=false:=beq_eq_false_iff_ne.2 (by omega);clear hW1 o1 o2 o3 g1 g2 hown0 hown hsl hdrop hfe hA hul hl1;have mixed:Tryz.prog.follows .mixedOrders=true:=by kernel_rfl
 obtain⟨v0,hv0⟩:=hlhm w;clear hlhm;go_enter Tryz.func93,Tryz.ntmps93
 go_wp2_with fail
 go_region_law_o (refine step_append_room rfl (.tmp 22) (.tmp 25) 28 rfl 77 i0 8 Tryz.underlying28 hi0 hz1 g 0 k C (by simp[Act.eval,Act.put]) A m (C - (k+1)) news (by simp[Act.eval,Act.put]) hnl hsrc.out HNO.out (by omega) HSP.out ?_;rw[HW.out])
 go_wp2
 go_ret
 exact⟨rfl,HO3.out,HG.out⟩
open Go Go.RowKit
theorem Aen (s:Aa) (tag:Int):idxOf (fun x:Eh=>decide (x.tag=tag)) s.outs=match Ka s tag with|some k=>(k:Int)|none=> -1:=by
 cases hg:Ka s tag with
 |none=>exact idxOf_miss (k:=s.outs.length) (fun j x _ hx=>by simpa using Ac1 hg x (List.mem_of_getElem? hx)) (zn _)
 |some k=>
  obtain⟨hk,h1,h2⟩:=Jd hg;refine idxOf_hit (fun j x hj hx=> ?_) hk (by simpa using h1);rw[zG (by omega)] at hx
  cases hx
  simpa using h2 j hj
theorem Ari:∀args w,(callFunc 92 args).run Tryz.prog w= .ok (.enter 92 args) w:=enters_of Tryz.func92 (by kernel_rfl) rfl
theorem Ao6 (x:Eh) (tag:Int) (tb:Nat) (w:World) (ht:w.cell? ⟨tb,0,none⟩=some (.int .i64 tag)):Calls Tryz.prog 92 #[.agg (Eg x).toArray,.pointer (some ⟨tb,0,none⟩)] w fun e w'=>e= .returned (.bool (decide (x.tag=tag)))∧Below w.heap.size w w':=by
 have hb:=(zb w.heap.size w).alloc (zn _) (.cells #[.int .i64 x.tag,.int .i64 x.bg,.int .i64 x.queue,.int .i64 x.item.seq,.string x.item.key,.string x.item.body,.bool x.item.again,.int .i64 x.item.au] 77);have ht1:(w.alloc (.cells #[.int .i64 x.tag,.int .i64 x.bg,.int .i64 x.queue,.int .i64 x.item.seq,.string x.item.key,.string x.item.body,.bool x.item.again,.int .i64 x.item.au] 77)).cell? ⟨tb,0,none⟩=some (.int .i64 tag):=(hb.cell (p:=⟨tb,0,none⟩) (lt_of_cell ht)).trans ht;have hq:(x.tag == tag)=decide (x.tag=tag):=by by_cases e:x.tag=tag<;>simp[e]
 unfold Eg;go_enter Tryz.func92,Tryz.ntmps92
 go_wp2_with fail
 go_ret
 exact⟨by first|rfl|rw[hq],hb⟩
theorem P4 (w:World) (g i:Nat) (v:Value):w.grownBy (w.setCell ⟨g,i,none⟩ v) (some g):=⟨rfl,rfl,rfl,by simp[World.setCell],fun k _ hk=>heap_setCell_other w ⟨g,i,none⟩ k v (fun e=>hk (by simp[e]))⟩
theorem Aj9 (w:World) (g:Nat) (u0 u1 u2 u3 u4 u5 u6 u7:Value):w.grownBy ((((((((w.setCell ⟨g,0,none⟩ u0).setCell ⟨g,1,none⟩ u1).setCell ⟨g,2,none⟩ u2).setCell ⟨g,3,none⟩ u3).setCell ⟨g,4,none⟩ u4).setCell ⟨g,5,none⟩ u5).setCell ⟨g,6,none⟩ u6).setCell ⟨g,7,none⟩ u7) (some g):=
 Dt (Dt (Dt (Dt (Dt (Dt (Dt (P4 _ _ _ _) (P4 _ _ _ _)) (P4 _ _ _ _)) (P4 _ _ _ _)) (P4 _ _ _ _)) (P4 _ _ _ _)) (P4 _ _ _ _)) (P4 _ _ _ _)
def KO (v:Value) (w W:World):Prop:=∀b cs,v.ownBlock≠some b→Bk w b 77 cs→Bk W b 77 cs
def Ap9 (lo g:Nat) (v1 v2 v3:Value) (rows:List Bq) (s:Aa) (tag:Int) (w:World) (e:Ending) (W:World):Prop:=
 (Ka s tag=none∧e= .returned (.tuple #[.agg Wg.toArray,.bool false])∧Below w.heap.size w W)∨
 ∃k,Ka s tag=some k∧e= .returned (.tuple #[.agg (Eg (Jo s k)).toArray,.bool true])∧∃v2',Ee W lo g v1 v2' v3 rows (Au s k)∧Al [77,31] w W∧Below lo w W∧v2'.ownBlock=v2.ownBlock∧KO v2 w W
theorem Xz (lo g:Nat) (v1 v2 v3:Value) (rows:List Bq) (s:Aa) (tag:Int) (w:World) (H:Ee w lo g v1 v2 v3 rows s) (hl:s.outs.length≤1048576):
  Calls Tryz.prog 48 #[.pointer (some ⟨g,0,none⟩),.int .i64 tag] w (Ap9 lo g v1 v2 v3 rows s tag w):=by
 obtain⟨A2,C2,rfl,hC2⟩:=Ad H.held.outs;have hlow:=H.size;have hG:∀b,A2=some ⟨b,0,none⟩→b < w.heap.size:=fun b e=>by subst e;exact(H.held.outs.lt b rfl).2
 have HG2:=zh hG;have HGL:=zh H.box.lt;obtain⟨V0,hV0⟩:∃V0,w.alloc (.cells #[.int .i64 tag] 3)=V0:=⟨_,rfl⟩;have kt:Bk V0 w.heap.size 3 #[.int .i64 tag]:=by rw[←hV0];exact Bk.new _ _ _
 have hb0:Below w.heap.size w V0:=by rw[←hV0];exact(zb _ _).alloc (zn _) _
 obtain⟨W0,hW0⟩:∃W0,V0.alloc (.cells #[.int .i64 0,.int .i64 0,.int .i64 0,.int .i64 0,.string ⟨#[]⟩,.string ⟨#[]⟩,.bool false,.int .i64 0] 77)=W0:=⟨_,rfl⟩;have kz:Bk W0 V0.heap.size 77 #[.int .i64 0,.int .i64 0,.int .i64 0,.int .i64 0,.string ⟨#[]⟩,.string ⟨#[]⟩,.bool false,.int .i64 0]:=by rw[←hW0];exact Bk.new _ _ _
 have hb1:Below V0.heap.size V0 W0:=by rw[←hW0];exact(zb _ _).alloc (zn _) _
 have kt0:=kt.below hb1 kt.lt;have hz1:V0.heap.size=w.heap.size+1:=by rw[←hV0];simp
 have HB0:=zh (hb0.trans (hb1.mono hb0.size));have hH0:=H.since HB0.out;have n1:W0.cell? ⟨g,1,none⟩=some (.slice A2 s.outs.length C2):=hH0.box.cell 1;have HH0:=zh hH0;have HKT:=zh kt0;rw[hz1] at kz;have HKZ:=zh kz;have HLOW:=zh hlow;clear hb0 hb1 kt kt0 kz H hH0 hlow hG;go_enter Tryz.func48,Tryz.ntmps48
 go_wp2_with fail
 clear n1;refine(Abb 92 #[.pointer (some ⟨w.heap.size,0,none⟩)] Ari (fun x=>decide (x.tag=tag)) s.outs A2 C2 lo W0 (fun x _ W hW=>by simpa using Ao6 x tag w.heap.size W ((HKT.out.below hW HKT.out.lt).cell 0)) (Sl.cu HH0.out.held.outs) (by omega)).mono ?_;rw[Aen];rintro e W1 ⟨rfl,hb1⟩;have HB1:=zh (HB0.out.trans (hb1.mono HB0.out.size));have HH1:=zh (HH0.out.since hb1);have HKZ1:=zh (HKZ.out.below hb1 HKZ.out.lt);clear hb1 HKZ HKT HH0 HB0
 cases hk:Ka s tag with
 |none=>
  obtain⟨k0,k1,k2,k3,k4,k5,k6,k7,f0,f1,f2,f3,f4,f5,f6,f7,hlt⟩:=Af HKZ1.out;dsimp only;go_wp2_with fail
  refine bodyPost_ret (v:= .tuple #[.agg Wg.toArray,.bool false]) (by simp[results,Tryz.results48,go_sem,Wg,k0,k1,k2,k3,k4,k5,k6,k7,hlt]) rfl ?_;exact .inl ⟨hk,rfl,Ak HB1.out (by omega) _ _ _ _ _ _ _ _⟩
 |some k=>
  obtain⟨hkl,htg,hnt⟩:=Jd hk;clear htg hnt;have hx:=J9 hkl;obtain⟨g2,rfl⟩:=Fa HH1.out.held.outs (by omega);have hg2:g2 < W1.heap.size:=(HH1.out.held.outs.lt g2 rfl).2;obtain⟨e0,e1,e2,e3,e4,e5,e6,e7⟩:=G7 (wr:=W1) (b:=g2) (o:=0) (k:=k) (x:=s.outs[k]) fun j u hu=>by
   obtain⟨b,o,e,_,_,hc⟩:=Bd Dy (by decide) (Sl.cu HH1.out.held.outs) hkl;simp only[Option.some.injEq,Addr.mk.injEq,and_true] at e;obtain⟨rfl,rfl⟩:=e;exact hc j u hu
  rw[←hx] at e0 e1 e2 e3 e4 e5 e6 e7;simp only[Nat.zero_add] at e0 e1 e2 e3 e4 e5 e6 e7;have HX:=zh hx;generalize Jo s k=x at *;clear hx;have n1:W1.cell? ⟨g,1,none⟩=some (.slice (some ⟨g2,0,none⟩) s.outs.length C2):=HH1.out.box.cell 1;have hj:(k:Int) < (s.outs.length:Int):=by omega
  dsimp only;go_upto_region 5 with fail
  obtain⟨W2,hW2⟩:∃W2,W1.alloc (.cells #[.int .i64 x.tag,.int .i64 x.bg,.int .i64 x.queue,.int .i64 x.item.seq,.string x.item.key,.string x.item.body,.bool x.item.again,.int .i64 x.item.au] 77)=W2:=⟨_,rfl⟩;have kx2:Bk W2 W1.heap.size 77 #[.int .i64 x.tag,.int .i64 x.bg,.int .i64 x.queue,.int .i64 x.item.seq,.string x.item.key,.string x.item.body,.bool x.item.again,.int .i64 x.item.au]:=by rw[←hW2];exact Bk.new _ _ _
  have hb2:Below W1.heap.size W1 W2:=by rw[←hW2];exact(zb _ _).alloc (zn _) _
  have HB2:=zh (HB1.out.trans (hb2.mono HB1.out.size));have hH2:=HH1.out.since hb2;have HKZ2:=zh (HKZ1.out.below hb2 HKZ1.out.lt);have HKX2:=zh kx2;have HH2:=zh hH2;rw[hW2];clear e0 e1 e2 e3 e4 e5 e6 e7 n1 hb2 kx2 hW2;have n1:W2.cell? ⟨g,1,none⟩=some (.slice (some ⟨g2,0,none⟩) s.outs.length C2):=hH2.box.cell 1;clear hH2;go_wp2_with fail
  refine(Afj lo g2 C2 k s.outs W2 HH2.out.held.outs hkl hl).mono ?_;rintro e W3 ⟨rfl,ho3,hg3⟩;clear n1;have hgz:(w.heap.size+1)≠g2:=by
   have h1:=HG2.out g2 rfl;omega
  have kx3:=HKX2.out.grown hg3 (by simp only[ne_eq,Option.some.injEq];omega);have kz3:=HKZ2.out.grown hg3 (by simp only[ne_eq,Option.some.injEq];exact hgz);have kb3:=HH2.out.box.grown hg3 (D8 HH2.out.held.outs HH2.out.box (by decide));have hkk:Al [77] W2 W3:=Al.grown HH2.out.held.outs hg3 (by simp);have hbl3:=Bl HH2.out.held.outs hg3 (HB2.out.mono HLOW.out) (zn _) HH2.out.size;rw[←List.length_eraseIdx_of_lt hkl] at ho3;have hhe:=HH2.out.held.outsTo hkk ho3;have hgl:=HH2.out.gl;obtain⟨W4,hW4⟩:∃W4,W3.setCell ⟨g,1,none⟩ (.slice (some ⟨g2,0,none⟩) (s.outs.length - 1) C2)=W4:=⟨_,rfl⟩;have kk4:=Al.set kb3 (ts:=[31]) (by decide) 1 (.slice (some ⟨g2,0,none⟩) (s.outs.length - 1) C2);have kb4:Bk W4 g 31 (Ey (Au s k) v1 (.slice (some ⟨g2,0,none⟩) (s.outs.length - 1) C2) v3):=by rw[←hW4];exact kb3.ck 1 _
  have hbl4:=hbl3.setCell (p:=⟨g,1,none⟩) hgl (.slice (some ⟨g2,0,none⟩) (s.outs.length - 1) C2);have hgV:(w.heap.size+1)≠g:=by have h1:=HGL.out;omega
  have hgX:W1.heap.size≠g:=by have h1:=HGL.out;have h2:=HB1.out.size;omega
  have kx4:=kx3.far (p:=⟨g,1,none⟩) hgX (.slice (some ⟨g2,0,none⟩) (s.outs.length - 1) C2);have kz4:=kz3.far (p:=⟨g,1,none⟩) hgV (.slice (some ⟨g2,0,none⟩) (s.outs.length - 1) C2);rw[hW4] at kk4 hbl4 kx4 kz4;rw[List.length_eraseIdx_of_lt hkl] at hhe;have hR4:Ee W4 lo g v1 (.slice (some ⟨g2,0,none⟩) (s.outs.length - 1) C2) v3 rows (Au s k):=⟨hbl4.size |> fun h=>zr HLOW.out h,kb4,hhe.kept kk4,hgl⟩;have b1:=kb3.cell 1;have fb1:=kb3.frozen 1;have lb1:=kb3.lt;simp only[Ey,zI,zJ,zK] at b1;have HKO:Hid (∀b cs,b≠g2→Bk w b 77 cs→Bk W4 b 77 cs):=zh fun b cs hne hbk=>
   kk4 b _ cs (by decide) ((hbk.below HB2.out hbk.lt).grown hg3 (by simp only[ne_eq,Option.some.injEq];exact hne))
  have HR4:=zh (zi hR4 (zi hbl4 ((Al.ct (ts:=[]) HB2.out).more (by simp) |>.trans ((hkk.more (by simp)).trans (kk4.more (by simp))):Al [77,31] w W4)));have HKX4:=zh kx4;have HKZ4:=zh kz4;clear kx3 kz3 kb3 hkk hbl3 hhe kk4 kb4 hbl4 kx4 kz4 hR4 ho3 hg3;go_upto_region 6 with fail
  clear b1 fb1 lb1 hW4;obtain⟨q0,q1,q2,q3,q4,q5,q6,q7,_,_,_,_,_,_,_,_,_⟩:=Af HKX4.out;obtain⟨k0,k1,k2,k3,k4,k5,k6,k7,f0,f1,f2,f3,f4,f5,f6,f7,hlt⟩:=Af HKZ4.out;go_wp2_with fail
  refine bodyPost_ret (v:= .tuple #[.agg #[.int .i64 x.tag,.int .i64 x.bg,.int .i64 x.queue,.int .i64 x.item.seq,.string x.item.key,.string x.item.body,.bool x.item.again,.int .i64 x.item.au],.bool true]) (by simp[results,Tryz.results48,go_sem,k0,k1,k2,k3,k4,k5,k6,k7,hlt]) rfl ?_;have hgr:=Aj9 W4 (w.heap.size+1) (.int .i64 x.tag) (.int .i64 x.bg) (.int .i64 x.queue) (.int .i64 x.item.seq) (.string x.item.key) (.string x.item.body) (.bool x.item.again) (.int .i64 x.item.au);have hk5:Al [77] W4 _:=Al.dg HKZ4.out (by decide) (.int .i64 x.tag) (.int .i64 x.bg) (.int .i64 x.queue) (.int .i64 x.item.seq) (.string x.item.key) (.string x.item.body) (.bool x.item.again) (.int .i64 x.item.au);have hb5:=Ak (B:=lo) HR4.out.2.1 (show lo≤(w.heap.size+1) by have h1:=HLOW.out;omega) (.int .i64 x.tag) (.int .i64 x.bg) (.int .i64 x.queue) (.int .i64 x.item.seq) (.string x.item.key) (.string x.item.body) (.bool x.item.again) (.int .i64 x.item.au);have hko5:∀b cs,b≠g2→Bk w b 77 cs→Bk ((((((((W4.setCell ⟨(w.heap.size+1),0,none⟩ (.int .i64 x.tag)).setCell ⟨(w.heap.size+1),1,none⟩ (.int .i64 x.bg)).setCell ⟨(w.heap.size+1),2,none⟩ (.int .i64 x.queue)).setCell ⟨(w.heap.size+1),3,none⟩ (.int .i64 x.item.seq)).setCell ⟨(w.heap.size+1),4,none⟩ (.string x.item.key)).setCell ⟨(w.heap.size+1),5,none⟩ (.string x.item.body)).setCell ⟨(w.heap.size+1),6,none⟩ (.bool x.item.again)).setCell ⟨(w.heap.size+1),7,none⟩ (.int .i64 x.item.au)) b 77 cs:=fun b cs hne hbk=>
   Rm (HKO.out b cs hne hbk) (by have:=hbk.lt;omega) _ _ _ _ _ _ _ _
  have ho5:=HR4.out.1.held.outs.kept hgr (.inr (by show some g2≠some (w.heap.size+1);simp only[ne_eq,Option.some.injEq];omega));exact .inr ⟨k,hk,by rw[J9 hkl,←HX.out];rfl,.slice (some ⟨g2,0,none⟩) (s.outs.length - 1) C2,⟨zr HLOW.out hb5.size,hk5 _ _ _ (by decide) HR4.out.1.box,HR4.out.1.held.outsTo hk5 ho5,HR4.out.1.gl⟩,HR4.out.2.2.trans (hk5.more (by simp)),hb5,rfl,fun b cs hne hbk=>hko5 b cs (fun e=>hne (by rw[e];rfl)) hbk⟩
open Go Go.RowKit
def O3 (lo g:Nat) (E:Int) (X:Aa) (w:World) (e:Ending) (W:World):Prop:=
 e= .returned (.int .i64 E)∧Below lo w W∧(E=0→∃v1 v2 v3 rows,Ee W lo g v1 v2 v3 rows X)
theorem X4 (p:Ab) (s:Aa) (E:Int) (X:Aa) (gf:Nat) (lb:Array Value) (eg:∀args w,(callFunc gf args).run Tryz.prog w= .ok (.enter gf args) w) (p1 p2 p3 a1 a2 a3:Option Addr) (q1 q2 q3 c1 c2 c3:Nat) (rows:List Bq) (w:World) (hE:Env w) (hp:Az w 0 w.heap.size p1 p2 p3 p) (hps:Ai p) (hs:Ax w 0 w.heap.size a1 a2 a3 rows s) (hss:Am s) (hsi:Ba s)
  (Y:Aa) (F:Int) (hYF:(Ao p s≠0→Y=Ay∧F=Ao p s)∧(Ao p s=0→F=E∧(E=0→Y=X)∧(E≠0→Y=Ay)))
  (hT:Cs p s→∀(W:World) (lo g:Nat) (v1 v2 v3:Value) (rows:List Bq),w.heap.size≤lo→Below w.heap.size w W→Ee W lo g v1 v2 v3 rows s→Calls Tryz.prog gf (#[.pointer (some ⟨g,0,none⟩)]++lb) W (O3 lo g E X W)):
  Calls Tryz.prog 46 #[Bc p p1 p2 p3 q1 q2 q3,Ac s a1 a2 a3 c1 c2 c3,.func (.func gf) #[] lb] w (Js Y F w):=by
 have HT:=zh hT;have HYF:=zh hYF;clear hT hYF;have hbx:=B9 q1 q2 q3 c1 c2 c3 hE hp hs 26 31;unfold Ag at hbx;unfold Ac Bc Ag;have htl:=hss.ae;have HPS:=zh hps;have HSS:=zh hss;have HSI:=zh hsi;clear hE hp hs hps hss hsi;go_enter Tryz.func46,Tryz.ntmps46
 obtain⟨⟨m0,m1,m2⟩,⟨n0,n1,n2,n3,n4,n5,n6,n7⟩,_,_,_,_⟩:=hbx _ ((zb _ _).alloc (zn _) (.cells zO 31));go_wp2_with fail
 clear m0 m1 m2 n0 n1 n2 n3 n4 n5 n6 n7;obtain⟨V0,hV0⟩:∃V0,((w.alloc (.cells (zP p p1 p2 p3 q1 q2 q3) 26)).alloc (.cells (zV s a1 a2 a3 c1 c2 c3) 31))=V0:=⟨_,rfl⟩;have hzV:V0.heap.size=w.heap.size+1+1:=by rw[←hV0];simp
 rw[hV0] at hbx;have HBV:=zh hbx;obtain⟨W0,hW0⟩:∃W0,V0.alloc (.cells zO 31)=W0:=⟨_,rfl⟩;have hbV:Below V0.heap.size V0 W0:=by rw[←hW0];exact(zb _ _).alloc (zn _) _
 have HZ:Hid (W0.heap.size=w.heap.size+1+1+1):=by refine(?_:W0.heap.size=_);rw[←hW0,←hzV];simp
 have HBX:Hid (∀W,Below W0.heap.size W0 W→La w p s p1 p2 p3 a1 a2 a3 q1 q2 q3 c1 c2 c3 rows W∧Bk W (w.heap.size+1+1) 31 zeroCells):=fun W hW=>by
  have k:Bk W0 (w.heap.size+1+1) 31 zeroCells:=by rw[←hW0];exact Bk.cg _ _ _ hzV.symm
  exact⟨HBV.out W (hbV.trans (hW.mono hbV.size)),k.below hW k.lt⟩
 rw[hV0,hW0];clear hbx hbV hzV HBV hV0 hW0;refine(Fb p s p1 p2 p3 a1 a2 a3 q1 q2 q3 c1 c2 c3 rows W0 (HBX.out _ (zb _ _)).1.env (HBX.out _ (zb _ _)).1.bu HPS.out (HBX.out _ (zb _ _)).1.bc HSS.out HSI.out).mono ?_;rintro e W1 ⟨rfl,hb1⟩;have HB1:=zh hb1;clear hb1;by_cases hc:Ao p s=0
 ·have b1:(Ao p s != 0)=false:=by simp[hc]
  have HC:=zh hc;have HRT:=zh (Da.1 hc);clear hc;obtain⟨n0,n1,n2,n3,n4,n5,n6,n7⟩:=(HBX.out _ HB1.out).1.state;go_wp2_with fail
  have hcall:=Yl s a1 a2 a3 c1 c2 c3 rows W1 (HBX.out _ HB1.out).1.bc HSS.out;unfold Ac Ag at hcall;refine hcall.mono ?_;clear hcall n0 n1 n2 n3 n4 n5 n6 n7;rintro e W5 ⟨v1,v2,v3,rows5,rfl,ho5,hb5⟩;unfold Ey;obtain⟨W6,hW6⟩:∃W6,W5.alloc (.cells #[v1,v2,v3,.int .i64 s.ah,.int .i64 s.af,.int .i64 s.aw,.int .i64 s.ar,.int .i64 s.dropped] 31)=W6:=⟨_,rfl⟩;have kb6:Bk W6 W5.heap.size 31 (Ey s v1 v2 v3):=by rw[←hW6];exact Bk.new _ _ _
  have hal6:Below W5.heap.size W5 W6:=by rw[←hW6];exact(zb _ _).alloc (zn _) _
  have h16:Below W1.heap.size W1 W6:=hb5.trans (hal6.mono hb5.size);have HB6:=zh (HB1.out.trans (h16.mono HB1.out.size));have HLO:=zh (zr (HBX.out _ (zb _ _)).1.below.size HB1.out.size);have HR6:=zh (show Ee W6 W1.heap.size W5.heap.size v1 v2 v3 rows5 s from⟨h16.size,kb6,(ho5.below hal6).held,hb5.size⟩);obtain⟨A1,C1,rfl,_⟩:=Ad ho5.ready;obtain⟨A2,C2,rfl,_⟩:=Ad ho5.outs;obtain⟨A3,C3,rfl,_⟩:=Ad ho5.ae;clear ho5 hb5 kb6 hal6 h16;go_wp2_with fail
  clear hW6;refine(HT.out HRT.out W6 W1.heap.size W5.heap.size _ _ _ rows5 HLO.out (HBX.out _ HB6.out).1.below HR6.out).mono ?_;rintro e W7 ⟨rfl,hb7,hr7⟩;have HB7:=zh (HB6.out.trans (hb7.mono HB1.out.size));have HR7:=zh hr7;clear hb7 hr7;by_cases hE0:E=0
  ·have b2:(E != 0)=false:=by simp[hE0]
   have HY:=zh (zi ((HYF.out.2 HC.out).2.1 hE0) (HYF.out.2 HC.out).1);obtain⟨v1,v2,v3,rows7,h8⟩:=HR7.out hE0;have HE0:=zh hE0;clear hE0;obtain⟨A1,C1,rfl,_⟩:=Ad h8.held.ready;obtain⟨A2,C2,rfl,_⟩:=Ad h8.held.outs;obtain⟨A3,C3,rfl,_⟩:=Ad h8.held.ae;have g0:=h8.box.cell 0;have g1:=h8.box.cell 1;have g2:=h8.box.cell 2;have g3:=h8.box.cell 3;have g4:=h8.box.cell 4;have g5:=h8.box.cell 5;have g6:=h8.box.cell 6;have g7:=h8.box.cell 7;simp only[Ey,zI,zJ,zK] at g0 g1 g2 g3 g4 g5 g6 g7;have HH8:=zh h8;clear h8;have hzk:=(HBX.out _ HB7.out).2;have HZS:=zh hzk;unfold zeroCells at hzk;obtain⟨k0,k1,k2,k3,k4,k5,k6,k7,f0,f1,f2,f3,f4,f5,f6,f7,hlt⟩:=Af hzk;clear hzk;go_wp2_with fail
   refine bodyPost_ret (v:= .tuple #[.agg (zV X A1 A2 A3 C1 C2 C3),.int .i64 0]) (by simp[results,Tryz.results46,go_sem,k0,k1,k2,k3,k4,k5,k6,k7,hlt]) rfl ?_;have hfin:=(HH8.out.held.kept (Al.dg HZS.out (ts:=[31]) (by decide) (.slice A1 X.ready.length C1) (.slice A2 X.outs.length C2) (.slice A3 X.ae.length C3) (.int .i64 X.ah) (.int .i64 X.af) (.int .i64 X.aw) (.int .i64 X.ar) (.int .i64 X.dropped)));refine⟨A1,A2,A3,C1,C2,C3,_,(by rw[HY.out.1,HY.out.2,HE0.out];rfl),(by rw[HY.out.1];exact hfin.wider HLO.out),Ak (HBX.out _ HB7.out).1.below (by omega) _ _ _ _ _ _ _ _⟩
  ·have b2:(E != 0)=true:=by simp[hE0]
   have HY:=zh (zi ((HYF.out.2 HC.out).2.2 hE0) (HYF.out.2 HC.out).1);clear hE0;have hzk:=(HBX.out _ HB7.out).2;unfold zeroCells at hzk;obtain⟨k0,k1,k2,k3,k4,k5,k6,k7,f0,f1,f2,f3,f4,f5,f6,f7,hlt⟩:=Af hzk;clear hzk;go_wp2_with fail
   refine bodyPost_ret (v:= .tuple #[Ac Ay none none none 0 0 0,.int .i64 E]) (by simp[results,Tryz.results46,go_sem,Ac,Ag,Ay,k0,k1,k2,k3,k4,k5,k6,k7,hlt]) rfl ?_;exact⟨none,none,none,0,0,0,[],by rw[HY.out.1,HY.out.2],by rw[HY.out.1];exact Dx _ _,Ak (HBX.out _ HB7.out).1.below (by omega) _ _ _ _ _ _ _ _⟩
 ·have b1:(Ao p s != 0)=true:=by simp[hc]
  have HY:=zh (HYF.out.1 hc);clear hc;have hzk:=(HBX.out _ HB1.out).2;unfold zeroCells at hzk;obtain⟨k0,k1,k2,k3,k4,k5,k6,k7,f0,f1,f2,f3,f4,f5,f6,f7,hlt⟩:=Af hzk;clear hzk;go_wp2_with fail
  refine bodyPost_ret (v:= .tuple #[Ac Ay none none none 0 0 0,.int .i64 (Ao p s)]) (by simp[results,Tryz.results46,go_sem,Ac,Ag,Ay,k0,k1,k2,k3,k4,k5,k6,k7,hlt]) rfl ?_;exact⟨none,none,none,0,0,0,[],by rw[HY.out.1,HY.out.2],by rw[HY.out.1];exact Dx _ _,Ak (HBX.out _ HB1.out).1.below (by omega) _ _ _ _ _ _ _ _⟩
theorem Aav (p:Ab) (s:Aa) (E:Int) (X:Aa) (gf:Nat) (lb:Array Value) (eg:∀args w,(callFunc gf args).run Tryz.prog w= .ok (.enter gf args) w) (p1 p2 p3 a1 a2 a3:Option Addr) (q1 q2 q3 c1 c2 c3:Nat) (rows:List Bq) (w:World) (hE:Env w) (hp:Az w 0 w.heap.size p1 p2 p3 p) (hps:Ai p) (hs:Ax w 0 w.heap.size a1 a2 a3 rows s) (hss:Am s) (hsi:Ba s)
  (Y:Aa) (F:Int) (hYF:(Ao p s≠0→Y=Ay∧F=Ao p s)∧(Ao p s=0→F=E∧(E=0→Y=X)∧(E≠0→Y=Ay)))
  (hT:Cs p s→∀(W:World) (lo g:Nat) (v1 v2 v3:Value) (rows:List Bq),w.heap.size≤lo→Below w.heap.size w W→Ee W lo g v1 v2 v3 rows s→Calls Tryz.prog gf (#[.pointer (some ⟨g,0,none⟩)]++lb) W (O3 lo g E X W)):
  Calls Tryz.prog 46 #[Bc p p1 p2 p3 q1 q2 q3,Ac s a1 a2 a3 c1 c2 c3,.func (.func gf) #[] lb] w (Jk Y F w):=
 (X4 p s E X gf lb eg p1 p2 p3 a1 a2 a3 q1 q2 q3 c1 c2 c3 rows w hE hp hps hs hss hsi Y F hYF hT).mono fun _ _ h=>h.post
theorem Aqc (lo g tb:Nat) (p:Ab) (s:Aa) (hR:Cs p s) (tag:Int) (v1 v2 v3:Value) (rows:List Bq) (w:World) (ht:w.cell? ⟨tb,0,none⟩=some (.int .i64 tag)) (H:Ee w lo g v1 v2 v3 rows s):
  Calls Tryz.prog 47 #[.pointer (some ⟨g,0,none⟩),.pointer (some ⟨tb,0,none⟩)] w (O3 lo g (Dr p s tag) (Ha p s tag) w):=by
 have hoc:=Ns hR;have hac:=count_in' hR.ar;have HCALL:=zh (Xz lo g v1 v2 v3 rows s tag w H hoc);have HLOW:=zh H.size;have HR:=zh hR;clear H hR hoc;go_enter Tryz.func47,Tryz.ntmps47
 go_wp2_with fail
 clear ht;refine HCALL.out.mono ?_;rintro e W1 h;rcases h with⟨hk,rfl,hb⟩|⟨k,hk,rfl,v2',h1,hk1,hb1,_,_⟩
 ·have he:Dr p s tag=5:=by unfold Dr;rw[zq (by rw[Da.2 HR.out];decide),zp hk]
  have HE:=zh he;have HB:=zh (hb.mono HLOW.out);clear hb he hk;unfold Wg;go_wp2_with fail
  go_ret
  exact⟨by rw[HE.out];rfl,HB.out.alloc (zr HLOW.out HB.out.size) _,fun h=>absurd h (by rw[HE.out];decide)⟩
 ·obtain⟨he,hS,_⟩:=Rh HR.out hk
  have HE:=zh (zi he hS);obtain⟨W2,hW2⟩:∃W2,W1.alloc (.cells (Eg (Jo s k)).toArray 77)=W2:=⟨_,rfl⟩;have hb2:Below W1.heap.size W1 W2:=by rw[←hW2];exact(zb _ _).alloc (zn _) _
  have h2:=h1.since hb2;have m6:W2.cell? ⟨g,6,none⟩=some (.int .i64 s.ar):=h2.box.cell 6;have z6:=h2.box.frozen 6;have l6:=h2.box.lt;obtain⟨r3,k3,b3⟩:=h2.num 6 (.int .i64 (s.ar+1)) s.ah s.af s.aw (s.ar+1) s.dropped rfl;have HF:=zh (zi r3 ((hb1.trans (hb2.mono h1.size)).trans b3));have hwr:IntKind.i64.wrap (s.ar+1)=s.ar+1:=IntWalk.i64_in _ (by omega);clear h1 hk1 hb1 hb2 h2 r3 k3 b3 he hS hk;generalize Jo s k=x at *;unfold Eg at *;go_upto_region 2 with fail
  clear hW2;go_wp2_with fail
  go_ret
  exact⟨by rw[HE.out.1];rfl,HF.out.2,fun _=>⟨_,_,_,_,by rw[HE.out.2];exact HF.out.1⟩⟩
theorem Aun:∀args w,(callFunc 47 args).run Tryz.prog w= .ok (.enter 47 args) w:=enters_of Tryz.func47 (by kernel_rfl) rfl
theorem Aqd (p:Ab) (s:Aa) (tag:Int):(Ao p s≠0→Ha p s tag=Ay∧Dr p s tag=Ao p s)∧(Ao p s=0→Dr p s tag=Dr p s tag∧(Dr p s tag=0→Ha p s tag=Ha p s tag)∧(Dr p s tag≠0→Ha p s tag=Ay)):=by
 have h0:Dr p s tag≠0→Ha p s tag=Ay:=fun h=>by unfold Ha;rw[zq h]
 refine⟨fun h=> ?_,fun _=>⟨rfl,fun _=>rfl,h0⟩⟩;have e:Dr p s tag=Ao p s:=by unfold Dr;rw[zp h]
 exact⟨h0 (by rw[e];exact h),e⟩
open Go Go.RowKit
theorem Ve {w:World} {B:Nat} {e:TypeId} {size n:Nat} {v:Value} {us:List Value} (h:w.ownsRow B e size v n us):∀b,w.heap.size≤b→v.ownBlock=none∨v.ownBlock≠some b:=fun b hb=>by
 obtain⟨a,c,rfl,_⟩:=Ad h
 cases a with
 |none=>exact .inl rfl
 |some ad=>
  right
  intro e;have e2:ad.block=b:=by simpa [Value.ownBlock] using e
  rcases h.2 with⟨h1,_⟩|⟨g,cap,cur,hv,_,hg,_⟩
  ·cases h1
  ·simp only[Value.slice.injEq,Option.some.injEq] at hv
   obtain⟨rfl,_⟩:=hv;have:=(Array.getElem?_eq_some_iff.1 hg).1;simp only at e2;omega
theorem Cm.setOut {w:World} {lo:Nat} {v1 v2 v3:Value} {rows:List Bq} {s:Aa} (h:Cm w lo v1 v2 v3 rows s) {b:Nat} {cs:Array Value} (hk:Bk w b 77 cs) (hne:v2.ownBlock=none∨v2.ownBlock≠some b) (i:Nat) (u:Value):Cm (w.setCell ⟨b,i,none⟩ u) lo v1 v2 v3 rows s:=
 h.outsTo (Al.set hk (ts:=[77]) (by decide) i u) (h.outs.kept (P4 _ _ _ _) hne)
structure Atv (p:Ab) (s:Aa) (k q:Nat) (x:Eh):Prop where
 is_:Jo s k=x
 qu:x.queue=(q:Int)
 ql:q < p.ag.length
 len:s.ready.length=p.ag.length
 sorted:(Ah s q).Pairwise fun x y=>x.seq < y.seq
 none:(Ah s q).any (fun y=>decide (y.seq=x.item.seq))=false
 short:(Ah s q).length≤100000
 ok:∀y∈Bs (Ah s q) (Fc x.item),y.key.size≤1048576∧0≤y.au∧y.au≤2
 dropped:0≤s.dropped∧s.dropped≤1048576
 au:0≤x.item.au∧x.item.au≤2
 key:x.item.key.size≤1048576
theorem Af2 {p:Ab} {s:Aa} (h:Cs p s) {k:Nat} (hk:k < s.outs.length):∃q x,Atv p s k q x:=by
 obtain⟨h1,h2,h3⟩:=Qr h hk;obtain⟨f1,f2,f3,f4⟩:=Qj h hk;have hr:=Ct h.bz;obtain⟨q,hq⟩:=Int.eq_ofNat_of_zero_le f2;have hql:q < p.ag.length:=by omega
 have hqr:((q:Int)).toNat < s.ready.length:=by rw[h.len];omega
 have hm:=Nj (s:=s) (q:=(q:Int)) hqr;have hf:=E7.1 (h.line _ hm);have hlim:((Ah s q).length:Int)≤p.ag[q].bm:=by
  refine h.bm q _ _ ?_ (zG hql);rw[Ev hqr];exact zG (by omega)
 have h6:=hr.queue _ (zg hql);refine⟨q,s.outs[k],J9 hk,hq,hql,h.len,hf.2,?_,by omega,fun y hy=> ?_,count_in' h.dropped,(Li f1).2,(Li f1).1⟩
 ·rw[List.any_eq_false]
  intro y hy he
  apply h2
  unfold Db Dj;rw[List.mem_append]
  left
  rw[List.mem_flatMap];exact⟨_,hm,List.mem_map.2 ⟨y,hy,by simpa using he⟩⟩
 ·rcases Jw.1 hy with rfl|hy
  ·exact Li (Zh f1)
  ·exact Li (hf.1 y hy)
def VO (x:Eh) (b:Bool):Array Value:= #[.int .i64 x.tag,.int .i64 x.bg,.int .i64 x.queue,.int .i64 x.item.seq,.string x.item.key,.string x.item.body,.bool b,.int .i64 x.item.au]
def Adz (lo g:Nat) (E:Int) (X:Aa) (v2:Value) (w:World) (e:Ending) (W:World):Prop:=
 e= .returned (.int .i64 E)∧Below lo w W∧(E=0→∃v1 v2' v3 rows,Ee W lo g v1 v2' v3 rows X∧v2'.ownBlock=v2.ownBlock∧KO v2 w W)
theorem Adz.turn {lo g:Nat} {E:Int} {X:Aa} {v2:Value} {w:World} {e:Ending} {W:World} (h:Adz lo g E X v2 w e W):O3 lo g E X w e W:=
 ⟨h.1,h.2.1,fun h0=>by obtain⟨v1,v2',v3,rows,h1,_⟩:=h.2.2 h0;exact⟨v1,v2',v3,rows,h1⟩⟩
theorem Aai (lo g:Nat) (p:Ab) (p1 p2 p3:Option Addr) (q1 q2 q3:Nat) (s:Aa) (hR:Cs p s) (hps:Ai p) (tag:Int) (back:Bool) (v1 v2 v3:Value) (rows:List Bq) (w:World) (hp:Az w 0 lo p1 p2 p3 p) (hE:Nx lo w) (H:Ee w lo g v1 v2 v3 rows s):
  Calls Tryz.prog 50 #[.agg (zP p p1 p2 p3 q1 q2 q3),.pointer (some ⟨g,0,none⟩),.int .i64 tag,.bool back] w (Adz lo g (Bg p s tag) (Cf p s tag back) v2 w):=by
 have hoc:=Ns hR;have hlow:=H.size;obtain⟨W0,hW0⟩:∃W0,w.alloc (.cells (zP p p1 p2 p3 q1 q2 q3) 26)=W0:=⟨_,rfl⟩;have kp:Bk W0 w.heap.size 26 (zP p p1 p2 p3 q1 q2 q3):=by rw[←hW0];exact Bk.new _ _ _
 have hb0:Below w.heap.size w W0:=by rw[←hW0];exact(zb _ _).alloc (zn _) _
 have hH0:=H.since hb0;obtain⟨A1,C1,rfl,_⟩:=Ad H.held.ready;obtain⟨A2,C2,rfl,_⟩:=Ad H.held.outs;obtain⟨A3,C3,rfl,_⟩:=Ad H.held.ae;have n0:=hH0.box.cell 0;have n1:=hH0.box.cell 1;have n2:=hH0.box.cell 2;have n3:=hH0.box.cell 3;have n4:=hH0.box.cell 4;have n5:=hH0.box.cell 5;have n6:=hH0.box.cell 6;have n7:=hH0.box.cell 7;simp only[Ey,zI,zJ,zK] at n0 n1 n2 n3 n4 n5 n6 n7;have HPA:Hid (∀W,Below lo w W→Az W 0 lo p1 p2 p3 p∧Nx lo W):=zh fun W hW=>⟨hp.below hW (zn _),hE.keep fun p hp=>hW.cell hp⟩;have HH0:=zh hH0;have HKP:=zh kp;have HR:=zh hR;have HB0:=zh hb0;have HLOW:=zh hlow;have HOC:=zh hoc;have HPS:=zh hps;clear hp hE H hH0 kp hb0 hR hlow hoc hps;go_enter Tryz.func50,Tryz.ntmps50
 go_wp2_with fail
 clear hW0;refine(Afp s A1 A2 A3 C1 C2 C3 W0).mono ?_;rintro e W1 ⟨rfl,hb1⟩;have HH1:=zh (HH0.out.since hb1);have HB1:=zh (HB0.out.trans (hb1.mono HB0.out.size));have HKP1:=zh (HKP.out.below hb1 HKP.out.lt);clear hb1 n0 n1 n2 n3 n4 n5 n6 n7 HKP HH0;go_wp2_with fail
 refine(Xz lo g _ _ _ rows s tag W1 HH1.out HOC.out).mono ?_;rintro e W2 h;rcases h with⟨hk,rfl,hb⟩|⟨k,hk,rfl,v2',h2,hk2,hb2,hob2,hko2⟩
 ·have he:Bg p s tag=5:=by unfold Bg;rw[zq (by rw[Da.2 HR.out];decide),zp hk]
  have HE:=zh he;have HB:=zh ((HB1.out.mono HLOW.out).trans (hb.mono HH1.out.size));clear hb he hk;unfold Wg;go_wp2_with fail
  go_ret
  exact⟨by rw[HE.out];rfl,HB.out.alloc (zr HLOW.out HB.out.size) _,fun h=>absurd h (by rw[HE.out];decide)⟩
 ·obtain⟨hkl,htg,hnt⟩:=Jd hk
  clear htg hnt;have HK:=zh hk;clear hk;obtain⟨q,x,hpre⟩:=Af2 HR.out hkl;have hx:=hpre.is_;have HQU:=zh hpre.qu;obtain⟨W3,hW3⟩:∃W3,W2.alloc (.cells (VO (Jo s k) (Jo s k).item.again) 77)=W3:=⟨_,rfl⟩;have kx3:Bk W3 W2.heap.size 77 (VO (Jo s k) (Jo s k).item.again):=by rw[←hW3];exact Bk.new _ _ _
  have hb23:Below W2.heap.size W2 W3:=by rw[←hW3];exact(zb _ _).alloc (zn _) _
  have h3:=h2.since hb23;have HB3:=zh (((HB1.out.mono HLOW.out).trans hb2).trans (hb23.mono h2.size));have kp3:=(hk2 _ _ _ (by decide) HKP1.out).below hb23 (hk2 _ _ _ (by decide) HKP1.out).lt;have HRC:=zh (Aaj HR.out hkl back);have HKO3:Hid (∀b cs,(Value.slice A2 s.outs.length C2).ownBlock≠some b→Bk w b 77 cs→Bk W3 b 77 cs):=zh fun b cs hne hbk=>by
   have h1:=hko2 b cs hne (hbk.below HB1.out hbk.lt);exact h1.below hb23 h1.lt
  have HOB2:=zh hob2;have HW2:=zh (zr HB1.out.size (hb2.size));have HOB:=zh (Ve h2.held.outs W2.heap.size (zn _));have hg23:g < W2.heap.size:=h2.box.lt;have hg23':g≠W2.heap.size:=by omega
  have HG:=zh hg23';have HPRE:=zh hpre;have HH3:=zh h3;have HKP3:=zh kp3;rw[←J9 hkl] at HRC;have HXX:=zh hx;rw[hx] at hW3 kx3 HRC⊢;unfold VO at hW3 kx3;have HKX3:=zh kx3;have HLE2:=zh h2.size;clear hb2 hk2 h2 h3 kp3 hb23 hpre hg23 hg23' hx hob2 hko2;unfold Eg;go_upto_region 3 with fail
  clear hW3 HKP1;by_cases hsq:s.ah≤524288
  ·have hd:decide (s.ah≤524288)=true:=by simp[hsq]
   obtain⟨he,hS,_⟩:=Kf HR.out HK.out hsq back;rw[HXX.out] at hS;have HE:=zh (zi he hS);have HSQ:=zh hsq;clear he hS hsq;rw[hd];obtain⟨m0,m1,m2⟩:W3.cell? ⟨w.heap.size,0,none⟩=some (.slice p1 p.aj.length q1)∧W3.cell? ⟨w.heap.size,1,none⟩=some (.slice p2 p.ag.length q2)∧W3.cell? ⟨w.heap.size,2,none⟩=some (.slice p3 p.binds.length q3):=⟨HKP3.out.cell 0,HKP3.out.cell 1,HKP3.out.cell 2⟩;go_wp2_with fail
   refine(Afo g p p1 p2 p3 q1 q2 q3 W3).mono ?_;clear m0 m1 m2;rintro e W4 ⟨rfl,kh4,hb4⟩;have hb34:=HB3.out.trans (hb4.mono HH3.out.size);have h4:=HH3.out.since hb4;have kx4:=HKX3.out.below hb4 HKX3.out.lt;have hhn:W3.heap.size+1≠W2.heap.size:=by have:=HKX3.out.lt;omega
   obtain⟨x0,x1,x2,x3,x4,x5,x6,x7,f0,f1,f2,f3,f4,f5,f6,f7,lx⟩:=Af kx4;rw[HQU.out] at x2;have HH4:=zh h4;have HKX4:=zh kx4;have HKH4:=zh kh4;have HB4:=zh hb34;have HHN:=zh hhn;have HKO4:Hid (∀b cs,(Value.slice A2 s.outs.length C2).ownBlock≠some b→Bk w b 77 cs→Bk W4 b 77 cs):=zh fun b cs hne hbk=>by
    have h1:=HKO3.out b cs hne hbk;exact h1.below hb4 h1.lt
   clear h4 kx4 kh4 hb34 hb4 hhn
   cases back with
   |true=>
    go_upto_region 10 with fail
    obtain⟨W5,hW5⟩:∃W5,W4.setCell ⟨W2.heap.size,6,none⟩ (.bool true)=W5:=⟨_,rfl⟩;have hb5:=HB4.out.setCell (p:=⟨W2.heap.size,6,none⟩) HLE2.out (.bool true);have kx5:=HKX4.out.ck 6 (.bool true);have kh5:=HKH4.out.far (p:=⟨W2.heap.size,6,none⟩) HHN.out (.bool true);have kb5:=HH4.out.box.far (p:=⟨W2.heap.size,6,none⟩) HG.out (.bool true);have he5:=HH4.out.held.setOut HKX4.out HOB.out 6 (.bool true);have hko5:∀b cs,(Value.slice A2 s.outs.length C2).ownBlock≠some b→Bk w b 77 cs→Bk (W4.setCell ⟨W2.heap.size,6,none⟩ (.bool true)) b 77 cs:=fun b cs hne hbk=>
     (HKO4.out b cs hne hbk).far (p:=⟨W2.heap.size,6,none⟩) (by have h1:=hbk.lt;have h2:=HW2.out;show b≠W2.heap.size;omega) _
    rw[hW5] at hb5 kx5 kh5 kb5 he5 hko5;have HKO5:=zh hko5;obtain⟨y0,y1,y2,y3,y4,y5,y6,y7,_,_,_,_,_,_,_,_,_⟩:=Af (show Bk W5 W2.heap.size 77 #[.int .i64 x.tag,.int .i64 x.bg,.int .i64 x.queue,.int .i64 x.item.seq,.string x.item.key,.string x.item.body,.bool true,.int .i64 x.item.au] from kx5);rw[HQU.out] at y2;rw[hW5];have HB5:=zh hb5;have hH5:Ed W5 lo g (W3.heap.size+1) p p1 p2 p3 q1 q2 q3 (.slice A1 s.ready.length C1) v2' (.slice A3 s.ae.length C3) (.slice none 0 0) rows (Au s k) []:=
     ⟨(HPA.out _ hb5).1,(HPA.out _ hb5).2,zr HLOW.out hb5.size,kh5,kb5,he5,World.ownsRow_nil _ _ _ _,HH4.out.gl,zr HLE2.out (by have:=HKX3.out.lt;omega)⟩
    have HL:=zh (Ala lo g (W3.heap.size+1) p p1 p2 p3 q1 q2 q3 (Ct HR.out.bz) HPS.out _ _ _ _ rows (Au s k) [] q (Fc x.item) W5 hH5 HPRE.out.ql HPRE.out.len HPRE.out.sorted HPRE.out.none HPRE.out.short HPRE.out.ok (by simp) HPRE.out.dropped);unfold A9 Fc at HL;clear hb5 kx5 kh5 kb5 he5 hH5 hW5 hko5 x0 x1 x2 x3 x4 x5 x6 x7 f0 f1 f2 f3 f4 f5 f6 f7 lx;go_wp2_with fail
    refine HL.out.mono ?_;rintro e W6 ⟨rfl,wv6,rows6,h6,⟨hb6,ho6⟩⟩;rw[List.nil_append] at h6;clear y0 y1 y2 y3 y4 y5 y6 y7;have hcc:D1 p s k x true=Ek p (Au s k) (q:Int) ⟨x.item.seq,x.item.key,x.item.body,true,x.item.au⟩:=by unfold D1;rw[zp rfl,HQU.out];rfl
    rw[←hcc] at h6;have HE2:=zh HE.out.2;unfold J3 at HE2;clear hcc;generalize D1 p s k x true=c at *;have hsq:c.1.ah≤524288:=by rw[HRC.out.seq];exact HSQ.out
    have HB6:=zh (HB5.out.trans hb6);have HO6:=zh ho6;have HST:=zh (Zg lo g (W3.heap.size+1) p p1 p2 p3 q1 q2 q3 (Ct HR.out.bz) HPS.out _ _ _ wv6 rows6 c.1 c.2 W6 h6 HRC.out.hall hsq (zr (show wC (c.1,c.2)≤500 from HRC.out.less) (by decide)));clear h6 hb6 hsq ho6;go_wp2_with fail
    refine HST.out.mono ?_;rintro e W7 ⟨rfl,wv7,rows7,h7,⟨hb7,ho7⟩⟩;have HKO7:Hid (KO (Value.slice A2 s.outs.length C2) w W7):=zh fun b cs hne hbk=>ho7 b cs (HO6.out b cs (HKO5.out b cs hne hbk));have HF:=zh (zi (HB6.out.trans hb7) (show Ee W7 lo g _ _ _ rows7 (D5 p c.1 c.2) from⟨h7.size,h7.box,h7.held,h7.gl⟩));clear h7 hb7 ho7;go_wp2_with fail
    go_ret
    exact⟨by rw[HE.out.1];rfl,HF.out.1,fun _=>⟨_,_,_,rows7,by rw[HE2.out];exact HF.out.2,HOB2.out,HKO7.out⟩⟩
   |false=>
    have hH5:Ed W4 lo g (W3.heap.size+1) p p1 p2 p3 q1 q2 q3 (.slice A1 s.ready.length C1) v2' (.slice A3 s.ae.length C3) (.slice none 0 0) rows (Au s k) []:=
     ⟨(HPA.out _ HB4.out).1,(HPA.out _ HB4.out).2,zr HLOW.out HB4.out.size,HKH4.out,HH4.out.box,HH4.out.held,World.ownsRow_nil _ _ _ _,HH4.out.gl,zr HLE2.out (by have:=HKX3.out.lt;omega)⟩
    have HB5:=HB4;have HKO5:=HKO4;have HL:=zh (Ak6 lo g (W3.heap.size+1) p p1 p2 p3 q1 q2 q3 (Ct HR.out.bz) HPS.out _ _ _ _ rows (Au s k) [] q x.item W4 hH5 HPRE.out.ql HPRE.out.au HPRE.out.key (by simp) HPRE.out.dropped);unfold A9 at HL;clear hH5;go_wp2_with fail
    refine HL.out.mono ?_;rintro e W6 ⟨rfl,wv6,h6,⟨hb6,ho6⟩⟩;rw[List.nil_append] at h6;have rows6:=rows;clear x0 x1 x2 x3 x4 x5 x6 x7 f0 f1 f2 f3 f4 f5 f6 f7 lx;have hcc:D1 p s k x false=({ Au s k with dropped:=(Au s k).dropped+1 },E9 p (q:Int) x.item):=by unfold D1;rw[zq (by decide),HQU.out];rfl
    have h6:Ed W6 lo g (W3.heap.size+1) p p1 p2 p3 q1 q2 q3 (.slice A1 s.ready.length C1) v2' (.slice A3 s.ae.length C3) wv6 rows (D1 p s k x false).1 (D1 p s k x false).2:=by rw[hcc];exact h6
    have HE2:=zh HE.out.2;unfold J3 at HE2;clear hcc;generalize D1 p s k x false=c at *;have hsq:c.1.ah≤524288:=by rw[HRC.out.seq];exact HSQ.out
    have HB6:=zh (HB5.out.trans hb6);have HO6:=zh ho6;have HST:=zh (Zg lo g (W3.heap.size+1) p p1 p2 p3 q1 q2 q3 (Ct HR.out.bz) HPS.out _ _ _ wv6 rows c.1 c.2 W6 h6 HRC.out.hall hsq (zr (show wC (c.1,c.2)≤500 from HRC.out.less) (by decide)));clear h6 hb6 hsq ho6;go_wp2_with fail
    refine HST.out.mono ?_;rintro e W7 ⟨rfl,wv7,rows7,h7,⟨hb7,ho7⟩⟩;have HKO7:Hid (KO (Value.slice A2 s.outs.length C2) w W7):=zh fun b cs hne hbk=>ho7 b cs (HO6.out b cs (HKO5.out b cs hne hbk));have HF:=zh (zi (HB6.out.trans hb7) (show Ee W7 lo g _ _ _ rows7 (D5 p c.1 c.2) from⟨h7.size,h7.box,h7.held,h7.gl⟩));clear h7 hb7 ho7;go_wp2_with fail
    go_ret
    exact⟨by rw[HE.out.1];rfl,HF.out.1,fun _=>⟨_,_,_,rows7,by rw[HE2.out];exact HF.out.2,HOB2.out,HKO7.out⟩⟩
  ·have hd:decide (s.ah≤524288)=false:=by simp;omega
   have he:Bg p s tag=2:=by unfold Bg;rw[zq (by rw[Da.2 HR.out];decide),HK.out,zq (by simp),zp (by omega)]
   have HE:=zh he;clear he hsq;rw[hd];go_wp2_with fail
   go_ret
   exact⟨by rw[HE.out];rfl,HB3.out,fun h=>absurd h (by rw[HE.out];decide)⟩
open Go Go.RowKit
theorem Alt {W0 W:World} {lo:Nat} (h:Env W0) (hb:Below W0.heap.size W0 W) (hl:W0.heap.size≤lo):Nx lo W:=
 have k:=(Nx.mk' h).keep fun p hp=>hb.cell hp
 ⟨k.1,Nat.lt_of_lt_of_le k.2 hl⟩
theorem st8 {w:World} {lo hi g:Nat} {a1 a2 a3:Option Addr} {rows:List Bq} {s:Aa} (h:Ax w lo hi a1 a2 a3 rows s) (hg:g < lo) (u0 u1 u2 u3 u4 u5 u6 u7:Value):
  Ax ((((((((w.setCell ⟨g,0,none⟩ u0).setCell ⟨g,1,none⟩ u1).setCell ⟨g,2,none⟩ u2).setCell ⟨g,3,none⟩ u3).setCell ⟨g,4,none⟩ u4).setCell ⟨g,5,none⟩ u5).setCell ⟨g,6,none⟩ u6).setCell ⟨g,7,none⟩ u7) lo hi a1 a2 a3 rows s:=
 ((((((((h.df (p:=⟨g,0,none⟩) (.inl hg) u0).df (p:=⟨g,1,none⟩) (.inl hg) u1).df (p:=⟨g,2,none⟩) (.inl hg) u2).df (p:=⟨g,3,none⟩) (.inl hg) u3).df (p:=⟨g,4,none⟩) (.inl hg) u4).df (p:=⟨g,5,none⟩) (.inl hg) u5).df (p:=⟨g,6,none⟩) (.inl hg) u6).df (p:=⟨g,7,none⟩) (.inl hg) u7)
theorem Afh (p:Ab) (s:Aa) (tag:Int) (p1 p2 p3 a1 a2 a3:Option Addr) (q1 q2 q3 c1 c2 c3:Nat) (rows:List Bq) (w:World) (hE:Env w) (hp:Az w 0 w.heap.size p1 p2 p3 p) (hps:Ai p) (hs:Ax w 0 w.heap.size a1 a2 a3 rows s) (hss:Am s) (hsi:Ba s):
  Calls Tryz.prog 15 #[Bc p p1 p2 p3 q1 q2 q3,Ac s a1 a2 a3 c1 c2 c3,.int .i64 tag] w (Js (Ha p s tag) (Dr p s tag) w):=by
 have hbx:=B9 q1 q2 q3 c1 c2 c3 hE hp hs 26 31;unfold Ag at hbx;unfold Ac Bc Ag;have HPS:=zh hps;have HSS:=zh hss;have HSI:=zh hsi;have HPQ:=zh hp;clear hE hp hs hps hss hsi;obtain⟨⟨m0,m1,m2⟩,⟨n0,n1,n2,n3,n4,n5,n6,n7⟩,_,_,_,_⟩:=hbx ((((w.alloc (.cells (zP p p1 p2 p3 q1 q2 q3) 26)).alloc (.cells (zV s a1 a2 a3 c1 c2 c3) 31)).alloc (.cells #[.int .i64 tag] 3)).alloc (.cells zO 31)) (((zb _ _).alloc (zn _) _).alloc (by simp) _);go_enter Tryz.func15,Tryz.ntmps15
 go_wp2_with fail
 clear m0 m1 m2 n0 n1 n2 n3 n4 n5 n6 n7;obtain⟨V2,hV2⟩:∃V2,((w.alloc (.cells (zP p p1 p2 p3 q1 q2 q3) 26)).alloc (.cells (zV s a1 a2 a3 c1 c2 c3) 31))=V2:=⟨_,rfl⟩;have hz2:V2.heap.size=w.heap.size+1+1:=by rw[←hV2];simp
 rw[hV2] at hbx;rw[hV2];clear hV2;obtain⟨U0,hU0⟩:∃U,V2.alloc (.cells #[.int .i64 tag] 3)=U:=⟨_,rfl⟩;have kb0:Bk U0 (w.heap.size+1+1) 3 #[.int .i64 tag]:=by rw[←hU0];exact Bk.cg _ _ _ (by rw[hz2])
 have zu0:U0.heap.size=w.heap.size+1+1+1:=by rw[←hU0];simp[hz2]
 have bu0:Below V2.heap.size V2 U0:=by rw[←hU0];exact(zb _ _).alloc (zn _) _
 rw[hU0];obtain⟨W0,hW0⟩:∃W0,U0.alloc (.cells zO 31)=W0:=⟨_,rfl⟩;have kbz:Bk W0 (w.heap.size+1+1+1) 31 zeroCells:=by rw[←hW0];exact Bk.cg _ _ _ zu0.symm
 have bW:Below U0.heap.size U0 W0:=by rw[←hW0];exact(zb _ _).alloc (zn _) _
 have HZ0:Hid (W0.heap.size=w.heap.size+1+1+1+1):=by refine(?_:W0.heap.size=_);rw[←hW0,←zu0];simp
 rw[hW0];have HBX:Hid (∀W,Below W0.heap.size W0 W→La w p s p1 p2 p3 a1 a2 a3 q1 q2 q3 c1 c2 c3 rows W∧Bk W (w.heap.size+1+1+1) 31 zeroCells∧Bk W (w.heap.size+1+1) 3 #[.int .i64 tag]):=zh fun W hW=>
  ⟨hbx W ((bu0.trans (bW.mono bu0.size)).trans (hW.mono (bu0.trans (bW.mono bu0.size)).size)),kbz.below hW kbz.lt,((kb0.below bW (by rw[zu0];omega)).below hW (by have:=bW.size;rw[zu0] at this;omega))⟩
 clear hbx hz2 hW0 kbz bW kb0 zu0 bu0 hU0;have HIN:=zh (HBX.out _ (zb _ _)).1;refine(X4 p s (Dr p s tag) (Ha p s tag) 47 #[.pointer (some ⟨w.heap.size+1+1,0,none⟩)] Aun p1 p2 p3 a1 a2 a3 q1 q2 q3 c1 c2 c3 rows W0 HIN.out.env HIN.out.bu HPS.out HIN.out.bc HSS.out HSI.out (Ha p s tag) (Dr p s tag) (Aqd p s tag) (fun hR W lo g v1 v2 v3 rows' hlo hW hr=>Aqc lo g (w.heap.size+1+1) p s hR tag v1 v2 v3 rows' W ((HBX.out _ hW).2.2.cell 0) hr)).mono ?_;rintro e W1 ⟨b1,b2,b3,d1,d2,d3,rows1,rfl,hs1,hb1⟩;have HB1:=zh hb1;have HS1:=zh hs1;clear hb1 hs1;generalize Ha p s tag=Y at *;unfold Ac Ag;have hzk:=(HBX.out _ HB1.out).2.1;have HZS:=zh hzk;unfold zeroCells at hzk;obtain⟨k0,k1,k2,k3,k4,k5,k6,k7,f0,f1,f2,f3,f4,f5,f6,f7,hlt⟩:=Af hzk;clear hzk;go_wp2_with fail
 refine bodyPost_ret (v:= .tuple #[.agg (zV Y b1 b2 b3 d1 d2 d3),.int .i64 (Dr p s tag)]) (by simp[results,Tryz.results15,go_sem,k0,k1,k2,k3,k4,k5,k6,k7,hlt]) rfl ?_;exact⟨b1,b2,b3,d1,d2,d3,rows1,rfl,(HS1.out.kept (Al.dg HZS.out (ts:=[31]) (by decide) _ _ _ _ _ _ _ _)).wider (zr (by omega) (Nat.le_of_eq HZ0.out.symm)),Ak (HBX.out _ HB1.out).1.below (by omega) _ _ _ _ _ _ _ _⟩
theorem Aax (p:Ab) (s:Aa) (tag:Int) (p1 p2 p3 a1 a2 a3:Option Addr) (q1 q2 q3 c1 c2 c3:Nat) (rows:List Bq) (w:World) (hE:Env w) (hp:Az w 0 w.heap.size p1 p2 p3 p) (hps:Ai p) (hs:Ax w 0 w.heap.size a1 a2 a3 rows s) (hss:Am s) (hsi:Ba s):
  Calls Tryz.prog 15 #[Bc p p1 p2 p3 q1 q2 q3,Ac s a1 a2 a3 c1 c2 c3,.int .i64 tag] w (Jk (Ha p s tag) (Dr p s tag) w):=
 (Afh p s tag p1 p2 p3 a1 a2 a3 q1 q2 q3 c1 c2 c3 rows w hE hp hps hs hss hsi).mono fun _ _ h=>h.post
theorem As1 (lo g pb tb bb:Nat) (p:Ab) (p1 p2 p3:Option Addr) (q1 q2 q3:Nat) (s:Aa) (hR:Cs p s) (hps:Ai p) (tag:Int) (back:Bool) (v1 v2 v3:Value) (rows:List Bq) (w:World) (hp:Az w 0 lo p1 p2 p3 p) (hE:Nx lo w)
  (hm:w.cell? ⟨pb,0,none⟩=some (.slice p1 p.aj.length q1)∧w.cell? ⟨pb,1,none⟩=some (.slice p2 p.ag.length q2)∧w.cell? ⟨pb,2,none⟩=some (.slice p3 p.binds.length q3)) (ht:w.cell? ⟨tb,0,none⟩=some (.int .i64 tag)) (hbk:w.cell? ⟨bb,0,none⟩=some (.bool back)) (H:Ee w lo g v1 v2 v3 rows s):
  Calls Tryz.prog 49 #[.pointer (some ⟨g,0,none⟩),.pointer (some ⟨pb,0,none⟩),.pointer (some ⟨tb,0,none⟩),.pointer (some ⟨bb,0,none⟩)] w (O3 lo g (Bg p s tag) (Cf p s tag back) w):=by
 have HCALL:=zh (Aai lo g p p1 p2 p3 q1 q2 q3 s hR hps tag back v1 v2 v3 rows w hp hE H);obtain⟨m0,m1,m2⟩:=hm;clear hp hE H hR hps;go_enter Tryz.func49,Tryz.ntmps49
 go_wp2_with fail
 refine HCALL.out.mono ?_;intro e W1 hrp;obtain⟨rfl,hb1,h1⟩:=hrp.turn;clear hrp;have HF:=zh (zi hb1 h1);clear hb1 h1 m0 m1 m2 ht hbk;go_wp2_with fail
 go_ret
 exact⟨rfl,HF.out.1,HF.out.2⟩
theorem Auo:∀args w,(callFunc 49 args).run Tryz.prog w= .ok (.enter 49 args) w:=enters_of Tryz.func49 (by kernel_rfl) rfl
theorem As2 (p:Ab) (s:Aa) (tag:Int) (back:Bool):(Ao p s≠0→Cf p s tag back=Ay∧Bg p s tag=Ao p s)∧(Ao p s=0→Bg p s tag=Bg p s tag∧(Bg p s tag=0→Cf p s tag back=Cf p s tag back)∧(Bg p s tag≠0→Cf p s tag back=Ay)):=by
 have h0:Bg p s tag≠0→Cf p s tag back=Ay:=fun h=>by unfold Cf;rw[zq h]
 refine⟨fun h=> ?_,fun _=>⟨rfl,fun _=>rfl,h0⟩⟩;have e:Bg p s tag=Ao p s:=by unfold Bg;rw[zp h]
 exact⟨h0 (by rw[e];exact h),e⟩
theorem Reject_held (p:Ab) (s:Aa) (tag:Int) (back:Bool) (p1 p2 p3 a1 a2 a3:Option Addr) (q1 q2 q3 c1 c2 c3:Nat) (rows:List Bq) (w:World) (hE:Env w) (hp:Az w 0 w.heap.size p1 p2 p3 p) (hps:Ai p) (hs:Ax w 0 w.heap.size a1 a2 a3 rows s) (hss:Am s) (hsi:Ba s):
  Calls Tryz.prog 16 #[Bc p p1 p2 p3 q1 q2 q3,Ac s a1 a2 a3 c1 c2 c3,.int .i64 tag,.bool back] w (Js (Cf p s tag back) (Bg p s tag) w):=by
 have hbx:=B9 q1 q2 q3 c1 c2 c3 hE hp hs 26 31;unfold Ag at hbx;unfold Ac Bc Ag;have HPS:=zh hps;have HSS:=zh hss;have HSI:=zh hsi;have HPQ:=zh hp;clear hE hp hs hps hss hsi;obtain⟨⟨m0,m1,m2⟩,⟨n0,n1,n2,n3,n4,n5,n6,n7⟩,_,_,_,_⟩:=hbx (((((w.alloc (.cells (zP p p1 p2 p3 q1 q2 q3) 26)).alloc (.cells (zV s a1 a2 a3 c1 c2 c3) 31)).alloc (.cells #[.int .i64 tag] 3)).alloc (.cells #[.bool back] 4)).alloc (.cells zO 31)) ((((zb _ _).alloc (zn _) _).alloc (by simp) _).alloc (by simp) _);go_enter Tryz.func16,Tryz.ntmps16
 go_wp2_with fail
 clear m0 m1 m2 n0 n1 n2 n3 n4 n5 n6 n7;obtain⟨V2,hV2⟩:∃V2,((w.alloc (.cells (zP p p1 p2 p3 q1 q2 q3) 26)).alloc (.cells (zV s a1 a2 a3 c1 c2 c3) 31))=V2:=⟨_,rfl⟩;have hz2:V2.heap.size=w.heap.size+1+1:=by rw[←hV2];simp
 rw[hV2] at hbx;rw[hV2];clear hV2;obtain⟨U0,hU0⟩:∃U,V2.alloc (.cells #[.int .i64 tag] 3)=U:=⟨_,rfl⟩;have kb0:Bk U0 (w.heap.size+1+1) 3 #[.int .i64 tag]:=by rw[←hU0];exact Bk.cg _ _ _ (by rw[hz2])
 have zu0:U0.heap.size=w.heap.size+1+1+1:=by rw[←hU0];simp[hz2]
 have bu0:Below V2.heap.size V2 U0:=by rw[←hU0];exact(zb _ _).alloc (zn _) _
 rw[hU0];obtain⟨U1,hU1⟩:∃U,U0.alloc (.cells #[.bool back] 4)=U:=⟨_,rfl⟩;have kb1:Bk U1 (w.heap.size+1+1+1) 4 #[.bool back]:=by rw[←hU1];exact Bk.cg _ _ _ (by rw[zu0])
 have zu1:U1.heap.size=w.heap.size+1+1+1+1:=by rw[←hU1];simp[zu0]
 have bu1:Below U0.heap.size U0 U1:=by rw[←hU1];exact(zb _ _).alloc (zn _) _
 rw[hU1];obtain⟨W0,hW0⟩:∃W0,U1.alloc (.cells zO 31)=W0:=⟨_,rfl⟩;have kbz:Bk W0 (w.heap.size+1+1+1+1) 31 zeroCells:=by rw[←hW0];exact Bk.cg _ _ _ zu1.symm
 have bW:Below U1.heap.size U1 W0:=by rw[←hW0];exact(zb _ _).alloc (zn _) _
 have HZ0:Hid (W0.heap.size=w.heap.size+1+1+1+1+1):=by refine(?_:W0.heap.size=_);rw[←hW0,←zu1];simp
 rw[hW0];have HBX:Hid (∀W,Below W0.heap.size W0 W→La w p s p1 p2 p3 a1 a2 a3 q1 q2 q3 c1 c2 c3 rows W∧Bk W (w.heap.size+1+1+1+1) 31 zeroCells∧Bk W (w.heap.size+1+1) 3 #[.int .i64 tag]∧Bk W (w.heap.size+1+1+1) 4 #[.bool back]):=zh fun W hW=>
  ⟨hbx W (((bu0.trans (bu1.mono bu0.size)).trans (bW.mono (bu0.trans (bu1.mono bu0.size)).size)).trans (hW.mono ((bu0.trans (bu1.mono bu0.size)).trans (bW.mono (bu0.trans (bu1.mono bu0.size)).size)).size)),kbz.below hW kbz.lt,(((kb0.below bu1 (by rw[zu0];omega)).below bW (by rw[zu1];omega)).below hW (by have:=bW.size;rw[zu1] at this;omega)),((kb1.below bW (by rw[zu1];omega)).below hW (by have:=bW.size;rw[zu1] at this;omega))⟩
 clear hbx hz2 hW0 kbz bW kb0 zu0 bu0 hU0 kb1 zu1 bu1 hU1;have HIN:=zh (HBX.out _ (zb _ _)).1;refine(X4 p s (Bg p s tag) (Cf p s tag back) 49 #[.pointer (some ⟨w.heap.size,0,none⟩),.pointer (some ⟨w.heap.size+1+1,0,none⟩),.pointer (some ⟨w.heap.size+1+1+1,0,none⟩)] Auo p1 p2 p3 a1 a2 a3 q1 q2 q3 c1 c2 c3 rows W0 HIN.out.env HIN.out.bu HPS.out HIN.out.bc HSS.out HSI.out (Cf p s tag back) (Bg p s tag) (As2 p s tag back) (fun hR W lo g v1 v2 v3 rows' hlo hW hr=>As1 lo g w.heap.size (w.heap.size+1+1) (w.heap.size+1+1+1) p p1 p2 p3 q1 q2 q3 s hR HPS.out tag back v1 v2 v3 rows' W ((HPQ.out.below (HBX.out _ hW).1.below (zn _)).wider (zn _) (zr (HBX.out _ (zb _ _)).1.below.size hlo)) (Alt (HIN.out.env) hW hlo) (HBX.out _ hW).1.bz ((HBX.out _ hW).2.2.1.cell 0) ((HBX.out _ hW).2.2.2.cell 0) hr)).mono ?_;rintro e W1 ⟨b1,b2,b3,d1,d2,d3,rows1,rfl,hs1,hb1⟩;have HB1:=zh hb1;have HS1:=zh hs1;clear hb1 hs1;generalize Cf p s tag back=Y at *;unfold Ac Ag;have hzk:=(HBX.out _ HB1.out).2.1;have HZS:=zh hzk;unfold zeroCells at hzk;obtain⟨k0,k1,k2,k3,k4,k5,k6,k7,f0,f1,f2,f3,f4,f5,f6,f7,hlt⟩:=Af hzk;clear hzk;go_wp2_with fail
 refine bodyPost_ret (v:= .tuple #[.agg (zV Y b1 b2 b3 d1 d2 d3),.int .i64 (Bg p s tag)]) (by simp[results,Tryz.results16,go_sem,k0,k1,k2,k3,k4,k5,k6,k7,hlt]) rfl ?_;exact⟨b1,b2,b3,d1,d2,d3,rows1,rfl,(HS1.out.kept (Al.dg HZS.out (ts:=[31]) (by decide) _ _ _ _ _ _ _ _)).wider (zr (by omega) (Nat.le_of_eq HZ0.out.symm)),Ak (HBX.out _ HB1.out).1.below (by omega) _ _ _ _ _ _ _ _⟩
theorem Ps (p:Ab) (s:Aa) (tag:Int) (back:Bool) (p1 p2 p3 a1 a2 a3:Option Addr) (q1 q2 q3 c1 c2 c3:Nat) (rows:List Bq) (w:World) (hE:Env w) (hp:Az w 0 w.heap.size p1 p2 p3 p) (hps:Ai p) (hs:Ax w 0 w.heap.size a1 a2 a3 rows s) (hss:Am s) (hsi:Ba s):
  Calls Tryz.prog 16 #[Bc p p1 p2 p3 q1 q2 q3,Ac s a1 a2 a3 c1 c2 c3,.int .i64 tag,.bool back] w (Jk (Cf p s tag back) (Bg p s tag) w):=
 (Reject_held p s tag back p1 p2 p3 a1 a2 a3 q1 q2 q3 c1 c2 c3 rows w hE hp hps hs hss hsi).mono fun _ _ h=>h.post
end Go.Proofs.YtaanpcjkflhomaaGreatDoor
