/- Lemmas. -/
import Derived.Test.YtpkneogjdfolaaaGreatDoorBunE
import Derived.Defers
import Derived.Recover
set_option maxHeartbeats 20000000
set_option maxRecDepth 100000
set_option linter.unusedSimpArgs false
set_option linter.unusedVariables false
namespace Go.Proofs.YtpkneogjdfolaaaGreatDoor
def countB(n:Int):Bool:=decide (0≤n) && decide (n≤1048576)
def Iv(q:Nat)(t:Cf):Bool:=decide (-1≤t.queue) && decide (t.queue < (q:Int)) && decide (1≤t.cf) && decide (t.cf≤4)
def Mt(s:Aa)(x:D8):Bool:=
 decide (0≤x.tag) && decide (x.tag < s.af) && decide (0≤x.bg) && decide (x.bg < (s.ae.length:Int)) &&
  (match s.ae[x.bg.toNat]? with|some t=>decide (0≤t.queue) && decide (t.queue=x.queue)|none=>false) && Bl x.item
def Dj(l:List (List Ao)):List Int:=l.flatMap fun r=>r.map (·.seq)
def Hd(l:List D8):List Int:=l.map (·.item.seq)
def Dh(s:Aa):List Int:=Dj s.ready++Hd s.outs
def Ck(s:Aa)(k:Int):Nat:=s.outs.countP fun x=>decide (x.bg=k)
def E8(s:Aa):Nat:=(s.ready.map List.length).sum
structure Formed (p:Ab) (s:Aa):Prop where
 len:s.ready.length=p.ag.length
 ah:countB s.ah=true
 af:countB s.af=true
 aw:countB s.aw=true
 ar:countB s.ar=true
 dropped:countB s.dropped=true
 line:∀l∈s.ready,Ct l=true
 bg:∀t∈s.ae,Iv p.ag.length t=true
 out:∀x∈s.outs,Mt s x=true
 order:s.outs.Pairwise fun x y=>x.tag < y.tag
 nodup:(Dh s).Nodup
 below:∀n∈Dh s,n < s.ah
def Ot(p:Ab)(s:Aa):Bool:=
 decide (s.ready.length=p.ag.length) && countB s.ah && countB s.af && countB s.aw && countB s.ar && countB s.dropped && s.ready.all Ct && s.ae.all (Iv p.ag.length) && s.outs.all (Mt s) &&
  decide (s.outs.Pairwise fun x y=>x.tag < y.tag) && decide (Dh s).Nodup && (Dh s).all (fun n=>decide (n < s.ah))
theorem Ip{p:Ab}{s:Aa} :Ot p s=true↔Formed p s:=by
 unfold Ot;simp only[zc,zd,List.all_eq_true]
 constructor
 ·rintro⟨⟨⟨⟨⟨⟨⟨⟨⟨⟨⟨h1,h2⟩,h3⟩,h4⟩,h5⟩,h6⟩,h7⟩,h8⟩,h9⟩,h10⟩,h11⟩,h12⟩
  exact⟨h1,h2,h3,h4,h5,h6,h7,h8,h9,h10,h11,h12⟩
 ·rintro⟨h1,h2,h3,h4,h5,h6,h7,h8,h9,h10,h11,h12⟩
  exact⟨⟨⟨⟨⟨⟨⟨⟨⟨⟨⟨h1,h2⟩,h3⟩,h4⟩,h5⟩,h6⟩,h7⟩,h8⟩,h9⟩,h10⟩,h11⟩,h12⟩
structure Ranged (p:Ab) (s:Aa):Prop where
 bm:∀(i:Nat)(l:List Ao)(q:F7),s.ready[i]? =some l→p.ag[i]? =some q→(l.length:Int)≤q.bm
 held:∀(k:Nat)(t:Cf),s.ae[k]? =some t→(Ck s k:Int)≤t.cf
def Jc(p:Ab)(s:Aa):Bool:=(s.ready.zip p.ag).all fun x=>decide ((x.1.length:Int)≤x.2.bm)
def Lt(s:Aa):Bool:=s.ae.zipIdx.all fun x=>decide ((Ck s x.2:Int)≤x.1.cf)
theorem N0{p:Ab}{s:Aa} :Jc p s=true↔∀(i:Nat)(l:List Ao)(q:F7),s.ready[i]? =some l→p.ag[i]? =some q→(l.length:Int)≤q.bm:=by
 unfold Jc;simp only[List.all_eq_true,zd]
 constructor
 ·intro h i l q hl hq
  have:(s.ready.zip p.ag)[i]? =some (l,q):=by rw[List.getElem?_zip_eq_some];exact⟨hl,hq⟩
  exact h _ (List.mem_of_getElem? this)
 ·intro h x hx
  obtain⟨i,hi⟩:=List.getElem?_of_mem hx;obtain⟨l,q⟩:=x;rw[List.getElem?_zip_eq_some] at hi;exact h i l q hi.1 hi.2
theorem Pz{s:Aa} :Lt s=true↔∀(k:Nat)(t:Cf),s.ae[k]? =some t→(Ck s k:Int)≤t.cf:=by
 unfold Lt;simp only[List.all_eq_true,zd]
 constructor
 ·intro h k t ht
  have:s.ae.zipIdx[k]? =some (t,k):=by rw[List.getElem?_zipIdx,ht];simp
  exact h _ (List.mem_of_getElem? this)
 ·intro h x hx
  obtain⟨i,hi⟩:=List.getElem?_of_mem hx;rw[List.getElem?_zipIdx] at hi
  cases ht:s.ae[i]? with
  |none=>rw[ht] at hi;cases hi
  |some t=>
   rw[ht] at hi;simp only[Option.map_some,Option.some.injEq,Nat.zero_add] at hi;subst hi;exact h i t ht
def Adv(s:Aa):Bool:=decide (s.aw=((E8 s:Nat):Int)+((s.outs.length:Nat):Int)+s.ar+s.dropped) && decide (s.aw=s.ah)
def Am(p:Ab)(s:Aa):Int:=
 if Bc p≠0 then Bc p else if 4 < s.ae.length then 2 else if Ot p s=false then 1 else if (Jc p s && Lt s)=false then 3 else if Adv s=false then 10 else 0
theorem Pm{p:Ab}{s:Aa}(h:Bc p≠0):Am p s=Bc p:=by unfold Am;rw[zp h]
theorem Pk{p:Ab}{s:Aa}(h:Bc p=0)(h1:4 < s.ae.length):Am p s=2:=by unfold Am;rw[zq (by simp[h]),zp h1]
theorem Ek{p:Ab}{s:Aa}(h:Bc p=0)(h1:s.ae.length≤4)(h2:¬ Formed p s):Am p s=1:=by
 unfold Am;rw[zq (by simp[h]),zq (by omega),zp (by rw[←Bool.not_eq_true,Ip];exact h2)]
theorem Jp{p:Ab}{s:Aa}(h:Bc p=0)(h1:s.ae.length≤4)(h2:Formed p s)(h3:(Jc p s && Lt s)=false):Am p s=3:=by
 unfold Am;rw[zq (by simp[h]),zq (by omega),zq (by rw[Ip.2 h2];decide),zp h3]
theorem Li{p:Ab}{s:Aa}(h:Bc p=0)(h1:s.ae.length≤4)(h2:Formed p s)(h3:(Jc p s && Lt s)=true)(h4:Adv s=false):Am p s=10:=by
 unfold Am;rw[zq (by simp[h]),zq (by omega),zq (by rw[Ip.2 h2];decide),zq (by rw[h3];decide),zp h4]
theorem Mr{p:Ab}{s:Aa}(h:Bc p=0)(h1:s.ae.length≤4)(h2:Formed p s)(h3:(Jc p s && Lt s)=true)(h4:Adv s=true):Am p s=0:=by
 unfold Am;rw[zq (by simp[h]),zq (by omega),zq (by rw[Ip.2 h2];decide),zq (by rw[h3];decide),zq (by rw[h4];decide)]
structure Bw (p:Ab) (s:Aa):Prop extends Formed p s,Ranged p s where
 bz:Bc p=0
 many:s.ae.length≤4
 sum:s.aw=((E8 s:Nat):Int)+((s.outs.length:Nat):Int)+s.ar+s.dropped
 same:s.aw=s.ah
theorem Cv{p:Ab}{s:Aa} :Am p s=0↔Bw p s:=by
 constructor
 ·intro h
  by_cases h0:Bc p=0
  ·by_cases h1:s.ae.length≤4
   ·by_cases h2:Formed p s
    ·cases h3:(Jc p s && Lt s)
     ·rw[Jp h0 h1 h2 h3] at h;cases h
     ·cases h4:Adv s
      ·rw[Li h0 h1 h2 h3 h4] at h;cases h
      ·rw[zc,N0,Pz] at h3
       simp only[Adv,zc,zd] at h4;exact { h2,h3 with bm:=h3.1,held:=h3.2,bz:=h0,many:=h1,sum:=h4.1,same:=h4.2 }
    ·rw[Ek h0 h1 h2] at h;cases h
   ·rw[Pk h0 (by omega)] at h;cases h
  ·rw[Pm h0] at h;exact absurd h h0
 ·intro h
  exact Mr h.bz h.many h.toFormed (by rw[zc,N0,Pz];exact⟨h.bm,h.held⟩) (by simp only[Adv,zc,zd];exact⟨h.sum,h.same⟩)
theorem Ajx{l:List (List Ao)}{q:Nat}(h:q < l.length):Dj l=Dj (l.take q)++(l[q].map (·.seq)++Dj (l.drop (q+1))):=by
 unfold Dj
 conv=>lhs;rw[←List.take_append_drop q l,List.drop_eq_getElem_cons h]
 rw[List.flatMap_append,List.flatMap_cons]
theorem Amb{l:List Ao}{k:Nat}(h:k < l.length):l.map (·.seq)=(l.take k).map (·.seq)++(l[k].seq::(l.drop (k+1)).map (·.seq)):=by
 conv=>lhs;rw[←List.take_append_drop k l,List.drop_eq_getElem_cons h]
 rw[List.map_append,List.map_cons]
theorem Ajw{l:List D8}{k:Nat}(h:k < l.length):Hd l=Hd (l.take k)++(l[k].item.seq::Hd (l.drop (k+1))):=by
 unfold Hd
 conv=>lhs;rw[←List.take_append_drop k l,List.drop_eq_getElem_cons h]
 rw[List.map_append,List.map_cons]
theorem Axd{s:Aa}{q k:Nat}(hq:q < s.ready.length)(hk:k < s.ready[q].length):((Dj (s.ready.take q)++(s.ready[q].take k).map (·.seq))++[s.ready[q][k].seq]) <+:Dh s:=by
 unfold Dh;rw[Ajx hq,Amb hk];exact⟨(s.ready[q].drop (k+1)).map (·.seq)++Dj (s.ready.drop (q+1))++Hd s.outs,by simp⟩
theorem Axc{s:Aa}{k:Nat}(hk:k < s.outs.length):((Dj s.ready++Hd (s.outs.take k))++[s.outs[k].item.seq]) <+:Dh s:=by
 unfold Dh;rw[Ajw hk];exact⟨Hd (s.outs.drop (k+1)),by simp⟩
theorem row_step{s:Aa}{q k:Nat}(hq:q < s.ready.length)(hk:k < s.ready[q].length):(Dj (s.ready.take q)++(s.ready[q].take k).map (·.seq))++[s.ready[q][k].seq]=Dj (s.ready.take q)++(s.ready[q].take (k+1)).map (·.seq):=by
 rw[zj hk,List.map_append,List.append_assoc];rfl
theorem Ajt{s:Aa}{q:Nat}(hq:q < s.ready.length):Dj (s.ready.take q)++(s.ready[q].take s.ready[q].length).map (·.seq)=Dj (s.ready.take (q+1)):=by
 rw[List.take_length,zj hq];unfold Dj;rw[List.flatMap_append,List.flatMap_cons,List.flatMap_nil,List.append_nil]
theorem Ajk{s:Aa}{k:Nat}(hk:k < s.outs.length):(Dj s.ready++Hd (s.outs.take k))++[s.outs[k].item.seq]=Dj s.ready++Hd (s.outs.take (k+1)):=by
 rw[zj hk];unfold Hd;rw[List.map_append,List.append_assoc];rfl
theorem Aje{p:Ab}{s:Aa}{l:List Int}{n:Int}(h:(l++[n]) <+:Dh s)(hn:n∈l):¬ Formed p s:=fun hf=>by
 have:=h.sublist.nodup hf.nodup;rw[List.nodup_append] at this;exact this.2.2 n hn n (by simp) rfl
theorem Ajc{p:Ab}{s:Aa}{l:List Int}{n:Int}(h:(l++[n]) <+:Dh s)(hn:s.ah≤n):¬ Formed p s:=fun hf=>by
 have:=hf.below n (h.subset (by simp));omega
theorem Anu{p:Ab}{s:Aa}{l:List Ao}(h:l∈s.ready)(hl:Ct l=false):¬ Formed p s:=fun hf=>by
 have:=hf.line l h;rw[hl] at this
 cases this
theorem Acd{p:Ab}{s:Aa}{t:Cf}(h:t∈s.ae)(ht:Iv p.ag.length t=false):¬ Formed p s:=fun hf=>by
 have:=hf.bg t h;rw[ht] at this
 cases this
def Hi(l:List D8)(k:Nat):Int:=match k with
 |0=> -1
 |k+1=>match l[k]? with|some x=>x.tag|none=> -1
theorem Le{l:List D8}{k:Nat}(h:k < l.length):Hi l (k+1)=l[k].tag:=by
 show(match l[k]? with|some x=>x.tag|none=> -1)=_
 rw[zG h]
theorem Ajd{p:Ab}{s:Aa}{k:Nat}(h:k < s.outs.length)(ho:s.outs[k].tag≤Hi s.outs k):¬ Formed p s:=fun hf=>by
 cases k with
 |zero=>
  have h0:=hf.out s.outs[0] (zg h);have ho':s.outs[0].tag≤ -1:=ho;unfold Mt at h0;simp only[zc,zd] at h0;omega
 |succ k=>
  rw[Le (by omega)] at ho;have:=(List.pairwise_iff_getElem.1 hf.order) k (k+1) (by omega) h (by omega);omega
theorem Afn{l:List D8}(h:∀(k:Nat)(hk:k < l.length),Hi l k < l[k].tag):l.Pairwise fun x y=>x.tag < y.tag:=by
 rw[List.pairwise_iff_getElem];intro i j hi hj hij
 induction j with
 |zero=>omega
 |succ j ih=>
  have h1:=h (j+1) hj;rw[Le (by omega)] at h1;rcases Nat.lt_or_ge i j with h2|h2
  ·have:=ih (by omega) h2;omega
  ·obtain rfl:i=j:=by omega
   exact h1
theorem Alu{l:List (List Ao)}{q:Nat}(h:q < l.length):((l.take (q+1)).map List.length).sum=((l.take q).map List.length).sum+l[q].length:=by
 rw[zj h];simp only[List.map_append,List.sum_append,List.map_cons,List.map_nil,List.sum_cons,List.sum_nil,Nat.add_zero]
theorem Atn{l:List (List Ao)}(q:Nat):((l.take q).map List.length).sum≤(l.map List.length).sum:=by
 conv=>rhs;rw[←List.take_append_drop q l]
 rw[List.map_append,List.sum_append];omega
def lyK(s:Aa)(k:Nat):Nat:=((s.ready.take k).map List.length).sum
theorem Zw{s:Aa}{q:Nat}(h:q < s.ready.length):lyK s (q+1)=lyK s q+s.ready[q].length:=Alu h
theorem Yp(s:Aa)(q:Nat):lyK s q≤E8 s:=Atn q
theorem Ade(s:Aa):lyK s s.ready.length=E8 s:=by unfold lyK E8;rw[List.take_length]
theorem Uh(l:List (List Ao)):(Dj l).length=(l.map List.length).sum:=by
 unfold Dj;rw[List.length_flatMap]
 congr 1
 simp
theorem Ajy(s:Aa)(k:Nat):(Dj (s.ready.take k)).length=lyK s k:=Uh _
theorem Yx(l:List D8):(Hd l).length=l.length:=List.length_map _
theorem Ann(a b c d:Bool):[a,b,c,d].contains false= !(a && b && c && d):=by cases a<;>cases b<;>cases c<;>cases d<;>rfl
theorem Ax3(a b c:Bool):[a,b,c].contains false= !(a && b && c):=by cases a<;>cases b<;>cases c<;>rfl
theorem A03(a b:Bool):[a,b].contains false= !(a && b):=by cases a<;>cases b<;>rfl
theorem Ac0(q:Nat)(t:Cf):[decide (-1≤t.queue),decide (t.queue < (q:Int)),decide (1≤t.cf),decide (t.cf≤4)].contains false= !(Iv q t):=Ann _ _ _ _
theorem Ap6{p:Ab}{s:Aa}{j:Nat}(hj:j < s.outs.length)(hf:Formed p s):
  [decide (Hi s.outs j < s.outs[j].tag),decide (s.outs[j].tag < s.af),decide (0≤s.outs[j].bg),decide (s.outs[j].bg < (s.ae.length:Int))].contains false=false:=by
 have ho:=hf.out _ (zg hj);unfold Mt at ho;simp only[zc,zd] at ho;have h1:Hi s.outs j < s.outs[j].tag:=by
  rcases Int.lt_or_le (Hi s.outs j) s.outs[j].tag with h|h
  ·exact h
  ·exact absurd hf (Ajd hj h)
 rw[Ann];simp[h1,ho.1.1.1.1.2,ho.1.1.1.2,ho.1.1.2]
theorem Alz{p:Ab}{s:Aa}{j:Nat}(hj:j < s.outs.length)(ht:s.outs[j].bg.toNat < s.ae.length)(hf:Formed p s):
  [decide (0≤s.ae[s.outs[j].bg.toNat].queue),s.ae[s.outs[j].bg.toNat].queue == s.outs[j].queue,Bl s.outs[j].item].contains false=false:=by
 have ho:=hf.out _ (zg hj);unfold Mt at ho;rw[zG ht] at ho;simp only[zc,zd] at ho;have hq0:0≤s.outs[j].queue:=by have:=ho.1.2.1;rw[ho.1.2.2] at this;exact this
 rw[Ax3];simp[ho.1.2.2,ho.2,hq0]
theorem Atz{s:Aa}{j:Nat}(hj:j < s.outs.length)(h0:∀q (hq:q < s.outs.length),q < j→0≤s.outs[q].tag)
  (h1:[decide (Hi s.outs j < s.outs[j].tag),decide (s.outs[j].tag < s.af),decide (0≤s.outs[j].bg),decide (s.outs[j].bg < (s.ae.length:Int))].contains false=false) (ht:s.outs[j].bg.toNat < s.ae.length)
  (h2:[decide (0≤s.ae[s.outs[j].bg.toNat].queue),s.ae[s.outs[j].bg.toNat].queue == s.outs[j].queue,Bl s.outs[j].item].contains false=false):Mt s s.outs[j]=true:=by
 rw[Ann] at h1;rw[Ax3] at h2;simp only[Bool.not_eq_false',zc,zd,beq_iff_eq] at h1 h2;have h3:0≤s.outs[j].tag:=by
  have:=h1.1.1.1
  cases j with
  |zero=>have e:Hi s.outs 0= -1:=rfl;omega
  |succ j=>
   rw[Le (by omega)] at this;have:=h0 j (by omega) (by omega);omega
 unfold Mt;rw[zG ht];have hq0:0≤s.outs[j].queue:=by have:=h2.1.1;rw[h2.1.2] at this;exact this
 simp[h3,h1.1.1.2,h1.1.2,h1.2,h2.1.2,h2.2,hq0]
theorem w64{x:Int}(h1: -9223372036854775808≤x)(h2:x≤9223372036854775807):RowKit.wrap64 x=x:=by unfold RowKit.wrap64;omega
theorem Aj1(s:Aa):[s.aw == (lyK s s.ready.length:Int)+(s.outs.length:Int)+s.ar+s.dropped,s.aw == s.ah].contains false= !(Adv s):=by
 rw[A03,Ade];rfl
theorem Aqm{s:Aa}(ha:countB s.ar=true)(hd:countB s.dropped=true)(hl:E8 s≤1048576)(ho:s.outs.length≤1048576):
  RowKit.wrap64 ((lyK s s.ready.length:Int)+(s.outs.length:Int))=(lyK s s.ready.length:Int)+(s.outs.length:Int)∧RowKit.wrap64 ((lyK s s.ready.length:Int)+(s.outs.length:Int)+s.ar)=(lyK s s.ready.length:Int)+(s.outs.length:Int)+s.ar∧
   RowKit.wrap64 ((lyK s s.ready.length:Int)+(s.outs.length:Int)+s.ar+s.dropped)=(lyK s s.ready.length:Int)+(s.outs.length:Int)+s.ar+s.dropped:=by
 unfold countB at ha hd;simp only[zc,zd] at ha hd;rw[Ade];exact⟨w64 (by omega) (by omega),w64 (by omega) (by omega),w64 (by omega) (by omega)⟩
theorem Aqo(q:Nat)(t:Cf):((decide (-1≤t.queue) && decide (t.queue≤(q:Int) - 1)) && (decide (1≤t.cf) && decide (t.cf≤4)))=Iv q t:=by
 unfold Iv;rw[Bool.eq_iff_iff];simp only[zc,zd]
 constructor
 ·rintro⟨⟨h1,h2⟩,h3,h4⟩;exact⟨⟨⟨h1,by omega⟩,h3⟩,h4⟩
 ·rintro⟨⟨⟨h1,h2⟩,h3⟩,h4⟩;exact⟨⟨h1,by omega⟩,h3,h4⟩
theorem Ig{p:Ab}{s:Aa}{x:D8}(hf:Formed p s)(hm:x∈s.outs):0≤x.tag∧x.tag < s.af∧(0≤x.bg∧x.bg < (s.ae.length:Int))∧Bl x.item=true∧∀t,s.ae[x.bg.toNat]? =some t→0≤t.queue∧t.queue=x.queue:=by
 have ho:=hf.out _ hm;unfold Mt at ho;simp only[zc,zd] at ho;refine⟨ho.1.1.1.1.1,ho.1.1.1.1.2,⟨ho.1.1.1.2,ho.1.1.2⟩,ho.2,fun t ht=> ?_⟩;have h:=ho.1.2;rw[ht] at h;simp only[zc,zd] at h;exact h
theorem At1{s:Aa}{x:D8}{t:Cf}(ht:s.ae[x.bg.toNat]? =some t)(h1:0≤x.tag)(h2:x.tag < s.af)(h3:0≤x.bg)(h4:x.bg < (s.ae.length:Int))(h5:0≤t.queue)(h6:t.queue=x.queue)(h7:Bl x.item=true):Mt s x=true:=by
 have hq0:0≤x.queue:=by omega
 unfold Mt;rw[ht];simp[h1,h2,h3,h4,h6,h7,hq0]
theorem Aim{p:Ab}{s:Aa}(h1:s.ready.length=p.ag.length)(h2:∀l∈s.ready,Ct l=true)(h3:∀t∈s.ae,Iv p.ag.length t=true)(h4:∀x∈s.outs,Mt s x=true)(h5:s.outs.Pairwise fun x y=>x.tag < y.tag)(h6:(Dh s).Nodup)(h7:∀n∈Dh s,n < s.ah):
  Ot p s=(countB s.ah && countB s.af && countB s.aw && countB s.ar && countB s.dropped):=by
 rw[Bool.eq_iff_iff,Ip];simp only[zc]
 constructor
 ·intro hf
  exact⟨⟨⟨⟨hf.ah,hf.af⟩,hf.aw⟩,hf.ar⟩,hf.dropped⟩
 ·rintro⟨⟨⟨⟨a,b⟩,c⟩,d⟩,e⟩
  exact⟨h1,a,b,c,d,e,h2,h3,h4,h5,h6,h7⟩
theorem Awx{p:Ab}{s:Aa}{i k:Nat}(hi:i < (Dh s).length)(hk:k < i)(h:(Dh s)[k]'(Nat.lt_trans hk hi)=(Dh s)[i]):¬ Formed p s:=fun hf=>(List.pairwise_iff_getElem.1 hf.nodup) k i (Nat.lt_trans hk hi) hi hk h
theorem Atr{p:Ab}{s:Aa}{i:Nat}(hi:i < (Dh s).length)(h:s.ah≤(Dh s)[i]):¬ Formed p s:=fun hf=>by
 have:=hf.below _ (zg hi);omega
theorem Ajg{p:Ab}{s:Aa}{q:Nat}(h1:q < s.ready.length)(h2:q < p.ag.length)(h:p.ag[q].bm < (s.ready[q].length:Int)):(Jc p s && Lt s)=false:=by
 have:Jc p s=false:=by
  rw[←Bool.not_eq_true,N0];intro hh;have:=hh q _ _ (zG h1) (zG h2);omega
 rw[this];rfl
theorem Anv{p:Ab}{s:Aa}{k:Nat}(h1:k < s.ae.length)(h:s.ae[k].cf < (Ck s k:Int)):(Jc p s && Lt s)=false:=by
 have:Lt s=false:=by
  rw[←Bool.not_eq_true,Pz];intro hh;have:=hh k _ (zG h1);omega
 rw[this,Bool.and_false]
open Go.RowKit
structure Me (w:zW) (p:Ab) (s:Aa) (p1 p2 p3 a1 a2 a3:zZ) (q1 q2 q3 c1 c2 c3:Nat) (rows:List Bm) (W:zW):Prop where
 bz:zM W w.heap.size 0 (.slice p1 p.aj.length q1)∧zM W w.heap.size 1 (.slice p2 p.ag.length q2)∧zM W w.heap.size 2 (.slice p3 p.binds.length q3)
 state:zM W (w.heap.size+1) 0 (.slice a1 s.ready.length c1)∧zM W (w.heap.size+1) 1 (.slice a2 s.outs.length c2)∧zM W (w.heap.size+1) 2 (.slice a3 s.ae.length c3)∧
  zM W (w.heap.size+1) 3 (.int .i64 s.ah)∧zM W (w.heap.size+1) 4 (.int .i64 s.af)∧zM W (w.heap.size+1) 5 (.int .i64 s.aw)∧zM W (w.heap.size+1) 6 (.int .i64 s.ar)∧zM W (w.heap.size+1) 7 (.int .i64 s.dropped)
 below:Below w.heap.size w W
 env:Env W
 bu:Au W 0 W.heap.size p1 p2 p3 p
 bc:Av W 0 W.heap.size a1 a2 a3 rows s
theorem Cj{w:zW}{p:Ab}{s:Aa}{p1 p2 p3 a1 a2 a3:zZ}{rows:List Bm}(q1 q2 q3 c1 c2 c3:Nat)(hE:Env w)(hp:Au w 0 w.heap.size p1 p2 p3 p)(hs:Av w 0 w.heap.size a1 a2 a3 rows s)(t1 t2:TypeId)(W:zW)
  (hW:Below ((w.alloc (.cells (zP p p1 p2 p3 q1 q2 q3) t1)).alloc (.cells (Ag s a1 a2 a3 c1 c2 c3) t2)).heap.size ((w.alloc (.cells (zP p p1 p2 p3 q1 q2 q3) t1)).alloc (.cells (Ag s a1 a2 a3 c1 c2 c3) t2)) W):
  Me w p s p1 p2 p3 a1 a2 a3 q1 q2 q3 c1 c2 c3 rows W:=by
 generalize hA:w.alloc (.cells (zP p p1 p2 p3 q1 q2 q3) t1)=wA at hW;have hsA:wA.heap.size=w.heap.size+1:=by rw[←hA];simp
 have kA:Bk wA w.heap.size t1 (zP p p1 p2 p3 q1 q2 q3):=by rw[←hA];exact Bk.new _ _ _
 have bA:=zu hA
 have kB:=Bk.new wA t2 (Ag s a1 a2 a3 c1 c2 c3);have bB:Below wA.heap.size wA (wA.alloc (.cells (Ag s a1 a2 a3 c1 c2 c3) t2)):=(zb _ _).alloc (zn _) _;have hsB:(wA.alloc (.cells (Ag s a1 a2 a3 c1 c2 c3) t2)).heap.size=wA.heap.size+1:=by simp
 have bW:=bB.trans (hW.mono bB.size);have k1:=kA.below bW (by omega);have k2:=kB.below hW (by omega);rw[hsA] at k2;have bw:Below w.heap.size w W:=bA.trans (bW.mono (by omega));refine⟨⟨?_,?_,?_⟩,⟨k2.cell 0,k2.cell 1,k2.cell 2,k2.cell 3,k2.cell 4,k2.cell 5,k2.cell 6,k2.cell 7⟩,bw,Ba bw hE,(hp.below bw (zn _)).wider (zn _) bw.size,(hs.below bw (zn _)).wider (zn _) bw.size⟩
 ·have:=k1.cell 0;simpa using this
 ·have:=k1.cell 1;simpa using this
 ·have:=k1.cell 2;simpa using this
theorem Gx{wr:zW}{b o k:Nat}{x:Cf}(hc:∀j u,(Ez x)[j]? =some u→wr.cell? ⟨b,o+k * 2+j,none⟩=some u):
  zM wr b (o+k * 2) (.int .i64 x.queue)∧zM wr b (o+k * 2+1) (.int .i64 x.cf):=⟨hc 0 _ rfl,hc 1 _ rfl⟩
theorem B7{Wr W:zW}{D:Prop}(h:D∧Below Wr.heap.size Wr W)(o:Obj):Below Wr.heap.size Wr (W.alloc o):=h.2.alloc h.2.size o
def Aon(bs:List Bool)(b:Bool)(w:zW)(i:Value)(wr:zW):Prop:=∃k:Nat,k≤bs.length∧i= .int .i64 k∧(∀j x,j < k→bs[j]? =some x→(b == x)=false)∧wr=w
theorem Apn{bs:List Bool}{b:Bool}(h:∀j x,j < bs.length→bs[j]? =some x→(b == x)=false):bs.contains b=false:=by
 rw[←Bool.not_eq_true,List.contains_iff_mem];intro hm;obtain⟨j,hj⟩:=List.getElem?_of_mem hm;have:=h j b (List.getElem?_eq_some_iff.1 hj).1 hj;simp at this
theorem Apo{bs:List Bool}{b x:Bool}{k:Nat}(h:bs[k]? =some x)(e:(b == x)=true):bs.contains b=true:=by
 rw[List.contains_iff_mem,beq_iff_eq.1 e];exact List.mem_of_getElem? h
theorem Akt(a:zZ)(c:Nat)(bs:List Bool)(b:Bool)(lo:Nat)(w:zW)(hl:Sl w lo w.heap.size a (bs.map Value.bool))(hll:bs.length≤1000):
  Calls Tryz.prog 193 #[.slice a bs.length c,.bool b] w fun e w'=>∃i:Int,e= .returned (.int .i64 i)∧decide (0≤i)=bs.contains b∧w'=w:=by
 have HL:=zh hl;clear hl
 go_enter Tryz.func193,Tryz.ntmps193
 go_wp2_with fail
 go_loopw [8] (fun i wr=>Aon bs b w i wr) (fun i _=>bs.length - (intOf i).toNat)
 case atStart=>exact⟨0,by omega,rfl,fun j x hj=>absurd hj (by omega),rfl⟩
 case round=>
  obtain⟨k,hk,rfl,hall,rfl⟩:=hrel;have HA:=zh hall;clear hall
  by_cases hlt:k < bs.length
  ·obtain⟨g,o,rfl,_,hb,hc⟩:=HL.out.at_ (k:=k) (by simpa using hlt)
   have e0:wr.cell? ⟨g,o+k,none⟩=some (.bool bs[k]):=hc k _ (by simp[hlt]);have HG:=zh (zG hlt);clear hc;generalize bs[k]=x at *
   cases hq:(b == x)
   ·go_wp2_with fail
    exact⟨⟨k+1,hlt,by go_num,fun j y hj hy=>by
     rcases Nat.lt_or_ge j k with h|h
     ·exact HA.out j y h hy
     ·obtain rfl:j=k:=by omega
      rw[HG.out] at hy
      cases hy
      exact hq,rfl⟩,by simp[intOf];omega⟩
   ·have HR:=zh (Apo HG.out hq)
    go_wp2_with fail
    go_ret
    exact⟨_,rfl,by rw[HR.out];simp,rfl⟩
  ·obtain rfl:k=bs.length:=by omega
   have HR:=zh (Apn HA.out);go_wp2_with fail
   go_ret
   exact⟨_,rfl,by rw[HR.out];rfl,rfl⟩
theorem Uq(a:zZ)(c:Nat)(bs:List Bool)(b:Bool)(lo:Nat)(w:zW)(hl:Sl w lo w.heap.size a (bs.map Value.bool))(hll:bs.length≤1000):
  Calls Tryz.prog 165 #[.slice a bs.length c,.bool b] w fun e w'=>e= .returned (.bool (bs.contains b))∧w'=w:=by
 have HI:=zh (Akt a c bs b lo w hl hll);clear hl
 go_enter Tryz.func165,Tryz.ntmps165
 go_wp2_with fail
 refine HI.out.mono ?_;rintro e w1 ⟨i,rfl,hi,rfl⟩;have H:=zh hi;clear hi
 go_wp2_with fail
 go_ret
 exact⟨by rw[←H.out];rfl,rfl⟩
def I3(e:Int):PanicEntry:= { v:= .iface 163 (.agg #[.int .i64 e]),recovered:=false }
theorem Ag1(e:Int)(a:zZ)(c:Nat)(bs:List Bool)(lo:Nat)(w:zW)(hl:Sl w lo w.heap.size a (bs.map Value.bool))(hll:bs.length≤1000)(hb:bs.contains false=false):
  Calls Tryz.prog 123 #[.int .i64 e,.slice a bs.length c] w fun en w'=>en= .returned (.tuple #[])∧w'=w:=by
 have HC:=Uq a c bs false lo w hl hll;rw[hb] at HC;have HC':=zh HC;clear HC hl
 go_enter Tryz.func123,Tryz.ntmps123
 go_wp2_with fail
 refine HC'.out.mono ?_;rintro en w1 ⟨rfl,rfl⟩;go_wp2_with fail
 go_end0
 exact⟨rfl,rfl⟩
theorem Aa0(e:Int)(a:zZ)(c:Nat)(bs:List Bool)(lo:Nat)(w:zW)(hl:Sl w lo w.heap.size a (bs.map Value.bool))(hll:bs.length≤1000)(hb:bs.contains false=true):
  Calls Tryz.prog 123 #[.int .i64 e,.slice a bs.length c] w fun en w'=>en= .panicked [I3 e]∧w'=w:=by
 have HC:=Uq a c bs false lo w hl hll;rw[hb] at HC;have HC':=zh HC;clear HC hl
 go_enter Tryz.func123,Tryz.ntmps123
 go_wp2_with fail
 refine HC'.out.mono ?_;rintro en w1 ⟨rfl,rfl⟩;go_wp2_with fail
 exact⟨rfl,rfl,rfl⟩
theorem Pv(n:Int)(w:zW):Calls Tryz.prog 124 #[.int .i64 n] w fun e w'=>e= .returned (.bool (countB n))∧w'=w:=by
 unfold countB;by_cases h1:0≤n<;>by_cases h2:n≤1048576
 all_goals
  go_enter Tryz.func124,Tryz.ntmps124
  go_wp2_with fail
  go_ret
  exact⟨by simp[h1,h2],rfl⟩
def Afw(w W0:zW)(s:Aa)(a1 a2 a3:zZ)(c1 c2 c3:Nat):Prop:=∀W,Below W0.heap.size W0 W→
 (zM W w.heap.size 0 (.slice a1 s.ready.length c1)∧zM W w.heap.size 1 (.slice a2 s.outs.length c2)∧zM W w.heap.size 2 (.slice a3 s.ae.length c3)∧
  zM W w.heap.size 3 (.int .i64 s.ah)∧zM W w.heap.size 4 (.int .i64 s.af)∧zM W w.heap.size 5 (.int .i64 s.aw)∧zM W w.heap.size 6 (.int .i64 s.ar)∧zM W w.heap.size 7 (.int .i64 s.dropped))∧Below w.heap.size w W
theorem Qk(w:zW)(s:Aa)(a1 a2 a3:zZ)(c1 c2 c3:Nat)(t:TypeId):Afw w (w.alloc (.cells (Ag s a1 a2 a3 c1 c2 c3) t)) s a1 a2 a3 c1 c2 c3:=fun W hW=>by
 have hb:=(Bk.new w t (Ag s a1 a2 a3 c1 c2 c3)).below hW (by simp);refine⟨⟨hb.cell 0,hb.cell 1,hb.cell 2,hb.cell 3,hb.cell 4,hb.cell 5,hb.cell 6,hb.cell 7⟩,((zb _ w).alloc (zn _) _).trans (hW.mono (by simp))⟩
theorem Gd{wr:zW}{b o k:Nat}{x:D8}(hc:∀j u,(D6 x)[j]? =some u→wr.cell? ⟨b,o+k * 8+j,none⟩=some u):
  zM wr b (o+k * 8) (.int .i64 x.tag)∧zM wr b (o+k * 8+1) (.int .i64 x.bg)∧zM wr b (o+k * 8+2) (.int .i64 x.queue)∧zM wr b (o+k * 8+3) (.int .i64 x.item.seq)∧
   zM wr b (o+k * 8+4) (.string x.item.key)∧zM wr b (o+k * 8+5) (.string x.item.body)∧zM wr b (o+k * 8+6) (.bool x.item.again)∧zM wr b (o+k * 8+7) (.int .i64 x.item.au):=
 ⟨hc 0 _ rfl,hc 1 _ rfl,hc 2 _ rfl,hc 3 _ rfl,hc 4 _ rfl,hc 5 _ rfl,hc 6 _ rfl,hc 7 _ rfl⟩
def Rp(l:List D8)(t:Int):Nat:=l.countP fun x=>decide (x.bg=t)
theorem Aen{l:List D8}{t:Int}{k:Nat}(h:k < l.length):Rp (l.take (k+1)) t=Rp (l.take k) t+if l[k].bg=t then 1 else 0:=by
 unfold Rp;rw[zj h,List.countP_append];simp[List.countP_cons]
theorem Anc(l:List D8)(t:Int)(k:Nat):Rp (l.take k) t≤k:=by
 unfold Rp;exact zr List.countP_le_length (by rw[List.length_take];omega)
def Axs(l:List D8)(t:Int)(W0:zW)(n i:Value)(wr:zW):Prop:=∃k:Nat,k≤l.length∧i= .int .i64 k∧n= .int .i64 (Rp (l.take k) t)∧Below W0.heap.size W0 wr
theorem Akw(s:Aa)(a1 a2 a3:zZ)(c1 c2 c3:Nat)(t:Int)(lo:Nat)(w:zW)(ho:Sl w lo w.heap.size a2 (s.outs.flatMap D6))(hl:s.outs.length≤1048576):
  Calls Tryz.prog 128 #[Ad s a1 a2 a3 c1 c2 c3,.int .i64 t] w fun e w'=>e= .returned (.int .i64 (Ck s t))∧Below w.heap.size w w':=by
 have hbx:=Qk w s a1 a2 a3 c1 c2 c3 40;have ho0:=(ho.below ((zb _ w).alloc (zn _) (.cells (Ag s a1 a2 a3 c1 c2 c3) 40)) (zn _)).wider (lo':=0) (hi':=(w.alloc (.cells (Ag s a1 a2 a3 c1 c2 c3) 40)).heap.size) (Nat.zero_le _) (by simp);have HO:=zh ho0;have HF:Hid (Rp s.outs t=Ck s t):=(rfl:Rp s.outs t=Ck s t);have hbb:Hid (Afw w (w.alloc (.cells (Ag s a1 a2 a3 c1 c2 c3) 40)) s a1 a2 a3 c1 c2 c3):=hbx;clear hbx ho ho0;unfold Ad;unfold Ag at *;go_enter Tryz.func128,Tryz.ntmps128
 obtain⟨⟨f0,f1,f2,f3,f4,f5,f6,f7⟩,_⟩:=hbb.out _ (zb _ _);go_wp2_with fail
 generalize w.alloc (.cells (zV s a1 a2 a3 c1 c2 c3) 40)=W0 at *;clear f0 f1 f2 f3 f4 f5 f6 f7;generalize hou:s.outs=l at *
 go_loopw [5,11] (fun n i wr=>Axs l t W0 n i wr) (fun _ i _=>l.length - (intOf i).toNat)
 case atStart=>exact⟨0,by omega,rfl,rfl,zb _ _⟩
 case round=>
  obtain⟨k,hk,rfl,rfl,hB⟩:=hrel;have HB:=zh hB;have hh:=Anc l t k;generalize hN:Rp (l.take k) t=N at *;by_cases hlt:k < l.length
  ·obtain⟨b,o,ha,_,hb,hc⟩:=Bf Dx (by decide) HO.out hlt
   subst ha;obtain⟨e0,e1,e2,e3,e4,e5,e6,e7⟩:=Gd (wr:=wr) (b:=b) (o:=o) (k:=k) (x:=l[k]) fun j u hu=>(hB.cell (p:=⟨b,_,none⟩) hb).trans (hc j u hu);have HST:=zh (Aen (t:=t) hlt);rw[hN] at HST;have HN:=zh hN;clear hc hB hN;generalize l[k]=x at *;by_cases hq:x.bg=t
   ·have hqb:(x.bg == t)=true:=by simp[hq]
    rw[zp hq] at HST;clear hq;go_wp2_with fail
    exact⟨⟨k+1,hlt,by go_num,by rw[HST.out];go_num,(HB.out.alloc HB.out.size _)⟩,by simp[intOf];omega⟩
   ·have hqb:(x.bg == t)=false:=by simp[hq]
    rw[zq hq] at HST;clear hq;go_wp2_with fail
    exact⟨⟨k+1,hlt,by go_num,by rw[HST.out];rfl,(HB.out.alloc HB.out.size _)⟩,by simp[intOf];omega⟩
  ·obtain rfl:k=l.length:=by omega
   have hF:N=Ck s t:=by rw[←hN,List.take_length,←HF.out]
   have HFN:=zh hF;clear hB hF hN;go_wp2_with fail
   go_ret
   exact⟨by rw[HFN.out];rfl,(hbb.out _ HB.out).2⟩
open Go.RowKit
open Go.Maps in
def Ad1(D:DataW Unit)(l:List Int):Prop:=Tidy D∧(∀n:Int,has D (.int .i64 n)=true↔n∈l)∧∀n∈l,D.atKey (.int .i64 n) (.lit (.int .i64 0))= .lit (.int .i64 1)
theorem Yd(n:Int):WideAt.IsKeyLit (.int .i64 n):=trivial
theorem int_ne{a b:Int}(h:a≠b):Lit.int .i64 a≠Lit.int .i64 b:=fun e=>h (by simpa using e)
open Go.Maps in
theorem Ahe:Ad1 (.map []) []:=⟨tidy_empty,fun n=>by simp[has],fun n h=>by cases h⟩
open Go.Maps in
theorem Uf{D:DataW Unit}{l:List Int}(h:Ad1 D l){s c:Int}(hc:D.atKey (.int .i64 s) (.lit (.int .i64 0))= .lit (.int .i64 c)):(s∉l→c=0)∧(s∈l→c=1):=by
 constructor
 ·intro hs
  rw[atKey_of_not_has (by rw[←Bool.not_eq_true];exact mt (h.2.1 s).1 hs)] at hc;simpa using hc.symm
 ·intro hs
  rw[h.2.2 s hs] at hc;simpa using hc.symm
open Go.Maps in
theorem Ajv{D:DataW Unit}{l:List Int}(h:Ad1 D l)(s:Int):Ad1 (D.put (.int .i64 s) (.lit (.int .i64 1))) (l++[s]):=by
 refine⟨h.1.put (Yd _) _,fun n=> ?_,fun n hn=> ?_⟩
 ·by_cases e:n=s
  ·subst e
   rw[has_put_same h.1.isMap (Yd _)];simp
  ·rw[has_put_other (int_ne e),h.2.1 n]
   simp[e]
 ·by_cases e:n=s
  ·subst e
   rw[atKey_put_same h.1.isMap (Yd _)]
  ·rw[atKey_put_other (int_ne e)]
   have:n∈l:=by simpa [e] using hn
   exact h.2.2 n this
open Go.Maps Go.WideMaps in
structure Ja (ns:Int) (w:zW) (m g:Nat) (l:List Int):Prop where
 var:w.cell? ⟨m,0,none⟩=some (.map (some g))
 map:∃D:DataW Unit,w.ownsMap Tryz.prog 3 (plainElem Tryz.prog 3) g l.length D∧Ad1 D l
 nodup:l.Nodup
 low:∀n∈l,n < ns
theorem Ja.grown{ns:Int}{w w':zW}{m g:Nat}{l:List Int}(h:Ja ns w m g l)(hg:w.grownBy w' none):Ja ns w' m g l:=by
 obtain⟨D,hm,hs⟩:=h.map;refine⟨?_,⟨D,hm.kept hg (by simp),hs⟩,h.nodup,h.low⟩;have hlt:m < w.heap.size:=World.block_lt_of_cell? w _ h.var;exact(World.cell?_of_block (hg.block m hlt (by simp))).trans h.var
theorem Ja.below{ns:Int}{w w':zW}{m g:Nat}{l:List Int}(h:Ja ns w m g l)(hb:Below w.heap.size w w'):Ja ns w' m g l:=h.grown (⟨hb.os,hb.tape,hb.output,hb.size,fun k hk _=>hb.block k hk⟩)
theorem Ane{n:Int}(h1: -9223372036854775808≤n)(h2:n≤9223372036854775807):(Lit.int .i64 n).wf=true:=by
 simp only[Lit.wf,IntKind.min,IntKind.max,IntKind.signed,IntKind.bits,zc,zd,if_true];omega
theorem Hv{w w':zW}{g:Nat}{p:Addr}{u:Value}(hg:w.grownBy w' (some g))(h:w.cell? p=some u)(hne:p.block≠g):w'.cell? p=some u:=
 (World.cell?_of_block (hg.block p.block (World.block_lt_of_cell? w p h) (fun e=>hne (by simpa using e)))).trans h
theorem Od{w W:zW}{t:TypeId}{cs:Array Value}{bs:List Bool}(hu:bs.map Value.bool=cs.toList)(h:Below (w.heap.size+1) (w.alloc (.cells cs t)) W):Sl W 0 W.heap.size (some ⟨w.heap.size,0,none⟩) (bs.map Value.bool):=
 Afk ((Bk.new w t cs).below h (by omega)) (Nat.zero_le _) (by have:=h.size;simp at this;omega) hu
theorem Lg{e:Int}{w0:zW}{cs:Array Value}{n:Nat}(bs:List Bool)(hcs:cs=(bs.map Value.bool).toArray)(hn:n=bs.length)(hb:bs.contains false=false)(hl:bs.length≤1000):
  Calls Tryz.prog 123 #[.int .i64 e,.slice (some ⟨w0.heap.size,0,none⟩) n n] (w0.alloc (.cells cs 4)) fun en w'=>en= .returned (.tuple #[])∧w'=w0.alloc (.cells cs 4):=by
 subst hcs hn;exact Ag1 e _ _ bs 0 _ (Od rfl (zb _ _)) hl hb
theorem Lf{e:Int}{w0:zW}{cs:Array Value}{n:Nat}(bs:List Bool)(hcs:cs=(bs.map Value.bool).toArray)(hn:n=bs.length)(hb:bs.contains false=true)(hl:bs.length≤1000):
  Calls Tryz.prog 123 #[.int .i64 e,.slice (some ⟨w0.heap.size,0,none⟩) n n] (w0.alloc (.cells cs 4)) fun en w'=>en= .panicked [I3 e]∧w'=w0.alloc (.cells cs 4):=by
 subst hcs hn;exact Aa0 e _ _ bs 0 _ (Od rfl (zb _ _)) hl hb
theorem My{e:Int}{w0:zW}{cs:Array Value}{n:Nat}(bs:List Bool)(hcs:cs=(bs.map Value.bool).toArray)(hn:n=bs.length)(hb:bs.contains false=false)(hl:bs.length≤1000):
  Calls Tryz.prog 123 #[.int .i64 e,.slice (some ⟨w0.heap.size,0,none⟩) n n] (w0.alloc (.cells cs 4)).drew fun en w'=>en= .returned (.tuple #[])∧w'=(w0.alloc (.cells cs 4)).drew:=by
 subst hcs hn;exact Ag1 e _ _ bs 0 _ (show Sl (w0.alloc (.cells (bs.map Value.bool).toArray 4)).drew 0 (w0.alloc (.cells (bs.map Value.bool).toArray 4)).drew.heap.size _ _ from Od (w:=w0) (W:=w0.alloc (.cells (bs.map Value.bool).toArray 4)) (t:=4) (cs:=(bs.map Value.bool).toArray) rfl (zb _ _)) hl hb
theorem Mx{e:Int}{w0:zW}{cs:Array Value}{n:Nat}(bs:List Bool)(hcs:cs=(bs.map Value.bool).toArray)(hn:n=bs.length)(hb:bs.contains false=true)(hl:bs.length≤1000):
  Calls Tryz.prog 123 #[.int .i64 e,.slice (some ⟨w0.heap.size,0,none⟩) n n] (w0.alloc (.cells cs 4)).drew fun en w'=>en= .panicked [I3 e]∧w'=(w0.alloc (.cells cs 4)).drew:=by
 subst hcs hn;exact Aa0 e _ _ bs 0 _ (show Sl (w0.alloc (.cells (bs.map Value.bool).toArray 4)).drew 0 (w0.alloc (.cells (bs.map Value.bool).toArray 4)).drew.heap.size _ _ from Od (w:=w0) (W:=w0.alloc (.cells (bs.map Value.bool).toArray 4)) (t:=4) (cs:=(bs.map Value.bool).toArray) rfl (zb _ _)) hl hb
open Go.Maps Go.WideMaps in
theorem Aun(x:Ao)(m g st:Nat)(l:List Int)(ns:Int)(w:zW)(hS:Ja ns w m g l)(hst:w.cell? ⟨st,3,none⟩=some (.int .i64 ns))(hm:m≠g)(hg:st≠g)(hx1: -9223372036854775808≤x.seq)(hx2:x.seq≤9223372036854775807)(hll:l.length≤1073741824)(hnot:x.seq∉l)(hlt:x.seq < ns):
  Calls Tryz.prog 125 #[.agg (Ax x).toArray,zt m,zt st] w fun e w'=>e= .returned (.tuple #[])∧Ja ns w' m g (l++[x.seq])∧w.grownBy w' (some g):=by
 obtain⟨hvar,⟨D,hown,hsd⟩,hnd,hlo⟩:=hS;unfold Ax;obtain⟨seq,key,body,again,au⟩:=x;simp only at hx1 hx2 hnot hlt⊢;have hkey:keyOf Tryz.prog 3 (.int .i64 seq)=some (.int .i64 seq):=keyOf_int_mk Tryz.underlying3 (Ane hx1 hx2);have hgl:=hown.lt;have hml:m < w.heap.size:=World.block_lt_of_cell? w _ hvar;have hsl:st < w.heap.size:=World.block_lt_of_cell? w _ hst;obtain⟨w0,hw0⟩:=zo (w.alloc (.cells #[.int .i64 seq,.string key,.string body,.bool again,.int .i64 au] 113));have hgr:w.grownBy w0 none:=by rw[←hw0];exact World.grownBy_alloc w _ none
 have hgs:w.grownBy w0 (some g):=by rw[←hw0];exact World.grownBy_alloc w _ _
 have hown0:w0.ownsMap Tryz.prog 3 (plainElem Tryz.prog 3) g l.length D:=hown.kept hgr (by simp);have hv0:w0.cell? ⟨m,0,none⟩=some (.map (some g)):=(World.cell?_of_block (hgr.block m hml (by simp))).trans hvar;have hs0:w0.cell? ⟨st,3,none⟩=some (.int .i64 ns):=(World.cell?_of_block (hgr.block st hsl (by simp))).trans hst;have hk0:Bk w0 w.heap.size 113 #[.int .i64 seq,.string key,.string body,.bool again,.int .i64 au]:=by rw[←hw0];exact Bk.new w _ _
 have hx0:w0.cell? ⟨w.heap.size,0,none⟩=some (.int .i64 seq):=by have:=hk0.cell 0;simpa using this
 have HO:=zh hown0;have HK:=zh hkey;have HSD:=zh hsd;have HGR:=zh hgs;have hgw:w.heap.size≠g:=by omega
 have HC:Hid (zM w0 m 0 (.map (some g))∧zM w0 st 3 (.int .i64 ns)∧zM w0 w.heap.size 0 (.int .i64 seq)):=(⟨hv0,hs0,hx0⟩:_∧_∧_);have HNOT:=zh hnot;have hltb:(decide (seq < ns))=true:=by simp[hlt]
 have hnd2:(l++[seq]).Nodup:=by
  rw[List.nodup_append];exact⟨hnd,by simp,fun a ha b hb e=>by rw[List.mem_singleton.1 hb] at e;rw[e] at ha;exact hnot ha⟩
 have hlo2:∀n∈l++[seq],n < ns:=fun n hn=>by
  rcases List.mem_append.1 hn with h|h
  ·exact hlo n h
  ·rw[List.mem_singleton.1 h];exact hlt
 have HND:=zh (zi hnd2 hlo2);clear hnd hlo hnd2 hlo2;clear hown hown0 hkey hsd hnot hgr hgs hk0 hvar hst hlt;go_enter Tryz.func125,Tryz.ntmps125
 go_wp2_with (first
  |(at_lookup;refine wpList_lookup_own_int _ rfl _ _ 167 rfl 3 3 .i64 (int_keyed Tryz.underlying3) Tryz.underlying167 Tryz.underlying3 (by kernel_rfl) _ _ D rfl HO.out _ _ rfl HK.out ?_;intro cnt hat hwc;obtain rfl:=(Uf HSD.out hat).1 HNOT.out;clear hat hwc)
  |(at_mapUpdate;refine wpList_mapUpdate_own _ rfl _ _ _ 167 rfl 3 3 (int_keyed Tryz.underlying3) Tryz.underlying167 _ _ l.length D rfl HO.out (by unfold maxLen;omega) _ _ _ rfl rfl HK.out _ [] (plainElem_int Tryz.underlying3 (by decide)) ?_;intro w1 hown1 hgrow1;have HO1:=zh hown1;have HG1:=zh hgrow1;clear hown1 hgrow1
    obtain⟨c0,c1,c2⟩:=HC.out;have d0:=Hv HG1.out c0 hm;have d1:=Hv HG1.out c1 hg;have d2:=Hv HG1.out c2 hgw;clear c0 c1 c2)
  |(at_lookup;refine wpList_lookup_own_int _ rfl _ _ 167 rfl 3 3 .i64 (int_keyed Tryz.underlying3) Tryz.underlying167 Tryz.underlying3 (by kernel_rfl) _ _ _ rfl HO1.out _ _ rfl HK.out ?_;intro cnt hat hwc;rw[atKey_put_same HSD.out.1.isMap (Yd _)] at hat;obtain rfl:1=cnt:=by simpa using hat
    clear hat hwc))
 refine(Ag1 1 (some ⟨w1.heap.size,0,none⟩) 2 [true,true] 0 _ (Od rfl (zb _ _)) (by decide) (by decide)).mono ?_;rintro e w2 ⟨rfl,rfl⟩;go_wp2_with fail
 go_end0
 have hal:w1.grownBy (w1.alloc (.cells #[Value.bool true,Value.bool true] 4)) none:=World.grownBy_alloc _ _ _;refine⟨rfl,⟨?_,⟨_,?_,Ajv HSD.out seq⟩,HND.out.1,HND.out.2⟩,?_⟩
 ·exact(World.cell?_of_block (hal.block m (World.block_lt_of_cell? w1 _ d0) (by simp))).trans d0
 ·rw[ze]
  exact HO1.out.kept hal (by simp)
 ·exact Dq HGR.out (Dq HG1.out (World.grownBy_alloc _ _ _))
open Go.Maps Go.WideMaps in
theorem Aof(x:Ao)(m g st:Nat)(l:List Int)(ns:Int)(w:zW)(hS:Ja ns w m g l)(hst:w.cell? ⟨st,3,none⟩=some (.int .i64 ns))(hm:m≠g)(hg:st≠g)(hx1: -9223372036854775808≤x.seq)(hx2:x.seq≤9223372036854775807)(hll:l.length≤1073741824)(hnot:x.seq∉l)(hlt:ns≤x.seq):
  Calls Tryz.prog 125 #[.agg (Ax x).toArray,zt m,zt st] w fun e w'=>e= .panicked [I3 1]∧w.grownBy w' (some g):=by
 obtain⟨hvar,⟨D,hown,hsd⟩,hnd,hlo⟩:=hS;unfold Ax;obtain⟨seq,key,body,again,au⟩:=x;simp only at hx1 hx2 hnot hlt⊢;have hkey:keyOf Tryz.prog 3 (.int .i64 seq)=some (.int .i64 seq):=keyOf_int_mk Tryz.underlying3 (Ane hx1 hx2);have hgl:=hown.lt;have hml:m < w.heap.size:=World.block_lt_of_cell? w _ hvar;have hsl:st < w.heap.size:=World.block_lt_of_cell? w _ hst;obtain⟨w0,hw0⟩:=zo (w.alloc (.cells #[.int .i64 seq,.string key,.string body,.bool again,.int .i64 au] 113));have hgr:w.grownBy w0 none:=by rw[←hw0];exact World.grownBy_alloc w _ none
 have hgs:w.grownBy w0 (some g):=by rw[←hw0];exact World.grownBy_alloc w _ _
 have hown0:w0.ownsMap Tryz.prog 3 (plainElem Tryz.prog 3) g l.length D:=hown.kept hgr (by simp);have hv0:w0.cell? ⟨m,0,none⟩=some (.map (some g)):=(World.cell?_of_block (hgr.block m hml (by simp))).trans hvar;have hs0:w0.cell? ⟨st,3,none⟩=some (.int .i64 ns):=(World.cell?_of_block (hgr.block st hsl (by simp))).trans hst;have hk0:Bk w0 w.heap.size 113 #[.int .i64 seq,.string key,.string body,.bool again,.int .i64 au]:=by rw[←hw0];exact Bk.new w _ _
 have hx0:w0.cell? ⟨w.heap.size,0,none⟩=some (.int .i64 seq):=by have:=hk0.cell 0;simpa using this
 have HO:=zh hown0;have HK:=zh hkey;have HSD:=zh hsd;have HGR:=zh hgs;have hgw:w.heap.size≠g:=by omega
 have HC:Hid (zM w0 m 0 (.map (some g))∧zM w0 st 3 (.int .i64 ns)∧zM w0 w.heap.size 0 (.int .i64 seq)):=(⟨hv0,hs0,hx0⟩:_∧_∧_);have HNOT:=zh hnot;have hltb:(decide (seq < ns))=false:=by simp;omega
 clear hown hown0 hkey hsd hnot hgr hgs hk0 hvar hst;go_enter Tryz.func125,Tryz.ntmps125
 go_wp2_with (first
  |(at_lookup;refine wpList_lookup_own_int _ rfl _ _ 167 rfl 3 3 .i64 (int_keyed Tryz.underlying3) Tryz.underlying167 Tryz.underlying3 (by kernel_rfl) _ _ D rfl HO.out _ _ rfl HK.out ?_;intro cnt hat hwc;obtain rfl:=(Uf HSD.out hat).1 HNOT.out;clear hat hwc)
  |(at_mapUpdate;refine wpList_mapUpdate_own _ rfl _ _ _ 167 rfl 3 3 (int_keyed Tryz.underlying3) Tryz.underlying167 _ _ l.length D rfl HO.out (by unfold maxLen;omega) _ _ _ rfl rfl HK.out _ [] (plainElem_int Tryz.underlying3 (by decide)) ?_;intro w1 hown1 hgrow1;have HO1:=zh hown1;have HG1:=zh hgrow1;clear hown1 hgrow1
    obtain⟨c0,c1,c2⟩:=HC.out;have d0:=Hv HG1.out c0 hm;have d1:=Hv HG1.out c1 hg;have d2:=Hv HG1.out c2 hgw;clear c0 c1 c2)
  |(at_lookup;refine wpList_lookup_own_int _ rfl _ _ 167 rfl 3 3 .i64 (int_keyed Tryz.underlying3) Tryz.underlying167 Tryz.underlying3 (by kernel_rfl) _ _ _ rfl HO1.out _ _ rfl HK.out ?_;intro cnt hat hwc;rw[atKey_put_same HSD.out.1.isMap (Yd _)] at hat;obtain rfl:1=cnt:=by simpa using hat
    clear hat hwc))
 refine(Aa0 1 (some ⟨w1.heap.size,0,none⟩) 2 [true,false] 0 _ (Od rfl (zb _ _)) (by decide) (by decide)).mono ?_;rintro e w2 ⟨rfl,rfl⟩;go_wp2_with fail
 exact⟨rfl,rfl,Dq HGR.out (Dq HG1.out (World.grownBy_alloc _ _ _))⟩
open Go.Maps Go.WideMaps in
theorem Afg(x:Ao)(m g st:Nat)(l:List Int)(ns:Int)(w:zW)(hS:Ja ns w m g l)(hst:w.cell? ⟨st,3,none⟩=some (.int .i64 ns))(hm:m≠g)(hg:st≠g)(hx1: -9223372036854775808≤x.seq)(hx2:x.seq≤9223372036854775807)(hll:l.length≤1073741824)(hnot:x.seq∈l):
  Calls Tryz.prog 125 #[.agg (Ax x).toArray,zt m,zt st] w fun e w'=>e= .panicked [I3 1]∧w.grownBy w' (some g):=by
 obtain⟨hvar,⟨D,hown,hsd⟩,hnd,hlo⟩:=hS;unfold Ax;obtain⟨seq,key,body,again,au⟩:=x;simp only at hx1 hx2 hnot⊢;have hkey:keyOf Tryz.prog 3 (.int .i64 seq)=some (.int .i64 seq):=keyOf_int_mk Tryz.underlying3 (Ane hx1 hx2);have hgl:=hown.lt;have hml:m < w.heap.size:=World.block_lt_of_cell? w _ hvar;have hsl:st < w.heap.size:=World.block_lt_of_cell? w _ hst;obtain⟨w0,hw0⟩:=zo (w.alloc (.cells #[.int .i64 seq,.string key,.string body,.bool again,.int .i64 au] 113));have hgr:w.grownBy w0 none:=by rw[←hw0];exact World.grownBy_alloc w _ none
 have hgs:w.grownBy w0 (some g):=by rw[←hw0];exact World.grownBy_alloc w _ _
 have hown0:w0.ownsMap Tryz.prog 3 (plainElem Tryz.prog 3) g l.length D:=hown.kept hgr (by simp);have hv0:w0.cell? ⟨m,0,none⟩=some (.map (some g)):=(World.cell?_of_block (hgr.block m hml (by simp))).trans hvar;have hs0:w0.cell? ⟨st,3,none⟩=some (.int .i64 ns):=(World.cell?_of_block (hgr.block st hsl (by simp))).trans hst;have hk0:Bk w0 w.heap.size 113 #[.int .i64 seq,.string key,.string body,.bool again,.int .i64 au]:=by rw[←hw0];exact Bk.new w _ _
 have hx0:w0.cell? ⟨w.heap.size,0,none⟩=some (.int .i64 seq):=by have:=hk0.cell 0;simpa using this
 have HO:=zh hown0;have HK:=zh hkey;have HSD:=zh hsd;have HGR:=zh hgs;have hgw:w.heap.size≠g:=by omega
 have HC:Hid (zM w0 m 0 (.map (some g))∧zM w0 st 3 (.int .i64 ns)∧zM w0 w.heap.size 0 (.int .i64 seq)):=(⟨hv0,hs0,hx0⟩:_∧_∧_);have HNOT:=zh hnot;clear hown hown0 hkey hsd hnot hgr hgs hk0 hvar hst;obtain⟨bb,hbb⟩:=zo (decide (seq < ns));go_enter Tryz.func125,Tryz.ntmps125
 go_wp2_with (first
  |(at_lookup;refine wpList_lookup_own_int _ rfl _ _ 167 rfl 3 3 .i64 (int_keyed Tryz.underlying3) Tryz.underlying167 Tryz.underlying3 (by kernel_rfl) _ _ D rfl HO.out _ _ rfl HK.out ?_;intro cnt hat hwc;obtain rfl:=(Uf HSD.out hat).2 HNOT.out;clear hat hwc)
  |(at_mapUpdate;refine wpList_mapUpdate_own _ rfl _ _ _ 167 rfl 3 3 (int_keyed Tryz.underlying3) Tryz.underlying167 _ _ l.length D rfl HO.out (by unfold maxLen;omega) _ _ _ rfl rfl HK.out _ [] (plainElem_int Tryz.underlying3 (by decide)) ?_;intro w1 hown1 hgrow1;have HO1:=zh hown1;have HG1:=zh hgrow1;clear hown1 hgrow1
    obtain⟨c0,c1,c2⟩:=HC.out;have d0:=Hv HG1.out c0 hm;have d1:=Hv HG1.out c1 hg;have d2:=Hv HG1.out c2 hgw;clear c0 c1 c2)
  |(at_lookup;refine wpList_lookup_own_int _ rfl _ _ 167 rfl 3 3 .i64 (int_keyed Tryz.underlying3) Tryz.underlying167 Tryz.underlying3 (by kernel_rfl) _ _ _ rfl HO1.out _ _ rfl HK.out ?_;intro cnt hat hwc;rw[atKey_put_same HSD.out.1.isMap (Yd _)] at hat;obtain rfl:2=cnt:=by simpa using hat
    clear hat hwc))
 refine(Aa0 1 (some ⟨w1.heap.size,0,none⟩) 2 [false,bb] 0 _ (Od rfl (zb _ _)) (by simp) (by cases bb<;>decide)).mono ?_;rintro e w2 ⟨rfl,rfl⟩;go_wp2_with fail
 exact⟨rfl,rfl,Dq HGR.out (Dq HG1.out (World.grownBy_alloc _ _ _))⟩
end Go.Proofs.YtpkneogjdfolaaaGreatDoor
namespace Go.Proofs.YtpkneogjdfolaaaGreatDoor
open Go.RowKit
theorem Aah(B:Nat)(e x:Int)(w:zW)(hc:w.cell? ⟨B,0,none⟩=some (.int .i64 x))(hz:w.frozen? ⟨B,0,none⟩=false):
  CallsD Tryz.prog 122 #[zt B] (.panicking [I3 e]) w fun en u' w'=>en= .returned (.tuple #[])∧u'= .panicking [{ I3 e with recovered:=true }]∧w'=(w.setCell ⟨B,0,none⟩ (.int .i64 e)).alloc (.cells #[.int .i64 e] 163):=by
 have hlt:B < w.heap.size:=World.block_lt_of_cell? w _ hc;have hne:¬ (B=w.heap.size):=by omega
 have hta:∀W:zW,(Instr.typeAssert (.iface 163 (.agg #[.int .i64 e])) 20 163 true).run Tryz.prog W= .ok (.tuple #[.agg #[.int .i64 e],.bool true]) W:=fun W=>by simp[Instr.typeAssert,run_underlying Tryz.underlying163]
 unfold I3;refine callsD_of_wpS Tryz.func122 rfl fun c₀ cs hu=> ?_
 apply wpS_seq
 apply wpS_region
 simp[wpOpsS,go_sem,recoverD,hu,Tryz.ntmps122,Exit.thenS];refine wpS_of_wp ?_
 change Code.wp _ _ _ (⟨#[zt B,.iface 163 (.agg #[.int .i64 e]),undef,undef,.iface 163 (.agg #[.int .i64 e]),undef,undef,undef,undef,undef,undef,undef,undef,undef,undef,undef],[]⟩:Act) _
 go_wp2_with fail
 exact⟨rfl,_,rfl,_,results_none rfl _ _ _,rfl,rfl,rfl⟩
theorem Ak3(B:Nat)(w:zW):
  CallsD Tryz.prog 122 #[zt B] .returning w fun en u' w'=>en= .returned (.tuple #[])∧u'= .returning∧Below w.heap.size w w':=by
 have hta:∀W:zW,(Instr.typeAssert .nilIface 20 163 true).run Tryz.prog W= .ok (.tuple #[.agg #[.int .i64 0],.bool false]) W:=fun W=>by
  have hz:(zeroValue 163).run Tryz.prog W= .ok (.agg #[.int .i64 0]) W:=by kernel_rfl
  simp[Instr.typeAssert,run_underlying Tryz.underlying163,hz]
 refine callsD_of_wpS Tryz.func122 rfl fun c₀ cs hu=> ?_
 apply wpS_seq
 apply wpS_region
 simp[wpOpsS,go_sem,recoverD,hu,Tryz.ntmps122,Exit.thenS];refine wpS_of_wp ?_
 change Code.wp _ _ _ (⟨#[zt B,.nilIface,undef,undef,.nilIface,undef,undef,undef,undef,undef,undef,undef,undef,undef,undef,undef],[]⟩:Act) _
 go_wp2_with fail
 have hb:Below w.heap.size w (w.alloc (.cells #[.int .i64 0] 163)):=(zb _ _).alloc (zn _) _;refine⟨rfl,.returning,?_,_,results_none rfl _ _ _,rfl,rfl,hb⟩
 cases c₀
 simp_all
def Nq(p:Ab)(s:Aa)(w:zW)(e:Ending)(w':zW):Prop:=e= .returned (.int .i64 (Am p s))∧Below w.heap.size w w'
def Aax(B:Nat):List Deferred:=[{ target:= .fn (.func 122) #[zt B],args:= #[] }]
theorem K7{p:Ab}{s:Aa}{w W:zW}{a:Act}{B:Nat}(hd:a.defers=Aax B)(ht:a.tmps[4]? =some (zt B))(hB:w.heap.size≤B){x n:Int}(hc:W.cell? ⟨B,0,none⟩=some (.int .i64 x))(hz:W.frozen? ⟨B,0,none⟩=false)(hb:Below w.heap.size w W)(hn:Am p s=n):
  bodyPostD Tryz.prog Tryz.f82 (Nq p s w) (.panic [I3 n]) a W:=by
 show Leaves Tryz.prog Tryz.f82 a.tmps (Nq p s w) a.defers (.panicking [I3 n]) W
 rw[hd];have hlt:B < W.heap.size:=World.block_lt_of_cell? W _ hc;refine leaves_cons (f:=122) (args:= #[zt B]) (by simp) (by simp[go_sem]) ?_;refine(Aah B n x W hc hz).mono ?_;rintro e u' w'' ⟨rfl,rfl,rfl⟩;have hc2:((W.setCell ⟨B,0,none⟩ (.int .i64 n)).alloc (.cells #[.int .i64 n] 163)).cell? ⟨B,0,none⟩=some (.int .i64 n):=by
  rw[World.cell?_alloc_lt _ _ _ (by simp[World.setCell];omega)];exact World.cell?_setCell_same _ _ _ hc
 show Leaves Tryz.prog Tryz.f82 a.tmps (Nq p s w) [] .returning _
 refine⟨.int .i64 n,?_,by rw[hn],(hb.setCell (p:=⟨B,0,none⟩) hB _).alloc (by have:=hb.size;simp[World.setCell];omega) _⟩;simp[results,Tryz.results82,ht,go_sem,hc2]
theorem Amx{p:Ab}{s:Aa}{w W:zW}{a:Act}{B:Nat}(hd:a.defers=Aax B)(ht:a.tmps[4]? =some (zt B)){n:Int}(hc:W.cell? ⟨B,0,none⟩=some (.int .i64 n))(hb:Below w.heap.size w W)(hn:Am p s=n):
  bodyPostD Tryz.prog Tryz.f82 (Nq p s w) .ret a W:=by
 show Leaves Tryz.prog Tryz.f82 a.tmps (Nq p s w) a.defers .returning W
 rw[hd];have hlt:B < W.heap.size:=World.block_lt_of_cell? W _ hc;refine leaves_cons (f:=122) (args:= #[zt B]) (by simp) (by simp[go_sem]) ?_;refine(Ak3 B W).mono ?_;rintro e u' w'' ⟨rfl,rfl,hb2⟩;have hc2:w''.cell? ⟨B,0,none⟩=some (.int .i64 n):=(hb2.cell (p:=⟨B,0,none⟩) hlt).trans hc
 show Leaves Tryz.prog Tryz.f82 a.tmps (Nq p s w) [] .returning _
 refine⟨.int .i64 n,?_,by rw[hn],hb.trans (hb2.mono hb.size)⟩;simp[results,Tryz.results82,ht,go_sem,hc2]
open Go.RowKit
def B5(p:Ab):Aa:=⟨List.replicate p.ag.length [],[],[],0,0,0,0,0⟩
def Bd:Aa:=⟨[],[],[],0,0,0,0,0⟩
def Hh(p:Ab):Aa:=if Bc p=0 then B5 p else Bd
def E4:zN:=⟨#[116,104,114,101,101]⟩
def B4:Aa:=⟨[[Bi 2 Gl,Bi 3 E4],[],[]],[⟨5,1,0,Bi 1 Jb⟩],[⟨-1,1⟩,⟨0,2⟩],4,6,4,1,0⟩
theorem f3:Bl (Bi 3 E4)=true:=Lp (by decide) (by decide) (by decide)
theorem Abq(p:Ab):Dh (B5 p)=[]:=by
 unfold Dh Dj Hd B5;simp only[List.map_nil,List.append_nil,List.flatMap_eq_nil_iff];intro r hr;rw[List.eq_of_mem_replicate hr];rfl
theorem Tr(p:Ab):Formed p (B5 p) where
 len:=by simp[B5]
 ah:=by rfl
 af:=by rfl
 aw:=by rfl
 ar:=by rfl
 dropped:=by rfl
 line:=by
  intro l hl;rw[List.eq_of_mem_replicate hl];rfl
 bg:=by simp[B5]
 out:=by simp[B5]
 order:=by simp[B5]
 nodup:=by rw[Abq];exact List.nodup_nil
 below:=by rw[Abq];simp
theorem Ua:Am Ac (B5 Ac)=0:=Mr Dy (by decide) (Tr _) (by decide) (by decide)
end Go.Proofs.YtpkneogjdfolaaaGreatDoor
namespace Go.Proofs.YtpkneogjdfolaaaGreatDoor
open Go.RowKit
theorem Ago:(Tryz.prog.info? 132).map (fun i=>(i.zero,i.size,i.bytes))=some (some (.slice none 0 0),1,24):=by kernel_rfl
theorem Aev(n:Nat)(hn:n≤4294967296)(w:zW):(Instr.makeSlice 36 (.int .i64 n) (.int .i64 n)).run Tryz.prog w= .ok (.slice (some ⟨w.heap.size,0,none⟩) n n) (w.alloc (.cells (List.replicate n (.slice none 0 0)).toArray 132)):=
 P9 (P:=Tryz.prog) Tryz.underlying36 Ago rfl n n rfl (by omega) hn w
def zeroCells:Array Value:=zO
def Jr(p:Ab):List Bm:=List.replicate p.ag.length ⟨none,0,[]⟩
theorem Sd(p:Ab):(Jr p).flatMap M4=List.replicate p.ag.length (.slice none 0 0):=by
 unfold Jr
 induction p.ag.length with
 |zero=>rfl
 |succ n ih=>rw[List.replicate_succ,List.flatMap_cons,ih,List.replicate_succ];rfl
theorem Ah2{p:Ab}{w:zW}{lo hi:Nat}{a:zZ}(h:Sl w lo hi a (List.replicate p.ag.length (.slice none 0 0))):Av w lo hi a none none (Jr p) (B5 p) where
 same:=by simp[Jr,B5]
 ready:=by rw[Sd];exact h
 row:=by
  intro r hr;rw[List.eq_of_mem_replicate hr];exact⟨Sl.nil _ _ _ _,zn _⟩
 outs:=Sl.nil _ _ _ _
 ae:=Sl.nil _ _ _ _
theorem Ul(w:zW)(lo hi:Nat):Av w lo hi none none none [] Bd where
 same:=rfl
 ready:=Sl.nil _ _ _ _
 row:=by intro r hr;cases hr
 outs:=Sl.nil _ _ _ _
 ae:=Sl.nil _ _ _ _
theorem Af{w:zW}{g:Nat}{t:TypeId}{v0 v1 v2 v3 v4 v5 v6 v7:Value}(h:Bk w g t #[v0,v1,v2,v3,v4,v5,v6,v7]):
  zM w g 0 v0∧zM w g 1 v1∧zM w g 2 v2∧zM w g 3 v3∧zM w g 4 v4∧zM w g 5 v5∧zM w g 6 v6∧zM w g 7 v7∧
   w.frozen? ⟨g,0,none⟩=false∧w.frozen? ⟨g,1,none⟩=false∧w.frozen? ⟨g,2,none⟩=false∧w.frozen? ⟨g,3,none⟩=false∧w.frozen? ⟨g,4,none⟩=false∧w.frozen? ⟨g,5,none⟩=false∧w.frozen? ⟨g,6,none⟩=false∧w.frozen? ⟨g,7,none⟩=false∧g < w.heap.size:=
 ⟨h.cell 0,h.cell 1,h.cell 2,h.cell 3,h.cell 4,h.cell 5,h.cell 6,h.cell 7,h.frozen 0,h.frozen 1,h.frozen 2,h.frozen 3,h.frozen 4,h.frozen 5,h.frozen 6,h.frozen 7,h.lt⟩
theorem Al{w W:zW}{B g:Nat}(h:Below B w W)(hg:B≤g)(v0 v1 v2 v3 v4 v5 v6 v7:Value):Below B w ((((((((W.setCell ⟨g,0,none⟩ v0).setCell ⟨g,1,none⟩ v1).setCell ⟨g,2,none⟩ v2).setCell ⟨g,3,none⟩ v3).setCell ⟨g,4,none⟩ v4).setCell ⟨g,5,none⟩ v5).setCell ⟨g,6,none⟩ v6).setCell ⟨g,7,none⟩ v7):=
 (((((((h.setCell hg _).setCell hg _).setCell hg _).setCell hg _).setCell hg _).setCell hg _).setCell hg _).setCell hg _
theorem Sn{W:zW}{g k:Nat}{t:TypeId}{cs:Array Value}(h:Bk W k t cs)(hg:k≠g)(v0 v1 v2 v3 v4 v5 v6 v7:Value):Bk ((((((((W.setCell ⟨g,0,none⟩ v0).setCell ⟨g,1,none⟩ v1).setCell ⟨g,2,none⟩ v2).setCell ⟨g,3,none⟩ v3).setCell ⟨g,4,none⟩ v4).setCell ⟨g,5,none⟩ v5).setCell ⟨g,6,none⟩ v6).setCell ⟨g,7,none⟩ v7) k t cs:=
 (((((((h.far hg _).far hg _).far hg _).far hg _).far hg _).far hg _).far hg _).far hg _
end Go.Proofs.YtpkneogjdfolaaaGreatDoor
namespace Go.Proofs.YtpkneogjdfolaaaGreatDoor
open Go.RowKit
def Tt:Array Value:= #[.int .i64 2,.string ⟨#[120,46,121]⟩,.string Gl,.bool false,.int .i64 0,.int .i64 3,.string ⟨#[120,46,121]⟩,.string E4,.bool false,.int .i64 0]
def Wj(g0:Nat):Array Value:= #[.slice (some ⟨g0,0,none⟩) 2 2,.slice none 0 0,.slice none 0 0]
def Ad7:Array Value:= #[.int .i64 5,.int .i64 1,.int .i64 0,.int .i64 1,.string ⟨#[120,46,121]⟩,.string Jb,.bool false,.int .i64 0]
def X7:Array Value:= #[.int .i64 (-1),.int .i64 1,.int .i64 0,.int .i64 2]
def Io(g0:Nat):List Bm:=[⟨some ⟨g0,0,none⟩,2,[Bi 2 Gl,Bi 3 E4]⟩,⟨none,0,[]⟩,⟨none,0,[]⟩]
structure M8 (w:zW) (lo g0 g1 g2 g3:Nat):Prop where
 items:Bk w g0 113 Tt
 rows:Bk w g1 132 (Wj g0)
 outs:Bk w g2 115 Ad7
 ae:Bk w g3 147 X7
 low:lo≤g0∧lo≤g1∧lo≤g2∧lo≤g3
 apart:g0≠g1∧g0≠g2∧g0≠g3∧g1≠g2∧g1≠g3∧g2≠g3
theorem M8.below{w w':zW}{lo g0 g1 g2 g3:Nat}(h:M8 w lo g0 g1 g2 g3)(hb:Below w.heap.size w w'):M8 w' lo g0 g1 g2 g3:=
 ⟨h.items.below hb h.items.lt,h.rows.below hb h.rows.lt,h.outs.below hb h.outs.lt,h.ae.below hb h.ae.lt,h.low,h.apart⟩
theorem Aki{w:zW}{g0 g1 g2 g3:Nat}{o t:Array Value}{s:Aa}(hi:Bk w g0 113 Tt)(hr:Bk w g1 132 (Wj g0))(ho:Bk w g2 115 o)(ht:Bk w g3 147 t)
  (h1:s.ready=B4.ready) (h2:s.outs.flatMap D6=o.toList) (h3:s.ae.flatMap Ez=t.toList):Av w 0 w.heap.size (some ⟨g1,0,none⟩) (some ⟨g2,0,none⟩) (some ⟨g3,0,none⟩) (Io g0) s where
 same:=by rw[h1];rfl
 ready:=Sl.of_bk hr (Nat.zero_le _) hr.lt rfl
 row:=by
  intro r h;simp only[Io,List.mem_cons,List.not_mem_nil,or_false] at h;rcases h with rfl|rfl|rfl
  ·exact⟨Sl.of_bk hi (Nat.zero_le _) hi.lt rfl,zn _⟩
  ·exact⟨Sl.nil _ _ _ _,zn _⟩
  ·exact⟨Sl.nil _ _ _ _,zn _⟩
 outs:=Sl.of_bk ho (Nat.zero_le _) ho.lt h2
 ae:=Sl.of_bk ht (Nat.zero_le _) ht.lt h3
theorem M8.state{w:zW}{lo g0 g1 g2 g3:Nat}(h:M8 w lo g0 g1 g2 g3):Av w 0 w.heap.size (some ⟨g1,0,none⟩) (some ⟨g2,0,none⟩) (some ⟨g3,0,none⟩) (Io g0) B4:=
 Aki h.items h.rows h.outs h.ae rfl rfl rfl
end Go.Proofs.YtpkneogjdfolaaaGreatDoor
