/- Lemmas. -/
import Derived.Test.YtpkneogjdfolaaaGreatDoorBunG
import Derived.Test.YtpkneogjdfolaaaGreatDoorBunH
set_option maxHeartbeats 20000000
set_option maxRecDepth 100000
set_option linter.unusedSimpArgs false
set_option linter.unusedVariables false
namespace Go.Proofs.YtpkneogjdfolaaaGreatDoor
def Cg(p:Ab)(s:Aa)(q:Int):Int:=if Am p s≠0 then Am p s else if q < 0∨(p.ag.length:Int)≤q then 5 else 0
def Jk(l:List Cf):Option Nat:=l.findIdx? fun t=>decide (t.queue < 0)
def Ce(p:Ab)(s:Aa)(q m:Int):Int:=
 if Cg p s q≠0 then Cg p s q else if m < 1∨4 < m then 3 else if Jk s.ae=none∧s.ae.length=4 then 2 else 0
def Gh(l:List Cf):Nat:=match Jk l with|some k=>k|none=>l.length
def Ge(p:Ab)(s:Aa)(q m:Int):Nat:=if Ce p s q m=0 then Gh s.ae else 0
def joinL(l:List Cf)(t:Cf):List Cf:=match Jk l with|some k=>l.set k t|none=>l++[t]
def Eu(p:Ab)(s:Aa)(q m:Int):Aa:=if Ce p s q m=0 then { s with ae:=joinL s.ae ⟨q,m⟩ } else Bd
def Iq(s:Aa)(q:Int):Nat→Int×Int
 |0=>(-1,4)
 |k+1=>match s.ae[k]? with
  |some t=>if t.queue=q∧(Ck s k:Int) < min t.cf (Iq s q k).2 then ((k:Int),(Ck s k:Int)) else Iq s q k
  |none=>Iq s q k
def Ak(s:Aa)(q:Int):List Ao:=(s.ready[q.toNat]?).getD []
def Iw(s:Aa)(q:Int):Int:=(Iq s q s.ae.length).1
def Cz(p:Ab)(s:Aa)(q:Int):Int:=
 if Cg p s q≠0 then Cg p s q else if (Ak s q).length=0 then 8 else if Iw s q < 0 then 9 else 0
def Md(p:Ab)(s:Aa)(q:Int):Int:=if Cz p s q=0 then Iw s q else 0
def G9(s:Aa)(q:Int):Ao:=((Ak s q)[0]?).getD ⟨0,⟨#[]⟩,⟨#[]⟩,false,0⟩
def Bj(p:Ab)(s:Aa)(q:Int):Int:=if Cz p s q≠0 then Cz p s q else if s.af=1048576 then 2 else 0
def Dw(s:Aa)(q k:Int):Aa:=
 { s with ready:=s.ready.set q.toNat ((Ak s q).drop 1),outs:=s.outs++[⟨s.af,k,q,G9 s q⟩],af:=s.af+1 }
def Bu(p:Ab)(s:Aa)(q:Int):Aa:=if Bj p s q=0 then Dw s q (Iw s q) else Bd
def Ch(p:Ab)(s:Aa)(q:Int):Int:=if Bj p s q=0 then s.af else 0
def Lm(s:Aa)(q:Int)(i:Nat):Prop:=∃t,s.ae[i]? =some t∧t.queue=q∧(Ck s i:Int) < t.cf
def Arj(s:Aa)(q:Int)(k:Nat)(r:Int×Int):Prop:=
 (r=(-1,4)∧∀i:Nat,i < k→¬ Lm s q i)∨
  ∃i:Nat,i < k∧r=((i:Int),(Ck s i:Int))∧Lm s q i∧(∀j:Nat,j < k→Lm s q j→Ck s i≤Ck s j)∧(∀j:Nat,j < i→Lm s q j→Ck s i < Ck s j)
theorem Ma{p:Ab}{s:Aa}(h:Bw p s){i:Nat}{t:Cf}(ht:s.ae[i]? =some t): -1≤t.queue∧t.queue < (p.ag.length:Int)∧1≤t.cf∧t.cf≤4:=by
 have:=h.bg t (List.mem_of_getElem? ht);unfold Iv at this;simp only[zc,zd] at this;exact⟨this.1.1.1,this.1.1.2,this.1.2,this.2⟩
theorem Mo{p:Ab}{s:Aa}(h:Bw p s)(q:Int):∀k:Nat,Arj s q k (Iq s q k)
 |0=> .inl ⟨rfl,fun i hi=>absurd hi (Nat.not_lt_zero i)⟩
 |k+1=>by
  have ih:=Mo h q k;unfold Iq
  cases ht:s.ae[k]? with
  |none=>
   simp only;have hn:¬ Lm s q k:=fun⟨t,h1,_⟩=>by rw[ht] at h1;cases h1
   rcases ih with⟨e,hno⟩|⟨i,hi,e,he,h1,h2⟩
   ·exact .inl ⟨e,fun j hj hj2=>by
     rcases Nat.lt_or_ge j k with h3|h3
     ·exact hno j h3 hj2
     ·exact hn (by rwa [show j=k by omega] at hj2)⟩
   ·exact .inr ⟨i,by omega,e,he,fun j hj hj2=>by
     rcases Nat.lt_or_ge j k with h3|h3
     ·exact h1 j h3 hj2
     ·exact absurd (by rwa [show j=k by omega] at hj2) hn,h2⟩
  |some t=>
   simp only;have h4:=Ma h ht;by_cases hc:t.queue=q∧(Ck s k:Int) < min t.cf (Iq s q k).2
   ·rw[zp hc]
    have hE:Lm s q k:=⟨t,ht,hc.1,by have:=hc.2;omega⟩;have hlt:(Ck s k:Int) < (Iq s q k).2:=by have:=hc.2;omega
    refine .inr ⟨k,by omega,rfl,hE,?_,?_⟩
    ·intro j hj hj2
     rcases Nat.lt_or_ge j k with h3|h3
     ·rcases ih with⟨e,hno⟩|⟨i,hi,e,he,h1,h2⟩
      ·exact absurd hj2 (hno j h3)
      ·have:=h1 j h3 hj2
       rw[e] at hlt;simp only at hlt;omega
     ·rw[show j=k by omega];exact zn _
    ·intro j hj hj2
     rcases ih with⟨e,hno⟩|⟨i,hi,e,he,h1,h2⟩
     ·exact absurd hj2 (hno j hj)
     ·have:=h1 j hj hj2
      rw[e] at hlt;simp only at hlt;omega
   ·rw[zq hc]
    rcases ih with⟨e,hno⟩|⟨i,hi,e,he,h1,h2⟩
    ·refine .inl ⟨e,fun j hj hj2=> ?_⟩
     rcases Nat.lt_or_ge j k with h3|h3
     ·exact hno j h3 hj2
     ·rw[show j=k by omega] at hj2
      obtain⟨t',h5,h6,h7⟩:=hj2;rw[ht] at h5
      cases h5
      exact hc ⟨h6,by rw[e];simp only;omega⟩
    ·refine .inr ⟨i,by omega,e,he,fun j hj hj2=> ?_,h2⟩
     rcases Nat.lt_or_ge j k with h3|h3
     ·exact h1 j h3 hj2
     ·rw[show j=k by omega] at hj2⊢
      obtain⟨t',h5,h6,h7⟩:=hj2;rw[ht] at h5
      cases h5
      rcases Nat.lt_or_ge (Ck s k) (Ck s i) with h8|h8
      ·exact absurd ⟨h6,by rw[e];simp only;omega⟩ hc
      ·exact h8
theorem Arj.found{s:Aa}{q:Int}{n i:Nat}{r:Int×Int}(h:Arj s q n r)(hi:i < n)(he:Lm s q i)(h1:∀j:Nat,j < n→Lm s q j→Ck s i≤Ck s j)(h2:∀j:Nat,j < i→Lm s q j→Ck s i < Ck s j):r=((i:Int),(Ck s i:Int)):=by
 rcases h with⟨_,hno⟩|⟨k,hk,e,hek,h3,h4⟩
 ·exact absurd he (hno i hi)
 ·have a:=h1 k hk hek
  have b:=h3 i hi he;rcases Nat.lt_trichotomy i k with c|c|c
  ·have:=h4 i c he;omega
  ·rw[e,c]
  ·have:=h2 k c hek;omega
theorem Arj.none{s:Aa}{q:Int}{n:Nat}{r:Int×Int}(h:Arj s q n r)(hno:∀i:Nat,i < n→¬ Lm s q i):r=(-1,4):=by
 rcases h with⟨e,_⟩|⟨k,hk,e,hek,_⟩
 ·exact e
 ·exact absurd hek (hno k hk)
theorem Lm.lt{s:Aa}{q:Int}{i:Nat}(h:Lm s q i):i < s.ae.length:=by
 obtain⟨t,ht,_⟩:=h;exact(List.getElem?_eq_some_iff.1 ht).1
theorem Lm.held{p:Ab}{s:Aa}(hr:Bw p s){q:Int}{i:Nat}(h:Lm s q i):Ck s i < 4:=by
 obtain⟨t,ht,_,h2⟩:=h;have:=Ma hr ht;omega
theorem X6{p:Ab}{s:Aa}(h:Bw p s){q:Int}(hb:¬ Iw s q < 0):∃i:Nat,Iw s q=(i:Int)∧Lm s q i∧∀j:Nat,Lm s q j→Ck s i≤Ck s j:=by
 unfold Iw at hb⊢;rcases Mo h q s.ae.length with⟨e,_⟩|⟨i,hi,e,he,h1,_⟩
 ·rw[e] at hb;exact absurd (by decide) hb
 ·exact⟨i,by rw[e],he,fun j hj=>h1 j hj.lt hj⟩
theorem Fl{p:Ab}{s:Aa}{q:Int} :Cg p s q=0↔Bw p s∧0≤q∧q < (p.ag.length:Int):=by
 unfold Cg;rw[←Cv]
 split
 ·rename_i h
  exact⟨fun e=>absurd e h,fun e=>absurd e.1 h⟩
 ·rename_i h
  split
  ·exact⟨fun e=>(by cases e),fun e=>(by omega)⟩
  ·exact⟨fun _=>⟨by omega,by omega,by omega⟩,fun _=>rfl⟩
theorem Kg{p:Ab}{s:Aa}{q:Int} :Cz p s q=0↔Cg p s q=0∧(Ak s q).length≠0∧¬ Iw s q < 0:=by
 unfold Cz
 split
 ·rename_i h
  exact⟨fun e=>absurd e h,fun e=>absurd e.1 h⟩
 ·rename_i h
  split
  ·rename_i h1
   exact⟨fun e=>(by cases e),fun e=>absurd h1 e.2.1⟩
  ·rename_i h1
   split
   ·rename_i h2
    exact⟨fun e=>(by cases e),fun e=>absurd h2 e.2.2⟩
   ·rename_i h2
    exact⟨fun _=>⟨by omega,h1,h2⟩,fun _=>rfl⟩
theorem Ir{p:Ab}{s:Aa}{q:Int} :Bj p s q=0↔Cz p s q=0∧s.af≠1048576:=by
 unfold Bj
 split
 ·rename_i h
  exact⟨fun e=>absurd e h,fun e=>absurd e.1 h⟩
 ·rename_i h
  split
  ·rename_i h1
   exact⟨fun e=>(by cases e),fun e=>absurd h1 e.2⟩
  ·rename_i h1
   exact⟨fun _=>⟨by omega,h1⟩,fun _=>rfl⟩
theorem Ls{p:Ab}{s:Aa}{q m:Int} :Ce p s q m=0↔Cg p s q=0∧(1≤m∧m≤4)∧¬ (Jk s.ae=none∧s.ae.length=4):=by
 unfold Ce
 split
 ·rename_i h
  exact⟨fun e=>absurd e h,fun e=>absurd e.1 h⟩
 ·rename_i h
  split
  ·exact⟨fun e=>(by cases e),fun e=>by omega⟩
  ·rename_i h1
   split
   ·rename_i h2
    exact⟨fun e=>(by cases e),fun e=>absurd h2 e.2.2⟩
   ·rename_i h2
    exact⟨fun _=>⟨by omega,by omega,h2⟩,fun _=>rfl⟩
theorem Pn{p:Ab}{s:Aa}(h:Formed p s){x:D8}(hx:x∈s.outs):∃t,s.ae[x.bg.toNat]? =some t∧0≤t.queue∧t.queue=x.queue∧0≤x.tag∧x.tag < s.af∧0≤x.bg∧x.bg < (s.ae.length:Int)∧Bl x.item=true:=by
 have:=h.out x hx;unfold Mt at this;simp only[zc,zd] at this;obtain⟨⟨⟨⟨⟨h1,h2⟩,h3⟩,h4⟩,h5⟩,h6⟩:=this
 cases ht:s.ae[x.bg.toNat]? with
 |none=>rw[ht] at h5;cases h5
 |some t=>
  rw[ht] at h5;simp only[zc,zd] at h5;exact⟨t,rfl,h5.1,h5.2,h1,h2,h3,h4,h6⟩
theorem Aj4{s:Aa}{x:D8}{t:Cf}(ht:s.ae[x.bg.toNat]? =some t)(h0:0≤t.queue)(hq:t.queue=x.queue)(h1:0≤x.tag)(h2:x.tag < s.af)(h3:0≤x.bg)(h6:Bl x.item=true):Mt s x=true:=by
 have h4:=(List.getElem?_eq_some_iff.1 ht).1;unfold Mt;rw[ht];simp only[zc,zd];exact⟨⟨⟨⟨⟨h1,h2⟩,h3⟩,by omega⟩,h0,hq⟩,h6⟩
theorem T3{p:Ab}{s:Aa}(h:Formed p s){k:Nat}(hk:∀t,s.ae[k]? =some t→t.queue < 0):Ck s k=0:=by
 unfold Ck;rw[List.countP_eq_zero];intro x hx;simp only[zd];intro e;obtain⟨t,ht,h0,_⟩:=Pn h hx;rw[e] at ht;have:=hk t (by simpa using ht);omega
theorem Qp{l:List Cf}{k:Nat}(h:Jk l=some k):∃hk:k < l.length,l[k].queue < 0∧∀j (hj:j < k),¬ l[j].queue < 0:=by
 unfold Jk at h;rw[List.findIdx?_eq_some_iff_getElem] at h;obtain⟨h1,h2,h3⟩:=h;exact⟨h1,by simpa using h2,fun j hj=>by simpa using h3 j hj⟩
theorem Alh{l:List Cf}(h:Jk l=none):∀t∈l,¬ t.queue < 0:=by
 unfold Jk at h;rw[List.findIdx?_eq_none_iff] at h;intro t ht;simpa using h t ht
theorem Ks{l:List Cf}(t:Cf)(k:Nat):(joinL l t)[k]? =if k=Gh l then some t else l[k]? :=by
 unfold joinL Gh
 cases hg:Jk l with
 |none=>
  simp only;rw[List.getElem?_append]
  split
  ·rw[zq (by omega)]
  ·split
   ·rename_i h1 h2;rw[h2];simp
   ·rename_i h1 h2
    rw[List.getElem?_eq_none (by simp;omega),List.getElem?_eq_none (by omega)]
 |some i=>
  simp only;obtain⟨hi,_⟩:=Qp hg;rw[List.getElem?_set]
  split
  ·rename_i h1;subst h1;rw[zp rfl]
  ·rename_i h1;rw[zq (fun e=>h1 e.symm)]
theorem Lc{l:List Cf}{t:Cf}(h:l[Gh l]? =some t):t.queue < 0:=by
 unfold Gh at h
 cases hg:Jk l with
 |none=>rw[hg] at h;simp only at h;rw[List.getElem?_eq_none (zn _)] at h;cases h
 |some i=>
  rw[hg] at h;simp only at h;obtain⟨hi,h1,_⟩:=Qp hg;rw[zG hi] at h
  cases h
  exact h1
theorem Yg{l:List Cf}(t:Cf):(joinL l t).length=if Jk l=none then l.length+1 else l.length:=by
 unfold joinL
 cases hg:Jk l with
 |none=>simp
 |some i=>simp
theorem Aew{l:List Cf}{t x:Cf}(h:x∈joinL l t):x=t∨x∈l:=by
 obtain⟨k,hk⟩:=List.getElem?_of_mem h;rw[Ks] at hk
 split at hk
 ·exact .inl (by simpa using hk.symm)
 ·exact .inr (List.mem_of_getElem? hk)
theorem M2{p:Ab}{s:Aa}{q m:Int}(h:Ce p s q m=0):Bw p (Eu p s q m):=by
 have hS:Eu p s q m= { s with ae:=joinL s.ae ⟨q,m⟩ } :=by unfold Eu;rw[zp h]
 obtain⟨h0,hm,hf⟩:=Ls.1 h;obtain⟨hR,hq0,hq1⟩:=Fl.1 h0;rw[hS];have hlen:=Yg (l:=s.ae) ⟨q,m⟩;have hmany:=hR.many;exact {
  bz:=hR.bz
  many:=by
   show(joinL s.ae ⟨q,m⟩).length≤4
   rw[hlen]
   split
   ·rename_i hg
    have:s.ae.length≠4:=fun e=>hf ⟨hg,e⟩;omega
   ·omega
  sum:=hR.sum
  same:=hR.same
  bm:=hR.bm
  held:=fun k t ht=>by
   have ht':(joinL s.ae ⟨q,m⟩)[k]? =some t:=ht
   show(Ck s k:Int)≤t.cf
   rw[Ks] at ht'
   split at ht'
   ·rename_i hk
    have e:(⟨q,m⟩:Cf)=t:=by simpa using ht'
    have:Ck s k=0:=T3 hR.toFormed fun x hx=>Lc (hk▸hx);rw[this,←e]
    show((0:Nat):Int)≤m
    omega
   ·exact hR.held k t ht'
  len:=hR.len
  ah:=hR.ah
  af:=hR.af
  aw:=hR.aw
  ar:=hR.ar
  dropped:=hR.dropped
  line:=hR.line
  bg:=fun t ht=>by
   rcases Aew ht with rfl|h1
   ·unfold Iv
    simp only[zc,zd];exact⟨⟨⟨by omega,hq1⟩,hm.1⟩,hm.2⟩
   ·exact hR.bg t h1
  out:=fun x hx=>by
   obtain⟨t,ht,h1,h2,h3,h4,h5,h6,h7⟩:=Pn hR.toFormed hx;refine Aj4 (t:=t) ?_ h1 h2 h3 h4 h5 h7
   show(joinL s.ae ⟨q,m⟩)[x.bg.toNat]? =some t
   rw[Ks,zq]
   ·exact ht
   ·intro e
    rw[e] at ht;have:=Lc ht;omega
  order:=hR.order
  nodup:=hR.nodup
  below:=hR.below }
theorem Auo{l:List (List Ao)}{n:Nat}{x:Ao}{r:List Ao}(h:l[n]? =some (x::r)):List.Perm (Dj l) (x.seq::Dj (l.set n r)):=by
 induction l generalizing n with
 |nil=>cases h
 |cons a l ih=>
  cases n with
  |zero=>
   simp only[zJ,Option.some.injEq] at h;subst h;simp[Dj]
  |succ n=>
   simp only[zK] at h;have:=ih h;simp only[zC,Dj,List.flatMap_cons] at this⊢;exact(List.Perm.append_left _ this).trans List.perm_middle
theorem Ap1{l:List (List Ao)}{n:Nat}{x:Ao}{r:List Ao}(h:l[n]? =some (x::r)):(l.map List.length).sum=((l.set n r).map List.length).sum+1:=by
 induction l generalizing n with
 |nil=>cases h
 |cons a l ih=>
  cases n with
  |zero=>
   simp only[zJ,Option.some.injEq] at h;subst h;simp only[zB,List.map_cons,List.sum_cons,List.length_cons];omega
  |succ n=>
   simp only[zK] at h;have:=ih h;simp only[zC,List.map_cons,List.sum_cons];omega
theorem Agl(s:Aa)(q:Int)(i k:Nat):Ck (Dw s q i) k=Ck s k+if k=i then 1 else 0:=by
 unfold Ck Dw;simp only[List.countP_append,List.countP_cons,List.countP_nil];by_cases h:k=i
 ·subst h;simp
 ·have h':¬ (i:Int)=(k:Int):=by omega
  simp[h,h']
theorem Mw{p:Ab}{s:Aa}{q:Int}(h:Cz p s q=0):∃r,Ak s q=G9 s q::r∧s.ready[q.toNat]? =some (G9 s q::r):=by
 obtain⟨h0,h1,_⟩:=Kg.1 h;obtain⟨hR,hq0,hq1⟩:=Fl.1 h0;have hl:q.toNat < s.ready.length:=by rw[hR.len];omega
 have e:s.ready[q.toNat]? =some (Ak s q):=by
  unfold Ak;rw[zG hl];rfl
 cases hc:Ak s q with
 |nil=>rw[hc] at h1;exact absurd rfl h1
 |cons x r=>
  have eh:G9 s q=x:=by unfold G9;rw[hc];rfl
  rw[eh];exact⟨r,rfl,by rw[e,hc]⟩
theorem Aio{p:Ab}{s:Aa}{q:Int}(h:Cz p s q=0)(ht:s.af≠1048576){i:Nat}(hi:Lm s q i):Bw p (Dw s q i):=by
 obtain⟨h0,h1,hb⟩:=Kg.1 h;obtain⟨hR,hq0,hq1⟩:=Fl.1 h0;obtain⟨r,hl,hr⟩:=Mw h;have hd:(Ak s q).drop 1=r:=by rw[hl];rfl
 have hline:=hR.line _ (List.mem_of_getElem? hr);rw[E7] at hline;have hnt:=hR.af;unfold countB at hnt;simp only[zc,zd] at hnt;have hperm:List.Perm (Dh s) (Dh (Dw s q i)):=by
  unfold Dh Dw;simp only[hd];rw[show Hd (s.outs++[(⟨s.af,(i:Int),q,G9 s q⟩:D8)])=Hd s.outs++[(G9 s q).seq] by simp[Hd]];refine(List.Perm.append_right _ (Auo hr)).trans ?_;rw[List.cons_append,←List.append_assoc];exact(List.perm_append_comm (l₁:=[(G9 s q).seq]))
 have hset:∀l,l∈(Dw s q i).ready→l∈s.ready∨l=r:=fun l hl'=>by
  unfold Dw at hl';simp only[hd] at hl';rcases List.mem_or_eq_of_mem_set hl' with h1|h1
  ·exact .inl h1
  ·exact .inr h1
 obtain⟨t,hti,htq,hth⟩:=hi;exact {
  bz:=hR.bz
  many:=hR.many
  sum:=by
   have hs:=hR.sum;have hy:E8 s=E8 (Dw s q i)+1:=by
    unfold E8 Dw;simp only[hd];exact Ap1 hr
   show s.aw=((E8 (Dw s q i):Nat):Int)+(((s.outs++[(⟨s.af,(i:Int),q,G9 s q⟩:D8)]).length:Nat):Int)+s.ar+s.dropped
   rw[ze];simp only[List.length_cons,List.length_nil];omega
  same:=hR.same
  bm:=fun k l qu hl' hqu=>by
   have hl'':(s.ready.set q.toNat r)[k]? =some l:=by
    have:=hl';unfold Dw at this;simp only[hd] at this;exact this
   rw[List.getElem?_set] at hl''
   split at hl''
   ·rename_i e
    subst e
    split at hl''
    ·simp only[Option.some.injEq] at hl''
     subst hl'';have:=hR.bm _ _ _ hr hqu;rw[List.length_cons] at this;omega
    ·cases hl''
   ·exact hR.bm k l qu hl'' hqu
  held:=fun k t' ht'=>by
   have ht'':s.ae[k]? =some t':=ht';rw[Agl]
   split
   ·rename_i e
    subst e;rw[hti] at ht''
    cases ht''
    omega
   ·have:=hR.held k t' ht''
    omega
  len:=by
   show(s.ready.set q.toNat ((Ak s q).drop 1)).length=p.ag.length
   rw[List.length_set];exact hR.len
  ah:=hR.ah
  af:=by
   show countB (s.af+1)=true
   unfold countB;simp only[zc,zd];omega
  aw:=hR.aw
  ar:=hR.ar
  dropped:=hR.dropped
  line:=fun l hl'=>by
   rcases hset l hl' with h2|rfl
   ·exact hR.line l h2
   ·rw[E7]
    exact⟨fun x hx=>hline.1 x (List.mem_cons_of_mem _ hx),(List.pairwise_cons.1 hline.2).2⟩
  bg:=hR.bg
  out:=fun x hx=>by
   have hx':x∈s.outs++[(⟨s.af,(i:Int),q,G9 s q⟩:D8)]:=hx;rcases List.mem_append.1 hx' with h2|h2
   ·obtain⟨t',k1,k2,k3,k4,k5,k6,k7,k8⟩:=Pn hR.toFormed h2
    exact Aj4 (s:=Dw s q i) (t:=t') k1 k2 k3 k4 (by show x.tag < s.af+1;omega) k6 k8
   ·obtain rfl:=List.mem_singleton.1 h2
    exact Aj4 (s:=Dw s q i) (t:=t) (by show s.ae[((i:Int)).toNat]? =some t;simpa using hti) (by show 0≤t.queue;omega) htq hnt.1 (by show s.af < s.af+1;omega) (by show(0:Int)≤(i:Int);omega) (hline.1 _ List.mem_cons_self)
  order:=by
   show(s.outs++[(⟨s.af,(i:Int),q,G9 s q⟩:D8)]).Pairwise fun x y=>x.tag < y.tag
   rw[List.pairwise_append];refine⟨hR.order,List.pairwise_singleton _ _,fun x hx y hy=> ?_⟩;obtain rfl:=List.mem_singleton.1 hy;obtain⟨t',k1,k2,k3,k4,k5,_⟩:=Pn hR.toFormed hx;exact k5
  nodup:=hperm.nodup_iff.1 hR.nodup
  below:=fun n hn=>hR.below n (hperm.mem_iff.2 hn) }
theorem G5{p:Ab}{s:Aa}{q:Int}(h:Bj p s q=0):∃i:Nat,Iw s q=(i:Int)∧Lm s q i∧(∀j:Nat,Lm s q j→Ck s i≤Ck s j)∧Bu p s q=Dw s q i∧Bw p (Dw s q i):=by
 obtain⟨h0,ht⟩:=Ir.1 h;obtain⟨h1,_,hb⟩:=Kg.1 h0;obtain⟨hR,_⟩:=Fl.1 h1;obtain⟨i,e,he,hm⟩:=X6 hR hb;exact⟨i,e,he,hm,by unfold Bu;rw[zp h,e],Aio h0 ht he⟩
open Go.RowKit
theorem Aba(p:Ab)(s:Aa)(q:Int)(p1 p2 p3 a1 a2 a3:zZ)(q1 q2 q3 c1 c2 c3:Nat)(rows:List Bm)(w:zW)(hE:Env w)(hp:Au w 0 w.heap.size p1 p2 p3 p)(hps:Ai p)(hs:Av w 0 w.heap.size a1 a2 a3 rows s)(hss:Ap s)(hsi:A9 s):
  Calls Tryz.prog 134 #[Ay p p1 p2 p3 q1 q2 q3,Ad s a1 a2 a3 c1 c2 c3,.int .i64 q] w fun e w'=>e= .returned (.int .i64 (Cg p s q))∧Below w.heap.size w w':=by
 have hbx:=Cj q1 q2 q3 c1 c2 c3 hE hp hs 26 40;unfold Ag at hbx;unfold Ad Ay Ag;have hql:=hps.ag;have HBX:=zh hbx;have HPS:=zh hps;have HSS:=zh hss;have HSI:=zh hsi;clear hbx hE hp hs hps hss hsi;go_enter Tryz.func134,Tryz.ntmps134
 obtain⟨⟨m0,m1,m2⟩,⟨n0,n1,n2,n3,n4,n5,n6,n7⟩,_,_,_,_⟩:=HBX.out _ (zb _ _);go_wp2_with fail
 clear m0 m1 m2 n0 n1 n2 n3 n4 n5 n6 n7;generalize ((w.alloc (.cells (zP p p1 p2 p3 q1 q2 q3) 26)).alloc (.cells (zV s a1 a2 a3 c1 c2 c3) 40))=W0 at *;refine(Fx p s p1 p2 p3 a1 a2 a3 q1 q2 q3 c1 c2 c3 rows W0 (HBX.out _ (zb _ _)).env (HBX.out _ (zb _ _)).bu HPS.out (HBX.out _ (zb _ _)).bc HSS.out HSI.out).mono ?_;rintro e W1 ⟨rfl,hb1⟩;have HB1:=zh hb1;obtain⟨⟨m0,m1,m2⟩,_,_,_,_,_⟩:=HBX.out _ hb1;clear hb1;by_cases hc:Am p s=0
 ·have b1:(Am p s != 0)=false:=by simp[hc]
  by_cases hn0:q < 0
  ·have HR:Hid (Cg p s q=5):=by refine(?_:Cg p s q=5);unfold Cg;rw[zq (by simp[hc]),zp (.inl hn0)]
   clear hc;go_wp2_with fail
   go_ret
   exact⟨by rw[HR.out];rfl,(HBX.out _ HB1.out).below⟩
  ·by_cases hn1:(p.ag.length:Int)≤q
   ·have HR:Hid (Cg p s q=5):=by refine(?_:Cg p s q=5);unfold Cg;rw[zq (by simp[hc]),zp (.inr hn1)]
    clear hc;go_wp2_with fail
    go_ret
    exact⟨by rw[HR.out];rfl,(HBX.out _ HB1.out).below⟩
   ·have HR:Hid (Cg p s q=0):=by refine(?_:Cg p s q=0);unfold Cg;rw[zq (by simp[hc]),zq (by omega)]
    clear hc;go_wp2_with fail
    go_ret
    exact⟨by rw[HR.out];rfl,(HBX.out _ HB1.out).below⟩
 ·have b1:(Am p s != 0)=true:=by simp[hc]
  have HR:Hid (Cg p s q=Am p s):=by refine(?_:Cg p s q=Am p s);unfold Cg;rw[zp hc]
  clear hc;go_wp2_with fail
  go_ret
  exact⟨by rw[HR.out];rfl,(HBX.out _ HB1.out).below⟩
theorem Pq(p:Ab)(s:Aa)(q:Int)(p1 p2 p3 a1 a2 a3:zZ)(q1 q2 q3 c1 c2 c3:Nat)(rows:List Bm)(w:zW)(hE:Env w)(hp:Au w 0 w.heap.size p1 p2 p3 p)(hps:Ai p)(hs:Av w 0 w.heap.size a1 a2 a3 rows s)(hss:Ap s)(hsi:A9 s):
  Calls Tryz.prog 105 #[Ay p p1 p2 p3 q1 q2 q3,Ad s a1 a2 a3 c1 c2 c3,.int .i64 q] w fun e w'=>e= .returned (.int .i64 (Cg p s q))∧Below w.heap.size w w':=by
 have hbx:=Cj q1 q2 q3 c1 c2 c3 hE hp hs 26 40;unfold Ag at hbx;unfold Ad Ay Ag;have hql:=hps.ag;have HBX:=zh hbx;have HPS:=zh hps;have HSS:=zh hss;have HSI:=zh hsi;clear hbx hE hp hs hps hss hsi;go_enter Tryz.func105,Tryz.ntmps105
 obtain⟨⟨m0,m1,m2⟩,⟨n0,n1,n2,n3,n4,n5,n6,n7⟩,_,_,_,_⟩:=HBX.out _ (zb _ _);go_wp2_with fail
 clear m0 m1 m2 n0 n1 n2 n3 n4 n5 n6 n7;generalize ((w.alloc (.cells (zP p p1 p2 p3 q1 q2 q3) 26)).alloc (.cells (zV s a1 a2 a3 c1 c2 c3) 40))=W0 at *;refine(F5 p s p1 p2 p3 a1 a2 a3 q1 q2 q3 c1 c2 c3 rows W0 (HBX.out _ (zb _ _)).env (HBX.out _ (zb _ _)).bu HPS.out (HBX.out _ (zb _ _)).bc HSS.out HSI.out).mono ?_;rintro e W1 ⟨rfl,hb1⟩;have HB1:=zh hb1;obtain⟨⟨m0,m1,m2⟩,_,_,_,_,_⟩:=HBX.out _ hb1;clear hb1;by_cases hc:Am p s=0
 ·have b1:(Am p s != 0)=false:=by simp[hc]
  have hw:wrap64 ((p.ag.length:Int) - 1)=(p.ag.length:Int) - 1:=w64 (by omega) (by omega);go_wp2_with fail
  refine(Cc q 0 ((p.ag.length:Int) - 1) W1).mono ?_;rintro e W2 ⟨rfl,rfl⟩;by_cases hn:q < 0∨(p.ag.length:Int)≤q
  ·have HR:Hid (Cg p s q=5):=by refine(?_:Cg p s q=5);unfold Cg;rw[zq (by simp[hc]),zp hn]
   have hd:(decide (0≤q) && decide (q≤(p.ag.length:Int) - 1))=false:=by simp;omega
   rw[hd];clear hc hn hd;go_wp2_with fail
   go_ret
   exact⟨by rw[HR.out];rfl,(HBX.out _ HB1.out).below⟩
  ·have HR:Hid (Cg p s q=0):=by refine(?_:Cg p s q=0);unfold Cg;rw[zq (by simp[hc]),zq hn]
   have hd:(decide (0≤q) && decide (q≤(p.ag.length:Int) - 1))=true:=by simp;omega
   rw[hd];clear hc hn hd;go_wp2_with fail
   go_ret
   exact⟨by rw[HR.out];rfl,(HBX.out _ HB1.out).below⟩
 ·have b1:(Am p s != 0)=true:=by simp[hc]
  have HR:Hid (Cg p s q=Am p s):=by refine(?_:Cg p s q=Am p s);unfold Cg;rw[zp hc]
  clear hc;go_wp2_with fail
  go_ret
  exact⟨by rw[HR.out];rfl,(HBX.out _ HB1.out).below⟩
theorem Ajb{p:Ab}{s:Aa}{q:Int}(h:Cg p s q≠0):Cz p s q=Cg p s q∧Md p s q=0:=by
 have e:Cz p s q=Cg p s q:=by unfold Cz;rw[zp h]
 refine⟨e,?_⟩;unfold Md;rw[e,zq h]
theorem Abd{p:Ab}{s:Aa}{q:Int}(h:Cg p s q=0)(h1:(Ak s q).length=0):Cz p s q=8∧Md p s q=0:=by
 have e:Cz p s q=8:=by unfold Cz;rw[zq (by simp[h]),zp h1]
 refine⟨e,?_⟩;unfold Md;rw[e];rfl
theorem Aex{p:Ab}{s:Aa}{q:Int}(h:Cg p s q=0)(h1:(Ak s q).length≠0)(hb:Iw s q < 0):Cz p s q=9∧Md p s q=0:=by
 have e:Cz p s q=9:=by unfold Cz;rw[zq (by simp[h]),zq h1,zp hb]
 refine⟨e,?_⟩;unfold Md;rw[e];rfl
theorem Yq{p:Ab}{s:Aa}{q:Int}(h:Cg p s q=0)(h1:(Ak s q).length≠0)(hb:¬ Iw s q < 0):Cz p s q=0∧Md p s q=Iw s q:=by
 have e:Cz p s q=0:=by unfold Cz;rw[zq (by simp[h]),zq h1,zq hb]
 refine⟨e,?_⟩;unfold Md;rw[zp e]
theorem Ao3{s:Aa}{q:Int}{j:Nat}(h:j < s.ae.length):Iq s q (j+1)=if s.ae[j].queue=q∧(Ck s j:Int) < min s.ae[j].cf (Iq s q j).2 then ((j:Int),(Ck s j:Int)) else Iq s q j:=by
 rw[Iq,zG h]
theorem Ak1(s:Aa)(q:Int)(j:Nat)(hl:j≤1048576): -1≤(Iq s q j).1∧(Iq s q j).1≤1048576:=by
 induction j with
 |zero=>exact⟨by show(-1:Int)≤ -1;omega,by show(-1:Int)≤1048576;omega⟩
 |succ j ih=>
  have:=ih (by omega);unfold Iq
  split
  ·split
   ·exact⟨by show -1≤(j:Int);omega,by show(j:Int)≤1048576;omega⟩
   ·exact this
  ·exact this
theorem Anm{s:Aa}{k:Nat}(h:k < s.ready.length):Ak s (k:Int)=s.ready[k]:=by
 unfold Ak;rw[Int.toNat_natCast,zG h];rfl
def A0i(s:Aa)(q:Int)(W0:zW)(b l i:Value)(wr:zW):Prop:=
 ∃j:Nat,j≤s.ae.length∧i= .int .i64 j∧b= .int .i64 (Iq s q j).1∧l= .int .i64 (Iq s q j).2∧Below W0.heap.size W0 wr
theorem Ahr(p:Ab)(s:Aa)(q:Int)(p1 p2 p3 a1 a2 a3:zZ)(q1 q2 q3 c1 c2 c3:Nat)(rows:List Bm)(w:zW)(hE:Env w)(hp:Au w 0 w.heap.size p1 p2 p3 p)(hps:Ai p)(hs:Av w 0 w.heap.size a1 a2 a3 rows s)(hss:Ap s)(hsi:A9 s):
  Calls Tryz.prog 175 #[Ay p p1 p2 p3 q1 q2 q3,Ad s a1 a2 a3 c1 c2 c3,.int .i64 q] w fun e w'=>e= .returned (.tuple #[.int .i64 (Md p s q),.int .i64 (Cz p s q)])∧Below w.heap.size w w':=by
 have hbx:=Cj q1 q2 q3 c1 c2 c3 hE hp hs 26 40;unfold Ag at hbx;unfold Ad Ay Ag;have hql:=hps.ag;have hrl:=hss.ready;have hol:=hss.outs;have htl:=hss.ae;have HBX:=zh hbx;have HPS:=zh hps;have HSS:=zh hss;have HSI:=zh hsi;clear hbx hE hp hs hps hss hsi;go_enter Tryz.func175,Tryz.ntmps175
 obtain⟨⟨m0,m1,m2⟩,⟨n0,n1,n2,n3,n4,n5,n6,n7⟩,_,_,_,_⟩:=HBX.out _ (zb _ _);go_wp2_with fail
 clear m0 m1 m2 n0 n1 n2 n3 n4 n5 n6 n7;generalize ((w.alloc (.cells (zP p p1 p2 p3 q1 q2 q3) 26)).alloc (.cells (zV s a1 a2 a3 c1 c2 c3) 40))=W0 at *;refine(Aba p s q p1 p2 p3 a1 a2 a3 q1 q2 q3 c1 c2 c3 rows W0 (HBX.out _ (zb _ _)).env (HBX.out _ (zb _ _)).bu HPS.out (HBX.out _ (zb _ _)).bc HSS.out HSI.out).mono ?_;rintro e W1 ⟨rfl,hb1⟩;have HB1:=zh hb1;clear hb1;by_cases hc:Cg p s q=0
 ·have b1:(Cg p s q != 0)=false:=by simp[hc]
  obtain⟨hR,hq0,hq1⟩:=Fl.1 hc;obtain⟨k,rfl⟩:∃k:Nat,q=(k:Int):=⟨q.toNat,by omega⟩;have hkr:k < s.ready.length:=by rw[hR.len];omega
  have hsat:=(HBX.out _ HB1.out).bc;have hrr:rows.length=s.ready.length:=by rw[←hsat.same,List.length_map]
  obtain⟨b,o,ha,_,hbb,hcl⟩:=Bf El (by decide) hsat.ready (show k < rows.length by omega);have hit:(rows[k]'(by omega)).items=Ak s (k:Int):=by rw[Anm hkr];simp[←hsat.same]
  have e0:W1.cell? ⟨b,o+k,none⟩=some (.slice (rows[k]'(by omega)).at_ (Ak s (k:Int)).length (rows[k]'(by omega)).cap):=by have:=hcl 0 _ rfl;rw[←hit];simpa using this
  obtain⟨_,⟨n0,n1,n2,n3,n4,n5,n6,n7⟩,_,_,_,_⟩:=HBX.out _ HB1.out;have HC:=zh hc;have HR:=zh hR;clear hc hR hcl hsat hit;subst ha;by_cases hl:(Ak s (k:Int)).length=0
  ·have HE:=zh (Abd HC.out hl)
   rw[hl] at e0;clear hl;go_wp2_with fail
   go_ret2
   exact⟨by rw[HE.out.1,HE.out.2];rfl,(HBX.out _ HB1.out).below⟩
  ·have hlb:(((Ak s (k:Int)).length:Int) == 0)=false:=beq_eq_false_iff_ne.2 (by omega)
   have HL:=zh hl;clear hl;go_wp2_with fail
   clear n0 n1 n2 n3 n4 n5 n6 n7 e0
   go_loopw [9,10,31] (fun b l i wr=>A0i s k W0 b l i wr) (fun _ _ i _=>s.ae.length - (intOf i).toNat)
   case atStart=>exact⟨0,by omega,rfl,rfl,rfl,HB1.out⟩
   case round=>
    clear HB1;obtain⟨j,hj,rfl,rfl,rfl,hB⟩:=hrel;have HB:=zh hB;clear hB;have hbr:=Ak1 s k j (by omega);by_cases hjl:j < s.ae.length
    ·have hsat:=(HBX.out _ HB.out).bc
     obtain⟨tb,tt,hta,_,htb,htc⟩:=Bf Dg (by decide) hsat.ae hjl;obtain⟨e0,e1⟩:=Gx (wr:=wr) (b:=tb) (o:=tt) (k:=j) (x:=s.ae[j]) fun u v hv=>htc u v hv;have HN:=zh (Ao3 (q:=(k:Int)) hjl);clear htc hsat;generalize s.ae[j]=t at *;generalize hbo:Iq s (k:Int) j=r at *;obtain⟨best,least⟩:=r;dsimp only at hbr HN⊢;have hX:Below W0.heap.size W0 (wr.alloc (.cells #[.int .i64 t.queue,.int .i64 t.cf] 147)):=HB.out.alloc HB.out.size _;have HX:=zh hX;obtain⟨_,⟨n0,n1,n2,n3,n4,n5,n6,n7⟩,_,_,_,_⟩:=HBX.out _ hX;have hkx:=Bk.new wr 147 #[.int .i64 t.queue,.int .i64 t.cf];clear hX hbo;subst hta;go_wp2_with fail
     clear n0 n1 n2 n3 n4 n5 n6 n7 e0 e1;generalize wr.alloc (.cells #[.int .i64 t.queue,.int .i64 t.cf] 147)=X at *;refine(Akw s (some ⟨b,o,none⟩) a2 (some ⟨tb,tt,none⟩) c1 c2 c3 j 0 X (HBX.out _ HX.out).bc.outs hol).mono ?_;rintro e W2 ⟨rfl,hb2⟩;have HB2:=zm HX hb2;have k0:W2.cell? ⟨wr.heap.size,0,none⟩=some (.int .i64 t.queue):=(hkx.below hb2 hkx.lt).cell 0;have k1:W2.cell? ⟨wr.heap.size,1,none⟩=some (.int .i64 t.cf):=(hkx.below hb2 hkx.lt).cell 1;clear hb2 hkx;by_cases hq:t.queue=(k:Int)∧(Ck s j:Int) < min t.cf least
     ·rw[zp hq] at HN
      obtain⟨hq1,hq2⟩:=hq;generalize Ck s j=n at *;have g1:(t.queue == (k:Int))=true:=by simp[hq1]
      have g2:decide ((n:Int) < min t.cf least)=true:=decide_eq_true hq2;clear hq1;go_wp2_with fail
      exact⟨⟨j+1,hjl,by go_num,by rw[HN.out],by rw[HN.out],HB2.out⟩,by simp[intOf];omega⟩
     ·rw[zq hq] at HN
      by_cases hq1:t.queue=(k:Int)
      ·have hq2:¬ (Ck s j:Int) < min t.cf least:=fun h=>hq ⟨hq1,h⟩
       generalize Ck s j=n at *;have g1:(t.queue == (k:Int))=true:=by simp[hq1]
       have g2:decide ((n:Int) < min t.cf least)=false:=decide_eq_false hq2;clear hq1 hq;go_wp2_with fail
       exact⟨⟨j+1,hjl,by go_num,by rw[HN.out],by rw[HN.out],HB2.out⟩,by simp[intOf];omega⟩
      ·have g1:(t.queue == (k:Int))=false:=by simp[hq1]
       generalize Ck s j=n at *;clear hq1 hq;go_wp2_with fail
       exact⟨⟨j+1,hjl,by go_num,by rw[HN.out],by rw[HN.out],HB2.out⟩,by simp[intOf];omega⟩
    ·obtain rfl:j=s.ae.length:=by omega
     have hbn:(Iq s (k:Int) s.ae.length).1=Iw s k:=rfl;rw[hbn] at hbr⊢;by_cases hb0:Iw s (k:Int) < 0
     ·have HE:=zh (Aex HC.out HL.out hb0)
      generalize Iw s (k:Int)=m at *;go_wp2_with fail
      go_ret2
      exact⟨by rw[HE.out.1,HE.out.2];rfl,(HBX.out _ HB.out).below⟩
     ·have HE:=zh (Yq HC.out HL.out hb0)
      generalize Iw s (k:Int)=m at *;go_wp2_with fail
      go_ret2
      exact⟨by rw[HE.out.1,HE.out.2];rfl,(HBX.out _ HB.out).below⟩
 ·have b1:(Cg p s q != 0)=true:=by simp[hc]
  have HR:=zh (Ajb hc);clear hc;go_wp2_with fail
  go_ret2
  exact⟨by rw[HR.out.1,HR.out.2];rfl,(HBX.out _ HB1.out).below⟩
def A0h(s:Aa)(q:Int)(W0:zW)(n:Value)(wr:zW):Prop:=
 ∃m:Nat,m≤4∧n= .int .i64 m∧(∀i:Nat,Lm s q i→m≤Ck s i)∧Below W0.heap.size W0 wr
def A0g(s:Aa)(q:Int)(n:Nat)(W0:zW)(i:Value)(wr:zW):Prop:=
 ∃j:Nat,j≤s.ae.length∧i= .int .i64 j∧(∀i:Nat,i < j→Lm s q i→Ck s i≠n)∧Below W0.heap.size W0 wr
theorem Afx(p:Ab)(s:Aa)(q:Int)(p1 p2 p3 a1 a2 a3:zZ)(q1 q2 q3 c1 c2 c3:Nat)(rows:List Bm)(w:zW)(hE:Env w)(hp:Au w 0 w.heap.size p1 p2 p3 p)(hps:Ai p)(hs:Av w 0 w.heap.size a1 a2 a3 rows s)(hss:Ap s)(hsi:A9 s):
  Calls Tryz.prog 107 #[Ay p p1 p2 p3 q1 q2 q3,Ad s a1 a2 a3 c1 c2 c3,.int .i64 q] w fun e w'=>e= .returned (.tuple #[.int .i64 (Md p s q),.int .i64 (Cz p s q)])∧Below w.heap.size w w':=by
 have hbx:=Cj q1 q2 q3 c1 c2 c3 hE hp hs 26 40;unfold Ag at hbx;unfold Ad Ay Ag;have hql:=hps.ag;have hrl:=hss.ready;have hol:=hss.outs;have htl:=hss.ae;have HBX:=zh hbx;have HPS:=zh hps;have HSS:=zh hss;have HSI:=zh hsi;clear hbx hE hp hs hps hss hsi;go_enter Tryz.func107,Tryz.ntmps107
 obtain⟨⟨m0,m1,m2⟩,⟨n0,n1,n2,n3,n4,n5,n6,n7⟩,_,_,_,_⟩:=HBX.out _ (zb _ _);go_wp2_with fail
 clear m0 m1 m2 n0 n1 n2 n3 n4 n5 n6 n7;generalize ((w.alloc (.cells (zP p p1 p2 p3 q1 q2 q3) 26)).alloc (.cells (zV s a1 a2 a3 c1 c2 c3) 40))=W0 at *;refine(Pq p s q p1 p2 p3 a1 a2 a3 q1 q2 q3 c1 c2 c3 rows W0 (HBX.out _ (zb _ _)).env (HBX.out _ (zb _ _)).bu HPS.out (HBX.out _ (zb _ _)).bc HSS.out HSI.out).mono ?_;rintro e W1 ⟨rfl,hb1⟩;have HB1:=zh hb1;clear hb1;by_cases hc:Cg p s q=0
 ·have b1:(Cg p s q != 0)=false:=by simp[hc]
  obtain⟨hR,hq0,hq1⟩:=Fl.1 hc;obtain⟨k,rfl⟩:∃k:Nat,q=(k:Int):=⟨q.toNat,by omega⟩;have hkr:k < s.ready.length:=by rw[hR.len];omega
  have hsat:=(HBX.out _ HB1.out).bc;have hrr:rows.length=s.ready.length:=by rw[←hsat.same,List.length_map]
  obtain⟨b,o,ha,_,hbb,hcl⟩:=Bf El (by decide) hsat.ready (show k < rows.length by omega);have hit:(rows[k]'(by omega)).items=Ak s (k:Int):=by rw[Anm hkr];simp[←hsat.same]
  have e0:W1.cell? ⟨b,o+k,none⟩=some (.slice (rows[k]'(by omega)).at_ (Ak s (k:Int)).length (rows[k]'(by omega)).cap):=by have:=hcl 0 _ rfl;rw[←hit];simpa using this
  obtain⟨_,⟨n0,n1,n2,n3,n4,n5,n6,n7⟩,_,_,_,_⟩:=HBX.out _ HB1.out;have HC:=zh hc;have HR:=zh hR;clear hc hR hcl hsat hit;subst ha;by_cases hl:(Ak s (k:Int)).length=0
  ·have HE:=zh (Abd HC.out hl)
   rw[hl] at e0;clear hl;go_wp2_with fail
   go_ret2
   exact⟨by rw[HE.out.1,HE.out.2];rfl,(HBX.out _ HB1.out).below⟩
  ·have hlb:(((Ak s (k:Int)).length:Int) == 0)=false:=beq_eq_false_iff_ne.2 (by omega)
   have HL:=zh hl;clear hl;go_wp2_with fail
   clear n0 n1 n2 n3 n4 n5 n6 n7 e0
   go_loopw [9] (fun n wr=>A0h s k W0 n wr) (fun n _=>4 - (intOf n).toNat)
   case atStart=>exact⟨0,by omega,rfl,fun i _=>Nat.zero_le _,HB1.out⟩
   case round=>
    clear HB1;obtain⟨n,hn,rfl,hmin,hB⟩:=hrel;have HMIN:=zh hmin;have HB:=zh hB;clear hmin hB;by_cases hn4:n < 4
    ·obtain⟨_,⟨n0,n1,n2,n3,n4,n5,n6,n7⟩,_,_,_,_⟩:=HBX.out _ HB.out
     go_wp2_with fail
     clear n0 n1 n2 n3 n4 n5 n6 n7;have g4:decide ((n:Int) < 4)=true:=decide_eq_true (by omega);rw[g4]
     go_loopw [10] (fun i wr=>A0g s k n W0 i wr) (fun i _=>s.ae.length - (intOf i).toNat)
     case atStart=>exact⟨0,by omega,rfl,fun i hi=>absurd hi (Nat.not_lt_zero i),HB.out⟩
     case round=>
      clear HB;obtain⟨j,hj,rfl,hno,hB⟩:=hrel;have HNO:=zh hno;have HB:=zh hB;clear hno hB;obtain⟨_,⟨n0,n1,n2,n3,n4,n5,n6,n7⟩,_,_,_,_⟩:=HBX.out _ HB.out;by_cases hjl:j < s.ae.length
      ·have hsat:=(HBX.out _ HB.out).bc
       obtain⟨tb,tt,hta,_,htb,htc⟩:=Bf Dg (by decide) hsat.ae hjl;obtain⟨e0,e1⟩:=Gx (wr:=wr) (b:=tb) (o:=tt) (k:=j) (x:=s.ae[j]) fun u v hv=>htc u v hv;have hel:Lm s (k:Int) j↔s.ae[j].queue=(k:Int)∧(Ck s j:Int) < s.ae[j].cf:=by
        unfold Lm;rw[zG hjl];exact⟨fun⟨t,h1,h2⟩=>by cases h1;exact h2,fun h=>⟨_,rfl,h⟩⟩
       have HEL:=zh hel;clear htc hsat hel;generalize s.ae[j]=t at *;have HNX:Hid (¬ (Lm s (k:Int) j∧Ck s j=n)→∀i:Nat,i < j+1→Lm s (k:Int) i→Ck s i≠n):=fun h i hi he e=>by
        rcases Nat.lt_or_ge i j with h1|h1
        ·exact HNO.out i h1 he e
        ·obtain rfl:i=j:=by omega
         exact h ⟨he,e⟩
       subst hta;by_cases hq:t.queue=(k:Int)
       ·have g1:(t.queue == (k:Int))=true:=by simp[hq]
        have HQ:=zh hq;clear hq;go_wp2_with fail
        refine(Xy s (some ⟨b,o,none⟩) a2 (some ⟨tb,tt,none⟩) c1 c2 c3 j 0 wr (HBX.out _ HB.out).bc.outs hol).mono ?_;rintro e W2 ⟨rfl,hb2⟩;have HB2:=zm HB hb2;have k0:W2.cell? ⟨tb,tt+j * 2,none⟩=some (.int .i64 t.queue):=(hb2.cell (p:=⟨tb,_,none⟩) htb).trans e0;have k1:W2.cell? ⟨tb,tt+j * 2+1,none⟩=some (.int .i64 t.cf):=(hb2.cell (p:=⟨tb,_,none⟩) htb).trans e1;clear hb2 n0 n1 n2 n3 n4 n5 n6 n7 e0 e1;obtain⟨_,⟨n0,n1,n2,n3,n4,n5,n6,n7⟩,_,_,_,_⟩:=HBX.out _ HB2.out;by_cases hh:Ck s j=n
        ·have g2:((Ck s j:Int) == (n:Int))=true:=by simp[hh]
         by_cases ha:(n:Int) < t.cf
         ·have g3:decide ((n:Int) < t.cf)=true:=decide_eq_true ha
          have hE:Lm s (k:Int) j:=HEL.out.2 ⟨HQ.out,by omega⟩;have hbest:=(Mo HR.out (k:Int) s.ae.length).found hjl hE (fun i _ hi=>by rw[hh];exact HMIN.out i hi) (fun i hi he=>by
           have:=HMIN.out i he;have:=HNO.out i hi he;omega)
          have hbn:Iw s (k:Int)=(j:Int):=by unfold Iw;rw[hbest]
          have HE:=zh (Yq HC.out HL.out (by rw[hbn];omega));rw[hbn] at HE;clear hh ha hE hbest hbn;generalize Ck s j=m at *;go_wp2_with fail
          go_ret2
          exact⟨by rw[HE.out.1,HE.out.2];rfl,(HBX.out _ HB2.out).below⟩
         ·have g3:decide ((n:Int) < t.cf)=false:=decide_eq_false ha
          have HX:=zh (HNX.out fun h=>ha (by have:=(HEL.out.1 h.1).2;omega));clear hh ha;generalize Ck s j=m at *;go_wp2_with fail
          exact⟨⟨j+1,hjl,by go_num,HX.out,HB2.out⟩,by simp[intOf];omega⟩
        ·have g2:((Ck s j:Int) == (n:Int))=false:=beq_eq_false_iff_ne.2 (by omega)
         have HX:=zh (HNX.out fun h=>hh h.2);clear hh;generalize Ck s j=m at *;go_wp2_with fail
         exact⟨⟨j+1,hjl,by go_num,HX.out,HB2.out⟩,by simp[intOf];omega⟩
       ·have g1:(t.queue == (k:Int))=false:=by simp[hq]
        have HX:=zh (HNX.out fun h=>hq (HEL.out.1 h.1).1);clear hq;go_wp2_with fail
        exact⟨⟨j+1,hjl,by go_num,HX.out,HB.out⟩,by simp[intOf];omega⟩
      ·obtain rfl:j=s.ae.length:=by omega
       have HM2:Hid (∀i:Nat,Lm s (k:Int) i→n+1≤Ck s i):=fun i hi=>by
        have:=HMIN.out i hi;have:=HNO.out i hi.lt hi;omega
       go_wp2_with fail
       exact⟨⟨n+1,by omega,by go_num,HM2.out,HB.out⟩,by simp[intOf];omega⟩
    ·obtain rfl:n=4:=by omega
     have hbest:=(Mo HR.out (k:Int) s.ae.length).none fun i _ he=>by
      have:=HMIN.out i he;have:=he.held HR.out;omega
     have hbn:Iw s (k:Int)= -1:=by unfold Iw;rw[hbest]
     have HE:=zh (Aex HC.out HL.out (by rw[hbn];decide));clear hbest hbn;go_wp2_with fail
     go_ret2
     exact⟨by rw[HE.out.1,HE.out.2];rfl,(HBX.out _ HB.out).below⟩
 ·have b1:(Cg p s q != 0)=true:=by simp[hc]
  have HR:=zh (Ajb hc);clear hc;go_wp2_with fail
  go_ret2
  exact⟨by rw[HR.out.1,HR.out.2];rfl,(HBX.out _ HB1.out).below⟩
theorem Atd(l:List Cf):idxOf (fun t:Cf=>decide (t.queue < 0)) l=match Jk l with|some k=>(k:Int)|none=> -1:=by
 cases hg:Jk l with
 |none=>exact idxOf_miss (k:=l.length) (fun j x _ hx=>by simpa using Alh hg x (List.mem_of_getElem? hx)) (zn _)
 |some k=>
  obtain⟨hk,h1,h2⟩:=Qp hg;refine idxOf_hit (fun j x hj hx=> ?_) hk (by simpa using h1);rw[zG (by omega)] at hx
  cases hx
  simpa using h2 j hj
theorem Aix{p:Ab}{s:Aa}{q m:Int}(h:Cg p s q≠0):Ce p s q m=Cg p s q∧Ge p s q m=0∧Eu p s q m=Bd:=by
 have e:Ce p s q m=Cg p s q:=by unfold Ce;rw[zp h]
 exact⟨e,by unfold Ge;rw[e,zq h],by unfold Eu;rw[e,zq h]⟩
theorem Yi{p:Ab}{s:Aa}{q m:Int}(h:Cg p s q=0)(hm:m < 1∨4 < m):Ce p s q m=3∧Ge p s q m=0∧Eu p s q m=Bd:=by
 have e:Ce p s q m=3:=by unfold Ce;rw[zq (by simp[h]),zp hm]
 exact⟨e,by unfold Ge;rw[e];rfl,by unfold Eu;rw[e];rfl⟩
theorem Aep{p:Ab}{s:Aa}{q m:Int}(h:Cg p s q=0)(hm:¬ (m < 1∨4 < m))(hg:Jk s.ae=none)(h4:s.ae.length=4):Ce p s q m=2∧Ge p s q m=0∧Eu p s q m=Bd:=by
 have e:Ce p s q m=2:=by unfold Ce;rw[zq (by simp[h]),zq hm,zp ⟨hg,h4⟩]
 exact⟨e,by unfold Ge;rw[e];rfl,by unfold Eu;rw[e];rfl⟩
theorem Yj{p:Ab}{s:Aa}{q m:Int}{k:Nat}(h:Cg p s q=0)(hm:¬ (m < 1∨4 < m))(hg:Jk s.ae=some k):Ce p s q m=0∧Ge p s q m=k∧Eu p s q m= { s with ae:=s.ae.set k ⟨q,m⟩ } :=by
 have e:Ce p s q m=0:=by unfold Ce;rw[zq (by simp[h]),zq hm,zq (by rw[hg];simp)]
 exact⟨e,by unfold Ge Gh;rw[zp e,hg],by unfold Eu joinL;rw[zp e,hg]⟩
theorem Aiy{p:Ab}{s:Aa}{q m:Int}(h:Cg p s q=0)(hm:¬ (m < 1∨4 < m))(hg:Jk s.ae=none)(h4:s.ae.length≠4):Ce p s q m=0∧Ge p s q m=s.ae.length∧Eu p s q m= { s with ae:=s.ae++[⟨q,m⟩] } :=by
 have e:Ce p s q m=0:=by unfold Ce;rw[zq (by simp[h]),zq hm,zq (by rintro⟨_,h⟩;exact h4 h)]
 exact⟨e,by unfold Ge Gh;rw[zp e,hg],by unfold Eu joinL;rw[zp e,hg]⟩
theorem Yc:∀(l:List Cf)(k:Nat)(_:k < l.length)(q m:Int),((l.flatMap Ez).set (k * 2) (.int .i64 q)).set (k * 2+1) (.int .i64 m)=(l.set k ⟨q,m⟩).flatMap Ez
 |x::l,0,_,q,m=>rfl
 |x::l,k+1,h,q,m=>by
  have ih:=Yc l k (by simpa using h) q m;rw[List.flatMap_cons,zC,List.flatMap_cons,←ih];unfold Ez;rw[show(k+1) * 2=k * 2+1+1 by omega];rfl
theorem Dk.takersTo{w w':zW}{lo:Nat}{v1 v2 v3 v3':Value}{rows:List Bm}{s:Aa}{l:List Cf}(h:Dk w lo v1 v2 v3 rows s)(hg:w.grownBy w' v3.ownBlock)(ht:w'.ownsRow lo 147 2 v3' l.length (l.flatMap Ez)):Dk w' lo v1 v2 v3' rows { s with ae:=l } :=
 ⟨h.same,h.ready.kept hg (Xl h.ready h.ae (by decide)),h.rows.kept h.ae (by decide) hg,h.outs.kept hg (Xl h.outs h.ae (by decide)),ht⟩
theorem Dk.keptBk{w w':zW}{lo k:Nat}{t:TypeId}{cs:Array Value}{v1 v2 v3:Value}{rows:List Bm}{s:Aa}(h:Dk w lo v1 v2 v3 rows s)(hb:Bk w k t cs)(hg:w.grownBy w' (some k))(t1:t≠132)(t2:t≠113)(t3:t≠115)(t4:t≠147):Dk w' lo v1 v2 v3 rows s:=
 ⟨h.same,h.ready.kept hg (.inr (F0 h.ready hb t1).symm),⟨fun r hr=>(h.rows.row r hr).kept hg (.inr (F0 (h.rows.row r hr) hb t2).symm)⟩,h.outs.kept hg (.inr (F0 h.outs hb t3).symm),h.ae.kept hg (.inr (F0 h.ae hb t4).symm)⟩
theorem Dk.takerSet{w:zW}{lo g C k N:Nat}{v1 v2:Value}{rows:List Bm}{s:Aa}(h:Dk w lo v1 v2 (.slice (some ⟨g,0,none⟩) N C) rows s)(hN:N=s.ae.length)(hk:k < s.ae.length)(q m:Int):
  Dk ((w.setCell ⟨g,k * 2,none⟩ (.int .i64 q)).setCell ⟨g,k * 2+1,none⟩ (.int .i64 m)) lo v1 v2 (.slice (some ⟨g,0,none⟩) N C) rows { s with ae:=s.ae.set k ⟨q,m⟩ } ∧w.grownBy ((w.setCell ⟨g,k * 2,none⟩ (.int .i64 q)).setCell ⟨g,k * 2+1,none⟩ (.int .i64 m)) (some g):=by
 subst hN;have h1:=h.ae.stored (k * 2) (.int .i64 q);have h2:=h1.1.stored (k * 2+1) (.int .i64 m);have hg:=Dq h1.2 h2.2;refine⟨h.takersTo hg ?_,hg⟩;have h3:=h2.1;rw[Yc _ _ hk] at h3;rw[List.length_set];exact h3
theorem Aww(l:List Cf)(x:Cf):l++[x]=(l++[(⟨0,0⟩:Cf)]).set l.length x:=by
 rw[List.set_append,zq (Nat.lt_irrefl _),Nat.sub_self];rfl
theorem Dk.takerCells{w:zW}{lo g C k N:Nat}{v1 v2:Value}{rows:List Bm}{s:Aa}(h:Dk w lo v1 v2 (.slice (some ⟨g,0,none⟩) N C) rows s)(hN:N=s.ae.length)(hk:k < s.ae.length):
  w.cell? ⟨g,k * 2,none⟩=some (.int .i64 s.ae[k].queue)∧w.cell? ⟨g,k * 2+1,none⟩=some (.int .i64 s.ae[k].cf)∧w.frozen? ⟨g,k * 2,none⟩=false∧w.frozen? ⟨g,k * 2+1,none⟩=false∧g < w.heap.size:=by
 subst hN;refine⟨?_,?_,h.ae.frozenAt _,h.ae.frozenAt _,(h.ae.lt g rfl).2⟩
 ·rw[h.ae.cellAt _ (by omega)]
  exact(flat_get Dg _ k hk 0 (by decide)).trans rfl
 ·rw[h.ae.cellAt _ (by omega)]
  exact(flat_get Dg _ k hk 1 (by decide)).trans rfl
theorem Ana(w:zW)(g i:Nat)(v:Value):w.grownBy (w.setCell ⟨g,i,none⟩ v) (some g):=⟨rfl,rfl,rfl,by simp[World.setCell],fun k _ hk=>heap_setCell_other w ⟨g,i,none⟩ k v (fun e=>hk (by simp[e]))⟩
theorem As4:∀args w,(callFunc 137 args).run Tryz.prog w= .ok (.enter 137 args) w:=enters_of Tryz.func137 (by kernel_rfl) rfl
theorem Apu(t:Cf)(w:zW):Calls Tryz.prog 137 #[.agg (Ez t).toArray] w fun e w'=>e= .returned (.bool (decide (t.queue < 0)))∧Below w.heap.size w w':=by
 have hb:=(zb w.heap.size w).alloc (zn _) (.cells #[.int .i64 t.queue,.int .i64 t.cf] 147);unfold Ez;go_enter Tryz.func137,Tryz.ntmps137
 go_wp2_with fail
 go_ret
 exact⟨rfl,hb⟩
theorem Vp(p:Ab)(s:Aa)(q m:Int)(p1 p2 p3 a1 a2 a3:zZ)(q1 q2 q3 c1 c2 c3:Nat)(rows:List Bm)(w:zW)(hE:Env w)(hp:Au w 0 w.heap.size p1 p2 p3 p)(hps:Ai p)(hs:Av w 0 w.heap.size a1 a2 a3 rows s)(hss:Ap s)(hsi:A9 s):
  Calls Tryz.prog 89 #[Ay p p1 p2 p3 q1 q2 q3,Ad s a1 a2 a3 c1 c2 c3,.int .i64 q,.int .i64 m] w (Gj (Eu p s q m) (Ge p s q m) (Ce p s q m) w):=by
 have hbx:=Cj q1 q2 q3 c1 c2 c3 hE hp hs 26 40;unfold Ag at hbx;unfold Ad Ay Ag;have htl:=hss.ae;have HPS:=zh hps;have HSS:=zh hss;have HSI:=zh hsi;clear hE hp hs hps hss hsi;go_enter Tryz.func89,Tryz.ntmps89
 obtain⟨⟨m0,m1,m2⟩,⟨n0,n1,n2,n3,n4,n5,n6,n7⟩,_,_,_,_⟩:=hbx _ ((zb _ _).alloc (zn _) (.cells zO 40));go_wp2_with fail
 clear m0 m1 m2 n0 n1 n2 n3 n4 n5 n6 n7;obtain⟨V0,hV0⟩:=zo ((w.alloc (.cells (zP p p1 p2 p3 q1 q2 q3) 26)).alloc (.cells (zV s a1 a2 a3 c1 c2 c3) 40));have hzV:V0.heap.size=w.heap.size+1+1:=by rw[←hV0];simp
 rw[hV0] at hbx;have HBV:=zh hbx;obtain⟨W0,hW0⟩:=zo (V0.alloc (.cells zO 40));have hbV:=zu hW0
 have HZ:Hid (W0.heap.size=w.heap.size+1+1+1):=by refine(?_:W0.heap.size=_);rw[←hW0,←hzV];simp
 have HBX:Hid (∀W,Below W0.heap.size W0 W→Me w p s p1 p2 p3 a1 a2 a3 q1 q2 q3 c1 c2 c3 rows W∧Bk W (w.heap.size+1+1) 40 zeroCells):=fun W hW=>by
  have k:Bk W0 (w.heap.size+1+1) 40 zeroCells:=by rw[←hW0];exact Bk.cg _ _ _ hzV.symm
  exact⟨HBV.out W (hbV.trans (hW.mono hbV.size)),k.below hW k.lt⟩
 rw[hV0,hW0];clear hbx hbV hzV HBV hV0 hW0;refine(Aba p s q p1 p2 p3 a1 a2 a3 q1 q2 q3 c1 c2 c3 rows W0 (HBX.out _ (zb _ _)).1.env (HBX.out _ (zb _ _)).1.bu HPS.out (HBX.out _ (zb _ _)).1.bc HSS.out HSI.out).mono ?_;rintro e W1 ⟨rfl,hb1⟩;have HB1:=zh hb1;clear hb1;by_cases hc:Cg p s q=0
 ·have b1:(Cg p s q != 0)=false:=by simp[hc]
  by_cases hm:m < 1∨4 < m
  ·have HR:=zh (Yi hc hm)
   clear hc;by_cases hm1:m < 1
   ·clear hm
    obtain⟨k0,k1,k2,k3,k4,k5,k6,k7,f0,f1,f2,f3,f4,f5,f6,f7,hlt⟩:=Af (HBX.out _ HB1.out).2;go_wp2_with fail
    refine bodyPost_ret (v:= .tuple #[Ad Bd none none none 0 0 0,.int .i64 0,.int .i64 3]) (by simp[results,Tryz.results89,go_sem,Ad,Ag,Bd,k0,k1,k2,k3,k4,k5,k6,k7,hlt]) rfl
     ⟨none,none,none,0,0,0,[],by rw[HR.out.1,HR.out.2.1,HR.out.2.2];rfl,by rw[HR.out.2.2];exact Dm _ _,Al (HBX.out _ HB1.out).1.below (by omega) _ _ _ _ _ _ _ _⟩
   ·have hm4:4 < m:=by omega
    clear hm;obtain⟨k0,k1,k2,k3,k4,k5,k6,k7,f0,f1,f2,f3,f4,f5,f6,f7,hlt⟩:=Af (HBX.out _ HB1.out).2;go_wp2_with fail
    refine bodyPost_ret (v:= .tuple #[Ad Bd none none none 0 0 0,.int .i64 0,.int .i64 3]) (by simp[results,Tryz.results89,go_sem,Ad,Ag,Bd,k0,k1,k2,k3,k4,k5,k6,k7,hlt]) rfl
     ⟨none,none,none,0,0,0,[],by rw[HR.out.1,HR.out.2.1,HR.out.2.2];rfl,by rw[HR.out.2.2];exact Dm _ _,Al (HBX.out _ HB1.out).1.below (by omega) _ _ _ _ _ _ _ _⟩
  ·have HC:=zh hc
   have HM:=zh hm;have hm1:¬ m < 1:=by omega
   have hm4:¬ 4 < m:=by omega
   clear hc hm;have hs1:=(HBX.out _ HB1.out).1.bc;obtain⟨_,⟨n0,n1,n2,n3,n4,n5,n6,n7⟩,_,_,_,_⟩:=(HBX.out _ HB1.out).1;go_wp2_with fail
   refine(Aat s a1 a2 a3 c1 c2 c3 rows W1 (HBX.out _ HB1.out).1.bc HSS.out).mono ?_;rintro e W2 ⟨v1,v2,v3,rows2,rfl,ho,hb2⟩;obtain⟨A1,C1,rfl,_⟩:=Ae ho.ready;obtain⟨A2,C2,rfl,_⟩:=Ae ho.outs;obtain⟨A3,C3,rfl,hC3⟩:=Ae ho.ae;have HB2:=zm HB1 hb2;have hlo:w.heap.size+1+1 < W1.heap.size:=by have:=HB1.out.size;have:=HZ.out;omega
   have HLO:=zh hlo;have hbb2:=hb2.size;clear n0 n1 n2 n3 n4 n5 n6 n7 hs1 hlo hb2;have hX:Below W0.heap.size W0 (W2.alloc (.cells (zV s A1 A2 A3 C1 C2 C3) 40)):=HB2.out.alloc HB2.out.size _;have hxo:=ho.below ((zb _ W2).alloc (zn _) (.cells (zV s A1 A2 A3 C1 C2 C3) 40));have hxd:=Bk.new W2 40 (zV s A1 A2 A3 C1 C2 C3);obtain⟨n0,n1,n2,n3,n4,n5,n6,n7,_,_,_,_,_,_,_,_,hlt2⟩:=Af hxd;have HLT2:Hid (W1.heap.size≤W2.heap.size):=hbb2;have HLT:Hid (w.heap.size+1+1 < W2.heap.size):=by refine(?_:w.heap.size+1+1 < W2.heap.size);have:=HB2.out.size;have:=HZ.out;omega
   unfold Ey;go_wp2_with fail
   clear n0 n1 n2 n3 n4 n5 n6 n7 hlt2;obtain⟨X,hXX⟩:=zo (W2.alloc (.cells (zV s A1 A2 A3 C1 C2 C3) 40));rw[hXX] at hX hxo hxd;rw[hXX];clear hXX ho;refine(Rr 137 #[] As4 (fun t:Cf=>decide (t.queue < 0)) s.ae A3 C3 W1.heap.size X (fun x _ W _=>by simpa using Apu x W) (Sl.cu hxo.ae) (by omega)).mono ?_;rw[Atd];rintro e W3 ⟨rfl,hb3⟩;have HB3:=zh (hX.trans (hb3.mono hX.size));have ho3:=hxo.below hb3;have hd3:=hxd.below hb3 hxd.lt;clear hX hxo hxd hb3
   cases hg:Jk s.ae with
   |some k=>
    obtain⟨hk,_⟩:=Qp hg;have HR:=zh (Yj HC.out HM.out hg);obtain⟨g,rfl⟩:=Fs ho3.ae (by omega);clear hg;have ho3':=ho3;have hz3:=(HBX.out _ HB3.out).2;have hw3:=(HBX.out _ HB3.out).1.below;clear ho3';obtain⟨t0,t1,fz0,fz1,hlg⟩:=ho3.takerCells rfl hk;obtain⟨_,_,d2,_⟩:=Af hd3;have hne:W2.heap.size≠g:=fun e=>F0 ho3.ae hd3 (by decide) (by rw[e];rfl);generalize hTK:(_:List Cf)[k]'hk=tk at t0 t1;clear hTK;obtain⟨hts,htg⟩:=ho3.takerSet rfl hk q m;have HZO:=zh hts;have HZD:=zh (hd3.grown htg (F0 ho3.ae hd3 (by decide)));have HZK:=zh (hz3.grown htg (F0 ho3.ae hz3 (by decide)));have HZB:=zh (Br ho3.ae htg hw3 (zr (by omega) (Nat.le_of_lt HLO.out)) hw3.size);clear hts htg ho3 hd3 hz3 hw3;go_upto_region 14 with fail
    clear t0 t1 fz0 fz1 hlg d2;obtain⟨Z,hZZ⟩:=zo ((W3.setCell ⟨g,k * 2,none⟩ (.int .i64 q)).setCell ⟨g,k * 2+1,none⟩ (.int .i64 m));rw[hZZ] at HZO HZD HZK HZB;rw[hZZ];clear hZZ;obtain⟨n0,n1,n2,n3,n4,n5,n6,n7,_,_,_,_,_,_,_,_,hlt2⟩:=Af HZD.out;obtain⟨k0,k1,k2,k3,k4,k5,k6,k7,f0,f1,f2,f3,f4,f5,f6,f7,hlt⟩:=Af (HZK.out);go_wp2_with fail
    refine bodyPost_ret (v:= .tuple #[.agg (Ey s (.slice A1 s.ready.length C1) (.slice A2 s.outs.length C2) (.slice (some ⟨g,0,none⟩) s.ae.length C3)),.int .i64 (k:Int),.int .i64 0]) (by simp[results,Tryz.results89,go_sem,Ey,k0,k1,k2,k3,k4,k5,k6,k7,hlt]) rfl ?_;have hown:=HZO.out.dg (g:=w.heap.size+1+1) (by exact HLO.out) (.slice A1 s.ready.length C1) (.slice A2 s.outs.length C2) (.slice (some ⟨g,0,none⟩) s.ae.length C3) (.int .i64 s.ah) (.int .i64 s.af) (.int .i64 s.aw) (.int .i64 s.ar) (.int .i64 s.dropped);obtain⟨_,e1,e2,e3⟩:=hown.bc;refine⟨A1,A2,some ⟨g,0,none⟩,C1,C2,C3,_,?_,by rw[HR.out.2.2];exact hown.held.lens (Nat.le_of_lt (Nat.lt_trans (by omega) HLO.out)),Al HZB.out (by omega) _ _ _ _ _ _ _ _⟩;rw[HR.out.1,HR.out.2.1,HR.out.2.2];unfold Ad Ag Ey;rw[e3]
   |none=>
    have d2:=hd3.cell 2;have fz2:=hd3.frozen 2;by_cases h4:s.ae.length=4
    ·have HR:=zh (Aep HC.out HM.out hg h4)
     have b4:((s.ae.length:Int) == 4)=true:=by rw[h4];rfl
     clear hg h4;dsimp only;obtain⟨k0,k1,k2,k3,k4,k5,k6,k7,f0,f1,f2,f3,f4,f5,f6,f7,hlt⟩:=Af (HBX.out _ HB3.out).2;go_wp2_with fail
     refine bodyPost_ret (v:= .tuple #[Ad Bd none none none 0 0 0,.int .i64 0,.int .i64 2]) (by simp[results,Tryz.results89,go_sem,Ad,Ag,Bd,k0,k1,k2,k3,k4,k5,k6,k7,hlt]) rfl
      ⟨none,none,none,0,0,0,[],by rw[HR.out.1,HR.out.2.1,HR.out.2.2];rfl,by rw[HR.out.2.2];exact Dm _ _,Al (HBX.out _ HB3.out).1.below (by omega) _ _ _ _ _ _ _ _⟩
    ·have HR0:=Aiy HC.out HM.out hg h4
     rw[Aww s.ae] at HR0;have HR:=zh HR0;have b4:((s.ae.length:Int) == 4)=false:=beq_eq_false_iff_ne.2 (by omega);have hz3:=(HBX.out _ HB3.out).2;have hw3:=(HBX.out _ HB3.out).1.below;have hbase:W1.heap.size≤W3.heap.size:=by
      have h1:=hd3.lt;have h2:=HLT2.out;omega
     have HX3:=zh (zi ho3 (zi hd3 (zi hz3 hw3)));clear hg h4 HR0 hz3 hw3;dsimp only;go_upto_region 13 with(at_builtin;refine Em rfl _ _ 38 rfl W1.heap.size 147 T5 Tryz.underlying38 rfl (by decide) (by decide) W3 _ _ _ rfl HX3.out.1.ae [.int .i64 0,.int .i64 0] rfl rfl rfl (by simp[Value.oneCell']) (by omega) hbase ?_;intro v4 w4 ho4 hg4;obtain⟨A4,C4,rfl,_⟩:=Ae ho4;have hd4:=HX3.out.2.1.grown hg4 (F0 HX3.out.1.ae HX3.out.2.1 (by decide));have d4:=hd4.cell 2;have fz4:=hd4.frozen 2;have hlt4:=hd4.lt;have HW4:=zh (zi ho4 (zi hg4 hd4));clear ho4 hg4 hd4)
     clear d2 fz2 d4 fz4 hlt4 ho3 hd3;obtain⟨ho3,hd3,hz3,hw3⟩:=HX3.out;obtain⟨ho4,hg4,hd4⟩:=HW4.out;obtain⟨g,rfl⟩:=Fs ho4 (by omega);have hox:Dk w4 W1.heap.size (.slice A1 s.ready.length C1) (.slice A2 s.outs.length C2) (.slice (some ⟨g,0,none⟩) (s.ae.length+1) C4) rows2 { s with ae:=s.ae++[⟨0,0⟩] } :=ho3.takersTo hg4 (by rw[ze,List.flatMap_append];exact ho4);have hgw:w4.grownBy (w4.setCell ⟨W2.heap.size,2,none⟩ (.slice (some ⟨g,0,none⟩) (s.ae.length+1) C4)) (some W2.heap.size):=Ana _ _ _ _;have hoy:=hox.keptBk hd4 hgw (by decide) (by decide) (by decide) (by decide);have hdy:Bk (w4.setCell ⟨W2.heap.size,2,none⟩ (.slice (some ⟨g,0,none⟩) (s.ae.length+1) C4)) W2.heap.size 40 #[.slice A1 s.ready.length C1,.slice A2 s.outs.length C2,.slice (some ⟨g,0,none⟩) (s.ae.length+1) C4,.int .i64 s.ah,.int .i64 s.af,.int .i64 s.aw,.int .i64 s.ar,.int .i64 s.dropped]:=hd4.ck 2 _;have hzy:=((hz3.grown hg4 (F0 ho3.ae hz3 (by decide))).far (p:=⟨W2.heap.size,2,none⟩) (by have:=HLT.out;show w.heap.size+1+1≠W2.heap.size;omega) (.slice (some ⟨g,0,none⟩) (s.ae.length+1) C4));have hwy:=(Br ho3.ae hg4 hw3 (zr (by omega) (Nat.le_of_lt HLO.out)) hw3.size).setCell (p:=⟨W2.heap.size,2,none⟩) (by have:=HLT.out;show w.heap.size≤W2.heap.size;omega) (.slice (some ⟨g,0,none⟩) (s.ae.length+1) C4);obtain⟨Y,hYY⟩:=zo (w4.setCell ⟨W2.heap.size,2,none⟩ (.slice (some ⟨g,0,none⟩) (s.ae.length+1) C4));rw[hYY] at hoy hdy hzy hwy;rw[hYY];clear hYY hgw hox ho4 hg4 hd4 ho3 hd3 hz3 hw3 HW4 HX3;have HKK:Hid (s.ae.length < (s.ae++[(⟨0,0⟩:Cf)]).length):=by refine(?_:s.ae.length < (s.ae++[(⟨0,0⟩:Cf)]).length);rw[ze];exact Nat.lt_succ_self _
     have HNN:Hid (s.ae.length+1=(s.ae++[(⟨0,0⟩:Cf)]).length):=by refine(?_:s.ae.length+1=(s.ae++[(⟨0,0⟩:Cf)]).length);rw[ze];rfl
     have ho3:=hoy;have hd3:=hdy;have hz3:=hzy;have hw3:=hwy;clear hoy hdy hzy hwy;obtain⟨t0,t1,fz0,fz1,hlg⟩:=ho3.takerCells HNN.out HKK.out;obtain⟨_,_,d2,_⟩:=Af hd3;have hne:W2.heap.size≠g:=fun e=>F0 ho3.ae hd3 (by decide) (by rw[e];rfl);generalize hTK:(_:List Cf)[s.ae.length]'HKK.out=tk at t0 t1;clear hTK;obtain⟨hts,htg⟩:=ho3.takerSet HNN.out HKK.out q m;have HZO:=zh hts;have HZD:=zh (hd3.grown htg (F0 ho3.ae hd3 (by decide)));have HZK:=zh (hz3.grown htg (F0 ho3.ae hz3 (by decide)));have HZB:=zh (Br ho3.ae htg hw3 (zr (by omega) (Nat.le_of_lt HLO.out)) hw3.size);clear hts htg ho3 hd3 hz3 hw3;go_upto_region 14 with fail
     clear t0 t1 fz0 fz1 hlg d2;obtain⟨Z,hZZ⟩:=zo ((Y.setCell ⟨g,s.ae.length * 2,none⟩ (.int .i64 q)).setCell ⟨g,s.ae.length * 2+1,none⟩ (.int .i64 m));rw[hZZ] at HZO HZD HZK HZB;rw[hZZ];clear hZZ;obtain⟨n0,n1,n2,n3,n4,n5,n6,n7,_,_,_,_,_,_,_,_,hlt2⟩:=Af HZD.out;obtain⟨k0,k1,k2,k3,k4,k5,k6,k7,f0,f1,f2,f3,f4,f5,f6,f7,hlt⟩:=Af (HZK.out);go_wp2_with fail
     refine bodyPost_ret (v:= .tuple #[.agg (Ey s (.slice A1 s.ready.length C1) (.slice A2 s.outs.length C2) (.slice (some ⟨g,0,none⟩) (s.ae.length+1) C4)),.int .i64 (s.ae.length:Int),.int .i64 0]) (by simp[results,Tryz.results89,go_sem,Ey,k0,k1,k2,k3,k4,k5,k6,k7,hlt]) rfl ?_;have hown:=HZO.out.dg (g:=w.heap.size+1+1) (by exact HLO.out) (.slice A1 s.ready.length C1) (.slice A2 s.outs.length C2) (.slice (some ⟨g,0,none⟩) (s.ae.length+1) C4) (.int .i64 s.ah) (.int .i64 s.af) (.int .i64 s.aw) (.int .i64 s.ar) (.int .i64 s.dropped);obtain⟨_,e1,e2,e3⟩:=hown.bc;refine⟨A1,A2,some ⟨g,0,none⟩,C1,C2,C4,_,?_,by rw[HR.out.2.2];exact hown.held.lens (Nat.le_of_lt (Nat.lt_trans (by omega) HLO.out)),Al HZB.out (by omega) _ _ _ _ _ _ _ _⟩;rw[HR.out.1,HR.out.2.1,HR.out.2.2];unfold Ad Ag Ey;rw[e3]
 ·have b1:(Cg p s q != 0)=true:=by simp[hc]
  have HR:=zh (Aix (m:=m) hc);clear hc;obtain⟨k0,k1,k2,k3,k4,k5,k6,k7,f0,f1,f2,f3,f4,f5,f6,f7,hlt⟩:=Af (HBX.out _ HB1.out).2;go_wp2_with fail
  refine bodyPost_ret (v:= .tuple #[Ad Bd none none none 0 0 0,.int .i64 0,.int .i64 (Cg p s q)]) (by simp[results,Tryz.results89,go_sem,Ad,Ag,Bd,k0,k1,k2,k3,k4,k5,k6,k7,hlt]) rfl
   ⟨none,none,none,0,0,0,[],by rw[HR.out.1,HR.out.2.1,HR.out.2.2];rfl,by rw[HR.out.2.2];exact Dm _ _,Al (HBX.out _ HB1.out).1.below (by omega) _ _ _ _ _ _ _ _⟩
theorem Ali{l:List Cf}{j:Nat}(h:j < l.length)(hq:l[j].queue < 0)(hno:∀(i:Nat)(hi:i < l.length),i < j→¬ l[i].queue < 0):Jk l=some j:=by
 unfold Jk;rw[List.findIdx?_eq_some_iff_getElem];exact⟨h,by simpa using hq,fun i hi=>by simpa using hno i (by omega) hi⟩
theorem Atc{l:List Cf}(hno:∀(i:Nat)(hi:i < l.length),¬ l[i].queue < 0):Jk l=none:=by
 unfold Jk;rw[List.findIdx?_eq_none_iff];intro x hx;obtain⟨i,hi,rfl⟩:=List.getElem_of_mem hx;simpa using hno i hi
theorem Dk.drew{w:zW}{lo:Nat}{v1 v2 v3:Value}{rows:List Bm}{s:Aa}(h:Dk w lo v1 v2 v3 rows s):Dk w.drew lo v1 v2 v3 rows s:=
 ⟨h.same,h.ready.drew,h.rows.drew,h.outs.drew,h.ae.drew⟩
theorem Bk.dr{w:zW}{g:Nat}{t:TypeId}{cs:Array Value}(h:Bk w g t cs):Bk w.drew g t cs:=h
def A0c(l:List Cf)(X:zW)(i:Value)(wr:zW):Prop:=
 ∃j:Nat,j≤l.length∧i= .int .i64 j∧(∀(i:Nat)(hi:i < l.length),i < j→¬ l[i].queue < 0)∧wr=X
theorem Hm{w:zW}{g:Nat}{t:TypeId}{v0 v1 v2 v3 v4 v5 v6 v7:Value}(h:Bk w g t #[v0,v1,v2,v3,v4,v5,v6,v7]):
  zM w g 0 v0∧zM w g 1 v1∧zM w g 2 v2∧zM w g 3 v3∧zM w g 4 v4∧zM w g 5 v5∧zM w g 6 v6∧zM w g 7 v7:=
 ⟨h.cell 0,h.cell 1,h.cell 2,h.cell 3,h.cell 4,h.cell 5,h.cell 6,h.cell 7⟩
theorem Qd(p:Ab)(s:Aa)(q m:Int)(p1 p2 p3 a1 a2 a3:zZ)(q1 q2 q3 c1 c2 c3:Nat)(rows:List Bm)(w:zW)(hE:Env w)(hp:Au w 0 w.heap.size p1 p2 p3 p)(hps:Ai p)(hs:Av w 0 w.heap.size a1 a2 a3 rows s)(hss:Ap s)(hsi:A9 s):
  Calls Tryz.prog 64 #[Ay p p1 p2 p3 q1 q2 q3,Ad s a1 a2 a3 c1 c2 c3,.int .i64 q,.int .i64 m] w (Gj (Eu p s q m) (Ge p s q m) (Ce p s q m) w):=by
 have hbx:=Cj q1 q2 q3 c1 c2 c3 hE hp hs 26 40;unfold Ag at hbx;unfold Ad Ay Ag;have htl:=hss.ae;have HPS:=zh hps;have HSS:=zh hss;have HSI:=zh hsi;clear hE hp hs hps hss hsi;go_enter Tryz.func64,Tryz.ntmps64
 obtain⟨⟨m0,m1,m2⟩,⟨n0,n1,n2,n3,n4,n5,n6,n7⟩,_,_,_,_⟩:=hbx _ ((zb _ _).alloc (zn _) (.cells zO 40));go_wp2_with fail
 clear m0 m1 m2 n0 n1 n2 n3 n4 n5 n6 n7;obtain⟨V0,hV0⟩:=zo ((w.alloc (.cells (zP p p1 p2 p3 q1 q2 q3) 26)).alloc (.cells (zV s a1 a2 a3 c1 c2 c3) 40));have hzV:V0.heap.size=w.heap.size+1+1:=by rw[←hV0];simp
 rw[hV0] at hbx;have HBV:=zh hbx;obtain⟨W0,hW0⟩:=zo (V0.alloc (.cells zO 40));have hbV:=zu hW0
 have HZ:Hid (W0.heap.size=w.heap.size+1+1+1):=by refine(?_:W0.heap.size=_);rw[←hW0,←hzV];simp
 have HBX:Hid (∀W,Below W0.heap.size W0 W→Me w p s p1 p2 p3 a1 a2 a3 q1 q2 q3 c1 c2 c3 rows W∧Bk W (w.heap.size+1+1) 40 zeroCells):=fun W hW=>by
  have k:Bk W0 (w.heap.size+1+1) 40 zeroCells:=by rw[←hW0];exact Bk.cg _ _ _ hzV.symm
  exact⟨HBV.out W (hbV.trans (hW.mono hbV.size)),k.below hW k.lt⟩
 rw[hV0,hW0];clear hbx hbV hzV HBV hV0 hW0;refine(Pq p s q p1 p2 p3 a1 a2 a3 q1 q2 q3 c1 c2 c3 rows W0 (HBX.out _ (zb _ _)).1.env (HBX.out _ (zb _ _)).1.bu HPS.out (HBX.out _ (zb _ _)).1.bc HSS.out HSI.out).mono ?_;rintro e W1 ⟨rfl,hb1⟩;have HB1:=zh hb1;clear hb1;by_cases hc:Cg p s q=0
 ·have b1:(Cg p s q != 0)=false:=by simp[hc]
  have hR:=(Fl.1 hc).1;have HRT:=zh hR;clear hR;go_wp2_with fail
  refine(Cc m 1 4 W1).mono ?_;rintro e W1' ⟨rfl,hw1'⟩;subst hw1';by_cases hm:m < 1∨4 < m
  ·have HR:=zh (Yi hc hm)
   have hd:(decide (1≤m) && decide (m≤4))=false:=by simp;omega
   rw[hd];clear hc hm hd;obtain⟨k0,k1,k2,k3,k4,k5,k6,k7,f0,f1,f2,f3,f4,f5,f6,f7,hlt⟩:=Af (HBX.out _ HB1.out).2;go_wp2_with fail
   refine bodyPost_ret (v:= .tuple #[Ad Bd none none none 0 0 0,.int .i64 0,.int .i64 3]) (by simp[results,Tryz.results64,go_sem,Ad,Ag,Bd,k0,k1,k2,k3,k4,k5,k6,k7,hlt]) rfl
    ⟨none,none,none,0,0,0,[],by rw[HR.out.1,HR.out.2.1,HR.out.2.2];rfl,by rw[HR.out.2.2];exact Dm _ _,Al (HBX.out _ HB1.out).1.below (by omega) _ _ _ _ _ _ _ _⟩
  ·have HC:=zh hc
   have HM:=zh hm;have hd:(decide (1≤m) && decide (m≤4))=true:=by simp;omega
   rw[hd];clear hc hm hd;have hs1:=(HBX.out _ HB1.out).1.bc;obtain⟨_,⟨n0,n1,n2,n3,n4,n5,n6,n7⟩,_,_,_,_⟩:=(HBX.out _ HB1.out).1;go_wp2_with fail
   refine(Ke s a1 a2 a3 c1 c2 c3 rows W1 (HBX.out _ HB1.out).1.bc HSS.out).mono ?_;rintro e W2 ⟨v1,v2,v3,rows2,rfl,ho,hb2⟩;obtain⟨A1,C1,rfl,_⟩:=Ae ho.ready;obtain⟨A2,C2,rfl,_⟩:=Ae ho.outs;obtain⟨A3,C3,rfl,hC3⟩:=Ae ho.ae;have HB2:=zm HB1 hb2;have hlo:w.heap.size+1+1 < W1.heap.size:=by have:=HB1.out.size;have:=HZ.out;omega
   have HLO:=zh hlo;have hbb2:=hb2.size;clear n0 n1 n2 n3 n4 n5 n6 n7 hs1 hlo hb2;have hX:Below W0.heap.size W0 (W2.alloc (.cells (zV s A1 A2 A3 C1 C2 C3) 40)):=HB2.out.alloc HB2.out.size _;have hxo:=ho.below ((zb _ W2).alloc (zn _) (.cells (zV s A1 A2 A3 C1 C2 C3) 40));have hxd:=Bk.new W2 40 (zV s A1 A2 A3 C1 C2 C3);obtain⟨n0,n1,n2,n3,n4,n5,n6,n7,_,_,_,_,_,_,_,_,hlt2⟩:=Af hxd;have HLT2:Hid (W1.heap.size≤W2.heap.size):=hbb2;have HLT:Hid (w.heap.size+1+1 < W2.heap.size):=by refine(?_:w.heap.size+1+1 < W2.heap.size);have:=HB2.out.size;have:=HZ.out;omega
   unfold Ey;go_wp2_with fail
   clear n0 n1 n2 n3 n4 n5 n6 n7 hlt2;obtain⟨X,hXX⟩:=zo (W2.alloc (.cells (zV s A1 A2 A3 C1 C2 C3) 40));rw[hXX] at hX hxo hxd;rw[hXX];clear hXX ho;have HB3:=zh hX;have HXX:=zh (zi hxo hxd);clear hX hxo hxd
   go_loopw [13] (fun i wr=>A0c s.ae X i wr) (fun i _=>s.ae.length - (intOf i).toNat)
   case atStart=>exact⟨0,by omega,rfl,fun i _ hi=>absurd hi (Nat.not_lt_zero i),rfl⟩
   case round=>
    obtain⟨j,hj,rfl,hno,hwr⟩:=hrel;subst hwr;have HNO:=zh hno;clear hno;obtain⟨ho3,hd3⟩:=HXX.out;obtain⟨_,_,d2,_⟩:=Af hd3;by_cases hjl:j < s.ae.length
    ·obtain⟨g,rfl⟩:=Fs ho3.ae (by omega)
     obtain⟨u0,u1,_,_,_⟩:=ho3.takerCells rfl hjl;have htf:=Ma HRT.out (zG hjl);by_cases hq:s.ae[j].queue= -1
     ·have hg:=Ali hjl (by omega) HNO.out
      have HR:=zh (Yj HC.out HM.out hg);have hqb:(s.ae[j].queue == -1)=true:=by simp[hq]
      generalize hTJ:s.ae[j]=tj at u0 u1 htf hq hqb;clear hg hq hTJ htf;have hz3:=(HBX.out _ HB3.out).2;have hw3:=(HBX.out _ HB3.out).1.below;clear d2;obtain⟨t0,t1,fz0,fz1,hlg⟩:=ho3.takerCells rfl hjl;obtain⟨_,_,d2,_⟩:=Af hd3;have hne:W2.heap.size≠g:=fun e=>F0 ho3.ae hd3 (by decide) (by rw[e];rfl);generalize hTK:(_:List Cf)[j]'hjl=tk at t0 t1;clear hTK;obtain⟨hts,htg⟩:=ho3.takerSet rfl hjl q m;have HZO:=zh hts;have HZD:=zh (hd3.grown htg (F0 ho3.ae hd3 (by decide)));have HZK:=zh (hz3.grown htg (F0 ho3.ae hz3 (by decide)));have HZB:=zh (Br ho3.ae htg hw3 (zr (by omega) (Nat.le_of_lt HLO.out)) hw3.size);clear hts htg ho3 hd3 hz3 hw3;go_upto_region 12 with fail
      clear t0 t1 fz0 fz1 hlg d2;obtain⟨Z,hZZ⟩:=zo ((wr.setCell ⟨g,j * 2,none⟩ (.int .i64 q)).setCell ⟨g,j * 2+1,none⟩ (.int .i64 m));rw[hZZ] at HZO HZD HZK HZB;rw[hZZ];clear hZZ;obtain⟨n0,n1,n2,n3,n4,n5,n6,n7,_,_,_,_,_,_,_,_,hlt2⟩:=Af HZD.out;obtain⟨k0,k1,k2,k3,k4,k5,k6,k7,f0,f1,f2,f3,f4,f5,f6,f7,hlt⟩:=Af (HZK.out);go_wp2_with fail
      refine bodyPost_ret (v:= .tuple #[.agg (Ey s (.slice A1 s.ready.length C1) (.slice A2 s.outs.length C2) (.slice (some ⟨g,0,none⟩) s.ae.length C3)),.int .i64 (j:Int),.int .i64 0]) (by simp[results,Tryz.results64,go_sem,Ey,k0,k1,k2,k3,k4,k5,k6,k7,hlt]) rfl ?_;have hfin:=(HZO.out.dg (g:=w.heap.size+1+1) (by exact HLO.out) (.slice A1 s.ready.length C1) (.slice A2 s.outs.length C2) (.slice (some ⟨g,0,none⟩) s.ae.length C3) (.int .i64 s.ah) (.int .i64 s.af) (.int .i64 s.aw) (.int .i64 s.ar) (.int .i64 s.dropped));obtain⟨_,e1,e2,e3⟩:=hfin.bc;refine⟨A1,A2,some ⟨g,0,none⟩,C1,C2,C3,_,?_,by rw[HR.out.2.2];exact hfin.held.lens (Nat.le_of_lt (Nat.lt_trans (by omega) HLO.out)),Al HZB.out (by omega) _ _ _ _ _ _ _ _⟩;rw[HR.out.1,HR.out.2.1,HR.out.2.2];unfold Ad Ag Ey;rw[e3]
     ·have hqb:(s.ae[j].queue == -1)=false:=by simp[hq]
      have HN2:Hid (∀(i:Nat)(hi:i < s.ae.length),i < j+1→¬ s.ae[i].queue < 0):=fun i hi h1 h2=>by
       rcases Nat.lt_or_ge i j with h3|h3
       ·exact HNO.out i hi h3 h2
       ·obtain rfl:i=j:=by omega
        omega
      generalize s.ae[j]=tj at u0 u1 htf hq hqb;clear hq ho3 hd3 htf;go_wp2_with fail
      exact⟨⟨j+1,hjl,by go_num,HN2.out,rfl⟩,by simp[intOf];omega⟩
    ·obtain rfl:j=s.ae.length:=by omega
     have hg:=Atc fun i hi=>HNO.out i hi hi;by_cases h4:s.ae.length=4
     ·have HR:=zh (Aep HC.out HM.out hg h4)
      have b4:((s.ae.length:Int) == 4)=true:=by rw[h4];rfl
      clear hg h4;obtain⟨k0,k1,k2,k3,k4,k5,k6,k7,f0,f1,f2,f3,f4,f5,f6,f7,hlt⟩:=Af (HBX.out _ HB3.out).2;go_wp2_with fail
      refine bodyPost_ret (v:= .tuple #[Ad Bd none none none 0 0 0,.int .i64 0,.int .i64 2]) (by simp[results,Tryz.results64,go_sem,Ad,Ag,Bd,k0,k1,k2,k3,k4,k5,k6,k7,hlt]) rfl
       ⟨none,none,none,0,0,0,[],by rw[HR.out.1,HR.out.2.1,HR.out.2.2];rfl,by rw[HR.out.2.2];exact Dm _ _,Al (HBX.out _ HB3.out).1.below (by omega) _ _ _ _ _ _ _ _⟩
     ·have HR:=zh (Aiy HC.out HM.out hg h4)
      have b4:((s.ae.length:Int) == 4)=false:=beq_eq_false_iff_ne.2 (by omega);have hz3:=(HBX.out _ HB3.out).2;have hw3:=(HBX.out _ HB3.out).1.below;have hbase:W1.heap.size≤wr.heap.size:=by
       have h1:=hd3.lt;have h2:=HLT2.out;omega
      have HX3:=zh (zi ho3 (zi hd3 (zi hz3 hw3)));have fz2:=hd3.frozen 2;clear hg h4 hz3 hw3 ho3 hd3;go_upto_region 16 with(at_builtin;refine Em rfl _ _ 38 rfl W1.heap.size 147 T5 Tryz.underlying38 rfl (by decide) (by decide) wr _ _ _ rfl HX3.out.1.ae [.int .i64 q,.int .i64 m] rfl rfl rfl (by simp[Value.oneCell']) (by omega) hbase ?_;intro v4 w4 ho4 hg4;obtain⟨A4,C4,rfl,_⟩:=Ae ho4;have hd4:=HX3.out.2.1.grown hg4 (F0 HX3.out.1.ae HX3.out.2.1 (by decide));have d4:=hd4.cell 2;have fz4:=hd4.frozen 2;have hlt4:=hd4.lt;have HW4:=zh (zi ho4 (zi hg4 hd4));clear ho4 hg4 hd4)
      clear d2 fz2 d4 fz4 hlt4;obtain⟨ho3,hd3,hz3,hw3⟩:=HX3.out;obtain⟨ho4,hg4,hd4⟩:=HW4.out;have hox:Dk w4 W1.heap.size (.slice A1 s.ready.length C1) (.slice A2 s.outs.length C2) (.slice A4 (s.ae.length+1) C4) rows2 { s with ae:=s.ae++[⟨q,m⟩] } :=ho3.takersTo hg4 (by rw[ze,List.flatMap_append];exact ho4);have hgw:w4.grownBy (w4.setCell ⟨W2.heap.size,2,none⟩ (.slice A4 (s.ae.length+1) C4)) (some W2.heap.size):=Ana _ _ _ _;have hoy:=hox.keptBk hd4 hgw (by decide) (by decide) (by decide) (by decide);have hdy:Bk (w4.setCell ⟨W2.heap.size,2,none⟩ (.slice A4 (s.ae.length+1) C4)) W2.heap.size 40 #[.slice A1 s.ready.length C1,.slice A2 s.outs.length C2,.slice A4 (s.ae.length+1) C4,.int .i64 s.ah,.int .i64 s.af,.int .i64 s.aw,.int .i64 s.ar,.int .i64 s.dropped]:=hd4.ck 2 _;have hzy:=((hz3.grown hg4 (F0 ho3.ae hz3 (by decide))).far (p:=⟨W2.heap.size,2,none⟩) (by have:=HLT.out;show w.heap.size+1+1≠W2.heap.size;omega) (.slice A4 (s.ae.length+1) C4));have hwy:=(Br ho3.ae hg4 hw3 (zr (by omega) (Nat.le_of_lt HLO.out)) hw3.size).setCell (p:=⟨W2.heap.size,2,none⟩) (by have:=HLT.out;show w.heap.size≤W2.heap.size;omega) (.slice A4 (s.ae.length+1) C4);obtain⟨Y,hYY⟩:=zo (w4.setCell ⟨W2.heap.size,2,none⟩ (.slice A4 (s.ae.length+1) C4));rw[hYY] at hoy hdy hzy hwy;rw[hYY];clear hYY hgw hox ho4 hg4 hd4 ho3 hd3 hz3 hw3 HW4 HX3;have HZO:=zh hoy;have HZB:=zh hwy;have ks0:=Hm (w:=Y.drew) hdy;have KS:Hid (∀u0 u1 u2 u3 u4 u5 u6 u7,(fun W:zW=>(zM W W2.heap.size 0 (.slice A1 s.ready.length C1)∧zM W W2.heap.size 1 (.slice A2 s.outs.length C2)∧zM W W2.heap.size 2 (.slice A4 (s.ae.length+1) C4)∧zM W W2.heap.size 3 (.int .i64 s.ah)∧zM W W2.heap.size 4 (.int .i64 s.af)∧zM W W2.heap.size 5 (.int .i64 s.aw)∧zM W W2.heap.size 6 (.int .i64 s.ar)∧zM W W2.heap.size 7 (.int .i64 s.dropped))) (((((((((Y.setCell ⟨w.heap.size+1+1,0,none⟩ u0).setCell ⟨w.heap.size+1+1,1,none⟩ u1).setCell ⟨w.heap.size+1+1,2,none⟩ u2).setCell ⟨w.heap.size+1+1,3,none⟩ u3).setCell ⟨w.heap.size+1+1,4,none⟩ u4).setCell ⟨w.heap.size+1+1,5,none⟩ u5).setCell ⟨w.heap.size+1+1,6,none⟩ u6).setCell ⟨w.heap.size+1+1,7,none⟩ u7).drew)):=fun u0 u1 u2 u3 u4 u5 u6 u7=>Hm (w:=((((((((Y.setCell ⟨w.heap.size+1+1,0,none⟩ u0).setCell ⟨w.heap.size+1+1,1,none⟩ u1).setCell ⟨w.heap.size+1+1,2,none⟩ u2).setCell ⟨w.heap.size+1+1,3,none⟩ u3).setCell ⟨w.heap.size+1+1,4,none⟩ u4).setCell ⟨w.heap.size+1+1,5,none⟩ u5).setCell ⟨w.heap.size+1+1,6,none⟩ u6).setCell ⟨w.heap.size+1+1,7,none⟩ u7).drew) (Bk.dr (Sn (W:=Y) hdy (by have:=HLT.out;omega) u0 u1 u2 u3 u4 u5 u6 u7));have hzk:Bk Y.drew (w.heap.size+1+1) 40 zeroCells:=hzy;unfold zeroCells at hzk;obtain⟨k0,k1,k2,k3,k4,k5,k6,k7,f0,f1,f2,f3,f4,f5,f6,f7,hlt⟩:=Af hzk;have hzk2:Bk Y (w.heap.size+1+1) 40 zeroCells:=hzy;unfold zeroCells at hzk2;obtain⟨y0,y1,y2,y3,y4,y5,y6,y7,z0,z1,z2,z3,z4,z5,z6,z7,hlt9⟩:=Af hzk2;clear hzk2;have hw1:IntKind.i64.wrap (s.ae.length:Int)=(s.ae.length:Int):=IntWalk.i64_in _ (by omega);have hw2:IntKind.i64.wrap ((s.ae.length:Int)+1 - 1)=(s.ae.length:Int):=by rw[Int.add_sub_cancel];exact hw1
      clear hoy hdy hzy hwy hzk;refine wp_region_held_drew (S:=(fun W=>(zM W W2.heap.size 0 (.slice A1 s.ready.length C1)∧zM W W2.heap.size 1 (.slice A2 s.outs.length C2)∧zM W W2.heap.size 2 (.slice A4 (s.ae.length+1) C4)∧zM W W2.heap.size 3 (.int .i64 s.ah)∧zM W W2.heap.size 4 (.int .i64 s.af)∧zM W W2.heap.size 5 (.int .i64 s.aw)∧zM W W2.heap.size 6 (.int .i64 s.ar)∧zM W W2.heap.size 7 (.int .i64 s.dropped)))) (by kernel_rfl) (by first|assumption|exact ks0) (fun hHeld=> ?_)
      first|(refine zH 0 ?_)|(refine zU 0 ?_)
      first|(refine zH 1 ?_)|(refine zU 1 ?_)
      first|(refine zH 2 ?_)|(refine zU 2 ?_)
      first|(refine zH 3 ?_)|(refine zU 3 ?_)
      first|(refine zH 4 ?_)|(refine zU 4 ?_)
      refine zR 5 fun K hK=> ?_;clear hHeld
      go_simp
      refine hK.out _ _ (KS.out _ _ _ _ _ _ _ _) (fun hHeld=> ?_);clear hK K
      try simp only[Act.put,zA,zB,zC,zD,zE,zF]
      refine zH 6 ?_;refine zH 7 ?_
      refine zx ?_;clear ks0 hHeld;go_wp2_with fail
      refine bodyPost_ret (v:= .tuple #[.agg (Ey s (.slice A1 s.ready.length C1) (.slice A2 s.outs.length C2) (.slice A4 (s.ae.length+1) C4)),.int .i64 (s.ae.length:Int),.int .i64 0]) (by simp[results,Tryz.results64,go_sem,Ey,k0,k1,k2,k3,k4,k5,k6,k7,hlt,y0,y1,y2,y3,y4,y5,y6,y7,hlt9]) rfl ?_;have hfin:=(HZO.out.dg (g:=w.heap.size+1+1) (by exact HLO.out) (.slice A1 s.ready.length C1) (.slice A2 s.outs.length C2) (.slice A4 (s.ae.length+1) C4) (.int .i64 s.ah) (.int .i64 s.af) (.int .i64 s.aw) (.int .i64 s.ar) (.int .i64 s.dropped)).drew;obtain⟨_,e1,e2,e3⟩:=hfin.bc;refine⟨A1,A2,A4,C1,C2,C4,_,?_,by rw[HR.out.2.2];exact hfin.held.lens (Nat.le_of_lt (Nat.lt_trans (by omega) HLO.out)),(Al HZB.out (by omega) _ _ _ _ _ _ _ _).drew⟩;rw[HR.out.1,HR.out.2.1,HR.out.2.2];unfold Ad Ag Ey;rw[e3]
 ·have b1:(Cg p s q != 0)=true:=by simp[hc]
  have HR:=zh (Aix (m:=m) hc);clear hc;obtain⟨k0,k1,k2,k3,k4,k5,k6,k7,f0,f1,f2,f3,f4,f5,f6,f7,hlt⟩:=Af (HBX.out _ HB1.out).2;go_wp2_with fail
  refine bodyPost_ret (v:= .tuple #[Ad Bd none none none 0 0 0,.int .i64 0,.int .i64 (Cg p s q)]) (by simp[results,Tryz.results64,go_sem,Ad,Ag,Bd,k0,k1,k2,k3,k4,k5,k6,k7,hlt]) rfl
   ⟨none,none,none,0,0,0,[],by rw[HR.out.1,HR.out.2.1,HR.out.2.2];rfl,by rw[HR.out.2.2];exact Dm _ _,Al (HBX.out _ HB1.out).1.below (by omega) _ _ _ _ _ _ _ _⟩
end Go.Proofs.YtpkneogjdfolaaaGreatDoor
