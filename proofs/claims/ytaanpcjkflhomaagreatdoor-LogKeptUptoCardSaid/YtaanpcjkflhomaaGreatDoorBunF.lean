/-
  The plain law of states: which error a state has. No program in sight.
-/
import Derived.Test.YtaanpcjkflhomaaGreatDoorBunE
import Derived.Test.YtaanpcjkflhomaaGreatDoorBunC
import Derived.Test.YtaanpcjkflhomaaGreatDoorBunD
import Derived.Test.YtaanpcjkflhomaaGreatDoorBunA
import Derived.Defers
import Derived.Recover
import Derived.IntWalk
set_option maxHeartbeats 20000000
set_option maxRecDepth 100000
set_option linter.unusedSimpArgs false
set_option linter.unusedVariables false
namespace Go.Proofs.YtaanpcjkflhomaaGreatDoor
def countB (n:Int):Bool:=decide (0≤n) && decide (n≤1048576)
def Im (q:Nat) (t:B6):Bool:=decide (-1≤t.queue) && decide (t.queue < (q:Int)) && decide (1≤t.cf) && decide (t.cf≤4)
def Mc (s:Aa) (x:Eh):Bool:=
 decide (0≤x.tag) && decide (x.tag < s.af) && decide (0≤x.bg) && decide (x.bg < (s.ae.length:Int)) &&
  (match s.ae[x.bg.toNat]? with|some t=>decide (0≤t.queue) && decide (t.queue=x.queue)|none=>false) && Bi x.item
def Dj (l:List (List Ap)):List Int:=l.flatMap fun r=>r.map (·.seq)
def G0 (l:List Eh):List Int:=l.map (·.item.seq)
def Db (s:Aa):List Int:=Dj s.ready++G0 s.outs
def Cd (s:Aa) (k:Int):Nat:=s.outs.countP fun x=>decide (x.bg=k)
def Er (s:Aa):Nat:=(s.ready.map List.length).sum
structure Formed (p:Ab) (s:Aa):Prop where
 len:s.ready.length=p.ag.length
 ah:countB s.ah=true
 af:countB s.af=true
 aw:countB s.aw=true
 ar:countB s.ar=true
 dropped:countB s.dropped=true
 line:∀l∈s.ready,Ci l=true
 bg:∀t∈s.ae,Im p.ag.length t=true
 out:∀x∈s.outs,Mc s x=true
 order:s.outs.Pairwise fun x y=>x.tag < y.tag
 nodup:(Db s).Nodup
 below:∀n∈Db s,n < s.ah
def N5 (p:Ab) (s:Aa):Bool:=
 decide (s.ready.length=p.ag.length) && countB s.ah && countB s.af && countB s.aw && countB s.ar && countB s.dropped && s.ready.all Ci && s.ae.all (Im p.ag.length) && s.outs.all (Mc s) &&
  decide (s.outs.Pairwise fun x y=>x.tag < y.tag) && decide (Db s).Nodup && (Db s).all (fun n=>decide (n < s.ah))
theorem Ia {p:Ab} {s:Aa} :N5 p s=true↔Formed p s:=by
 unfold N5;simp only[zc,zd,List.all_eq_true]
 constructor
 ·rintro⟨⟨⟨⟨⟨⟨⟨⟨⟨⟨⟨h1,h2⟩,h3⟩,h4⟩,h5⟩,h6⟩,h7⟩,h8⟩,h9⟩,h10⟩,h11⟩,h12⟩
  exact⟨h1,h2,h3,h4,h5,h6,h7,h8,h9,h10,h11,h12⟩
 ·rintro⟨h1,h2,h3,h4,h5,h6,h7,h8,h9,h10,h11,h12⟩
  exact⟨⟨⟨⟨⟨⟨⟨⟨⟨⟨⟨h1,h2⟩,h3⟩,h4⟩,h5⟩,h6⟩,h7⟩,h8⟩,h9⟩,h10⟩,h11⟩,h12⟩
structure Ap2 (p:Ab) (s:Aa):Prop where
 bm:∀(i:Nat) (l:List Ap) (q:Ge),s.ready[i]? =some l→p.ag[i]? =some q→(l.length:Int)≤q.bm
 held:∀(k:Nat) (t:B6),s.ae[k]? =some t→(Cd s k:Int)≤t.cf
def Iw (p:Ab) (s:Aa):Bool:=(s.ready.zip p.ag).all fun x=>decide ((x.1.length:Int)≤x.2.bm)
def Lc (s:Aa):Bool:=s.ae.zipIdx.all fun x=>decide ((Cd s x.2:Int)≤x.1.cf)
theorem Ni {p:Ab} {s:Aa} :Iw p s=true↔∀(i:Nat) (l:List Ap) (q:Ge),s.ready[i]? =some l→p.ag[i]? =some q→(l.length:Int)≤q.bm:=by
 unfold Iw;simp only[List.all_eq_true,zd]
 constructor
 ·intro h i l q hl hq
  have:(s.ready.zip p.ag)[i]? =some (l,q):=by rw[List.getElem?_zip_eq_some];exact⟨hl,hq⟩
  exact h _ (List.mem_of_getElem? this)
 ·intro h x hx
  obtain⟨i,hi⟩:=List.getElem?_of_mem hx;obtain⟨l,q⟩:=x;rw[List.getElem?_zip_eq_some] at hi;exact h i l q hi.1 hi.2
theorem Ph {s:Aa} :Lc s=true↔∀(k:Nat) (t:B6),s.ae[k]? =some t→(Cd s k:Int)≤t.cf:=by
 unfold Lc;simp only[List.all_eq_true,zd]
 constructor
 ·intro h k t ht
  have:s.ae.zipIdx[k]? =some (t,k):=by rw[List.getElem?_zipIdx,ht];simp
  exact h _ (List.mem_of_getElem? this)
 ·intro h x hx
  obtain⟨i,hi⟩:=List.getElem?_of_mem hx;rw[List.getElem?_zipIdx] at hi
  cases ht:s.ae[i]? with
  |none=>rw[ht] at hi;cases hi
  |some t=>
   rw[ht] at hi;simp only[Option.map_some,Option.some.injEq,Nat.zero_add] at hi;subst hi;exact h i t ht
def Abj (s:Aa):Bool:=decide (s.aw=((Er s:Nat):Int)+((s.outs.length:Nat):Int)+s.ar+s.dropped) && decide (s.aw=s.ah)
def Ao (p:Ab) (s:Aa):Int:=
 if Bf p≠0 then Bf p else if 4 < s.ae.length then 2 else if N5 p s=false then 1 else if (Iw p s && Lc s)=false then 3 else if Abj s=false then 10 else 0
theorem Oz {p:Ab} {s:Aa} (h:Bf p≠0):Ao p s=Bf p:=by unfold Ao;rw[zp h]
theorem Oy {p:Ab} {s:Aa} (h:Bf p=0) (h1:4 < s.ae.length):Ao p s=2:=by unfold Ao;rw[zq (by simp[h]),zp h1]
theorem Ei {p:Ab} {s:Aa} (h:Bf p=0) (h1:s.ae.length≤4) (h2:¬ Formed p s):Ao p s=1:=by
 unfold Ao;rw[zq (by simp[h]),zq (by omega),zp (by rw[←Bool.not_eq_true,Ia];exact h2)]
theorem I9 {p:Ab} {s:Aa} (h:Bf p=0) (h1:s.ae.length≤4) (h2:Formed p s) (h3:(Iw p s && Lc s)=false):Ao p s=3:=by
 unfold Ao;rw[zq (by simp[h]),zq (by omega),zq (by rw[Ia.2 h2];decide),zp h3]
theorem Kt {p:Ab} {s:Aa} (h:Bf p=0) (h1:s.ae.length≤4) (h2:Formed p s) (h3:(Iw p s && Lc s)=true) (h4:Abj s=false):Ao p s=10:=by
 unfold Ao;rw[zq (by simp[h]),zq (by omega),zq (by rw[Ia.2 h2];decide),zq (by rw[h3];decide),zp h4]
theorem Ma {p:Ab} {s:Aa} (h:Bf p=0) (h1:s.ae.length≤4) (h2:Formed p s) (h3:(Iw p s && Lc s)=true) (h4:Abj s=true):Ao p s=0:=by
 unfold Ao;rw[zq (by simp[h]),zq (by omega),zq (by rw[Ia.2 h2];decide),zq (by rw[h3];decide),zq (by rw[h4];decide)]
structure Cs (p:Ab) (s:Aa):Prop extends Formed p s,Ap2 p s where
 bz:Bf p=0
 many:s.ae.length≤4
 sum:s.aw=((Er s:Nat):Int)+((s.outs.length:Nat):Int)+s.ar+s.dropped
 same:s.aw=s.ah
theorem Da {p:Ab} {s:Aa} :Ao p s=0↔Cs p s:=by
 constructor
 ·intro h
  by_cases h0:Bf p=0
  ·by_cases h1:s.ae.length≤4
   ·by_cases h2:Formed p s
    ·cases h3:(Iw p s && Lc s)
     ·rw[I9 h0 h1 h2 h3] at h;cases h
     ·cases h4:Abj s
      ·rw[Kt h0 h1 h2 h3 h4] at h;cases h
      ·rw[zc,Ni,Ph] at h3
       simp only[Abj,zc,zd] at h4;exact { h2,h3 with bm:=h3.1,held:=h3.2,bz:=h0,many:=h1,sum:=h4.1,same:=h4.2 }
    ·rw[Ei h0 h1 h2] at h;cases h
   ·rw[Oy h0 (by omega)] at h;cases h
  ·rw[Oz h0] at h;exact absurd h h0
 ·intro h
  exact Ma h.bz h.many h.toFormed (by rw[zc,Ni,Ph];exact⟨h.bm,h.held⟩) (by simp only[Abj,zc,zd];exact⟨h.sum,h.same⟩)
theorem Aid {l:List (List Ap)} {q:Nat} (h:q < l.length):Dj l=Dj (l.take q)++(l[q].map (·.seq)++Dj (l.drop (q+1))):=by
 unfold Dj
 conv=>lhs;rw[←List.take_append_drop q l,List.drop_eq_getElem_cons h]
 rw[List.flatMap_append,List.flatMap_cons]
theorem Ak1 {l:List Ap} {k:Nat} (h:k < l.length):l.map (·.seq)=(l.take k).map (·.seq)++(l[k].seq::(l.drop (k+1)).map (·.seq)):=by
 conv=>lhs;rw[←List.take_append_drop k l,List.drop_eq_getElem_cons h]
 rw[List.map_append,List.map_cons]
theorem Aic {l:List Eh} {k:Nat} (h:k < l.length):G0 l=G0 (l.take k)++(l[k].item.seq::G0 (l.drop (k+1))):=by
 unfold G0
 conv=>lhs;rw[←List.take_append_drop k l,List.drop_eq_getElem_cons h]
 rw[List.map_append,List.map_cons]
theorem Avi {s:Aa} {q k:Nat} (hq:q < s.ready.length) (hk:k < s.ready[q].length):((Dj (s.ready.take q)++(s.ready[q].take k).map (·.seq))++[s.ready[q][k].seq]) <+:Db s:=by
 unfold Db;rw[Aid hq,Ak1 hk];exact⟨(s.ready[q].drop (k+1)).map (·.seq)++Dj (s.ready.drop (q+1))++G0 s.outs,by simp⟩
theorem Avh {s:Aa} {k:Nat} (hk:k < s.outs.length):((Dj s.ready++G0 (s.outs.take k))++[s.outs[k].item.seq]) <+:Db s:=by
 unfold Db;rw[Aic hk];exact⟨G0 (s.outs.drop (k+1)),by simp⟩
theorem row_step {s:Aa} {q k:Nat} (hq:q < s.ready.length) (hk:k < s.ready[q].length):(Dj (s.ready.take q)++(s.ready[q].take k).map (·.seq))++[s.ready[q][k].seq]=Dj (s.ready.take q)++(s.ready[q].take (k+1)).map (·.seq):=by
 rw[zj hk,List.map_append,List.append_assoc];rfl
theorem Ah9 {s:Aa} {q:Nat} (hq:q < s.ready.length):Dj (s.ready.take q)++(s.ready[q].take s.ready[q].length).map (·.seq)=Dj (s.ready.take (q+1)):=by
 rw[List.take_length,zj hq];unfold Dj;rw[List.flatMap_append,List.flatMap_cons,List.flatMap_nil,List.append_nil]
theorem Ahy {s:Aa} {k:Nat} (hk:k < s.outs.length):(Dj s.ready++G0 (s.outs.take k))++[s.outs[k].item.seq]=Dj s.ready++G0 (s.outs.take (k+1)):=by
 rw[zj hk];unfold G0;rw[List.map_append,List.append_assoc];rfl
theorem Aht {p:Ab} {s:Aa} {l:List Int} {n:Int} (h:(l++[n]) <+:Db s) (hn:n∈l):¬ Formed p s:=fun hf=>by
 have:=h.sublist.nodup hf.nodup;rw[List.nodup_append] at this;exact this.2.2 n hn n (by simp) rfl
theorem Ahr {p:Ab} {s:Aa} {l:List Int} {n:Int} (h:(l++[n]) <+:Db s) (hn:s.ah≤n):¬ Formed p s:=fun hf=>by
 have:=hf.below n (h.subset (by simp));omega
theorem Amk {p:Ab} {s:Aa} {l:List Ap} (h:l∈s.ready) (hl:Ci l=false):¬ Formed p s:=fun hf=>by
 have:=hf.line l h;rw[hl] at this
 cases this
theorem Aaa {p:Ab} {s:Aa} {t:B6} (h:t∈s.ae) (ht:Im p.ag.length t=false):¬ Formed p s:=fun hf=>by
 have:=hf.bg t h;rw[ht] at this
 cases this
def G5 (l:List Eh) (k:Nat):Int:=match k with
 |0=> -1
 |k+1=>match l[k]? with|some x=>x.tag|none=> -1
theorem Kq {l:List Eh} {k:Nat} (h:k < l.length):G5 l (k+1)=l[k].tag:=by
 show(match l[k]? with|some x=>x.tag|none=> -1)=_
 rw[zG h]
theorem Ahs {p:Ab} {s:Aa} {k:Nat} (h:k < s.outs.length) (ho:s.outs[k].tag≤G5 s.outs k):¬ Formed p s:=fun hf=>by
 cases k with
 |zero=>
  have h0:=hf.out s.outs[0] (zg h);have ho':s.outs[0].tag≤ -1:=ho;unfold Mc at h0;simp only[zc,zd] at h0;omega
 |succ k=>
  rw[Kq (by omega)] at ho;have:=(List.pairwise_iff_getElem.1 hf.order) k (k+1) (by omega) h (by omega);omega
theorem Adq {l:List Eh} (h:∀(k:Nat) (hk:k < l.length),G5 l k < l[k].tag):l.Pairwise fun x y=>x.tag < y.tag:=by
 rw[List.pairwise_iff_getElem];intro i j hi hj hij
 induction j with
 |zero=>omega
 |succ j ih=>
  have h1:=h (j+1) hj;rw[Kq (by omega)] at h1;rcases Nat.lt_or_ge i j with h2|h2
  ·have:=ih (by omega) h2;omega
  ·obtain rfl:i=j:=by omega
   exact h1
theorem Akm {l:List (List Ap)} {q:Nat} (h:q < l.length):((l.take (q+1)).map List.length).sum=((l.take q).map List.length).sum+l[q].length:=by
 rw[zj h];simp only[List.map_append,List.sum_append,List.map_cons,List.map_nil,List.sum_cons,List.sum_nil,Nat.add_zero]
theorem Ar6 {l:List (List Ap)} (q:Nat):((l.take q).map List.length).sum≤(l.map List.length).sum:=by
 conv=>rhs;rw[←List.take_append_drop q l]
 rw[List.map_append,List.sum_append];omega
def lyK (s:Aa) (k:Nat):Nat:=((s.ready.take k).map List.length).sum
theorem Xo {s:Aa} {q:Nat} (h:q < s.ready.length):lyK s (q+1)=lyK s q+s.ready[q].length:=Akm h
theorem V8 (s:Aa) (q:Nat):lyK s q≤Er s:=Ar6 q
theorem Aa4 (s:Aa):lyK s s.ready.length=Er s:=by unfold lyK Er;rw[List.take_length]
theorem Te (l:List (List Ap)):(Dj l).length=(l.map List.length).sum:=by
 unfold Dj;rw[List.length_flatMap]
 congr 1
 simp
theorem Aie (s:Aa) (k:Nat):(Dj (s.ready.take k)).length=lyK s k:=Te _
theorem Wl (l:List Eh):(G0 l).length=l.length:=List.length_map _
theorem Amd (a b c d:Bool):[a,b,c,d].contains false= !(a && b && c && d):=by cases a<;>cases b<;>cases c<;>cases d<;>rfl
theorem Av6 (a b c:Bool):[a,b,c].contains false= !(a && b && c):=by cases a<;>cases b<;>cases c<;>rfl
theorem Ayr (a b:Bool):[a,b].contains false= !(a && b):=by cases a<;>cases b<;>rfl
theorem Aat (q:Nat) (t:B6):[decide (-1≤t.queue),decide (t.queue < (q:Int)),decide (1≤t.cf),decide (t.cf≤4)].contains false= !(Im q t):=Amd _ _ _ _
theorem Aos {p:Ab} {s:Aa} {j:Nat} (hj:j < s.outs.length) (hf:Formed p s):
  [decide (G5 s.outs j < s.outs[j].tag),decide (s.outs[j].tag < s.af),decide (0≤s.outs[j].bg),decide (s.outs[j].bg < (s.ae.length:Int))].contains false=false:=by
 have ho:=hf.out _ (zg hj);unfold Mc at ho;simp only[zc,zd] at ho;have h1:G5 s.outs j < s.outs[j].tag:=by
  rcases Int.lt_or_le (G5 s.outs j) s.outs[j].tag with h|h
  ·exact h
  ·exact absurd hf (Ahs hj h)
 rw[Amd];simp[h1,ho.1.1.1.1.2,ho.1.1.1.2,ho.1.1.2]
theorem Akt {p:Ab} {s:Aa} {j:Nat} (hj:j < s.outs.length) (ht:s.outs[j].bg.toNat < s.ae.length) (hf:Formed p s):
  [decide (0≤s.ae[s.outs[j].bg.toNat].queue),s.ae[s.outs[j].bg.toNat].queue == s.outs[j].queue,Bi s.outs[j].item].contains false=false:=by
 have ho:=hf.out _ (zg hj);unfold Mc at ho;rw[zG ht] at ho;simp only[zc,zd] at ho;have hq0:0≤s.outs[j].queue:=by have:=ho.1.2.1;rw[ho.1.2.2] at this;exact this
 rw[Av6];simp[ho.1.2.2,ho.2,hq0]
theorem Asj {s:Aa} {j:Nat} (hj:j < s.outs.length) (h0:∀q (hq:q < s.outs.length),q < j→0≤s.outs[q].tag)
  (h1:[decide (G5 s.outs j < s.outs[j].tag),decide (s.outs[j].tag < s.af),decide (0≤s.outs[j].bg),decide (s.outs[j].bg < (s.ae.length:Int))].contains false=false) (ht:s.outs[j].bg.toNat < s.ae.length)
  (h2:[decide (0≤s.ae[s.outs[j].bg.toNat].queue),s.ae[s.outs[j].bg.toNat].queue == s.outs[j].queue,Bi s.outs[j].item].contains false=false):Mc s s.outs[j]=true:=by
 rw[Amd] at h1;rw[Av6] at h2;simp only[Bool.not_eq_false',zc,zd,beq_iff_eq] at h1 h2;have h3:0≤s.outs[j].tag:=by
  have:=h1.1.1.1
  cases j with
  |zero=>have e:G5 s.outs 0= -1:=rfl;omega
  |succ j=>
   rw[Kq (by omega)] at this;have:=h0 j (by omega) (by omega);omega
 unfold Mc;rw[zG ht];have hq0:0≤s.outs[j].queue:=by have:=h2.1.1;rw[h2.1.2] at this;exact this
 simp[h3,h1.1.1.2,h1.1.2,h1.2,h2.1.2,h2.2,hq0]
theorem w64 {x:Int} (h1: -9223372036854775808≤x) (h2:x≤9223372036854775807):RowKit.wrap64 x=x:=by unfold RowKit.wrap64;omega
theorem Aii (s:Aa):[s.aw == (lyK s s.ready.length:Int)+(s.outs.length:Int)+s.ar+s.dropped,s.aw == s.ah].contains false= !(Abj s):=by
 rw[Ayr,Aa4];rfl
theorem Ao5 {s:Aa} (ha:countB s.ar=true) (hd:countB s.dropped=true) (hl:Er s≤1048576) (ho:s.outs.length≤1048576):
  RowKit.wrap64 ((lyK s s.ready.length:Int)+(s.outs.length:Int))=(lyK s s.ready.length:Int)+(s.outs.length:Int)∧RowKit.wrap64 ((lyK s s.ready.length:Int)+(s.outs.length:Int)+s.ar)=(lyK s s.ready.length:Int)+(s.outs.length:Int)+s.ar∧
   RowKit.wrap64 ((lyK s s.ready.length:Int)+(s.outs.length:Int)+s.ar+s.dropped)=(lyK s s.ready.length:Int)+(s.outs.length:Int)+s.ar+s.dropped:=by
 unfold countB at ha hd;simp only[zc,zd] at ha hd;rw[Aa4];exact⟨w64 (by omega) (by omega),w64 (by omega) (by omega),w64 (by omega) (by omega)⟩
theorem Ao8 (q:Nat) (t:B6):((decide (-1≤t.queue) && decide (t.queue≤(q:Int) - 1)) && (decide (1≤t.cf) && decide (t.cf≤4)))=Im q t:=by
 unfold Im;rw[Bool.eq_iff_iff];simp only[zc,zd]
 constructor
 ·rintro⟨⟨h1,h2⟩,h3,h4⟩;exact⟨⟨⟨h1,by omega⟩,h3⟩,h4⟩
 ·rintro⟨⟨⟨h1,h2⟩,h3⟩,h4⟩;exact⟨⟨h1,by omega⟩,h3,h4⟩
theorem Hs {p:Ab} {s:Aa} {x:Eh} (hf:Formed p s) (hm:x∈s.outs):0≤x.tag∧x.tag < s.af∧(0≤x.bg∧x.bg < (s.ae.length:Int))∧Bi x.item=true∧∀t,s.ae[x.bg.toNat]? =some t→0≤t.queue∧t.queue=x.queue:=by
 have ho:=hf.out _ hm;unfold Mc at ho;simp only[zc,zd] at ho;refine⟨ho.1.1.1.1.1,ho.1.1.1.1.2,⟨ho.1.1.1.2,ho.1.1.2⟩,ho.2,fun t ht=> ?_⟩;have h:=ho.1.2;rw[ht] at h;simp only[zc,zd] at h;exact h
theorem Asm {s:Aa} {x:Eh} {t:B6} (ht:s.ae[x.bg.toNat]? =some t) (h1:0≤x.tag) (h2:x.tag < s.af) (h3:0≤x.bg) (h4:x.bg < (s.ae.length:Int)) (h5:0≤t.queue) (h6:t.queue=x.queue) (h7:Bi x.item=true):Mc s x=true:=by
 have hq0:0≤x.queue:=by omega
 unfold Mc;rw[ht];simp[h1,h2,h3,h4,h6,h7,hq0]
theorem Ag0 {p:Ab} {s:Aa} (h1:s.ready.length=p.ag.length) (h2:∀l∈s.ready,Ci l=true) (h3:∀t∈s.ae,Im p.ag.length t=true) (h4:∀x∈s.outs,Mc s x=true) (h5:s.outs.Pairwise fun x y=>x.tag < y.tag) (h6:(Db s).Nodup) (h7:∀n∈Db s,n < s.ah):
  N5 p s=(countB s.ah && countB s.af && countB s.aw && countB s.ar && countB s.dropped):=by
 rw[Bool.eq_iff_iff,Ia];simp only[zc]
 constructor
 ·intro hf
  exact⟨⟨⟨⟨hf.ah,hf.af⟩,hf.aw⟩,hf.ar⟩,hf.dropped⟩
 ·rintro⟨⟨⟨⟨a,b⟩,c⟩,d⟩,e⟩
  exact⟨h1,a,b,c,d,e,h2,h3,h4,h5,h6,h7⟩
theorem Au7 {p:Ab} {s:Aa} {i k:Nat} (hi:i < (Db s).length) (hk:k < i) (h:(Db s)[k]'(Nat.lt_trans hk hi)=(Db s)[i]):¬ Formed p s:=fun hf=>(List.pairwise_iff_getElem.1 hf.nodup) k i (Nat.lt_trans hk hi) hi hk h
theorem Asd {p:Ab} {s:Aa} {i:Nat} (hi:i < (Db s).length) (h:s.ah≤(Db s)[i]):¬ Formed p s:=fun hf=>by
 have:=hf.below _ (zg hi);omega
theorem Ahv {p:Ab} {s:Aa} {q:Nat} (h1:q < s.ready.length) (h2:q < p.ag.length) (h:p.ag[q].bm < (s.ready[q].length:Int)):(Iw p s && Lc s)=false:=by
 have:Iw p s=false:=by
  rw[←Bool.not_eq_true,Ni];intro hh;have:=hh q _ _ (zG h1) (zG h2);omega
 rw[this];rfl
theorem Aml {p:Ab} {s:Aa} {k:Nat} (h1:k < s.ae.length) (h:s.ae[k].cf < (Cd s k:Int)):(Iw p s && Lc s)=false:=by
 have:Lc s=false:=by
  rw[←Bool.not_eq_true,Ph];intro hh;have:=hh k _ (zG h1);omega
 rw[this,Bool.and_false]
open Go.RowKit
structure La (w:World) (p:Ab) (s:Aa) (p1 p2 p3 a1 a2 a3:Option Addr) (q1 q2 q3 c1 c2 c3:Nat) (rows:List Bq) (W:World):Prop where
 bz:W.cell? ⟨w.heap.size,0,none⟩=some (.slice p1 p.aj.length q1)∧W.cell? ⟨w.heap.size,1,none⟩=some (.slice p2 p.ag.length q2)∧W.cell? ⟨w.heap.size,2,none⟩=some (.slice p3 p.binds.length q3)
 state:W.cell? ⟨w.heap.size+1,0,none⟩=some (.slice a1 s.ready.length c1)∧W.cell? ⟨w.heap.size+1,1,none⟩=some (.slice a2 s.outs.length c2)∧W.cell? ⟨w.heap.size+1,2,none⟩=some (.slice a3 s.ae.length c3)∧
  W.cell? ⟨w.heap.size+1,3,none⟩=some (.int .i64 s.ah)∧W.cell? ⟨w.heap.size+1,4,none⟩=some (.int .i64 s.af)∧W.cell? ⟨w.heap.size+1,5,none⟩=some (.int .i64 s.aw)∧W.cell? ⟨w.heap.size+1,6,none⟩=some (.int .i64 s.ar)∧W.cell? ⟨w.heap.size+1,7,none⟩=some (.int .i64 s.dropped)
 below:Below w.heap.size w W
 env:Env W
 bu:Az W 0 W.heap.size p1 p2 p3 p
 bc:Ax W 0 W.heap.size a1 a2 a3 rows s
theorem B9 {w:World} {p:Ab} {s:Aa} {p1 p2 p3 a1 a2 a3:Option Addr} {rows:List Bq} (q1 q2 q3 c1 c2 c3:Nat) (hE:Env w) (hp:Az w 0 w.heap.size p1 p2 p3 p) (hs:Ax w 0 w.heap.size a1 a2 a3 rows s) (t1 t2:TypeId) (W:World)
  (hW:Below ((w.alloc (.cells (zP p p1 p2 p3 q1 q2 q3) t1)).alloc (.cells (Ag s a1 a2 a3 c1 c2 c3) t2)).heap.size ((w.alloc (.cells (zP p p1 p2 p3 q1 q2 q3) t1)).alloc (.cells (Ag s a1 a2 a3 c1 c2 c3) t2)) W):
  La w p s p1 p2 p3 a1 a2 a3 q1 q2 q3 c1 c2 c3 rows W:=by
 generalize hA:w.alloc (.cells (zP p p1 p2 p3 q1 q2 q3) t1)=wA at hW;have hsA:wA.heap.size=w.heap.size+1:=by rw[←hA];simp
 have kA:Bk wA w.heap.size t1 (zP p p1 p2 p3 q1 q2 q3):=by rw[←hA];exact Bk.new _ _ _
 have bA:Below w.heap.size w wA:=by rw[←hA];exact(zb _ _).alloc (zn _) _
 have kB:=Bk.new wA t2 (Ag s a1 a2 a3 c1 c2 c3);have bB:Below wA.heap.size wA (wA.alloc (.cells (Ag s a1 a2 a3 c1 c2 c3) t2)):=(zb _ _).alloc (zn _) _;have hsB:(wA.alloc (.cells (Ag s a1 a2 a3 c1 c2 c3) t2)).heap.size=wA.heap.size+1:=by simp
 have bW:=bB.trans (hW.mono bB.size);have k1:=kA.below bW (by omega);have k2:=kB.below hW (by omega);rw[hsA] at k2;have bw:Below w.heap.size w W:=bA.trans (bW.mono (by omega));refine⟨⟨?_,?_,?_⟩,⟨k2.cell 0,k2.cell 1,k2.cell 2,k2.cell 3,k2.cell 4,k2.cell 5,k2.cell 6,k2.cell 7⟩,bw,Av bw hE,(hp.below bw (zn _)).wider (zn _) bw.size,(hs.below bw (zn _)).wider (zn _) bw.size⟩
 ·have:=k1.cell 0;simpa using this
 ·have:=k1.cell 1;simpa using this
 ·have:=k1.cell 2;simpa using this
theorem Gx {wr:World} {b o k:Nat} {x:B6} (hc:∀j u,(El x)[j]? =some u→wr.cell? ⟨b,o+k * 2+j,none⟩=some u):
  wr.cell? ⟨b,o+k * 2,none⟩=some (.int .i64 x.queue)∧wr.cell? ⟨b,o+k * 2+1,none⟩=some (.int .i64 x.cf):=⟨hc 0 _ rfl,hc 1 _ rfl⟩
theorem Br {Wr W:World} {D:Prop} (h:D∧Below Wr.heap.size Wr W) (o:Obj):Below Wr.heap.size Wr (W.alloc o):=h.2.alloc h.2.size o
open Go.RowKit
def Am8 (bs:List Bool) (b:Bool) (w:World) (i:Value) (wr:World):Prop:=∃k:Nat,k≤bs.length∧i= .int .i64 k∧(∀j x,j < k→bs[j]? =some x→(b == x)=false)∧wr=w
theorem An4 {bs:List Bool} {b:Bool} (h:∀j x,j < bs.length→bs[j]? =some x→(b == x)=false):bs.contains b=false:=by
 rw[←Bool.not_eq_true,List.contains_iff_mem];intro hm;obtain⟨j,hj⟩:=List.getElem?_of_mem hm;have:=h j b (List.getElem?_eq_some_iff.1 hj).1 hj;simp at this
theorem An5 {bs:List Bool} {b x:Bool} {k:Nat} (h:bs[k]? =some x) (e:(b == x)=true):bs.contains b=true:=by
 rw[List.contains_iff_mem,beq_iff_eq.1 e];exact List.mem_of_getElem? h
theorem Ai7 (a:Option Addr) (c:Nat) (bs:List Bool) (b:Bool) (lo:Nat) (w:World) (hl:Sl w lo w.heap.size a (bs.map Value.bool)) (hll:bs.length≤1000):
  Calls Tryz.prog 152 #[.slice a bs.length c,.bool b] w fun e w'=>∃i:Int,e= .returned (.int .i64 i)∧decide (0≤i)=bs.contains b∧w'=w:=by
 have HL:=zh hl;clear hl
 go_enter Tryz.func152,Tryz.ntmps152
 go_wp2_with fail
 go_loopw [8] (fun i wr=>Am8 bs b w i wr) (fun i _=>bs.length - (intOf i).toNat)
 case atStart=>exact⟨0,by omega,rfl,fun j x hj=>absurd hj (by omega),rfl⟩
 case round=>
  obtain⟨k,hk,rfl,hall,rfl⟩:=hrel;have HA:=zh hall;clear hall
  by_cases hlt:k < bs.length
  ·obtain⟨g,o,rfl,_,hb,hc⟩:=HL.out.at_ (k:=k) (by simpa using hlt)
   have e0:wr.cell? ⟨g,o+k,none⟩=some (.bool bs[k]):=hc k _ (by simp[hlt]);have HG:=zh (zG hlt);clear hc;generalize bs[k]=x at *
   cases hq:(b == x)
   ·go_wp2_with fail
    exact⟨⟨k+1,hlt,by go_num,fun j y hj hy=>by
     rcases Nat.lt_or_ge j k with h|h
     ·exact HA.out j y h hy
     ·obtain rfl:j=k:=by omega
      rw[HG.out] at hy
      cases hy
      exact hq,rfl⟩,by simp[intOf];omega⟩
   ·have HR:=zh (An5 HG.out hq)
    go_wp2_with fail
    go_ret
    exact⟨_,rfl,by rw[HR.out];simp,rfl⟩
  ·obtain rfl:k=bs.length:=by omega
   have HR:=zh (An4 HA.out);go_wp2_with fail
   go_ret
   exact⟨_,rfl,by rw[HR.out];rfl,rfl⟩
theorem Tl (a:Option Addr) (c:Nat) (bs:List Bool) (b:Bool) (lo:Nat) (w:World) (hl:Sl w lo w.heap.size a (bs.map Value.bool)) (hll:bs.length≤1000):
  Calls Tryz.prog 124 #[.slice a bs.length c,.bool b] w fun e w'=>e= .returned (.bool (bs.contains b))∧w'=w:=by
 have HI:=zh (Ai7 a c bs b lo w hl hll);clear hl
 go_enter Tryz.func124,Tryz.ntmps124
 go_wp2_with fail
 refine HI.out.mono ?_;rintro e w1 ⟨i,rfl,hi,rfl⟩;have H:=zh hi;clear hi
 go_wp2_with fail
 go_ret
 exact⟨by rw[←H.out];rfl,rfl⟩
def Ip (e:Int):PanicEntry:= { v:= .iface 106 (.agg #[.int .i64 e]),recovered:=false }
theorem Aev (e:Int) (a:Option Addr) (c:Nat) (bs:List Bool) (lo:Nat) (w:World) (hl:Sl w lo w.heap.size a (bs.map Value.bool)) (hll:bs.length≤1000) (hb:bs.contains false=false):
  Calls Tryz.prog 74 #[.int .i64 e,.slice a bs.length c] w fun en w'=>en= .returned (.tuple #[])∧w'=w:=by
 have HC:=Tl a c bs false lo w hl hll;rw[hb] at HC;have HC':=zh HC;clear HC hl
 go_enter Tryz.func74,Tryz.ntmps74
 go_wp2_with fail
 refine HC'.out.mono ?_;rintro en w1 ⟨rfl,rfl⟩;go_wp2_with fail
 go_end0
 exact⟨rfl,rfl⟩
theorem Yq (e:Int) (a:Option Addr) (c:Nat) (bs:List Bool) (lo:Nat) (w:World) (hl:Sl w lo w.heap.size a (bs.map Value.bool)) (hll:bs.length≤1000) (hb:bs.contains false=true):
  Calls Tryz.prog 74 #[.int .i64 e,.slice a bs.length c] w fun en w'=>en= .panicked [Ip e]∧w'=w:=by
 have HC:=Tl a c bs false lo w hl hll;rw[hb] at HC;have HC':=zh HC;clear HC hl
 go_enter Tryz.func74,Tryz.ntmps74
 go_wp2_with fail
 refine HC'.out.mono ?_;rintro en w1 ⟨rfl,rfl⟩;go_wp2_with fail
 exact⟨rfl,rfl,rfl⟩
theorem Pd (n:Int) (w:World):Calls Tryz.prog 75 #[.int .i64 n] w fun e w'=>e= .returned (.bool (countB n))∧w'=w:=by
 unfold countB;by_cases h1:0≤n<;>by_cases h2:n≤1048576
 all_goals
  go_enter Tryz.func75,Tryz.ntmps75
  go_wp2_with fail
  go_ret
  exact⟨by simp[h1,h2],rfl⟩
def Adw (w W0:World) (s:Aa) (a1 a2 a3:Option Addr) (c1 c2 c3:Nat):Prop:=∀W,Below W0.heap.size W0 W→
 (W.cell? ⟨w.heap.size,0,none⟩=some (.slice a1 s.ready.length c1)∧W.cell? ⟨w.heap.size,1,none⟩=some (.slice a2 s.outs.length c2)∧W.cell? ⟨w.heap.size,2,none⟩=some (.slice a3 s.ae.length c3)∧
  W.cell? ⟨w.heap.size,3,none⟩=some (.int .i64 s.ah)∧W.cell? ⟨w.heap.size,4,none⟩=some (.int .i64 s.af)∧W.cell? ⟨w.heap.size,5,none⟩=some (.int .i64 s.aw)∧W.cell? ⟨w.heap.size,6,none⟩=some (.int .i64 s.ar)∧W.cell? ⟨w.heap.size,7,none⟩=some (.int .i64 s.dropped))∧Below w.heap.size w W
theorem Pw (w:World) (s:Aa) (a1 a2 a3:Option Addr) (c1 c2 c3:Nat) (t:TypeId):Adw w (w.alloc (.cells (Ag s a1 a2 a3 c1 c2 c3) t)) s a1 a2 a3 c1 c2 c3:=fun W hW=>by
 have hb:=(Bk.new w t (Ag s a1 a2 a3 c1 c2 c3)).below hW (by simp);refine⟨⟨hb.cell 0,hb.cell 1,hb.cell 2,hb.cell 3,hb.cell 4,hb.cell 5,hb.cell 6,hb.cell 7⟩,((zb _ w).alloc (zn _) _).trans (hW.mono (by simp))⟩
theorem G7 {wr:World} {b o k:Nat} {x:Eh} (hc:∀j u,(Eg x)[j]? =some u→wr.cell? ⟨b,o+k * 8+j,none⟩=some u):
  wr.cell? ⟨b,o+k * 8,none⟩=some (.int .i64 x.tag)∧wr.cell? ⟨b,o+k * 8+1,none⟩=some (.int .i64 x.bg)∧wr.cell? ⟨b,o+k * 8+2,none⟩=some (.int .i64 x.queue)∧wr.cell? ⟨b,o+k * 8+3,none⟩=some (.int .i64 x.item.seq)∧
   wr.cell? ⟨b,o+k * 8+4,none⟩=some (.string x.item.key)∧wr.cell? ⟨b,o+k * 8+5,none⟩=some (.string x.item.body)∧wr.cell? ⟨b,o+k * 8+6,none⟩=some (.bool x.item.again)∧wr.cell? ⟨b,o+k * 8+7,none⟩=some (.int .i64 x.item.au):=
 ⟨hc 0 _ rfl,hc 1 _ rfl,hc 2 _ rfl,hc 3 _ rfl,hc 4 _ rfl,hc 5 _ rfl,hc 6 _ rfl,hc 7 _ rfl⟩
def Qv (l:List Eh) (t:Int):Nat:=l.countP fun x=>decide (x.bg=t)
theorem Aca {l:List Eh} {t:Int} {k:Nat} (h:k < l.length):Qv (l.take (k+1)) t=Qv (l.take k) t+if l[k].bg=t then 1 else 0:=by
 unfold Qv;rw[zj h,List.countP_append];simp[List.countP_cons]
theorem Alz (l:List Eh) (t:Int) (k:Nat):Qv (l.take k) t≤k:=by
 unfold Qv;exact zr List.countP_le_length (by rw[List.length_take];omega)
def Avt (l:List Eh) (t:Int) (W0:World) (n i:Value) (wr:World):Prop:=∃k:Nat,k≤l.length∧i= .int .i64 k∧n= .int .i64 (Qv (l.take k) t)∧Below W0.heap.size W0 wr
theorem Ajc (s:Aa) (a1 a2 a3:Option Addr) (c1 c2 c3:Nat) (t:Int) (lo:Nat) (w:World) (ho:Sl w lo w.heap.size a2 (s.outs.flatMap Eg)) (hl:s.outs.length≤1048576):
  Calls Tryz.prog 79 #[Ac s a1 a2 a3 c1 c2 c3,.int .i64 t] w fun e w'=>e= .returned (.int .i64 (Cd s t))∧Below w.heap.size w w':=by
 have hbx:=Pw w s a1 a2 a3 c1 c2 c3 31;have ho0:=(ho.below ((zb _ w).alloc (zn _) (.cells (Ag s a1 a2 a3 c1 c2 c3) 31)) (zn _)).wider (lo':=0) (hi':=(w.alloc (.cells (Ag s a1 a2 a3 c1 c2 c3) 31)).heap.size) (Nat.zero_le _) (by simp);have HO:=zh ho0;have HF:Hid (Qv s.outs t=Cd s t):=(rfl:Qv s.outs t=Cd s t);have hbb:Hid (Adw w (w.alloc (.cells (Ag s a1 a2 a3 c1 c2 c3) 31)) s a1 a2 a3 c1 c2 c3):=hbx;clear hbx ho ho0;unfold Ac;unfold Ag at *;go_enter Tryz.func79,Tryz.ntmps79
 obtain⟨⟨f0,f1,f2,f3,f4,f5,f6,f7⟩,_⟩:=hbb.out _ (zb _ _);go_wp2_with fail
 generalize w.alloc (.cells (zV s a1 a2 a3 c1 c2 c3) 31)=W0 at *;clear f0 f1 f2 f3 f4 f5 f6 f7;generalize hou:s.outs=l at *
 go_loopw [5,11] (fun n i wr=>Avt l t W0 n i wr) (fun _ i _=>l.length - (intOf i).toNat)
 case atStart=>exact⟨0,by omega,rfl,rfl,zb _ _⟩
 case round=>
  obtain⟨k,hk,rfl,rfl,hB⟩:=hrel;have HB:=zh hB;have hh:=Alz l t k;generalize hN:Qv (l.take k) t=N at *;by_cases hlt:k < l.length
  ·obtain⟨b,o,ha,_,hb,hc⟩:=Bd Dy (by decide) HO.out hlt
   subst ha;obtain⟨e0,e1,e2,e3,e4,e5,e6,e7⟩:=G7 (wr:=wr) (b:=b) (o:=o) (k:=k) (x:=l[k]) fun j u hu=>(hB.cell (p:=⟨b,_,none⟩) hb).trans (hc j u hu);have HST:=zh (Aca (t:=t) hlt);rw[hN] at HST;have HN:=zh hN;clear hc hB hN;generalize l[k]=x at *;by_cases hq:x.bg=t
   ·have hqb:(x.bg == t)=true:=by simp[hq]
    rw[zp hq] at HST;clear hq;go_wp2_with fail
    exact⟨⟨k+1,hlt,by go_num,by rw[HST.out];go_num,(HB.out.alloc HB.out.size _)⟩,by simp[intOf];omega⟩
   ·have hqb:(x.bg == t)=false:=by simp[hq]
    rw[zq hq] at HST;clear hq;go_wp2_with fail
    exact⟨⟨k+1,hlt,by go_num,by rw[HST.out];rfl,(HB.out.alloc HB.out.size _)⟩,by simp[intOf];omega⟩
  ·obtain rfl:k=l.length:=by omega
   have hF:N=Cd s t:=by rw[←hN,List.take_length,←HF.out]
   have HFN:=zh hF;clear hB hF hN;go_wp2_with fail
   go_ret
   exact⟨by rw[HFN.out];rfl,(hbb.out _ HB.out).2⟩
open Go.RowKit
open Go.Maps in
def Abp (D:DataW Unit) (l:List Int):Prop:=Tidy D∧(∀n:Int,has D (.int .i64 n)=true↔n∈l)∧∀n∈l,D.atKey (.int .i64 n) (.lit (.int .i64 0))= .lit (.int .i64 1)
theorem Vx (n:Int):WideAt.IsKeyLit (.int .i64 n):=trivial
theorem int_ne {a b:Int} (h:a≠b):Lit.int .i64 a≠Lit.int .i64 b:=fun e=>h (by simpa using e)
open Go.Maps in
theorem Afd:Abp (.map []) []:=⟨tidy_empty,fun n=>by simp[has],fun n h=>by cases h⟩
open Go.Maps in
theorem Td {D:DataW Unit} {l:List Int} (h:Abp D l) {s c:Int} (hc:D.atKey (.int .i64 s) (.lit (.int .i64 0))= .lit (.int .i64 c)):(s∉l→c=0)∧(s∈l→c=1):=by
 constructor
 ·intro hs
  rw[atKey_of_not_has (by rw[←Bool.not_eq_true];exact mt (h.2.1 s).1 hs)] at hc;simpa using hc.symm
 ·intro hs
  rw[h.2.2 s hs] at hc;simpa using hc.symm
open Go.Maps in
theorem Aib {D:DataW Unit} {l:List Int} (h:Abp D l) (s:Int):Abp (D.put (.int .i64 s) (.lit (.int .i64 1))) (l++[s]):=by
 refine⟨h.1.put (Vx _) _,fun n=> ?_,fun n hn=> ?_⟩
 ·by_cases e:n=s
  ·subst e
   rw[has_put_same h.1.isMap (Vx _)];simp
  ·rw[has_put_other (int_ne e),h.2.1 n]
   simp[e]
 ·by_cases e:n=s
  ·subst e
   rw[atKey_put_same h.1.isMap (Vx _)]
  ·rw[atKey_put_other (int_ne e)]
   have:n∈l:=by simpa [e] using hn
   exact h.2.2 n this
open Go.Maps Go.WideMaps in
structure Iv (ns:Int) (w:World) (m g:Nat) (l:List Int):Prop where
 var:w.cell? ⟨m,0,none⟩=some (.map (some g))
 map:∃D:DataW Unit,w.ownsMap Tryz.prog 3 (plainElem Tryz.prog 3) g l.length D∧Abp D l
 nodup:l.Nodup
 low:∀n∈l,n < ns
theorem Iv.grown {ns:Int} {w w':World} {m g:Nat} {l:List Int} (h:Iv ns w m g l) (hg:w.grownBy w' none):Iv ns w' m g l:=by
 obtain⟨D,hm,hs⟩:=h.map;refine⟨?_,⟨D,hm.kept hg (by simp),hs⟩,h.nodup,h.low⟩;have hlt:m < w.heap.size:=World.block_lt_of_cell? w _ h.var;exact(World.cell?_of_block (hg.block m hlt (by simp))).trans h.var
theorem Iv.below {ns:Int} {w w':World} {m g:Nat} {l:List Int} (h:Iv ns w m g l) (hb:Below w.heap.size w w'):Iv ns w' m g l:=h.grown (⟨hb.os,hb.tape,hb.output,hb.size,fun k hk _=>hb.block k hk⟩)
theorem Al0 {n:Int} (h1: -9223372036854775808≤n) (h2:n≤9223372036854775807):(Lit.int .i64 n).wf=true:=by
 simp only[Lit.wf,IntKind.min,IntKind.max,IntKind.signed,IntKind.bits,zc,zd,if_true];omega
theorem Hi {w w':World} {g:Nat} {p:Addr} {u:Value} (hg:w.grownBy w' (some g)) (h:w.cell? p=some u) (hne:p.block≠g):w'.cell? p=some u:=
 (World.cell?_of_block (hg.block p.block (World.block_lt_of_cell? w p h) (fun e=>hne (by simpa using e)))).trans h
theorem Nu {w W:World} {t:TypeId} {cs:Array Value} {bs:List Bool} (hu:bs.map Value.bool=cs.toList) (h:Below (w.heap.size+1) (w.alloc (.cells cs t)) W):Sl W 0 W.heap.size (some ⟨w.heap.size,0,none⟩) (bs.map Value.bool):=
 Adm ((Bk.new w t cs).below h (by omega)) (Nat.zero_le _) (by have:=h.size;simp at this;omega) hu
theorem Ks {e:Int} {w0:World} {cs:Array Value} {n:Nat} (bs:List Bool) (hcs:cs=(bs.map Value.bool).toArray) (hn:n=bs.length) (hb:bs.contains false=false) (hl:bs.length≤1000):
  Calls Tryz.prog 74 #[.int .i64 e,.slice (some ⟨w0.heap.size,0,none⟩) n n] (w0.alloc (.cells cs 4)) fun en w'=>en= .returned (.tuple #[])∧w'=w0.alloc (.cells cs 4):=by
 subst hcs hn;exact Aev e _ _ bs 0 _ (Nu rfl (zb _ _)) hl hb
theorem Kr {e:Int} {w0:World} {cs:Array Value} {n:Nat} (bs:List Bool) (hcs:cs=(bs.map Value.bool).toArray) (hn:n=bs.length) (hb:bs.contains false=true) (hl:bs.length≤1000):
  Calls Tryz.prog 74 #[.int .i64 e,.slice (some ⟨w0.heap.size,0,none⟩) n n] (w0.alloc (.cells cs 4)) fun en w'=>en= .panicked [Ip e]∧w'=w0.alloc (.cells cs 4):=by
 subst hcs hn;exact Yq e _ _ bs 0 _ (Nu rfl (zb _ _)) hl hb
theorem Mi {e:Int} {w0:World} {cs:Array Value} {n:Nat} (bs:List Bool) (hcs:cs=(bs.map Value.bool).toArray) (hn:n=bs.length) (hb:bs.contains false=false) (hl:bs.length≤1000):
  Calls Tryz.prog 74 #[.int .i64 e,.slice (some ⟨w0.heap.size,0,none⟩) n n] (w0.alloc (.cells cs 4)).drew fun en w'=>en= .returned (.tuple #[])∧w'=(w0.alloc (.cells cs 4)).drew:=by
 subst hcs hn;exact Aev e _ _ bs 0 _ (show Sl (w0.alloc (.cells (bs.map Value.bool).toArray 4)).drew 0 (w0.alloc (.cells (bs.map Value.bool).toArray 4)).drew.heap.size _ _ from Nu (w:=w0) (W:=w0.alloc (.cells (bs.map Value.bool).toArray 4)) (t:=4) (cs:=(bs.map Value.bool).toArray) rfl (zb _ _)) hl hb
theorem Mh {e:Int} {w0:World} {cs:Array Value} {n:Nat} (bs:List Bool) (hcs:cs=(bs.map Value.bool).toArray) (hn:n=bs.length) (hb:bs.contains false=true) (hl:bs.length≤1000):
  Calls Tryz.prog 74 #[.int .i64 e,.slice (some ⟨w0.heap.size,0,none⟩) n n] (w0.alloc (.cells cs 4)).drew fun en w'=>en= .panicked [Ip e]∧w'=(w0.alloc (.cells cs 4)).drew:=by
 subst hcs hn;exact Yq e _ _ bs 0 _ (show Sl (w0.alloc (.cells (bs.map Value.bool).toArray 4)).drew 0 (w0.alloc (.cells (bs.map Value.bool).toArray 4)).drew.heap.size _ _ from Nu (w:=w0) (W:=w0.alloc (.cells (bs.map Value.bool).toArray 4)) (t:=4) (cs:=(bs.map Value.bool).toArray) rfl (zb _ _)) hl hb
open Go.Maps Go.WideMaps in
theorem As8 (x:Ap) (m g st:Nat) (l:List Int) (ns:Int) (w:World) (hS:Iv ns w m g l) (hst:w.cell? ⟨st,3,none⟩=some (.int .i64 ns)) (hm:m≠g) (hg:st≠g) (hx1: -9223372036854775808≤x.seq) (hx2:x.seq≤9223372036854775807) (hll:l.length≤1073741824) (hnot:x.seq∉l) (hlt:x.seq < ns):
  Calls Tryz.prog 76 #[.agg (A9 x).toArray,.pointer (some ⟨m,0,none⟩),.pointer (some ⟨st,0,none⟩)] w fun e w'=>e= .returned (.tuple #[])∧Iv ns w' m g (l++[x.seq])∧w.grownBy w' (some g):=by
 obtain⟨hvar,⟨D,hown,hsd⟩,hnd,hlo⟩:=hS;unfold A9;obtain⟨seq,key,body,again,au⟩:=x;simp only at hx1 hx2 hnot hlt⊢;have hkey:keyOf Tryz.prog 3 (.int .i64 seq)=some (.int .i64 seq):=keyOf_int_mk Tryz.underlying3 (Al0 hx1 hx2);have hgl:=hown.lt;have hml:m < w.heap.size:=World.block_lt_of_cell? w _ hvar;have hsl:st < w.heap.size:=World.block_lt_of_cell? w _ hst;obtain⟨w0,hw0⟩:∃w0,w.alloc (.cells #[.int .i64 seq,.string key,.string body,.bool again,.int .i64 au] 52)=w0:=⟨_,rfl⟩;have hgr:w.grownBy w0 none:=by rw[←hw0];exact World.grownBy_alloc w _ none
 have hgs:w.grownBy w0 (some g):=by rw[←hw0];exact World.grownBy_alloc w _ _
 have hown0:w0.ownsMap Tryz.prog 3 (plainElem Tryz.prog 3) g l.length D:=hown.kept hgr (by simp);have hv0:w0.cell? ⟨m,0,none⟩=some (.map (some g)):=(World.cell?_of_block (hgr.block m hml (by simp))).trans hvar;have hs0:w0.cell? ⟨st,3,none⟩=some (.int .i64 ns):=(World.cell?_of_block (hgr.block st hsl (by simp))).trans hst;have hk0:Bk w0 w.heap.size 52 #[.int .i64 seq,.string key,.string body,.bool again,.int .i64 au]:=by rw[←hw0];exact Bk.new w _ _
 have hx0:w0.cell? ⟨w.heap.size,0,none⟩=some (.int .i64 seq):=by have:=hk0.cell 0;simpa using this
 have HO:=zh hown0;have HK:=zh hkey;have HSD:=zh hsd;have HGR:=zh hgs;have hgw:w.heap.size≠g:=by omega
 have HC:Hid (w0.cell? ⟨m,0,none⟩=some (.map (some g))∧w0.cell? ⟨st,3,none⟩=some (.int .i64 ns)∧w0.cell? ⟨w.heap.size,0,none⟩=some (.int .i64 seq)):=(⟨hv0,hs0,hx0⟩:_∧_∧_);have HNOT:=zh hnot;have hltb:(decide (seq < ns))=true:=by simp[hlt]
 have hnd2:(l++[seq]).Nodup:=by
  rw[List.nodup_append];exact⟨hnd,by simp,fun a ha b hb e=>by rw[List.mem_singleton.1 hb] at e;rw[e] at ha;exact hnot ha⟩
 have hlo2:∀n∈l++[seq],n < ns:=fun n hn=>by
  rcases List.mem_append.1 hn with h|h
  ·exact hlo n h
  ·rw[List.mem_singleton.1 h];exact hlt
 have HND:=zh (zi hnd2 hlo2);clear hnd hlo hnd2 hlo2;clear hown hown0 hkey hsd hnot hgr hgs hk0 hvar hst hlt;go_enter Tryz.func76,Tryz.ntmps76
 go_wp2_with (first
  |(at_lookup;refine wpList_lookup_own_int _ rfl _ _ 110 rfl 3 3 .i64 (int_keyed Tryz.underlying3) Tryz.underlying110 Tryz.underlying3 (by kernel_rfl) _ _ D rfl HO.out _ _ rfl HK.out ?_;intro cnt hat hwc;obtain rfl:=(Td HSD.out hat).1 HNOT.out;clear hat hwc)
  |(at_mapUpdate;refine wpList_mapUpdate_own _ rfl _ _ _ 110 rfl 3 3 (int_keyed Tryz.underlying3) Tryz.underlying110 _ _ l.length D rfl HO.out (by unfold maxLen;omega) _ _ _ rfl rfl HK.out _ [] (plainElem_int Tryz.underlying3 (by decide)) ?_;intro w1 hown1 hgrow1;have HO1:=zh hown1;have HG1:=zh hgrow1;clear hown1 hgrow1
    obtain⟨c0,c1,c2⟩:=HC.out;have d0:=Hi HG1.out c0 hm;have d1:=Hi HG1.out c1 hg;have d2:=Hi HG1.out c2 hgw;clear c0 c1 c2)
  |(at_lookup;refine wpList_lookup_own_int _ rfl _ _ 110 rfl 3 3 .i64 (int_keyed Tryz.underlying3) Tryz.underlying110 Tryz.underlying3 (by kernel_rfl) _ _ _ rfl HO1.out _ _ rfl HK.out ?_;intro cnt hat hwc;rw[atKey_put_same HSD.out.1.isMap (Vx _)] at hat;obtain rfl:1=cnt:=by simpa using hat
    clear hat hwc))
 refine(Aev 1 (some ⟨w1.heap.size,0,none⟩) 2 [true,true] 0 _ (Nu rfl (zb _ _)) (by decide) (by decide)).mono ?_;rintro e w2 ⟨rfl,rfl⟩;go_wp2_with fail
 go_end0
 have hal:w1.grownBy (w1.alloc (.cells #[Value.bool true,Value.bool true] 4)) none:=World.grownBy_alloc _ _ _;refine⟨rfl,⟨?_,⟨_,?_,Aib HSD.out seq⟩,HND.out.1,HND.out.2⟩,?_⟩
 ·exact(World.cell?_of_block (hal.block m (World.block_lt_of_cell? w1 _ d0) (by simp))).trans d0
 ·rw[ze]
  exact HO1.out.kept hal (by simp)
 ·exact Dt HGR.out (Dt HG1.out (World.grownBy_alloc _ _ _))
open Go.Maps Go.WideMaps in
theorem Am3 (x:Ap) (m g st:Nat) (l:List Int) (ns:Int) (w:World) (hS:Iv ns w m g l) (hst:w.cell? ⟨st,3,none⟩=some (.int .i64 ns)) (hm:m≠g) (hg:st≠g) (hx1: -9223372036854775808≤x.seq) (hx2:x.seq≤9223372036854775807) (hll:l.length≤1073741824) (hnot:x.seq∉l) (hlt:ns≤x.seq):
  Calls Tryz.prog 76 #[.agg (A9 x).toArray,.pointer (some ⟨m,0,none⟩),.pointer (some ⟨st,0,none⟩)] w fun e w'=>e= .panicked [Ip 1]∧w.grownBy w' (some g):=by
 obtain⟨hvar,⟨D,hown,hsd⟩,hnd,hlo⟩:=hS;unfold A9;obtain⟨seq,key,body,again,au⟩:=x;simp only at hx1 hx2 hnot hlt⊢;have hkey:keyOf Tryz.prog 3 (.int .i64 seq)=some (.int .i64 seq):=keyOf_int_mk Tryz.underlying3 (Al0 hx1 hx2);have hgl:=hown.lt;have hml:m < w.heap.size:=World.block_lt_of_cell? w _ hvar;have hsl:st < w.heap.size:=World.block_lt_of_cell? w _ hst;obtain⟨w0,hw0⟩:∃w0,w.alloc (.cells #[.int .i64 seq,.string key,.string body,.bool again,.int .i64 au] 52)=w0:=⟨_,rfl⟩;have hgr:w.grownBy w0 none:=by rw[←hw0];exact World.grownBy_alloc w _ none
 have hgs:w.grownBy w0 (some g):=by rw[←hw0];exact World.grownBy_alloc w _ _
 have hown0:w0.ownsMap Tryz.prog 3 (plainElem Tryz.prog 3) g l.length D:=hown.kept hgr (by simp);have hv0:w0.cell? ⟨m,0,none⟩=some (.map (some g)):=(World.cell?_of_block (hgr.block m hml (by simp))).trans hvar;have hs0:w0.cell? ⟨st,3,none⟩=some (.int .i64 ns):=(World.cell?_of_block (hgr.block st hsl (by simp))).trans hst;have hk0:Bk w0 w.heap.size 52 #[.int .i64 seq,.string key,.string body,.bool again,.int .i64 au]:=by rw[←hw0];exact Bk.new w _ _
 have hx0:w0.cell? ⟨w.heap.size,0,none⟩=some (.int .i64 seq):=by have:=hk0.cell 0;simpa using this
 have HO:=zh hown0;have HK:=zh hkey;have HSD:=zh hsd;have HGR:=zh hgs;have hgw:w.heap.size≠g:=by omega
 have HC:Hid (w0.cell? ⟨m,0,none⟩=some (.map (some g))∧w0.cell? ⟨st,3,none⟩=some (.int .i64 ns)∧w0.cell? ⟨w.heap.size,0,none⟩=some (.int .i64 seq)):=(⟨hv0,hs0,hx0⟩:_∧_∧_);have HNOT:=zh hnot;have hltb:(decide (seq < ns))=false:=by simp;omega
 clear hown hown0 hkey hsd hnot hgr hgs hk0 hvar hst;go_enter Tryz.func76,Tryz.ntmps76
 go_wp2_with (first
  |(at_lookup;refine wpList_lookup_own_int _ rfl _ _ 110 rfl 3 3 .i64 (int_keyed Tryz.underlying3) Tryz.underlying110 Tryz.underlying3 (by kernel_rfl) _ _ D rfl HO.out _ _ rfl HK.out ?_;intro cnt hat hwc;obtain rfl:=(Td HSD.out hat).1 HNOT.out;clear hat hwc)
  |(at_mapUpdate;refine wpList_mapUpdate_own _ rfl _ _ _ 110 rfl 3 3 (int_keyed Tryz.underlying3) Tryz.underlying110 _ _ l.length D rfl HO.out (by unfold maxLen;omega) _ _ _ rfl rfl HK.out _ [] (plainElem_int Tryz.underlying3 (by decide)) ?_;intro w1 hown1 hgrow1;have HO1:=zh hown1;have HG1:=zh hgrow1;clear hown1 hgrow1
    obtain⟨c0,c1,c2⟩:=HC.out;have d0:=Hi HG1.out c0 hm;have d1:=Hi HG1.out c1 hg;have d2:=Hi HG1.out c2 hgw;clear c0 c1 c2)
  |(at_lookup;refine wpList_lookup_own_int _ rfl _ _ 110 rfl 3 3 .i64 (int_keyed Tryz.underlying3) Tryz.underlying110 Tryz.underlying3 (by kernel_rfl) _ _ _ rfl HO1.out _ _ rfl HK.out ?_;intro cnt hat hwc;rw[atKey_put_same HSD.out.1.isMap (Vx _)] at hat;obtain rfl:1=cnt:=by simpa using hat
    clear hat hwc))
 refine(Yq 1 (some ⟨w1.heap.size,0,none⟩) 2 [true,false] 0 _ (Nu rfl (zb _ _)) (by decide) (by decide)).mono ?_;rintro e w2 ⟨rfl,rfl⟩;go_wp2_with fail
 exact⟨rfl,rfl,Dt HGR.out (Dt HG1.out (World.grownBy_alloc _ _ _))⟩
open Go.Maps Go.WideMaps in
theorem Adi (x:Ap) (m g st:Nat) (l:List Int) (ns:Int) (w:World) (hS:Iv ns w m g l) (hst:w.cell? ⟨st,3,none⟩=some (.int .i64 ns)) (hm:m≠g) (hg:st≠g) (hx1: -9223372036854775808≤x.seq) (hx2:x.seq≤9223372036854775807) (hll:l.length≤1073741824) (hnot:x.seq∈l):
  Calls Tryz.prog 76 #[.agg (A9 x).toArray,.pointer (some ⟨m,0,none⟩),.pointer (some ⟨st,0,none⟩)] w fun e w'=>e= .panicked [Ip 1]∧w.grownBy w' (some g):=by
 obtain⟨hvar,⟨D,hown,hsd⟩,hnd,hlo⟩:=hS;unfold A9;obtain⟨seq,key,body,again,au⟩:=x;simp only at hx1 hx2 hnot⊢;have hkey:keyOf Tryz.prog 3 (.int .i64 seq)=some (.int .i64 seq):=keyOf_int_mk Tryz.underlying3 (Al0 hx1 hx2);have hgl:=hown.lt;have hml:m < w.heap.size:=World.block_lt_of_cell? w _ hvar;have hsl:st < w.heap.size:=World.block_lt_of_cell? w _ hst;obtain⟨w0,hw0⟩:∃w0,w.alloc (.cells #[.int .i64 seq,.string key,.string body,.bool again,.int .i64 au] 52)=w0:=⟨_,rfl⟩;have hgr:w.grownBy w0 none:=by rw[←hw0];exact World.grownBy_alloc w _ none
 have hgs:w.grownBy w0 (some g):=by rw[←hw0];exact World.grownBy_alloc w _ _
 have hown0:w0.ownsMap Tryz.prog 3 (plainElem Tryz.prog 3) g l.length D:=hown.kept hgr (by simp);have hv0:w0.cell? ⟨m,0,none⟩=some (.map (some g)):=(World.cell?_of_block (hgr.block m hml (by simp))).trans hvar;have hs0:w0.cell? ⟨st,3,none⟩=some (.int .i64 ns):=(World.cell?_of_block (hgr.block st hsl (by simp))).trans hst;have hk0:Bk w0 w.heap.size 52 #[.int .i64 seq,.string key,.string body,.bool again,.int .i64 au]:=by rw[←hw0];exact Bk.new w _ _
 have hx0:w0.cell? ⟨w.heap.size,0,none⟩=some (.int .i64 seq):=by have:=hk0.cell 0;simpa using this
 have HO:=zh hown0;have HK:=zh hkey;have HSD:=zh hsd;have HGR:=zh hgs;have hgw:w.heap.size≠g:=by omega
 have HC:Hid (w0.cell? ⟨m,0,none⟩=some (.map (some g))∧w0.cell? ⟨st,3,none⟩=some (.int .i64 ns)∧w0.cell? ⟨w.heap.size,0,none⟩=some (.int .i64 seq)):=(⟨hv0,hs0,hx0⟩:_∧_∧_);have HNOT:=zh hnot;clear hown hown0 hkey hsd hnot hgr hgs hk0 hvar hst;obtain⟨bb,hbb⟩:∃bb,decide (seq < ns)=bb:=⟨_,rfl⟩;go_enter Tryz.func76,Tryz.ntmps76
 go_wp2_with (first
  |(at_lookup;refine wpList_lookup_own_int _ rfl _ _ 110 rfl 3 3 .i64 (int_keyed Tryz.underlying3) Tryz.underlying110 Tryz.underlying3 (by kernel_rfl) _ _ D rfl HO.out _ _ rfl HK.out ?_;intro cnt hat hwc;obtain rfl:=(Td HSD.out hat).2 HNOT.out;clear hat hwc)
  |(at_mapUpdate;refine wpList_mapUpdate_own _ rfl _ _ _ 110 rfl 3 3 (int_keyed Tryz.underlying3) Tryz.underlying110 _ _ l.length D rfl HO.out (by unfold maxLen;omega) _ _ _ rfl rfl HK.out _ [] (plainElem_int Tryz.underlying3 (by decide)) ?_;intro w1 hown1 hgrow1;have HO1:=zh hown1;have HG1:=zh hgrow1;clear hown1 hgrow1
    obtain⟨c0,c1,c2⟩:=HC.out;have d0:=Hi HG1.out c0 hm;have d1:=Hi HG1.out c1 hg;have d2:=Hi HG1.out c2 hgw;clear c0 c1 c2)
  |(at_lookup;refine wpList_lookup_own_int _ rfl _ _ 110 rfl 3 3 .i64 (int_keyed Tryz.underlying3) Tryz.underlying110 Tryz.underlying3 (by kernel_rfl) _ _ _ rfl HO1.out _ _ rfl HK.out ?_;intro cnt hat hwc;rw[atKey_put_same HSD.out.1.isMap (Vx _)] at hat;obtain rfl:2=cnt:=by simpa using hat
    clear hat hwc))
 refine(Yq 1 (some ⟨w1.heap.size,0,none⟩) 2 [false,bb] 0 _ (Nu rfl (zb _ _)) (by simp) (by cases bb<;>decide)).mono ?_;rintro e w2 ⟨rfl,rfl⟩;go_wp2_with fail
 exact⟨rfl,rfl,Dt HGR.out (Dt HG1.out (World.grownBy_alloc _ _ _))⟩
end Go.Proofs.YtaanpcjkflhomaaGreatDoor
namespace Go.Proofs.YtaanpcjkflhomaaGreatDoor
open Go.RowKit
theorem X9 (B:Nat) (e x:Int) (w:World) (hc:w.cell? ⟨B,0,none⟩=some (.int .i64 x)) (hz:w.frozen? ⟨B,0,none⟩=false):
  CallsD Tryz.prog 72 #[.pointer (some ⟨B,0,none⟩)] (.panicking [Ip e]) w fun en u' w'=>en= .returned (.tuple #[])∧u'= .panicking [{ Ip e with recovered:=true }]∧w'=(w.setCell ⟨B,0,none⟩ (.int .i64 e)).alloc (.cells #[.int .i64 e] 106):=by
 have hlt:B < w.heap.size:=World.block_lt_of_cell? w _ hc;have hne:¬ (B=w.heap.size):=by omega
 have hta:∀W:World,(Instr.typeAssert (.iface 106 (.agg #[.int .i64 e])) 20 106 true).run Tryz.prog W= .ok (.tuple #[.agg #[.int .i64 e],.bool true]) W:=fun W=>by simp[Instr.typeAssert,run_underlying Tryz.underlying106]
 unfold Ip;refine callsD_of_wpS Tryz.func72 rfl fun c₀ cs hu=> ?_
 apply wpS_seq
 apply wpS_region
 simp[wpOpsS,go_sem,recoverD,hu,Tryz.ntmps72,Exit.thenS];refine wpS_of_wp ?_
 change Code.wp _ _ _ (⟨#[.pointer (some ⟨B,0,none⟩),.iface 106 (.agg #[.int .i64 e]),undef,undef,.iface 106 (.agg #[.int .i64 e]),undef,undef,undef,undef,undef,undef,undef,undef,undef,undef,undef],[]⟩:Act) _
 go_wp2_with fail
 exact⟨rfl,_,rfl,_,results_none rfl _ _ _,rfl,rfl,rfl⟩
theorem Ajt (B:Nat) (w:World):
  CallsD Tryz.prog 72 #[.pointer (some ⟨B,0,none⟩)] .returning w fun en u' w'=>en= .returned (.tuple #[])∧u'= .returning∧Below w.heap.size w w':=by
 have hta:∀W:World,(Instr.typeAssert .nilIface 20 106 true).run Tryz.prog W= .ok (.tuple #[.agg #[.int .i64 0],.bool false]) W:=fun W=>by
  have hz:(zeroValue 106).run Tryz.prog W= .ok (.agg #[.int .i64 0]) W:=by kernel_rfl
  simp[Instr.typeAssert,run_underlying Tryz.underlying106,hz]
 refine callsD_of_wpS Tryz.func72 rfl fun c₀ cs hu=> ?_
 apply wpS_seq
 apply wpS_region
 simp[wpOpsS,go_sem,recoverD,hu,Tryz.ntmps72,Exit.thenS];refine wpS_of_wp ?_
 change Code.wp _ _ _ (⟨#[.pointer (some ⟨B,0,none⟩),.nilIface,undef,undef,.nilIface,undef,undef,undef,undef,undef,undef,undef,undef,undef,undef,undef],[]⟩:Act) _
 go_wp2_with fail
 have hb:Below w.heap.size w (w.alloc (.cells #[.int .i64 0] 106)):=(zb _ _).alloc (zn _) _;refine⟨rfl,.returning,?_,_,results_none rfl _ _ _,rfl,rfl,hb⟩
 cases c₀
 simp_all
def Lv (p:Ab) (s:Aa) (w:World) (e:Ending) (w':World):Prop:=e= .returned (.int .i64 (Ao p s))∧Below w.heap.size w w'
def Yp (B:Nat):List Deferred:=[{ target:= .fn (.func 72) #[.pointer (some ⟨B,0,none⟩)],args:= #[] }]
theorem Km {p:Ab} {s:Aa} {w W:World} {a:Act} {B:Nat} (hd:a.defers=Yp B) (ht:a.tmps[4]? =some (.pointer (some ⟨B,0,none⟩))) (hB:w.heap.size≤B) {x n:Int} (hc:W.cell? ⟨B,0,none⟩=some (.int .i64 x)) (hz:W.frozen? ⟨B,0,none⟩=false) (hb:Below w.heap.size w W) (hn:Ao p s=n):
  bodyPostD Tryz.prog Tryz.f32 (Lv p s w) (.panic [Ip n]) a W:=by
 show Leaves Tryz.prog Tryz.f32 a.tmps (Lv p s w) a.defers (.panicking [Ip n]) W
 rw[hd];have hlt:B < W.heap.size:=World.block_lt_of_cell? W _ hc;refine leaves_cons (f:=72) (args:= #[.pointer (some ⟨B,0,none⟩)]) (by simp) (by simp[go_sem]) ?_;refine(X9 B n x W hc hz).mono ?_;rintro e u' w'' ⟨rfl,rfl,rfl⟩;have hc2:((W.setCell ⟨B,0,none⟩ (.int .i64 n)).alloc (.cells #[.int .i64 n] 106)).cell? ⟨B,0,none⟩=some (.int .i64 n):=by
  rw[World.cell?_alloc_lt _ _ _ (by simp[World.setCell];omega)];exact World.cell?_setCell_same _ _ _ hc
 show Leaves Tryz.prog Tryz.f32 a.tmps (Lv p s w) [] .returning _
 refine⟨.int .i64 n,?_,by rw[hn],(hb.setCell (p:=⟨B,0,none⟩) hB _).alloc (by have:=hb.size;simp[World.setCell];omega) _⟩;simp[results,Tryz.results32,ht,go_sem,hc2]
theorem Aln {p:Ab} {s:Aa} {w W:World} {a:Act} {B:Nat} (hd:a.defers=Yp B) (ht:a.tmps[4]? =some (.pointer (some ⟨B,0,none⟩))) {n:Int} (hc:W.cell? ⟨B,0,none⟩=some (.int .i64 n)) (hb:Below w.heap.size w W) (hn:Ao p s=n):
  bodyPostD Tryz.prog Tryz.f32 (Lv p s w) .ret a W:=by
 show Leaves Tryz.prog Tryz.f32 a.tmps (Lv p s w) a.defers .returning W
 rw[hd];have hlt:B < W.heap.size:=World.block_lt_of_cell? W _ hc;refine leaves_cons (f:=72) (args:= #[.pointer (some ⟨B,0,none⟩)]) (by simp) (by simp[go_sem]) ?_;refine(Ajt B W).mono ?_;rintro e u' w'' ⟨rfl,rfl,hb2⟩;have hc2:w''.cell? ⟨B,0,none⟩=some (.int .i64 n):=(hb2.cell (p:=⟨B,0,none⟩) hlt).trans hc
 show Leaves Tryz.prog Tryz.f32 a.tmps (Lv p s w) [] .returning _
 refine⟨.int .i64 n,?_,by rw[hn],hb.trans (hb2.mono hb.size)⟩;simp[results,Tryz.results32,ht,go_sem,hc2]
open Go.RowKit
def Cx (p:Ab):Aa:=⟨List.replicate p.ag.length [],[],[],0,0,0,0,0⟩
def Ay:Aa:=⟨[],[],[],0,0,0,0,0⟩
def Hq (p:Ab):Aa:=if Bf p=0 then Cx p else Ay
def Fi:ByteArray:=⟨#[116,104,114,101,101]⟩
def Bn:Aa:=⟨[[Bj 2 Gu,Bj 3 Fi],[],[]],[⟨5,1,0,Bj 1 I3⟩],[⟨-1,1⟩,⟨0,2⟩],4,6,4,1,0⟩
theorem f3:Bi (Bj 3 Fi)=true:=Ky (by decide) (by decide) (by decide)
theorem Ano:Ci [Bj 2 Gu,Bj 3 Fi]=true:=by
 simp[Ci,Fq,f2,f3];simp[Bj]
theorem Xa:Formed Ae Bn where
 len:=rfl
 ah:=by decide
 af:=by decide
 aw:=by decide
 ar:=by decide
 dropped:=by decide
 line:=by
  intro l hl;simp only[Bn,List.mem_cons,List.not_mem_nil,or_false] at hl;rcases hl with rfl|rfl|rfl
  ·exact Ano
  ·rfl
  ·rfl
 bg:=by
  intro t ht;simp only[Bn,List.mem_cons,List.not_mem_nil,or_false] at ht;rcases ht with rfl|rfl<;>decide
 out:=by
  intro x hx;simp only[Bn,List.mem_singleton] at hx;subst hx;simp[Mc,Bn,f1]
 order:=List.pairwise_singleton _ _
 nodup:=by simp[Db,Dj,G0,Bn,Bj]
 below:=by simp[Db,Dj,G0,Bn,Bj]
theorem Af8:(Iw Ae Bn && Lc Bn)=true:=by decide
theorem Eo:Ao Ae Bn=0:=Ma D7 (by decide) Xa Af8 (by decide)
theorem Zl (p:Ab):Db (Cx p)=[]:=by
 unfold Db Dj G0 Cx;simp only[List.map_nil,List.append_nil,List.flatMap_eq_nil_iff];intro r hr;rw[List.eq_of_mem_replicate hr];rfl
theorem Ad9 (p:Ab):Formed p (Cx p) where
 len:=by simp[Cx]
 ah:=by rfl
 af:=by rfl
 aw:=by rfl
 ar:=by rfl
 dropped:=by rfl
 line:=by
  intro l hl;rw[List.eq_of_mem_replicate hl];rfl
 bg:=by simp[Cx]
 out:=by simp[Cx]
 order:=by simp[Cx]
 nodup:=by rw[Zl];exact List.nodup_nil
 below:=by rw[Zl];simp
theorem Ta:Ao Ae (Cx Ae)=0:=Ma D7 (by decide) (Ad9 _) (by decide) (by decide)
theorem Fw:Am Bn:=by
 refine⟨by decide,by decide,by decide,?_,?_,by decide⟩
 ·intro l hl
  simp only[Bn,List.mem_cons,List.not_mem_nil,or_false] at hl;rcases hl with rfl|rfl|rfl
  ·exact⟨by decide,by simp[s2,J2 (n:=3) (b:=Fi) (by decide) (by decide) (by decide)]⟩
  ·exact⟨by decide,by simp⟩
  ·exact⟨by decide,by simp⟩
 ·intro x hx
  simp only[Bn,List.mem_singleton] at hx;subst hx;exact s1
theorem Wv {p:Ab} (h:Ai p):Am (Cx p):=by
 refine⟨by simp[Cx,h.ag],by simp[Cx],by simp[Cx],?_,by simp[Cx],by simp[Cx]⟩;intro l hl;rw[List.eq_of_mem_replicate hl];exact⟨by simp,by simp⟩
end Go.Proofs.YtaanpcjkflhomaaGreatDoor
namespace Go.Proofs.YtaanpcjkflhomaaGreatDoor
open Go.RowKit
theorem Aeo:(Tryz.prog.info? 50).map (fun i=>(i.zero,i.size,i.bytes))=some (some (.slice none 0 0),1,24):=by kernel_rfl
theorem Aco (n:Nat) (hn:n≤4294967296) (w:World):(Instr.makeSlice 27 (.int .i64 n) (.int .i64 n)).run Tryz.prog w= .ok (.slice (some ⟨w.heap.size,0,none⟩) n n) (w.alloc (.cells (List.replicate n (.slice none 0 0)).toArray 50)):=
 Pm (P:=Tryz.prog) Tryz.underlying27 Aeo rfl n n rfl (by omega) hn w
def zeroCells:Array Value:=zO
def M3 (p:Ab):List Bq:=List.replicate p.ag.length ⟨none,0,[]⟩
theorem Zk (p:Ab):(M3 p).flatMap Nv=List.replicate p.ag.length (.slice none 0 0):=by
 unfold M3
 induction p.ag.length with
 |zero=>rfl
 |succ n ih=>rw[List.replicate_succ,List.flatMap_cons,ih,List.replicate_succ];rfl
theorem Af3 {p:Ab} {w:World} {lo hi:Nat} {a:Option Addr} (h:Sl w lo hi a (List.replicate p.ag.length (.slice none 0 0))):Ax w lo hi a none none (M3 p) (Cx p) where
 same:=by simp[M3,Cx]
 ready:=by rw[Zk];exact h
 row:=by
  intro r hr;rw[List.eq_of_mem_replicate hr];exact⟨Sl.nil _ _ _ _,zn _⟩
 outs:=Sl.nil _ _ _ _
 ae:=Sl.nil _ _ _ _
theorem Ki (w:World) (lo hi:Nat):Ax w lo hi none none none [] Ay where
 same:=rfl
 ready:=Sl.nil _ _ _ _
 row:=by intro r hr;cases hr
 outs:=Sl.nil _ _ _ _
 ae:=Sl.nil _ _ _ _
theorem Af {w:World} {g:Nat} {t:TypeId} {v0 v1 v2 v3 v4 v5 v6 v7:Value} (h:Bk w g t #[v0,v1,v2,v3,v4,v5,v6,v7]):
  w.cell? ⟨g,0,none⟩=some v0∧w.cell? ⟨g,1,none⟩=some v1∧w.cell? ⟨g,2,none⟩=some v2∧w.cell? ⟨g,3,none⟩=some v3∧w.cell? ⟨g,4,none⟩=some v4∧w.cell? ⟨g,5,none⟩=some v5∧w.cell? ⟨g,6,none⟩=some v6∧w.cell? ⟨g,7,none⟩=some v7∧
   w.frozen? ⟨g,0,none⟩=false∧w.frozen? ⟨g,1,none⟩=false∧w.frozen? ⟨g,2,none⟩=false∧w.frozen? ⟨g,3,none⟩=false∧w.frozen? ⟨g,4,none⟩=false∧w.frozen? ⟨g,5,none⟩=false∧w.frozen? ⟨g,6,none⟩=false∧w.frozen? ⟨g,7,none⟩=false∧g < w.heap.size:=
 ⟨h.cell 0,h.cell 1,h.cell 2,h.cell 3,h.cell 4,h.cell 5,h.cell 6,h.cell 7,h.frozen 0,h.frozen 1,h.frozen 2,h.frozen 3,h.frozen 4,h.frozen 5,h.frozen 6,h.frozen 7,h.lt⟩
theorem Ak {w W:World} {B g:Nat} (h:Below B w W) (hg:B≤g) (v0 v1 v2 v3 v4 v5 v6 v7:Value):Below B w ((((((((W.setCell ⟨g,0,none⟩ v0).setCell ⟨g,1,none⟩ v1).setCell ⟨g,2,none⟩ v2).setCell ⟨g,3,none⟩ v3).setCell ⟨g,4,none⟩ v4).setCell ⟨g,5,none⟩ v5).setCell ⟨g,6,none⟩ v6).setCell ⟨g,7,none⟩ v7):=
 (((((((h.setCell hg _).setCell hg _).setCell hg _).setCell hg _).setCell hg _).setCell hg _).setCell hg _).setCell hg _
theorem Rm {W:World} {g k:Nat} {t:TypeId} {cs:Array Value} (h:Bk W k t cs) (hg:k≠g) (v0 v1 v2 v3 v4 v5 v6 v7:Value):Bk ((((((((W.setCell ⟨g,0,none⟩ v0).setCell ⟨g,1,none⟩ v1).setCell ⟨g,2,none⟩ v2).setCell ⟨g,3,none⟩ v3).setCell ⟨g,4,none⟩ v4).setCell ⟨g,5,none⟩ v5).setCell ⟨g,6,none⟩ v6).setCell ⟨g,7,none⟩ v7) k t cs:=
 (((((((h.far hg _).far hg _).far hg _).far hg _).far hg _).far hg _).far hg _).far hg _
end Go.Proofs.YtaanpcjkflhomaaGreatDoor
namespace Go.Proofs.YtaanpcjkflhomaaGreatDoor
open Go.RowKit
def Sk:Array Value:= #[.int .i64 2,.string ⟨#[120,46,121]⟩,.string Gu,.bool false,.int .i64 0,.int .i64 3,.string ⟨#[120,46,121]⟩,.string Fi,.bool false,.int .i64 0]
def U2 (g0:Nat):Array Value:= #[.slice (some ⟨g0,0,none⟩) 2 2,.slice none 0 0,.slice none 0 0]
def Abx:Array Value:= #[.int .i64 5,.int .i64 1,.int .i64 0,.int .i64 1,.string ⟨#[120,46,121]⟩,.string I3,.bool false,.int .i64 0]
def Vu:Array Value:= #[.int .i64 (-1),.int .i64 1,.int .i64 0,.int .i64 2]
def Gp (g0:Nat):List Bq:=[⟨some ⟨g0,0,none⟩,2,[Bj 2 Gu,Bj 3 Fi]⟩,⟨none,0,[]⟩,⟨none,0,[]⟩]
structure Kj (w:World) (lo g0 g1 g2 g3:Nat):Prop where
 items:Bk w g0 52 Sk
 rows:Bk w g1 50 (U2 g0)
 outs:Bk w g2 77 Abx
 ae:Bk w g3 79 Vu
 low:lo≤g0∧lo≤g1∧lo≤g2∧lo≤g3
 apart:g0≠g1∧g0≠g2∧g0≠g3∧g1≠g2∧g1≠g3∧g2≠g3
theorem Kj.below {w w':World} {lo g0 g1 g2 g3:Nat} (h:Kj w lo g0 g1 g2 g3) (hb:Below w.heap.size w w'):Kj w' lo g0 g1 g2 g3:=
 ⟨h.items.below hb h.items.lt,h.rows.below hb h.rows.lt,h.outs.below hb h.outs.lt,h.ae.below hb h.ae.lt,h.low,h.apart⟩
theorem Ait {w:World} {g0 g1 g2 g3:Nat} {o t:Array Value} {s:Aa} (hi:Bk w g0 52 Sk) (hr:Bk w g1 50 (U2 g0)) (ho:Bk w g2 77 o) (ht:Bk w g3 79 t)
  (h1:s.ready=Bn.ready) (h2:s.outs.flatMap Eg=o.toList) (h3:s.ae.flatMap El=t.toList):Ax w 0 w.heap.size (some ⟨g1,0,none⟩) (some ⟨g2,0,none⟩) (some ⟨g3,0,none⟩) (Gp g0) s where
 same:=by rw[h1];rfl
 ready:=Sl.of_bk hr (Nat.zero_le _) hr.lt rfl
 row:=by
  intro r h;simp only[Gp,List.mem_cons,List.not_mem_nil,or_false] at h;rcases h with rfl|rfl|rfl
  ·exact⟨Sl.of_bk hi (Nat.zero_le _) hi.lt rfl,zn _⟩
  ·exact⟨Sl.nil _ _ _ _,zn _⟩
  ·exact⟨Sl.nil _ _ _ _,zn _⟩
 outs:=Sl.of_bk ho (Nat.zero_le _) ho.lt h2
 ae:=Sl.of_bk ht (Nat.zero_le _) ht.lt h3
theorem Kj.state {w:World} {lo g0 g1 g2 g3:Nat} (h:Kj w lo g0 g1 g2 g3):Ax w 0 w.heap.size (some ⟨g1,0,none⟩) (some ⟨g2,0,none⟩) (some ⟨g3,0,none⟩) (Gp g0) Bn:=
 Ait h.items h.rows h.outs h.ae rfl rfl rfl
def O6 (g1 g2 g3:Nat):Value:= .agg #[.slice (some ⟨g1,0,none⟩) 3 3,.slice (some ⟨g2,0,none⟩) 1 1,.slice (some ⟨g3,0,none⟩) 2 2,.int .i64 4,.int .i64 6,.int .i64 4,.int .i64 1,.int .i64 0]
theorem Fe (w:World):Calls Tryz.prog 58 #[] w fun e w'=>∃g0 g1 g2 g3,e= .returned (O6 g1 g2 g3)∧Kj w' w.heap.size g0 g1 g2 g3∧Below w.heap.size w w':=by
 go_enter Tryz.func58,Tryz.ntmps58
 go_wp2_with fail
 have hbR:∀W,Below (w.alloc (.cells zeroCells 31)).heap.size (w.alloc (.cells zeroCells 31)) W→Bk W w.heap.size 31 zeroCells∧Below w.heap.size w W∧w.heap.size < W.heap.size:=fun W hW=>
  ⟨(Bk.new _ _ _).below hW (by simp),((zb _ _).alloc (zn _) _).trans (hW.mono (by simp)),by have:=hW.size;simp at this;omega⟩
 unfold zeroCells at hbR;generalize w.alloc (.cells zO 31)=W0 at *;have HBR:=zh hbR;clear hbR
 refine(Mn 2 _ W0).mono ?_;rintro e w1 ⟨rfl,hb1⟩;have HB1:=zh hb1;clear hb1
 go_wp2_with fail
 refine(Mn 3 _ w1).mono ?_;rintro e w2 ⟨rfl,hb2⟩;have HB2:=zh (HB1.out.trans (hb2.mono HB1.out.size));clear hb2 HB1
 go_wp2_with fail
 obtain⟨W3,hW3⟩:∃W3,(w2.alloc (.cells #[.int .i64 2,.string ⟨#[120,46,121]⟩,.string ⟨#[116,119,111]⟩,.bool false,.int .i64 0,.int .i64 3,.string ⟨#[120,46,121]⟩,.string ⟨#[116,104,114,101,101]⟩,.bool false,.int .i64 0] 52)).alloc (.cells #[.slice (some ⟨w2.heap.size,0,none⟩) 2 2,.slice none 0 0,.slice none 0 0] 50)=W3:=⟨_,rfl⟩;have hz3:W3.heap.size=w2.heap.size+2:=by rw[←hW3];simp
 have k0:Bk W3 w2.heap.size 52 Sk:=by rw[←hW3];exact(Bk.new _ _ _).alloc _
 have k1:Bk W3 (w2.heap.size+1) 50 (U2 w2.heap.size):=by rw[←hW3];exact Bk.cg _ _ _ (by simp)
 have hb3:Below W0.heap.size W0 W3:=by rw[←hW3];exact(HB2.out.alloc HB2.out.size _).alloc (by have:=HB2.out.size;simp;omega) _
 rw[hW3];have K0:=zh k0;have K1:=zh k1;have HB3:=zh hb3;have HZ3:=zh hz3
 have HZ2:=zh HB2.out.size;clear k0 k1 hb3 hz3 hW3 HB2;refine(Mn 1 _ W3).mono ?_;rintro e w4 ⟨rfl,hb4⟩;have K0':=zh (K0.out.below hb4 K0.out.lt);have K1':=zh (K1.out.below hb4 K1.out.lt)
 have HZ4:=zh hb4.size;have HB4:=zh (HB3.out.trans (hb4.mono HB3.out.size));clear hb4 HB3 K0 K1
 obtain⟨hbk,hbelow,_⟩:=HBR.out _ HB4.out;obtain⟨c0,c1,c2,c3,c4,c5,c6,c7,f0,f1,f2,f3,f4,f5,f6,f7,hlt⟩:=Af hbk;go_wp2_with fail
 have hz2:=HZ2.out;have hz3:=HZ3.out;have hz4:=HZ4.out
 have hw0:=(HBR.out W0 (zb _ _)).2.2;refine bodyPost_ret (v:=O6 (w2.heap.size+1) w4.heap.size (w4.heap.size+1)) (by simp[results,Tryz.results58,go_sem,O6,c0,c1,c2,c3,c4,c5,c6,c7,hlt]) rfl
  ⟨w2.heap.size,w2.heap.size+1,w4.heap.size,w4.heap.size+1,rfl,⟨?_,?_,?_,?_,⟨by omega,by omega,by omega,by omega⟩,by omega,by omega,by omega,by omega,by omega,by omega⟩,?_⟩
 ·exact((Rm K0'.out (by omega) _ _ _ _ _ _ _ _).alloc _).alloc _
 ·exact((Rm K1'.out (by omega) _ _ _ _ _ _ _ _).alloc _).alloc _
 ·exact(Bk.cg _ _ _ (by simp[World.setCell])).alloc _
 ·exact Bk.cg _ _ _ (by simp[World.setCell])
 ·exact((Ak hbelow (zn _) _ _ _ _ _ _ _ _).alloc (by simpa [World.setCell] using hbelow.size) _).alloc (by have:=hbelow.size;simp[World.setCell];omega) _
end Go.Proofs.YtaanpcjkflhomaaGreatDoor
