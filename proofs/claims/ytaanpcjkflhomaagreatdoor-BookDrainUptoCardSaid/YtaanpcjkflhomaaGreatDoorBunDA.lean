/-
  The plain law of the book: a queue is emptied, letter by letter. No program in sight.
-/
import Derived.Test.YtaanpcjkflhomaaGreatDoorBunCA
import Derived.Test.YtaanpcjkflhomaaGreatDoorBunJ
import Derived.Test.YtaanpcjkflhomaaGreatDoorBunCB
set_option maxHeartbeats 20000000
set_option maxRecDepth 100000
set_option linter.unusedSimpArgs false
set_option linter.unusedVariables false
namespace Go.Proofs.YtaanpcjkflhomaaGreatDoor
theorem Avd {p:Ab} {s:Aa} {q:Int} (h:Bw p s q=0):
  ∃(k:Nat) (x:Ap) (rest:List Ap),q=(k:Int)∧k < s.ready.length∧s.ready[k]? =some (x::rest)∧Ii s q=x∧Dr p (Ca p s q) (Dm p s q)=0∧
   Ha p (Ca p s q) (Dm p s q)= { s with ready:=s.ready.set k rest,af:=s.af+1,ar:=s.ar+1 } ∧
   Cs p { s with ready:=s.ready.set k rest,af:=s.af+1,ar:=s.ar+1 } :=by
 obtain⟨i,hb,he,_,e,hR1⟩:=Gv h;obtain⟨h0,ht⟩:=J7.1 h;obtain⟨r,hl,hr⟩:=Mg h0;obtain⟨h1,_,_⟩:=Lq.1 h0;obtain⟨hR,hq0,hq1⟩:=Fv.1 h1;obtain⟨k,rfl⟩:=Int.eq_ofNat_of_zero_le hq0;rw[Int.toNat_natCast] at hr;have hkr:k < s.ready.length:=(List.getElem?_eq_some_iff.1 hr).1;have eT:Dm p s (k:Int)=s.af:=by unfold Dm;rw[zp h]
 rw[e,eT];have hk1:Ka (Du s (k:Int) i) s.af=some s.outs.length:=by
  refine Ae0 (by unfold Du;simp) (by unfold Du;simp) (fun j hj=> ?_);have:(Du s (k:Int) i).outs[j]'(by unfold Du;simp;omega)=s.outs[j]:=by unfold Du;simp[List.getElem_append_left hj]
  rw[this];have:=(Qj hR hj).2.2.2;omega
 obtain⟨e1,e2,e3⟩:=Rh hR1 hk1;have ew:Au (Du s (k:Int) i) s.outs.length= { s with ready:=s.ready.set k r,af:=s.af+1 } :=by
  unfold Au Du;rw[List.eraseIdx_append_of_length_le (zn _),Nat.sub_self,hl,Int.toNat_natCast];simp
 have ea:Ha p (Du s (k:Int) i) s.af= { s with ready:=s.ready.set k r,af:=s.af+1,ar:=s.ar+1 } :=by
  rw[e2,ew];rfl
 rw[ea] at e3;exact⟨k,_,r,rfl,hkr,hr,rfl,e1,ea,e3⟩
def Nq (s:Aa) (q:Int):Bool:=s.ae.any fun t=>decide (t.queue=q)
def As (s:Aa) (q:Int) (i:Nat):Aa:=
 { s with ae:=joinL s.ae ⟨q,1⟩,ready:=s.ready.set q.toNat ((Ah s q).drop i),af:=s.af+i,ar:=s.ar+i }
def Ck (p:Ab) (s:Aa) (q:Int):Int:=
 if B5 p s q≠0 then B5 p s q else if Nq s q=true then 9 else if Cc p s q 1≠0 then Cc p s q 1 else if 1048576 < s.af+(Ah s q).length then 2 else 0
def Gl (p:Ab) (s:Aa) (q:Int):Aa:=
 if Ck p s q=0 then { As s q (Ah s q).length with ae:=joinL s.ae ⟨-1,1⟩ } else Ay
def Ih (p:Ab) (s:Aa) (q:Int):List ByteArray:=if Ck p s q=0 then (Ah s q).map (·.body) else []
theorem L6 {p:Ab} {s:Aa} (h:Cs p s) {k:Nat} (hk:(k:Int) < (p.ag.length:Int)):∃hk:k < s.ready.length,Ah s (k:Int)=s.ready[k]:=by
 have hl:=h.len;refine⟨by omega,?_⟩;unfold Ah;rw[Int.toNat_natCast,zG (by omega)];rfl
theorem Rl {p:Ab} {s:Aa} {k:Nat} (h:Cc p s (k:Int) 1=0):As s (k:Int) 0=Fh p s (k:Int) 1:=by
 obtain⟨ha,_,_⟩:=Ko.1 h;obtain⟨hR,_,hq⟩:=Fv.1 ha;obtain⟨hk,e⟩:=L6 hR hq;unfold As Fh;rw[zp h,e,Int.toNat_natCast,List.drop_zero,List.set_getElem_self];simp
theorem Agr {p:Ab} {s:Aa} (h:Cs p s) {k:Nat} (hk:(k:Int) < (p.ag.length:Int)) (i:Nat):Ah (As s (k:Int) i) (k:Int)=(Ah s (k:Int)).drop i:=by
 obtain⟨hk,_⟩:=L6 h hk
 show(((s.ready.set (k:Int).toNat _)[(k:Int).toNat]?).getD [])=_
 rw[Int.toNat_natCast,List.getElem?_set_self hk];rfl
theorem Xh {p:Ab} {s:Aa} {k:Nat} (h:Cc p s (k:Int) 1=0) (i:Nat):Kw (As s (k:Int) i) (k:Int) (Em s.ae):=by
 obtain⟨ha,_,_⟩:=Ko.1 h;obtain⟨hR,_,_⟩:=Fv.1 ha;refine⟨⟨k,1⟩,?_,rfl,?_⟩
 ·show(joinL s.ae _)[Em s.ae]? =_
  rw[Ji,zp rfl]
 ·have:Cd s (Em s.ae)=0:=Su hR.toFormed fun t ht=>Kn ht
  show((Cd s (Em s.ae):Nat):Int) < 1
  omega
theorem Ub {p:Ab} {s:Aa} {k:Nat} (h:Cc p s (k:Int) 1=0) {i:Nat} (hi:i < (Ah s (k:Int)).length) (hR:Cs p (As s (k:Int) i)):
  (s.af+i=1048576→Bw p (As s (k:Int) i) (k:Int)=2)∧
  (s.af+i≠1048576→Bw p (As s (k:Int) i) (k:Int)=0∧Ii (As s (k:Int) i) (k:Int)=(Ah s (k:Int))[i]∧
   Dr p (Ca p (As s (k:Int) i) (k:Int)) (Dm p (As s (k:Int) i) (k:Int))=0∧
   Ha p (Ca p (As s (k:Int) i) (k:Int)) (Dm p (As s (k:Int) i) (k:Int))=As s (k:Int) (i+1)∧Cs p (As s (k:Int) (i+1))):=by
 obtain⟨ha,_,_⟩:=Ko.1 h;obtain⟨hR0,_,hq⟩:=Fv.1 ha;have hline:=Agr hR0 hq i;have hd:(Ah s (k:Int)).drop i=(Ah s (k:Int))[i]::(Ah s (k:Int)).drop (i+1):=List.drop_eq_getElem_cons hi;have hn:De p (As s (k:Int) i) (k:Int)=0:=by
  refine Lq.2 ⟨Fv.2 ⟨hR,by omega,hq⟩,by rw[hline,List.length_drop];omega,?_⟩;unfold Io;rcases L4 hR (k:Int) (As s (k:Int) i).ae.length with⟨_,hno⟩|⟨j,_,e,_⟩
  ·exact absurd (Xh h i) (hno _ (Xh h i).lt)
  ·rw[e]
   show ¬ ((j:Nat):Int) < 0
   omega
 refine⟨fun ht=> ?_,fun ht=> ?_⟩
 ·unfold Bw
  rw[zq (by rw[hn];decide),zp (show(As s (k:Int) i).af=1048576 from ht)]
 ·have h0:Bw p (As s (k:Int) i) (k:Int)=0:=J7.2 ⟨hn,ht⟩
  obtain⟨k',x,r,hk,hkr,hr,hx,e1,e2,e3⟩:=Avd h0;have hk':k'=k:=by omega
  subst hk';have hl2:Ah (As s (k':Int) i) (k':Int)=x::r:=by unfold Ah;rw[Int.toNat_natCast,hr];rfl
  rw[hline,hd] at hl2;obtain⟨rfl,rfl⟩:=List.cons.inj hl2;have e4:({ As s (k':Int) i with ready:=(As s (k':Int) i).ready.set k' ((Ah s (k':Int)).drop (i+1)),af:=(As s (k':Int) i).af+1,ar:=(As s (k':Int) i).ar+1 } :Aa)=As s (k':Int) (i+1):=by
   unfold As;simp only[Int.toNat_natCast,List.set_set]
   congr 1<;>omega
  rw[e4] at e2 e3;exact⟨h0,hx,e1,e2,e3⟩
theorem Mw {p:Ab} {s:Aa} {k:Nat} (h:Cc p s (k:Int) 1=0):∀i:Nat,i≤(Ah s (k:Int)).length→s.af+i≤1048576→Cs p (As s (k:Int) i)
 |0,_,_=>by rw[Rl h];exact Ou h
 |i+1,hi,ht=>((Ub h (by omega) (Mw h i (by omega) (by omega))).2 (by omega)).2.2.2.2
theorem Pf {p:Ab} {s:Aa} {q:Int} :Ck p s q=0↔Cc p s q 1=0∧Nq s q=false∧s.af+(Ah s q).length≤1048576:=by
 unfold Ck
 split
 ·rename_i h
  exact⟨fun e=>absurd e h,fun e=>absurd (Ko.1 e.1).1 h⟩
 ·split
  ·rename_i h
   exact⟨fun e=>(by cases e),fun e=>(by rw[e.2.1] at h;cases h)⟩
  ·rename_i h1
   split
   ·rename_i h
    exact⟨fun e=>absurd e h,fun e=>absurd e.1 h⟩
   ·rename_i h2
    split
    ·exact⟨fun e=>(by cases e),fun e=>(by omega)⟩
    ·exact⟨fun _=>⟨by omega,by simpa using h1,by omega⟩,fun _=>rfl⟩
structure At0 (p:Ab) (s:Aa) (k:Nat) (x:Aa):Prop where
 right:Cs p x
 isK:k < s.ready.length
 line:Ah s (k:Int)=s.ready[k]
 eq_:x= { s with ae:=joinL s.ae ⟨-1,1⟩,ready:=s.ready.set k [],af:=s.af+s.ready[k].length,ar:=s.ar+s.ready[k].length }
theorem Ua {p:Ab} {s:Aa} {q:Int} (h:Ck p s q=0):∃k:Nat,q=(k:Int)∧At0 p s k (Gl p s q):=by
 obtain⟨hj,_,hn⟩:=Pf.1 h;obtain⟨ha,_,_⟩:=Ko.1 hj;obtain⟨hR,hq0,hq⟩:=Fv.1 ha;obtain⟨k,rfl⟩:=Int.eq_ofNat_of_zero_le hq0;obtain⟨hk,hl⟩:=L6 hR hq;have hr:=Mw hj _ (zn _) hn;have hS:Gl p s (k:Int)= { As s (k:Int) (Ah s (k:Int)).length with ae:=joinL s.ae ⟨-1,1⟩ } :=by unfold Gl;rw[zp h]
 have ht:(As s (k:Int) (Ah s (k:Int)).length).ae=joinL s.ae ⟨k,1⟩:=rfl;have ho:(As s (k:Int) (Ah s (k:Int)).length).outs=s.outs:=rfl;refine⟨k,rfl,?_,hk,hl,?_⟩
 ·rw[hS]
  generalize As s (k:Int) (Ah s (k:Int)).length=c at *;have hh:∀i:Nat,Cd c i=Cd s i:=fun i=>by unfold Cd;rw[ho]
  have hm:(joinL s.ae ⟨-1,1⟩).length=c.ae.length:=by rw[ht,Vz,Vz]
  exact {
      len:=hr.len,ah:=hr.ah,af:=hr.af,aw:=hr.aw,ar:=hr.ar,dropped:=hr.dropped,line:=hr.line,order:=hr.order,nodup:=hr.nodup,below:=hr.below,bm:=hr.bm,bz:=hr.bz,sum:=hr.sum,same:=hr.same
      many:=by show(joinL s.ae ⟨-1,1⟩).length≤4;rw[hm];exact hr.many
      bg:=fun x hx=>by
       rcases Acp (show x∈joinL s.ae ⟨-1,1⟩ from hx) with rfl|h1
       ·unfold Im
        simp only[zc,zd];exact⟨⟨⟨by decide,by show(-1:Int) < _;omega⟩,by decide⟩,by decide⟩
       ·exact hR.bg x h1
      out:=fun x hx=>by
       have hx':x∈s.outs:=by rw[←ho];exact hx
       obtain⟨y,h1,h2,h3,h4,h5,h6,h7,h8⟩:=O0 hr.toFormed (show x∈c.outs from hx);obtain⟨z,z1,z2,_⟩:=O0 hR.toFormed hx';have hne:x.bg.toNat≠Em s.ae:=fun e=>by
        rw[e] at z1;have:=Kn z1;omega
       refine Aik (t:=y) ?_ h2 h3 h4 h5 h6 h8;rw[ht,Ji,zq hne] at h1
       show(joinL s.ae ⟨-1,1⟩)[x.bg.toNat]? =_
       rw[Ji,zq hne];exact h1
      held:=fun i x hx=>by
       have hx':(joinL s.ae ⟨-1,1⟩)[i]? =some x:=hx
       show(Cd c i:Int)≤x.cf
       rw[hh];rw[Ji] at hx'
       split at hx'
       ·rename_i hi
        have e:(⟨-1,1⟩:B6)=x:=by simpa using hx'
        have:Cd s i=0:=Su hR.toFormed fun y hy=>Kn (hi▸hy);rw[this,←e]
        decide
       ·exact hR.held i x hx' }
 ·rw[hS]
  unfold As;rw[hl,Int.toNat_natCast,List.drop_length]
open Go Go.RowKit
theorem An1:∀args w,(callFunc 64 args).run Tryz.prog w= .ok (.enter 64 args) w:=enters_of Tryz.func64 (by kernel_rfl) rfl
theorem Aj3 (t:B6) (q:Int) (b:Nat) (w:World) (hq:w.cell? ⟨b,0,none⟩=some (.int .i64 q)) (hb:b < w.heap.size):Calls Tryz.prog 64 #[.agg (El t).toArray,.pointer (some ⟨b,0,none⟩)] w fun e w'=>e= .returned (.bool (decide (t.queue=q)))∧Below w.heap.size w w':=by
 have hb2:=(zb w.heap.size w).alloc (zn _) (.cells #[.int .i64 t.queue,.int .i64 t.cf] 79);have hq2:=(hb2.cell (p:=⟨b,0,none⟩) hb).trans hq;clear hq;unfold El;go_enter Tryz.func64,Tryz.ntmps64
 go_wp2_with fail
 go_ret
 exact⟨rfl,hb2⟩
theorem Cm.takerQ {w:World} {lo g C k N:Nat} {v1 v2:Value} {rows:List Bq} {s:Aa} (h:Cm w lo v1 v2 (.slice (some ⟨g,0,none⟩) N C) rows s) (hN:N=s.ae.length) {t:B6} (hk:s.ae[k]? =some t) (q:Int):
  Cm (w.setCell ⟨g,k * 2,none⟩ (.int .i64 q)) lo v1 v2 (.slice (some ⟨g,0,none⟩) N C) rows { s with ae:=s.ae.set k ⟨q,t.cf⟩ } ∧Al [79] w (w.setCell ⟨g,k * 2,none⟩ (.int .i64 q)):=by
 subst hN;obtain⟨hkl,rfl⟩:=List.getElem?_eq_some_iff.1 hk;have hst:=h.ae.stored (k * 2) (.int .i64 q);have hkp:Al [79] w (w.setCell ⟨g,k * 2,none⟩ (.int .i64 q)):=Al.grown h.ae hst.2 (by decide);refine⟨⟨h.same,Cz h.ready hkp (by decide),fun r hr=>⟨(h.row r hr).1.keep hkp (by decide),(h.row r hr).2⟩,Cz h.outs hkp (by decide),?_⟩,hkp⟩;have h3:=hst.1;have e:(s.ae.flatMap El).set (k * 2) (.int .i64 q)=(s.ae.set k ⟨q,s.ae[k].cf⟩).flatMap El:=by
  have h4:=Uc s.ae k hkl q s.ae[k].cf;rw[←h4];have h5:((s.ae.flatMap El).set (k * 2) (.int .i64 q))[k * 2+1]? =some (.int .i64 s.ae[k].cf):=by
   rw[List.getElem?_set_ne (by omega)];exact(flat_get Cy _ k hkl 1 (by decide)).trans rfl
  obtain⟨h6,h7⟩:=List.getElem?_eq_some_iff.1 h5;rw[←h7,List.set_getElem_self h6]
 rw[e] at h3
 show World.ownsRow _ _ _ _ _ (s.ae.set k _).length _
 rw[List.length_set];exact h3
theorem Acb (l:List B6) (t u:B6):(joinL l t).set (Em l) u=joinL l u:=by
 unfold joinL Em
 cases I6 l with
 |some k=>simp
 |none=>simp
open Go Go.RowKit
def Pq (x:Aa) (l:List ByteArray) (err:Int) (w:World) (e:Ending) (w':World):Prop:=
 ∃a1 a2 a3 c1 c2 c3 rows al cl,e= .returned (.tuple #[Ac x a1 a2 a3 c1 c2 c3,.slice al l.length cl,.int .i64 err])∧Ax w' w.heap.size w'.heap.size a1 a2 a3 rows x∧Sl w' w.heap.size w'.heap.size al (l.map Value.string)∧Below w.heap.size w w'
theorem Ab2 {p:Ab} {s:Aa} {q:Int} {err:Int} (h:Ck p s q=err) (h0:err≠0):Gl p s q=Ay∧Ih p s q=[]∧Ck p s q=err:=
 ⟨by unfold Gl;rw[zq (by rw[h];exact h0)],by unfold Ih;rw[zq (by rw[h];exact h0)],h⟩
theorem N3 {p:Ab} {s:Aa} {q:Int} {err:Int} (h:Ck p s q=err) (h0:err≠0) (w W:World) (hb:Below w.heap.size w W):Pq (Gl p s q) (Ih p s q) (Ck p s q) w (.returned (.tuple #[Ac Ay none none none 0 0 0,.slice none 0 0,.int .i64 err])) W:=by
 obtain⟨h1,h2,h3⟩:=Ab2 h h0;rw[h1,h2,h3];exact⟨none,none,none,0,0,0,[],none,0,rfl,Ki _ _ _,Sl.nil _ _ _ _,hb⟩
def Ak7 (p:Ab) (s:Aa) (k:Nat) (G lo:Nat) (W0:World) (l e:Value) (wr:World):Prop:=
 (∃(i:Nat) (b1 b2 b3:Option Addr) (d1 d2 d3:Nat) (rows:List Bq),i≤(Ah s (k:Int)).length∧s.af+i≤1048576∧e= .int .i64 0∧Bk wr G 31 (Ag (As s (k:Int) i) b1 b2 b3 d1 d2 d3)∧
  Cm wr lo (.slice b1 (As s (k:Int) i).ready.length d1) (.slice b2 (As s (k:Int) i).outs.length d2) (.slice b3 (As s (k:Int) i).ae.length d3) rows (As s (k:Int) i)∧
  wr.ownsRow lo 9 1 l i (((Ah s (k:Int)).take i).map fun x=>Value.string x.body)∧Below W0.heap.size W0 wr)∨
 (1048576 < s.af+(Ah s (k:Int)).length∧e= .int .i64 2∧(∃v,Bk wr G 31 v)∧Below W0.heap.size W0 wr)
def dnM (s:Aa) (k:Nat) (l e:Value):Nat:=match e with
 | .int _ 0=>(match l with| .slice _ n _=>(Ah s (k:Int)).length+1 - n|_=>0)
 |_=>0
theorem Bk.put8 {w:World} {g:Nat} {t:TypeId} {v0 v1 v2 v3 v4 v5 v6 v7:Value} (h:Bk w g t #[v0,v1,v2,v3,v4,v5,v6,v7]) (u0 u1 u2 u3 u4 u5 u6 u7:Value):Bk ((((((((w.setCell ⟨g,0,none⟩ u0).setCell ⟨g,1,none⟩ u1).setCell ⟨g,2,none⟩ u2).setCell ⟨g,3,none⟩ u3).setCell ⟨g,4,none⟩ u4).setCell ⟨g,5,none⟩ u5).setCell ⟨g,6,none⟩ u6).setCell ⟨g,7,none⟩ u7) g t #[u0,u1,u2,u3,u4,u5,u6,u7]:=by
 have:=(((((((h.ck 0 u0).ck 1 u1).ck 2 u2).ck 3 u3).ck 4 u4).ck 5 u5).ck 6 u6).ck 7 u7;simpa using this
theorem Alq {s:Aa} {q:Int} {i:Nat} {x:Ap} {rest:List Ap} (h:(Ah s q).drop i=x::rest) (hi:i < (Ah s q).length):((Ah s q).take (i+1)).map (fun x=>Value.string x.body)=((Ah s q).take i).map (fun x=>Value.string x.body)++[.string x.body]:=by
 rw[zj hi,List.map_append];rw[List.drop_eq_getElem_cons hi] at h;rw[(List.cons.inj h).1];rfl
theorem Aj2 (s:Aa) (k:Nat) (a:Option Addr) (n c:Nat):dnM s k (.slice a n c) (.int .i64 0)=(Ah s (k:Int)).length+1 - n:=rfl
theorem Auk (s:Aa) (k:Nat) (l:Value):dnM s k l (.int .i64 2)=0:=rfl
theorem Aq5 {p:Ab} {s:Aa} (h:Cs p s) {k:Nat} (hk:(k:Int) < (p.ag.length:Int)) (i:Nat):(As s (k:Int) i).ready.length=s.ready.length∧(As s (k:Int) i).ready[k]? =some ((Ah s (k:Int)).drop i):=by
 obtain⟨hk,_⟩:=L6 h hk;refine⟨List.length_set,?_⟩
 show(s.ready.set (k:Int).toNat _)[k]? =_
 rw[Int.toNat_natCast,List.getElem?_set_self hk]
theorem Sa (p:Ab) (s:Aa) (q:Int) (p1 p2 p3 a1 a2 a3:Option Addr) (q1 q2 q3 c1 c2 c3:Nat) (rows:List Bq) (w:World) (hE:Env w) (hp:Az w 0 w.heap.size p1 p2 p3 p) (hps:Ai p) (hs:Ax w 0 w.heap.size a1 a2 a3 rows s) (hss:Am s) (hsi:Ba s):
  Calls Tryz.prog 24 #[Bc p p1 p2 p3 q1 q2 q3,Ac s a1 a2 a3 c1 c2 c3,.int .i64 q] w (Pq (Gl p s q) (Ih p s q) (Ck p s q) w):=by
 have hbx:=B9 q1 q2 q3 c1 c2 c3 hE hp hs 26 31;unfold Ag at hbx;unfold Ac Bc Ag;have HPS:=zh hps;have HSS:=zh hss;have HSI:=zh hsi;have htl:=hss.ae;have HTL:Hid (s.ae.length≤4294967296):=zh (by omega);clear hE hp hs hps hss hsi htl;obtain⟨⟨m0,m1,m2⟩,⟨n0,n1,n2,n3,n4,n5,n6,n7⟩,_,_,_,_⟩:=hbx ((((w.alloc (.cells (zP p p1 p2 p3 q1 q2 q3) 26)).alloc (.cells (zV s a1 a2 a3 c1 c2 c3) 31)).alloc (.cells #[.int .i64 q] 3)).alloc (.cells zO 31)) (((zb _ _).alloc (zn _) _).alloc (by simp) _);go_enter Tryz.func24,Tryz.ntmps24
 go_wp2_with fail
 clear m0 m1 m2 n0 n1 n2 n3 n4 n5 n6 n7;obtain⟨V2,hV2⟩:∃V2,((w.alloc (.cells (zP p p1 p2 p3 q1 q2 q3) 26)).alloc (.cells (zV s a1 a2 a3 c1 c2 c3) 31))=V2:=⟨_,rfl⟩;have hz2:V2.heap.size=w.heap.size+1+1:=by rw[←hV2];simp
 rw[hV2] at hbx;rw[hV2];clear hV2;obtain⟨U0,hU0⟩:∃U,V2.alloc (.cells #[.int .i64 q] 3)=U:=⟨_,rfl⟩;have kb0:Bk U0 (w.heap.size+1+1) 3 #[.int .i64 q]:=by rw[←hU0];exact Bk.cg _ _ _ (by rw[hz2])
 have zu0:U0.heap.size=w.heap.size+1+1+1:=by rw[←hU0];simp[hz2]
 have bu0:Below V2.heap.size V2 U0:=by rw[←hU0];exact(zb _ _).alloc (zn _) _
 rw[hU0];obtain⟨W0,hW0⟩:∃W0,U0.alloc (.cells zO 31)=W0:=⟨_,rfl⟩;have kbz:Bk W0 (w.heap.size+1+1+1) 31 zeroCells:=by rw[←hW0];exact Bk.cg _ _ _ zu0.symm
 have bW:Below U0.heap.size U0 W0:=by rw[←hW0];exact(zb _ _).alloc (zn _) _
 have HZ0:Hid (W0.heap.size=w.heap.size+1+1+1+1):=by refine(?_:W0.heap.size=_);rw[←hW0,←zu0];simp
 rw[hW0];have HBX:Hid (∀W,Below W0.heap.size W0 W→La w p s p1 p2 p3 a1 a2 a3 q1 q2 q3 c1 c2 c3 rows W∧Bk W (w.heap.size+1+1+1) 31 zeroCells∧Bk W (w.heap.size+1+1) 3 #[.int .i64 q]):=zh fun W hW=>
  ⟨hbx W ((bu0.trans (bW.mono bu0.size)).trans (hW.mono (bu0.trans (bW.mono bu0.size)).size)),kbz.below hW kbz.lt,((kb0.below bW (by rw[zu0];omega)).below hW (by have:=bW.size;rw[zu0] at this;omega))⟩
 clear hbx hz2 hW0 kbz bW kb0 zu0 bu0 hU0;have HIN:=zh (HBX.out _ (zb _ _)).1;refine(Vm p s q p1 p2 p3 a1 a2 a3 q1 q2 q3 c1 c2 c3 rows W0 HIN.out.env HIN.out.bu HPS.out HIN.out.bc HSS.out HSI.out).mono ?_;rintro e W1 ⟨rfl,hb1⟩;have HB1:=zh hb1;clear hb1;by_cases hc:B5 p s q=0
 ·have ba:(B5 p s q != 0)=false:=by simp[hc]
  have HC:=zh hc;clear hc;obtain⟨_,⟨n0,n1,n2,n3,n4,n5,n6,n7⟩,_,_,_,_⟩:=(HBX.out _ HB1.out).1;go_wp2_with fail
  clear n0 n1 n2 n3 n4 n5 n6 n7;refine(containsFunc_Taker 64 #[.pointer (some ⟨w.heap.size+1+1,0,none⟩)] An1 (fun t=>decide (t.queue=q)) s.ae a3 c3 0 W1 (fun x _ W hW=>Aj3 x q (w.heap.size+1+1) W ((HBX.out _ (HB1.out.trans (hW.mono HB1.out.size))).2.2.cell 0) (HBX.out _ (HB1.out.trans (hW.mono HB1.out.size))).2.2.lt) (HBX.out _ HB1.out).1.bc.ae HTL.out).mono ?_;rintro e W2 ⟨rfl,hb2⟩;have HB2:=zh (HB1.out.trans (hb2.mono HB1.out.size));clear hb2;by_cases ht:Nq s q=true
  ·have bt:(s.ae.any fun t=>decide (t.queue=q))=true:=ht
   have HR:Hid (Ck p s q=9∧(9:Int)≠0):=zh ⟨by unfold Ck;rw[zq (by simp[HC.out]),zp ht],by decide⟩;clear ht;rw[bt];have hzk:=(HBX.out _ HB2.out).2.1;unfold zeroCells at hzk;obtain⟨k0,k1,k2,k3,k4,k5,k6,k7,f0,f1,f2,f3,f4,f5,f6,f7,hlt⟩:=Af hzk;clear hzk;go_wp2_with fail
   refine bodyPost_ret (v:= .tuple #[Ac Ay none none none 0 0 0,.slice none 0 0,.int .i64 9]) (by simp[results,Tryz.results24,go_sem,Ac,Ag,Ay,k0,k1,k2,k3,k4,k5,k6,k7,hlt]) rfl
    (N3 HR.out.1 HR.out.2 w _ (Ak (HBX.out _ HB2.out).1.below (by omega) _ _ _ _ _ _ _ _))
  ·have bt:(s.ae.any fun t=>decide (t.queue=q))=false:=by simpa [Nq] using ht
   rw[bt];have HT:=zh (by simpa using ht:Nq s q=false);clear ht bt;obtain⟨⟨m0,m1,m2⟩,⟨n0,n1,n2,n3,n4,n5,n6,n7⟩,_,_,_,_⟩:=(HBX.out _ HB2.out).1;have y0:W2.cell? ⟨w.heap.size+1+1,0,none⟩=some (.int .i64 q):=(HBX.out _ HB2.out).2.2.cell 0;go_wp2_with fail
   clear m0 m1 m2 n0 n1 n2 n3 n4 n5 n6 n7 y0;refine(Abn p s q 1 p1 p2 p3 a1 a2 a3 q1 q2 q3 c1 c2 c3 rows W2 (HBX.out _ HB2.out).1.env (HBX.out _ HB2.out).1.bu HPS.out (HBX.out _ HB2.out).1.bc HSS.out HSI.out).mono ?_;rintro e W3 ⟨j1,j2,j3,d1,d2,d3,rowsJ,rfl,hh3,hb3⟩;have HB3:=zh (HB2.out.trans (hb3.mono HB2.out.size));have HZ3:=zh hb3.size;clear hb3;have HH3:=zh hh3;clear hh3;generalize hJ:Fh p s q 1=X at *;have HJ:=zh hJ;clear hJ;unfold Ac Ag;by_cases hj:Cc p s q 1=0
   ·obtain⟨hR0,hq0,hq1⟩:=Fv.1 HC.out
    obtain⟨k,rfl⟩:=Int.eq_ofNat_of_zero_le hq0;have HRS:=zh hR0;have HQ1:=zh hq1;have hX0:X=As s (k:Int) 0:=HJ.out.symm.trans (Rl hj).symm;subst hX0;have HJ0:=zh hj;have HJN:Hid (Ib p s (k:Int) 1=Em s.ae):=by refine(?_:Ib p s (k:Int) 1=Em s.ae);unfold Ib;rw[zp hj]
    have HT0:Hid (s.af≤1048576):=zh (by have:=hR0.af;unfold countB at this;simp only[zc,zd] at this;exact this.2);rw[hj,HJN.out];clear hR0 hq0 hq1 hj;go_wp2_with fail
    obtain⟨W4,hW4⟩:∃W4,W3.alloc (.cells #[.slice j1 (As s (k:Int) 0).ready.length d1,.slice j2 (As s (k:Int) 0).outs.length d2,.slice j3 (As s (k:Int) 0).ae.length d3,.int .i64 (As s (k:Int) 0).ah,.int .i64 (As s (k:Int) 0).af,.int .i64 (As s (k:Int) 0).aw,.int .i64 (As s (k:Int) 0).ar,.int .i64 (As s (k:Int) 0).dropped] 31)=W4:=⟨_,rfl⟩;have HB4:Hid (Below W0.heap.size W0 W4):=zh (by rw[←hW4];exact HB3.out.alloc HB3.out.size _);have HK4:Hid (Bk W4 W3.heap.size 31 (Ag (As s (k:Int) 0) j1 j2 j3 d1 d2 d3)∧Cm W4 W2.heap.size (.slice j1 (As s (k:Int) 0).ready.length d1) (.slice j2 (As s (k:Int) 0).outs.length d2) (.slice j3 (As s (k:Int) 0).ae.length d3) rowsJ (As s (k:Int) 0)):=zh (by
     rw[←hW4];exact⟨Bk.new _ _ _,HH3.out.kept (Al.alloc [] W3 _)⟩)
    have HG:Hid (W0.heap.size≤W2.heap.size∧W2.heap.size≤W3.heap.size∧W3.heap.size < W4.heap.size):=zh ⟨HB2.out.size,HZ3.out,by rw[←hW4];simp⟩;rw[hW4];clear hW4
    go_loopw [12,13] (fun e l wr=>Ak7 p s k W3.heap.size W2.heap.size W0 l e wr) (fun e l _=>dnM s k l e)
    case atStart=>
     exact .inl ⟨0,j1,j2,j3,d1,d2,d3,rowsJ,Nat.zero_le _,by have:=HT0.out;omega,rfl,HK4.out.1,HK4.out.2,World.ownsRow_nil _ _ _ _,HB4.out⟩
    case round=>
     rcases hrel with⟨i,b1,b2,b3,d1,d2,d3,rowsI,hi,hti,rfl,hbk,hheld,hown,hB⟩|⟨hgt,rfl,⟨vb,hbk⟩,hB⟩
     ·obtain⟨hlen,hrow⟩:=Aq5 HRS.out HQ1.out i
      have hkr:k < s.ready.length:=(L6 HRS.out HQ1.out).1;have HRX:=zh (Mw HJ0.out i hi hti);obtain⟨g,rfl⟩:=Fa hheld.ready (by rw[hlen];omega);obtain⟨ra,rc,hrc,hsl,hcell⟩:=hheld.rowAt rfl hrow;have hc0:=(hcell [] wr (by decide) (Al.refl _ _)).1;have hlim1:(k:Int) < ((As s (k:Int) i).ready.length:Int):=by rw[hlen];omega
      have HHD:=zh hheld;have HBK:=zh hbk;have HOW:=zh hown;have HB:=zh hB;have y0:wr.cell? ⟨w.heap.size+1+1,0,none⟩=some (.int .i64 (k:Int)):=(HBX.out _ hB).2.2.cell 0;unfold Ag at hbk;obtain⟨n0,n1,n2,n3,n4,n5,n6,n7,_,_,_,_,_,_,_,_,hltG⟩:=Af hbk;by_cases hlt:i < (Ah s (k:Int)).length
      ·obtain⟨x,rest,hdr⟩:∃x rest,(Ah s (k:Int)).drop i=x::rest:=⟨_,_,List.drop_eq_getElem_cons hlt⟩
       have HTK:=zh (Alq hdr hlt);rw[hdr] at hc0 hsl hrc;obtain⟨rb,ro,rfl,hlrb,hitem⟩:=hsl.head;obtain⟨nl,hnl⟩:∃nl,(x::rest).length=nl:=⟨_,rfl⟩;have hnl0:0 < nl:=by rw[←hnl];exact Nat.succ_pos _
       rw[hnl] at hc0;obtain⟨i0,i1,i2,i3,i4⟩:=hitem [] wr (by decide) (Al.refl _ _);obtain⟨al,cl,rfl,_⟩:=Ad hown;have HLT:=zh hlt;have HTI:=zh hti;have hL:i < 4294967296:=by have:=(HSS.out.row _ (zg hkr)).len;have e:=(L6 HRS.out HQ1.out).2;rw[e] at hlt;omega
       have hbase:W2.heap.size≤wr.heap.size:=by have:=HG.out;have:=hltG;omega
       clear hdr hsl hrc hcell hitem hrow hlen hkr hheld hown hB hbk hi hlt hti hnl i0 i1 i3 i4;go_upto_region 11 with(at_builtin;refine D6 rfl _ _ 43 rfl W2.heap.size 9 Jb Tryz.underlying43 rfl (by decide) (by decide) wr _ _ _ rfl HOW.out [.string x.body] rfl rfl rfl (by simp[Value.oneCell']) (by omega) hbase ?_;intro v5 w5 ho5 hg5;have HO5:=zh (zi ho5 hg5);clear ho5 hg5)
       clear n0 n1 n2 n3 n4 n5 n6 n7 hltG hc0 i2 y0 hlim1 hnl0;have K5:Al [9] wr w5:=Al.grown HOW.out HO5.out.2 (by decide);have HBK5:=zh (K5 _ _ _ (by decide) HBK.out);have HH5:=zh (HHD.out.kept K5);have HB5:=zh (Bl HOW.out HO5.out.2 HB.out HG.out.1 HB.out.size);have HOW5:Hid (w5.ownsRow W2.heap.size 9 1 v5 (i+1) (((Ah s (k:Int)).take (i+1)).map fun x=>Value.string x.body)):=zh (by rw[HTK.out];exact HO5.out.1);clear K5 HTK HO5 HOW HHD HBK;obtain⟨⟨m0,m1,m2⟩,_,_,_,_,_⟩:=(HBX.out _ HB5.out).1;have y0:w5.cell? ⟨w.heap.size+1+1,0,none⟩=some (.int .i64 (k:Int)):=(HBX.out _ HB5.out).2.2.cell 0;have hbk5:=HBK5.out;unfold Ag at hbk5;obtain⟨n0,n1,n2,n3,n4,n5,n6,n7,_,_,_,_,_,_,_,_,hltG⟩:=Af hbk5;clear hbk5;go_wp2_with fail
       clear n0 n1 n2 n3 n4 n5 n6 n7 m0 m1 m2 y0;refine(Lw p (As s (k:Int) i) k p1 p2 p3 (some ⟨g,0,none⟩) b2 b3 q1 q2 q3 d1 d2 d3 rowsI w5 (HBX.out _ HB5.out).1.env (HBX.out _ HB5.out).1.bu HPS.out (HH5.out.bc.1.wider (Nat.zero_le _) (zn _)) HRX.out.small HRX.out.ints).mono ?_;rintro e W6 ⟨y1,y2,y3,f1,f2,f3,rowsD,rfl,hs6,hb6⟩;have HB6:=zh (HB5.out.trans (hb6.mono HB5.out.size));have HBK6:=zh (HBK5.out.below hb6 HBK5.out.lt);have HOW6:=zh (own_below HOW5.out hb6);have HS6:=zh hs6;have HSZ6:=zh hb6.size;have HDS:=zh (Ub HJ0.out HLT.out HRX.out);have HDR:=zh (fun h:Bw p (As s (k:Int) i) (k:Int)=0=>(by obtain⟨_,_,_,_,e,hr⟩:=Gv h;rw[e];exact hr:Cs p (Ca p (As s (k:Int) i) (k:Int))));clear hb6 hs6;generalize Ca p (As s (k:Int) i) (k:Int)=Y at *;generalize Dm p (As s (k:Int) i) (k:Int)=tg at *;unfold Ac Ag;have hbk6:=HBK6.out;unfold Ag at hbk6;obtain⟨n0,n1,n2,n3,n4,n5,n6,n7,g0,g1,g2,g3,g4,g5,g6,g7,hltG6⟩:=Af hbk6;have HP7:=zh (hbk6.put8 (.slice y1 Y.ready.length f1) (.slice y2 Y.outs.length f2) (.slice y3 Y.ae.length f3) (.int .i64 Y.ah) (.int .i64 Y.af) (.int .i64 Y.aw) (.int .i64 Y.ar) (.int .i64 Y.dropped));have HK7:=zh (Al.dg (ts:=[31]) hbk6 (by decide) (.slice y1 Y.ready.length f1) (.slice y2 Y.outs.length f2) (.slice y3 Y.ae.length f3) (.int .i64 Y.ah) (.int .i64 Y.af) (.int .i64 Y.aw) (.int .i64 Y.ar) (.int .i64 Y.dropped));have HB7:=zh (Ak HB6.out (show W0.heap.size≤W3.heap.size by have:=HG.out;omega) (.slice y1 Y.ready.length f1) (.slice y2 Y.outs.length f2) (.slice y3 Y.ae.length f3) (.int .i64 Y.ah) (.int .i64 Y.af) (.int .i64 Y.aw) (.int .i64 Y.ar) (.int .i64 Y.dropped));clear hbk6;by_cases ht:s.af+i=1048576
       ·rw[HDS.out.1 ht]
        have HGT:Hid (1048576 < s.af+(Ah s (k:Int)).length):=zh (by have:=HLT.out;omega);clear ht;go_wp2_with fail
        exact⟨.inr ⟨HGT.out,rfl,⟨_,HP7.out⟩,HB7.out⟩,by rw[Aj2,Auk];have:=HLT.out;omega⟩
       ·obtain⟨hd0,_,ha0,ha1,haR⟩:=HDS.out.2 ht
        rw[hd0];have HAE:=zh ha0;have HAS:=zh ha1;have HAR:=zh haR;have HYR:=zh (HDR.out hd0);have HTI2:Hid (s.af+(i+1:Nat)≤1048576):=zh (by have:=HTI.out;omega);clear hd0 ha0 ha1 haR ht;go_upto_region 12 with fail
        clear n0 n1 n2 n3 n4 n5 n6 n7 g0 g1 g2 g3 g4 g5 g6 g7;have HST7:=zh ((st8 HS6.out hltG (.slice y1 Y.ready.length f1) (.slice y2 Y.outs.length f2) (.slice y3 Y.ae.length f3) (.int .i64 Y.ah) (.int .i64 Y.af) (.int .i64 Y.aw) (.int .i64 Y.ar) (.int .i64 Y.dropped)).wider (Nat.zero_le _) (show W6.heap.size≤((((((((W6.setCell ⟨W3.heap.size,0,none⟩ (.slice y1 Y.ready.length f1)).setCell ⟨W3.heap.size,1,none⟩ (.slice y2 Y.outs.length f2)).setCell ⟨W3.heap.size,2,none⟩ (.slice y3 Y.ae.length f3)).setCell ⟨W3.heap.size,3,none⟩ (.int .i64 Y.ah)).setCell ⟨W3.heap.size,4,none⟩ (.int .i64 Y.af)).setCell ⟨W3.heap.size,5,none⟩ (.int .i64 Y.aw)).setCell ⟨W3.heap.size,6,none⟩ (.int .i64 Y.ar)).setCell ⟨W3.heap.size,7,none⟩ (.int .i64 Y.dropped)).heap.size by simp));have HZ7:Hid (w5.heap.size≤((((((((W6.setCell ⟨W3.heap.size,0,none⟩ (.slice y1 Y.ready.length f1)).setCell ⟨W3.heap.size,1,none⟩ (.slice y2 Y.outs.length f2)).setCell ⟨W3.heap.size,2,none⟩ (.slice y3 Y.ae.length f3)).setCell ⟨W3.heap.size,3,none⟩ (.int .i64 Y.ah)).setCell ⟨W3.heap.size,4,none⟩ (.int .i64 Y.af)).setCell ⟨W3.heap.size,5,none⟩ (.int .i64 Y.aw)).setCell ⟨W3.heap.size,6,none⟩ (.int .i64 Y.ar)).setCell ⟨W3.heap.size,7,none⟩ (.int .i64 Y.dropped)).heap.size):=zh (zr HSZ6.out (by simp));obtain⟨W7,hW7⟩:∃W7,((((((((W6.setCell ⟨W3.heap.size,0,none⟩ (.slice y1 Y.ready.length f1)).setCell ⟨W3.heap.size,1,none⟩ (.slice y2 Y.outs.length f2)).setCell ⟨W3.heap.size,2,none⟩ (.slice y3 Y.ae.length f3)).setCell ⟨W3.heap.size,3,none⟩ (.int .i64 Y.ah)).setCell ⟨W3.heap.size,4,none⟩ (.int .i64 Y.af)).setCell ⟨W3.heap.size,5,none⟩ (.int .i64 Y.aw)).setCell ⟨W3.heap.size,6,none⟩ (.int .i64 Y.ar)).setCell ⟨W3.heap.size,7,none⟩ (.int .i64 Y.dropped))=W7:=⟨_,rfl⟩;rw[hW7] at HP7 HK7 HB7 HST7 HZ7;rw[hW7];clear hW7;obtain⟨⟨m0,m1,m2⟩,_,_,_,_,_⟩:=(HBX.out _ HB7.out).1;obtain⟨n0,n1,n2,n3,n4,n5,n6,n7,_,_,_,_,_,_,_,_,hltG7⟩:=Af HP7.out;go_wp2_with fail
        clear n0 n1 n2 n3 n4 n5 n6 n7 m0 m1 m2;refine(Afh p Y tg p1 p2 p3 y1 y2 y3 q1 q2 q3 f1 f2 f3 rowsD W7 (HBX.out _ HB7.out).1.env (HBX.out _ HB7.out).1.bu HPS.out (HST7.out.wider (zn _) (zn _)) HYR.out.small HYR.out.ints).mono ?_;rw[HAE.out,HAS.out];rintro e W8 ⟨z1,z2,z3,l1,l2,l3,rowsA,rfl,hh8,hb8⟩;have HB8:=zh (HB7.out.trans (hb8.mono HB7.out.size));have hbk8:=HP7.out.below hb8 hltG7;have HOW8:=zh (own_below (Cz HOW6.out HK7.out (by decide)) hb8);have HZ8:Hid (W2.heap.size≤W7.heap.size):=zh (by have:=HG.out;omega);unfold Ac Ag;have HP9:=zh (hbk8.put8 (.slice z1 (As s (k:Int) (i+1)).ready.length l1) (.slice z2 (As s (k:Int) (i+1)).outs.length l2) (.slice z3 (As s (k:Int) (i+1)).ae.length l3) (.int .i64 (As s (k:Int) (i+1)).ah) (.int .i64 (As s (k:Int) (i+1)).af) (.int .i64 (As s (k:Int) (i+1)).aw) (.int .i64 (As s (k:Int) (i+1)).ar) (.int .i64 (As s (k:Int) (i+1)).dropped));have HK9:=zh (Al.dg (ts:=[31]) hbk8 (by decide) (.slice z1 (As s (k:Int) (i+1)).ready.length l1) (.slice z2 (As s (k:Int) (i+1)).outs.length l2) (.slice z3 (As s (k:Int) (i+1)).ae.length l3) (.int .i64 (As s (k:Int) (i+1)).ah) (.int .i64 (As s (k:Int) (i+1)).af) (.int .i64 (As s (k:Int) (i+1)).aw) (.int .i64 (As s (k:Int) (i+1)).ar) (.int .i64 (As s (k:Int) (i+1)).dropped));have HB9:=zh (Ak HB8.out (show W0.heap.size≤W3.heap.size by have:=HG.out;omega) (.slice z1 (As s (k:Int) (i+1)).ready.length l1) (.slice z2 (As s (k:Int) (i+1)).outs.length l2) (.slice z3 (As s (k:Int) (i+1)).ae.length l3) (.int .i64 (As s (k:Int) (i+1)).ah) (.int .i64 (As s (k:Int) (i+1)).af) (.int .i64 (As s (k:Int) (i+1)).aw) (.int .i64 (As s (k:Int) (i+1)).ar) (.int .i64 (As s (k:Int) (i+1)).dropped));have HH8:=zh hh8;obtain⟨n0,n1,n2,n3,n4,n5,n6,n7,g0,g1,g2,g3,g4,g5,g6,g7,hltG8⟩:=Af hbk8;clear hbk8 hh8 hb8;go_wp2_with fail
        obtain⟨al5,cl5,rfl,_⟩:=Ad HOW8.out;exact⟨.inl ⟨i+1,z1,z2,z3,l1,l2,l3,rowsA,HLT.out,HTI2.out,rfl,HP9.out,(HH8.out.kept HK9.out).wider HZ8.out,Cz HOW8.out HK9.out (by decide),HB9.out⟩,by rw[Aj2,Aj2];have:=HLT.out;omega⟩
      ·obtain rfl:i=(Ah s (k:Int)).length:=by omega
       have HTI:=zh hti;have hnil:((Ah s (k:Int)).drop (Ah s (k:Int)).length).length=0:=by simp
       rw[hnil] at hc0;have htk:(As s (k:Int) (Ah s (k:Int)).length).ae[Em s.ae]? =some ⟨(k:Int),1⟩:=by show(joinL s.ae _)[Em s.ae]? =_;rw[Ji,zp rfl]
       have hjl:=(List.getElem?_eq_some_iff.1 htk).1;obtain⟨g3,rfl⟩:=Fa hheld.ae (by omega);obtain⟨al,cl,rfl,_⟩:=Ad hown;have ht0:wr.cell? ⟨g3,Em s.ae * 2,none⟩=some (.int .i64 (k:Int)):=by
        refine(hheld.ae.cellAt _ (by omega)).trans ((flat_get Cy _ (Em s.ae) hjl 0 (by decide)).trans ?_);rw[(List.getElem?_eq_some_iff.1 htk).2];rfl
       have fz:=hheld.ae.frozenAt (Em s.ae * 2);obtain⟨hg31,hg32⟩:=hheld.ae.lt g3 rfl;have hj1:((Em s.ae:Nat):Int) < ((As s (k:Int) (Ah s (k:Int)).length).ae.length:Int):=by omega
       have hj0:(0:Int)≤((Em s.ae:Nat):Int):=by omega
       have HZ:=zh (hheld.takerQ rfl htk (-1));have HB9:Hid (Below W0.heap.size W0 (wr.setCell ⟨g3,Em s.ae * 2,none⟩ (.int .i64 (-1)))):=zh (hB.setCell (p:=⟨g3,Em s.ae * 2,none⟩) (by have:=HG.out;show W0.heap.size≤g3;omega) _);have hS:Ck p s (k:Int)=0:=Pf.2 ⟨HJ0.out,HT.out,hti⟩;have HS:Hid (Ck p s (k:Int)=0∧Gl p s (k:Int)= { (As s (k:Int) (Ah s (k:Int)).length) with ae:=(As s (k:Int) (Ah s (k:Int)).length).ae.set (Em s.ae) ⟨-1,1⟩ } ∧Ih p s (k:Int)=(Ah s (k:Int)).map (·.body)):=zh ⟨hS,by unfold Gl;rw[zp hS];show _=({ (As s (k:Int) (Ah s (k:Int)).length) with ae:=(joinL s.ae ⟨(k:Int),1⟩).set (Em s.ae) ⟨-1,1⟩ } :Aa);rw[Acb],by unfold Ih;rw[zp hS]⟩;clear hS hnil hsl hrc hcell hrow hlen hkr hheld hown hB hbk hi hlt hti htk hjl;go_upto_region 17 with fail
       clear n0 n1 n2 n3 n4 n5 n6 n7 hltG hc0 y0 hlim1 ht0 fz hj1 hj0;have HBKZ:=zh (HZ.out.2 _ _ _ (by decide) HBK.out);have HOWZ:=zh (Cz HOW.out HZ.out.2 (by decide));obtain⟨Z,hZ⟩:∃Z,wr.setCell ⟨g3,Em s.ae * 2,none⟩ (.int .i64 (-1))=Z:=⟨_,rfl⟩;rw[hZ] at HZ HB9 HBKZ HOWZ;rw[hZ];clear hZ;have hbkz:=HBKZ.out;unfold Ag at hbkz;obtain⟨n0,n1,n2,n3,n4,n5,n6,n7,_,_,_,_,_,_,_,_,hltG⟩:=Af hbkz;clear hbkz;have hzk:=(HBX.out _ HB9.out).2.1;have HZS:=zh hzk;unfold zeroCells at hzk;obtain⟨k0,k1,k2,k3,k4,k5,k6,k7,f0,f1,f2,f3,f4,f5,f6,f7,hlt⟩:=Af hzk;clear hzk;go_wp2_with fail
       refine bodyPost_ret (v:= .tuple #[.agg #[.slice (some ⟨g,0,none⟩) (As s (k:Int) (Ah s (k:Int)).length).ready.length d1,.slice b2 (As s (k:Int) (Ah s (k:Int)).length).outs.length d2,.slice (some ⟨g3,0,none⟩) (As s (k:Int) (Ah s (k:Int)).length).ae.length d3,.int .i64 (As s (k:Int) (Ah s (k:Int)).length).ah,.int .i64 (As s (k:Int) (Ah s (k:Int)).length).af,.int .i64 (As s (k:Int) (Ah s (k:Int)).length).aw,.int .i64 (As s (k:Int) (Ah s (k:Int)).length).ar,.int .i64 (As s (k:Int) (Ah s (k:Int)).length).dropped],.slice al (Ah s (k:Int)).length cl,.int .i64 0]) (by simp[results,Tryz.results24,go_sem,k0,k1,k2,k3,k4,k5,k6,k7,hlt]) rfl ?_;have K8:=Al.dg (ts:=[31]) HZS.out (by decide) (.slice (some ⟨g,0,none⟩) (As s (k:Int) (Ah s (k:Int)).length).ready.length d1) (.slice b2 (As s (k:Int) (Ah s (k:Int)).length).outs.length d2) (.slice (some ⟨g3,0,none⟩) (As s (k:Int) (Ah s (k:Int)).length).ae.length d3) (.int .i64 (As s (k:Int) (Ah s (k:Int)).length).ah) (.int .i64 (As s (k:Int) (Ah s (k:Int)).length).af) (.int .i64 (As s (k:Int) (Ah s (k:Int)).length).aw) (.int .i64 (As s (k:Int) (Ah s (k:Int)).length).ar) (.int .i64 (As s (k:Int) (Ah s (k:Int)).length).dropped);have hlo:w.heap.size≤W2.heap.size:=(HBX.out _ HB2.out).1.below.size;have hF:=HZ.out.1.kept K8;have hO:=Cz HOWZ.out K8 (by decide);have hX:=Ak (HBX.out _ HB9.out).1.below (show w.heap.size≤w.heap.size+1+1+1 by omega) (.slice (some ⟨g,0,none⟩) (As s (k:Int) (Ah s (k:Int)).length).ready.length d1) (.slice b2 (As s (k:Int) (Ah s (k:Int)).length).outs.length d2) (.slice (some ⟨g3,0,none⟩) (As s (k:Int) (Ah s (k:Int)).length).ae.length d3) (.int .i64 (As s (k:Int) (Ah s (k:Int)).length).ah) (.int .i64 (As s (k:Int) (Ah s (k:Int)).length).af) (.int .i64 (As s (k:Int) (Ah s (k:Int)).length).aw) (.int .i64 (As s (k:Int) (Ah s (k:Int)).length).ar) (.int .i64 (As s (k:Int) (Ah s (k:Int)).length).dropped);refine⟨some ⟨g,0,none⟩,b2,some ⟨g3,0,none⟩,d1,d2,d3,rowsI,al,cl,?_,(by rw[HS.out.2.1];exact hF.bc.1.wider hlo (zn _)),?_,hX⟩
       ·rw[HS.out.1,HS.out.2.1,HS.out.2.2,List.length_map]
        unfold Ac Ag;rw[List.length_set]
       ·rw[HS.out.2.2]
        have e:((Ah s (k:Int)).map (·.body)).map Value.string=((Ah s (k:Int)).take (Ah s (k:Int)).length).map fun x=>Value.string x.body:=by rw[List.take_length,List.map_map];rfl
        rw[e];exact(Sl.cu hO).wider hlo (zn _)
     ·have HR:Hid (Ck p s (k:Int)=2∧(2:Int)≠0):=zh ⟨by unfold Ck;rw[zq (by simp[HC.out]),zq (by simp[HT.out]),zq (by simp[HJ0.out]),zp hgt],by decide⟩
      have HB:=zh hB;clear hgt hbk hB;have hzk:=(HBX.out _ HB.out).2.1;unfold zeroCells at hzk;obtain⟨k0,k1,k2,k3,k4,k5,k6,k7,f0,f1,f2,f3,f4,f5,f6,f7,hlt⟩:=Af hzk;clear hzk;go_wp2_with fail
      refine bodyPost_ret (v:= .tuple #[Ac Ay none none none 0 0 0,.slice none 0 0,.int .i64 2]) (by simp[results,Tryz.results24,go_sem,Ac,Ag,Ay,k0,k1,k2,k3,k4,k5,k6,k7,hlt]) rfl
       (N3 HR.out.1 HR.out.2 w _ (Ak (HBX.out _ HB.out).1.below (by omega) _ _ _ _ _ _ _ _))
   ·have HR:Hid (Ck p s q=Cc p s q 1∧Cc p s q 1≠0):=zh ⟨by unfold Ck;rw[zq (by simp[HC.out]),zq (by simp[HT.out]),zp hj],hj⟩
    have bj:(Cc p s q 1 == 0)=false:=by simp[hj]
    have bn:(Cc p s q 1 != 0)=true:=by simp[hj]
    clear hj;generalize Cc p s q 1=je at *;go_wp2_with fail
    obtain⟨W4,hW4⟩:∃W4,W3.alloc (.cells (zV X j1 j2 j3 d1 d2 d3) 31)=W4:=⟨_,rfl⟩;have HB4:Hid (Below W0.heap.size W0 W4):=zh (by rw[←hW4];exact HB3.out.alloc HB3.out.size _);rw[hW4];clear hW4
    go_loopw [12] (fun e wr=>e= .int .i64 je∧wr=W4) (fun _ _=>0)
    case atStart=>exact⟨rfl,rfl⟩
    case round=>
     obtain⟨rfl,rfl⟩:=hrel;have hzk:=(HBX.out _ HB4.out).2.1;unfold zeroCells at hzk;obtain⟨k0,k1,k2,k3,k4,k5,k6,k7,f0,f1,f2,f3,f4,f5,f6,f7,hlt⟩:=Af hzk;clear hzk;go_wp2_with fail
     refine bodyPost_ret (v:= .tuple #[Ac Ay none none none 0 0 0,.slice none 0 0,.int .i64 je]) (by simp[results,Tryz.results24,go_sem,Ac,Ag,Ay,k0,k1,k2,k3,k4,k5,k6,k7,hlt]) rfl
      (N3 HR.out.1 HR.out.2 w _ (Ak (HBX.out _ HB4.out).1.below (by omega) _ _ _ _ _ _ _ _))
 ·have ba:(B5 p s q != 0)=true:=by simp[hc]
  have HR:Hid (Ck p s q=B5 p s q∧B5 p s q≠0):=zh ⟨by unfold Ck;rw[zp hc],hc⟩;clear hc;have hzk:=(HBX.out _ HB1.out).2.1;unfold zeroCells at hzk;obtain⟨k0,k1,k2,k3,k4,k5,k6,k7,f0,f1,f2,f3,f4,f5,f6,f7,hlt⟩:=Af hzk;clear hzk;go_wp2_with fail
  refine bodyPost_ret (v:= .tuple #[Ac Ay none none none 0 0 0,.slice none 0 0,.int .i64 (B5 p s q)]) (by simp[results,Tryz.results24,go_sem,Ac,Ag,Ay,k0,k1,k2,k3,k4,k5,k6,k7,hlt]) rfl
   (N3 HR.out.1 HR.out.2 w _ (Ak (HBX.out _ HB1.out).1.below (by omega) _ _ _ _ _ _ _ _))
open Go Go.RowKit
def Axz (p:Ab) (s:Aa) (k:Nat) (G lo:Nat) (W0:World) (l:Value) (wr:World):Prop:=
 ∃(i:Nat) (b1 b2 b3:Option Addr) (d1 d2 d3:Nat) (rows:List Bq),i≤(Ah s (k:Int)).length∧s.af+i≤1048576∧Bk wr G 31 (Ag (As s (k:Int) i) b1 b2 b3 d1 d2 d3)∧
  Cm wr lo (.slice b1 (As s (k:Int) i).ready.length d1) (.slice b2 (As s (k:Int) i).outs.length d2) (.slice b3 (As s (k:Int) i).ae.length d3) rows (As s (k:Int) i)∧
  wr.ownsRow lo 9 1 l i (((Ah s (k:Int)).take i).map fun x=>Value.string x.body)∧Below W0.heap.size W0 wr
def doM (s:Aa) (k:Nat) (l:Value):Nat:=match l with| .slice _ n _=>(Ah s (k:Int)).length - n|_=>0
theorem Aq6 (s:Aa) (k:Nat) (a:Option Addr) (n c:Nat):doM s k (.slice a n c)=(Ah s (k:Int)).length - n:=rfl
theorem Ak3 {s:Aa} {q:Int} (h:∀(m:Nat) (x:B6),s.ae[m]? =some x→x.queue≠q):Nq s q=false:=by
 unfold Nq;rw[List.any_eq_false];intro x hx;obtain⟨m,hm⟩:=List.getElem?_of_mem hx;simpa using h m x hm
theorem Ak4 {s:Aa} {q:Int} {m:Nat} {x:B6} (h:s.ae[m]? =some x) (hq:x.queue=q):Nq s q=true:=by
 unfold Nq;rw[List.any_eq_true];exact⟨x,List.mem_of_getElem? h,by simpa using hq⟩
theorem Afk (p:Ab) (s:Aa) (q:Int) (p1 p2 p3 a1 a2 a3:Option Addr) (q1 q2 q3 c1 c2 c3:Nat) (rows:List Bq) (w:World) (hE:Env w) (hp:Az w 0 w.heap.size p1 p2 p3 p) (hps:Ai p) (hs:Ax w 0 w.heap.size a1 a2 a3 rows s) (hss:Am s) (hsi:Ba s):
  Calls Tryz.prog 27 #[Bc p p1 p2 p3 q1 q2 q3,Ac s a1 a2 a3 c1 c2 c3,.int .i64 q] w (Pq (Gl p s q) (Ih p s q) (Ck p s q) w):=by
 have hbx:=B9 q1 q2 q3 c1 c2 c3 hE hp hs 26 31;unfold Ag at hbx;unfold Ac Bc Ag;have HPS:=zh hps;have HSS:=zh hss;have HSI:=zh hsi;clear hE hp hs hps hss hsi;obtain⟨⟨m0,m1,m2⟩,⟨n0,n1,n2,n3,n4,n5,n6,n7⟩,_,_,_,_⟩:=hbx (((w.alloc (.cells (zP p p1 p2 p3 q1 q2 q3) 26)).alloc (.cells (zV s a1 a2 a3 c1 c2 c3) 31)).alloc (.cells zO 31)) ((zb _ _).alloc (zn _) _);go_enter Tryz.func27,Tryz.ntmps27
 go_wp2_with fail
 clear m0 m1 m2 n0 n1 n2 n3 n4 n5 n6 n7;obtain⟨V2,hV2⟩:∃V2,((w.alloc (.cells (zP p p1 p2 p3 q1 q2 q3) 26)).alloc (.cells (zV s a1 a2 a3 c1 c2 c3) 31))=V2:=⟨_,rfl⟩;have hz2:V2.heap.size=w.heap.size+1+1:=by rw[←hV2];simp
 rw[hV2] at hbx;rw[hV2];clear hV2;obtain⟨W0,hW0⟩:∃W0,V2.alloc (.cells zO 31)=W0:=⟨_,rfl⟩;have kbz:Bk W0 (w.heap.size+1+1) 31 zeroCells:=by rw[←hW0];exact Bk.cg _ _ _ hz2.symm
 have bW:Below V2.heap.size V2 W0:=by rw[←hW0];exact(zb _ _).alloc (zn _) _
 have HZ0:Hid (W0.heap.size=w.heap.size+1+1+1):=by refine(?_:W0.heap.size=_);rw[←hW0,←hz2];simp
 rw[hW0];have HBX:Hid (∀W,Below W0.heap.size W0 W→La w p s p1 p2 p3 a1 a2 a3 q1 q2 q3 c1 c2 c3 rows W∧Bk W (w.heap.size+1+1) 31 zeroCells):=zh fun W hW=>
  ⟨hbx W (bW.trans (hW.mono bW.size)),kbz.below hW kbz.lt⟩
 clear hbx hz2 hW0 kbz bW;have HIN:=zh (HBX.out _ (zb _ _)).1;refine(M9 p s q p1 p2 p3 a1 a2 a3 q1 q2 q3 c1 c2 c3 rows W0 HIN.out.env HIN.out.bu HPS.out HIN.out.bc HSS.out HSI.out).mono ?_;rintro e W1 ⟨rfl,hb1⟩;have HB1:=zh hb1;clear hb1;by_cases hc:B5 p s q=0
 ·have ba:(B5 p s q != 0)=false:=by simp[hc]
  have HC:=zh hc;clear hc;go_wp2_with fail
  go_loopw [10] (fun i wr=>∃j:Nat,j≤s.ae.length∧i= .int .i64 j∧(∀(m:Nat) (x:B6),m < j→s.ae[m]? =some x→x.queue≠q)∧Below W0.heap.size W0 wr) (fun i _=>s.ae.length - (intOf i).toNat)
  case atStart=>exact⟨0,Nat.zero_le _,rfl,fun m x hm=>absurd hm (by omega),HB1.out⟩
  case round=>
   obtain⟨j,hj,rfl,hno,hB⟩:=hrel;have HB:=zh hB;have HNO:=zh hno;have hst:=HSS.out.ae;obtain⟨_,⟨n0,n1,n2,n3,n4,n5,n6,n7⟩,_,_,_,hsat⟩:=(HBX.out _ hB).1;by_cases hlt:j < s.ae.length
   ·obtain⟨b,o,ha3,_,hb,hcc⟩:=Bd Cy (by decide) hsat.ae hlt
    have e0:wr.cell? ⟨b,o+j * 2,none⟩=some (.int .i64 s.ae[j].queue):=by have:=hcc 0 _ rfl;simpa using this
    have HTJ:Hid (s.ae[j]? =some s.ae[j]):=zh (zG hlt);clear hcc hsat hno hB;generalize s.ae[j]=t at *;subst ha3;by_cases ht:t.queue=q
    ·have HR:Hid (Ck p s q=9∧(9:Int)≠0):=zh ⟨by unfold Ck;rw[zq (by simp[HC.out]),zp (Ak4 HTJ.out ht)],by decide⟩
     have bt:(t.queue == q)=true:=by simp[ht]
     clear ht;have hzk:=(HBX.out _ HB.out).2;unfold zeroCells at hzk;obtain⟨k0,k1,k2,k3,k4,k5,k6,k7,f0,f1,f2,f3,f4,f5,f6,f7,hlt0⟩:=Af hzk;clear hzk;go_wp2_with fail
     refine bodyPost_ret (v:= .tuple #[Ac Ay none none none 0 0 0,.slice none 0 0,.int .i64 9]) (by simp[results,Tryz.results27,go_sem,Ac,Ag,Ay,k0,k1,k2,k3,k4,k5,k6,k7,hlt0]) rfl
      (N3 HR.out.1 HR.out.2 w _ (Ak (HBX.out _ HB.out).1.below (by omega) _ _ _ _ _ _ _ _))
    ·have bt:(t.queue == q)=false:=by simp[ht]
     have HT:=zh ht;clear ht;go_wp2_with fail
     refine⟨⟨j+1,by omega,rfl,fun m x hm hx=> ?_,HB.out⟩,by simp[intOf];omega⟩;by_cases hmj:m=j
     ·subst hmj
      rw[HTJ.out] at hx
      cases hx
      exact HT.out
     ·exact HNO.out m x (by omega) hx
   ·obtain rfl:j=s.ae.length:=by omega
    have HT:Hid (Nq s q=false):=zh (Ak3 fun m x hx=>hno m x (List.getElem?_eq_some_iff.1 hx).1 hx);obtain⟨⟨m0,m1,m2⟩,_,_,_,_,_⟩:=(HBX.out _ hB).1;clear hsat hno hB hj hlt;go_wp2_with fail
    clear m0 m1 m2 n0 n1 n2 n3 n4 n5 n6 n7;refine(Ra p s q 1 p1 p2 p3 a1 a2 a3 q1 q2 q3 c1 c2 c3 rows wr (HBX.out _ HB.out).1.env (HBX.out _ HB.out).1.bu HPS.out (HBX.out _ HB.out).1.bc HSS.out HSI.out).mono ?_;rintro e W3 ⟨j1,j2,j3,d1,d2,d3,rowsJ,rfl,hh3,hb3⟩;have HB3:=zh (HB.out.trans (hb3.mono HB.out.size));have HZ3:=zh hb3.size;clear hb3;have HH3:=zh hh3;clear hh3;generalize hJ:Fh p s q 1=X at *;have HJ:=zh hJ;clear hJ;unfold Ac Ag;by_cases hj:Cc p s q 1=0
    ·obtain⟨hR0,hq0,hq1⟩:=Fv.1 HC.out
     obtain⟨k,rfl⟩:=Int.eq_ofNat_of_zero_le hq0;have HRS:=zh hR0;have HQ1:=zh hq1;have hX0:X=(As s (k:Int) 0):=HJ.out.symm.trans (Rl hj).symm;subst hX0;have HJ0:=zh hj;have HJN:Hid (Ib p s (k:Int) 1=Em s.ae):=by refine(?_:Ib p s (k:Int) 1=Em s.ae);unfold Ib;rw[zp hj]
     have HT0:Hid (s.af≤1048576):=zh (by have:=hR0.af;unfold countB at this;simp only[zc,zd] at this;exact this.2);rw[hj,HJN.out];clear hR0 hq0 hq1 hj;go_wp2_with fail
     obtain⟨W4,hW4⟩:∃W4,W3.alloc (.cells #[.slice j1 (As s (k:Int) 0).ready.length d1,.slice j2 (As s (k:Int) 0).outs.length d2,.slice j3 (As s (k:Int) 0).ae.length d3,.int .i64 (As s (k:Int) 0).ah,.int .i64 (As s (k:Int) 0).af,.int .i64 (As s (k:Int) 0).aw,.int .i64 (As s (k:Int) 0).ar,.int .i64 (As s (k:Int) 0).dropped] 31)=W4:=⟨_,rfl⟩;have HB4:Hid (Below W0.heap.size W0 W4):=zh (by rw[←hW4];exact HB3.out.alloc HB3.out.size _);have HK4:Hid (Bk W4 W3.heap.size 31 (Ag (As s (k:Int) 0) j1 j2 j3 d1 d2 d3)∧Cm W4 wr.heap.size (.slice j1 (As s (k:Int) 0).ready.length d1) (.slice j2 (As s (k:Int) 0).outs.length d2) (.slice j3 (As s (k:Int) 0).ae.length d3) rowsJ (As s (k:Int) 0)):=zh (by
      rw[←hW4];exact⟨Bk.new _ _ _,HH3.out.kept (Al.alloc [] W3 _)⟩)
     have HG:Hid (W0.heap.size≤wr.heap.size∧wr.heap.size≤W3.heap.size∧W3.heap.size < W4.heap.size):=zh ⟨HB.out.size,HZ3.out,by rw[←hW4];simp⟩;have HLOW:=zh (HBX.out _ HB.out).1.below.size;rw[hW4];clear hW4;generalize wr.heap.size=lo at *
     go_loopw [14] (fun l wr=>Axz p s k W3.heap.size lo W0 l wr) (fun l _=>doM s k l)
     case atStart=>
      exact⟨0,j1,j2,j3,d1,d2,d3,rowsJ,Nat.zero_le _,by have:=HT0.out;omega,HK4.out.1,HK4.out.2,World.ownsRow_nil _ _ _ _,HB4.out⟩
     case round=>
      obtain⟨i,b1,b2,b3,d1,d2,d3,rowsI,hi,hti,hbk,hheld,hown,hB⟩:=hrel;obtain⟨hlen,hrow⟩:=Aq5 HRS.out HQ1.out i;have hkr:k < s.ready.length:=(L6 HRS.out HQ1.out).1;have HRX:=zh (Mw HJ0.out i hi hti);obtain⟨g,rfl⟩:=Fa hheld.ready (by rw[hlen];omega);obtain⟨ra,rc,hrc,hsl,hcell⟩:=hheld.rowAt rfl hrow;have hc0:=(hcell [] _ (by decide) (Al.refl _ _)).1;have hlim1:(k:Int) < ((As s (k:Int) i).ready.length:Int):=by rw[hlen];omega
      have HHD:=zh hheld;have HBK:=zh hbk;have HOW:=zh hown;have HB:=zh hB;unfold Ag at hbk;obtain⟨n0,n1,n2,n3,n4,n5,n6,n7,_,_,_,_,_,_,_,_,hltG⟩:=Af hbk;by_cases hlt:i < (Ah s (k:Int)).length
      ·obtain⟨x,rest,hdr⟩:∃x rest,(Ah s (k:Int)).drop i=x::rest:=⟨_,_,List.drop_eq_getElem_cons hlt⟩
       have HTK:=zh (Alq hdr hlt);rw[hdr] at hc0 hsl hrc;obtain⟨rb,ro,rfl,hlrb,hitem⟩:=hsl.head;obtain⟨nl,hnl⟩:∃nl,(x::rest).length=nl:=⟨_,rfl⟩;have hnl0:0 < nl:=by rw[←hnl];exact Nat.succ_pos _
       rw[hnl] at hc0;obtain⟨i0,i1,i2,i3,i4⟩:=hitem [] wr (by decide) (Al.refl _ _);obtain⟨al,cl,rfl,_⟩:=Ad hown;have HLT:=zh hlt;have HTI:=zh hti;have hL:i < 4294967296:=by have:=(HSS.out.row _ (zg hkr)).len;have e:=(L6 HRS.out HQ1.out).2;rw[e] at hlt;omega
       have hbase:lo≤wr.heap.size:=by have:=HG.out;have:=hltG;omega
       clear hdr hsl hrc hcell hitem hrow hlen hkr hheld hown hB hbk hi hlt hti hnl i0 i1 i3 i4;go_upto_region 15 with(at_builtin;refine D6 rfl _ _ 43 rfl lo 9 Jb Tryz.underlying43 rfl (by decide) (by decide) wr _ _ _ rfl HOW.out [.string x.body] rfl rfl rfl (by simp[Value.oneCell']) (by omega) hbase ?_;intro v5 w5 ho5 hg5;have HO5:=zh (zi ho5 hg5);clear ho5 hg5)
       clear n0 n1 n2 n3 n4 n5 n6 n7 hltG hc0 i2 hlim1 hnl0;have K5:Al [9] wr w5:=Al.grown HOW.out HO5.out.2 (by decide);have HBK5:=zh (K5 _ _ _ (by decide) HBK.out);have HH5:=zh (HHD.out.kept K5);have HB5:=zh (Bl HOW.out HO5.out.2 HB.out HG.out.1 HB.out.size);have HOW5:Hid (w5.ownsRow lo 9 1 v5 (i+1) (((Ah s (k:Int)).take (i+1)).map fun x=>Value.string x.body)):=zh (by rw[HTK.out];exact HO5.out.1);clear K5 HTK HO5 HOW HHD HBK;obtain⟨⟨m0,m1,m2⟩,_,_,_,_,_⟩:=(HBX.out _ HB5.out).1;have hbk5:=HBK5.out;unfold Ag at hbk5;obtain⟨n0,n1,n2,n3,n4,n5,n6,n7,_,_,_,_,_,_,_,_,hltG⟩:=Af hbk5;clear hbk5;go_wp2_with fail
       clear n0 n1 n2 n3 n4 n5 n6 n7 m0 m1 m2;refine(M8 p (As s (k:Int) i) k p1 p2 p3 (some ⟨g,0,none⟩) b2 b3 q1 q2 q3 d1 d2 d3 rowsI w5 (HBX.out _ HB5.out).1.env (HBX.out _ HB5.out).1.bu HPS.out (HH5.out.bc.1.wider (Nat.zero_le _) (zn _)) HRX.out.small HRX.out.ints).mono ?_;rintro e W6 ⟨y1,y2,y3,f1,f2,f3,rowsD,rfl,hs6,hb6⟩;have HB6:=zh (HB5.out.trans (hb6.mono HB5.out.size));have HBK6:=zh (HBK5.out.below hb6 HBK5.out.lt);have HOW6:=zh (own_below HOW5.out hb6);have HS6:=zh hs6;have HSZ6:=zh hb6.size;have HDS:=zh (Ub HJ0.out HLT.out HRX.out);have HDR:=zh (fun h:Bw p (As s (k:Int) i) (k:Int)=0=>(by obtain⟨_,_,_,_,e,hr⟩:=Gv h;rw[e];exact hr:Cs p (Ca p (As s (k:Int) i) (k:Int))));clear hb6 hs6;generalize Ca p (As s (k:Int) i) (k:Int)=Y at *;generalize Dm p (As s (k:Int) i) (k:Int)=tg at *;unfold Ac Ag;obtain⟨W7,hW7⟩:∃W7,W6.alloc (.cells (zV Y y1 y2 y3 f1 f2 f3) 31)=W7:=⟨_,rfl⟩;have hal:Below W6.heap.size W6 W7:=by rw[←hW7];exact(zb _ _).alloc (zn _) _
       have HP7:Hid (Bk W7 W6.heap.size 31 (zV Y y1 y2 y3 f1 f2 f3)):=zh (by rw[←hW7];exact Bk.new _ _ _);have HB7:=zh (HB6.out.trans (hal.mono HB6.out.size));have HBK7:=zh (HBK6.out.below hal HBK6.out.lt);have HOW7:=zh (own_below HOW6.out hal);have HS7:=zh (HS6.out.kept (Al.ct (ts:=[]) hal));have HZ7:Hid (lo≤W7.heap.size):=zh (by have:=HG.out;have:=hal.size;have:=HSZ6.out;have:=HB5.out.size;omega);clear hal;by_cases ht:s.af+i=1048576
       ·rw[HDS.out.1 ht]
        have HR:Hid (Ck p s (k:Int)=2∧(2:Int)≠0):=zh ⟨by unfold Ck;rw[zq (by simp[HC.out]),zq (by simp[HT.out]),zq (by simp[HJ0.out]),zp (by have:=HLT.out;omega)],by decide⟩;clear ht;go_upto_region 16 with fail
        try rw[hW7]
        clear hW7;have hzk:=(HBX.out _ HB7.out).2;unfold zeroCells at hzk;obtain⟨k0,k1,k2,k3,k4,k5,k6,k7,f0,f1,f2,f3,f4,f5,f6,f7,hlt0⟩:=Af hzk;clear hzk;go_wp2_with fail
        refine bodyPost_ret (v:= .tuple #[Ac Ay none none none 0 0 0,.slice none 0 0,.int .i64 2]) (by simp[results,Tryz.results27,go_sem,Ac,Ag,Ay,k0,k1,k2,k3,k4,k5,k6,k7,hlt0]) rfl
         (N3 HR.out.1 HR.out.2 w _ (Ak (HBX.out _ HB7.out).1.below (by omega) _ _ _ _ _ _ _ _))
       ·obtain⟨hd0,_,ha0,ha1,haR⟩:=HDS.out.2 ht
        rw[hd0];have HAE:=zh ha0;have HAS:=zh ha1;have HAR:=zh haR;have HYR:=zh (HDR.out hd0);have HTI2:Hid (s.af+(i+1:Nat)≤1048576):=zh (by have:=HTI.out;omega);clear hd0 ha0 ha1 haR ht;go_upto_region 16 with fail
        try rw[hW7]
        clear hW7;obtain⟨⟨m0,m1,m2⟩,_,_,_,_,_⟩:=(HBX.out _ HB7.out).1;obtain⟨n0,n1,n2,n3,n4,n5,n6,n7,_,_,_,_,_,_,_,_,hltG7⟩:=Af HP7.out;go_wp2_with fail
        clear n0 n1 n2 n3 n4 n5 n6 n7 m0 m1 m2 hltG7;have HCAP:Hid (Y.outs.length≤f2):=zh (by obtain⟨_,_,e,h⟩:=Ad HS7.out.outs;simp only[Value.slice.injEq] at e;omega);refine(Yy p Y tg p1 p2 p3 y1 y2 y3 q1 q2 q3 f1 f2 f3 rowsD W7 (HBX.out _ HB7.out).1.env (HBX.out _ HB7.out).1.bu HPS.out (HS7.out.bc.1.wider (Nat.zero_le _) (zn _)) HYR.out.small HYR.out.ints HCAP.out).mono ?_;rw[HAE.out,HAS.out];rintro e W8 ⟨z1,z2,z3,l1,l2,l3,rowsA,rfl,hh8,hb8⟩;have HB8:=zh (HB7.out.trans (hb8.mono HB7.out.size));have hbk8:=HBK7.out.below hb8 HBK7.out.lt;unfold Ag at hbk8;have HOW8:=zh (own_below HOW7.out hb8);unfold Ac Ag;have HP9:=zh (hbk8.put8 (.slice z1 (As s (k:Int) (i+1)).ready.length l1) (.slice z2 (As s (k:Int) (i+1)).outs.length l2) (.slice z3 (As s (k:Int) (i+1)).ae.length l3) (.int .i64 (As s (k:Int) (i+1)).ah) (.int .i64 (As s (k:Int) (i+1)).af) (.int .i64 (As s (k:Int) (i+1)).aw) (.int .i64 (As s (k:Int) (i+1)).ar) (.int .i64 (As s (k:Int) (i+1)).dropped));have HK9:=zh (Al.dg (ts:=[31]) hbk8 (by decide) (.slice z1 (As s (k:Int) (i+1)).ready.length l1) (.slice z2 (As s (k:Int) (i+1)).outs.length l2) (.slice z3 (As s (k:Int) (i+1)).ae.length l3) (.int .i64 (As s (k:Int) (i+1)).ah) (.int .i64 (As s (k:Int) (i+1)).af) (.int .i64 (As s (k:Int) (i+1)).aw) (.int .i64 (As s (k:Int) (i+1)).ar) (.int .i64 (As s (k:Int) (i+1)).dropped));have HB9:=zh (Ak HB8.out (show W0.heap.size≤W3.heap.size by have:=HG.out;omega) (.slice z1 (As s (k:Int) (i+1)).ready.length l1) (.slice z2 (As s (k:Int) (i+1)).outs.length l2) (.slice z3 (As s (k:Int) (i+1)).ae.length l3) (.int .i64 (As s (k:Int) (i+1)).ah) (.int .i64 (As s (k:Int) (i+1)).af) (.int .i64 (As s (k:Int) (i+1)).aw) (.int .i64 (As s (k:Int) (i+1)).ar) (.int .i64 (As s (k:Int) (i+1)).dropped));have HH8:=zh hh8;obtain⟨n0,n1,n2,n3,n4,n5,n6,n7,g0,g1,g2,g3,g4,g5,g6,g7,hltG8⟩:=Af hbk8;clear hbk8 hh8 hb8;go_wp2_with fail
        obtain⟨al5,cl5,rfl,_⟩:=Ad HOW8.out;exact⟨⟨i+1,z1,z2,z3,l1,l2,l3,rowsA,HLT.out,HTI2.out,HP9.out,(HH8.out.kept HK9.out).wider HZ7.out,Cz HOW8.out HK9.out (by decide),HB9.out⟩,by rw[Aq6,Aq6];have:=HLT.out;omega⟩
      ·obtain rfl:i=(Ah s (k:Int)).length:=by omega
       have HTI:=zh hti;have hnil:((Ah s (k:Int)).drop (Ah s (k:Int)).length).length=0:=by simp
       rw[hnil] at hc0;have htk:(As s (k:Int) (Ah s (k:Int)).length).ae[Em s.ae]? =some ⟨(k:Int),1⟩:=by show(joinL s.ae _)[Em s.ae]? =_;rw[Ji,zp rfl]
       have hjl:=(List.getElem?_eq_some_iff.1 htk).1;obtain⟨g3,rfl⟩:=Fa hheld.ae (by omega);obtain⟨al,cl,rfl,_⟩:=Ad hown;have ht0:wr.cell? ⟨g3,Em s.ae * 2,none⟩=some (.int .i64 (k:Int)):=by
        refine(hheld.ae.cellAt _ (by omega)).trans ((flat_get Cy _ (Em s.ae) hjl 0 (by decide)).trans ?_);rw[(List.getElem?_eq_some_iff.1 htk).2];rfl
       have fz:=hheld.ae.frozenAt (Em s.ae * 2);obtain⟨hg31,hg32⟩:=hheld.ae.lt g3 rfl;have hj1:((Em s.ae:Nat):Int) < ((As s (k:Int) (Ah s (k:Int)).length).ae.length:Int):=by omega
       have hj0:(0:Int)≤((Em s.ae:Nat):Int):=by omega
       have HZ:=zh (hheld.takerQ rfl htk (-1));have HB9:Hid (Below W0.heap.size W0 (wr.setCell ⟨g3,Em s.ae * 2,none⟩ (.int .i64 (-1)))):=zh (hB.setCell (p:=⟨g3,Em s.ae * 2,none⟩) (by have:=HG.out;show W0.heap.size≤g3;omega) _);have hS:Ck p s (k:Int)=0:=Pf.2 ⟨HJ0.out,HT.out,hti⟩;have HS:Hid (Ck p s (k:Int)=0∧Gl p s (k:Int)= { (As s (k:Int) (Ah s (k:Int)).length) with ae:=(As s (k:Int) (Ah s (k:Int)).length).ae.set (Em s.ae) ⟨-1,1⟩ } ∧Ih p s (k:Int)=(Ah s (k:Int)).map (·.body)):=zh ⟨hS,by unfold Gl;rw[zp hS];show _=({ (As s (k:Int) (Ah s (k:Int)).length) with ae:=(joinL s.ae ⟨(k:Int),1⟩).set (Em s.ae) ⟨-1,1⟩ } :Aa);rw[Acb],by unfold Ih;rw[zp hS]⟩;clear hS hnil hsl hrc hcell hrow hlen hkr hheld hown hB hbk hi hlt hti htk hjl;go_upto_region 20 with fail
       clear n0 n1 n2 n3 n4 n5 n6 n7 hltG hc0  hlim1 ht0 fz hj1 hj0;have HBKZ:=zh (HZ.out.2 _ _ _ (by decide) HBK.out);have HOWZ:=zh (Cz HOW.out HZ.out.2 (by decide));obtain⟨Z,hZ⟩:∃Z,wr.setCell ⟨g3,Em s.ae * 2,none⟩ (.int .i64 (-1))=Z:=⟨_,rfl⟩;rw[hZ] at HZ HB9 HBKZ HOWZ;rw[hZ];clear hZ;have hbkz:=HBKZ.out;unfold Ag at hbkz;obtain⟨n0,n1,n2,n3,n4,n5,n6,n7,_,_,_,_,_,_,_,_,hltG⟩:=Af hbkz;clear hbkz;have hzk:=(HBX.out _ HB9.out).2;have HZS:=zh hzk;unfold zeroCells at hzk;obtain⟨k0,k1,k2,k3,k4,k5,k6,k7,f0,f1,f2,f3,f4,f5,f6,f7,hlt⟩:=Af hzk;clear hzk;go_wp2_with fail
       refine bodyPost_ret (v:= .tuple #[.agg #[.slice (some ⟨g,0,none⟩) (As s (k:Int) (Ah s (k:Int)).length).ready.length d1,.slice b2 (As s (k:Int) (Ah s (k:Int)).length).outs.length d2,.slice (some ⟨g3,0,none⟩) (As s (k:Int) (Ah s (k:Int)).length).ae.length d3,.int .i64 (As s (k:Int) (Ah s (k:Int)).length).ah,.int .i64 (As s (k:Int) (Ah s (k:Int)).length).af,.int .i64 (As s (k:Int) (Ah s (k:Int)).length).aw,.int .i64 (As s (k:Int) (Ah s (k:Int)).length).ar,.int .i64 (As s (k:Int) (Ah s (k:Int)).length).dropped],.slice al (Ah s (k:Int)).length cl,.int .i64 0]) (by simp[results,Tryz.results27,go_sem,k0,k1,k2,k3,k4,k5,k6,k7,hlt]) rfl ?_;have K8:=Al.dg (ts:=[31]) HZS.out (by decide) (.slice (some ⟨g,0,none⟩) (As s (k:Int) (Ah s (k:Int)).length).ready.length d1) (.slice b2 (As s (k:Int) (Ah s (k:Int)).length).outs.length d2) (.slice (some ⟨g3,0,none⟩) (As s (k:Int) (Ah s (k:Int)).length).ae.length d3) (.int .i64 (As s (k:Int) (Ah s (k:Int)).length).ah) (.int .i64 (As s (k:Int) (Ah s (k:Int)).length).af) (.int .i64 (As s (k:Int) (Ah s (k:Int)).length).aw) (.int .i64 (As s (k:Int) (Ah s (k:Int)).length).ar) (.int .i64 (As s (k:Int) (Ah s (k:Int)).length).dropped);have hlo:w.heap.size≤lo:=HLOW.out;have hF:=HZ.out.1.kept K8;have hO:=Cz HOWZ.out K8 (by decide);have hX:=Ak (HBX.out _ HB9.out).1.below (show w.heap.size≤w.heap.size+1+1 by omega) (.slice (some ⟨g,0,none⟩) (As s (k:Int) (Ah s (k:Int)).length).ready.length d1) (.slice b2 (As s (k:Int) (Ah s (k:Int)).length).outs.length d2) (.slice (some ⟨g3,0,none⟩) (As s (k:Int) (Ah s (k:Int)).length).ae.length d3) (.int .i64 (As s (k:Int) (Ah s (k:Int)).length).ah) (.int .i64 (As s (k:Int) (Ah s (k:Int)).length).af) (.int .i64 (As s (k:Int) (Ah s (k:Int)).length).aw) (.int .i64 (As s (k:Int) (Ah s (k:Int)).length).ar) (.int .i64 (As s (k:Int) (Ah s (k:Int)).length).dropped);refine⟨some ⟨g,0,none⟩,b2,some ⟨g3,0,none⟩,d1,d2,d3,rowsI,al,cl,?_,(by rw[HS.out.2.1];exact hF.bc.1.wider hlo (zn _)),?_,hX⟩
       ·rw[HS.out.1,HS.out.2.1,HS.out.2.2,List.length_map]
        unfold Ac Ag;rw[List.length_set]
       ·rw[HS.out.2.2]
        have e:((Ah s (k:Int)).map (·.body)).map Value.string=((Ah s (k:Int)).take (Ah s (k:Int)).length).map fun x=>Value.string x.body:=by rw[List.take_length,List.map_map];rfl
        rw[e];exact(Sl.cu hO).wider hlo (zn _)
    ·have HR:Hid (Ck p s q=Cc p s q 1∧Cc p s q 1≠0):=zh ⟨by unfold Ck;rw[zq (by simp[HC.out]),zq (by simp[HT.out]),zp hj],hj⟩
     have bn:(Cc p s q 1 != 0)=true:=by simp[hj]
     clear hj;generalize Cc p s q 1=je at *;obtain⟨W4,hW4⟩:∃W4,W3.alloc (.cells (zV X j1 j2 j3 d1 d2 d3) 31)=W4:=⟨_,rfl⟩;have HB4:Hid (Below W0.heap.size W0 W4):=zh (by rw[←hW4];exact HB3.out.alloc HB3.out.size _);go_upto_region 10 with fail
     try rw[hW4]
     clear hW4;have hzk:=(HBX.out _ HB4.out).2;unfold zeroCells at hzk;obtain⟨k0,k1,k2,k3,k4,k5,k6,k7,f0,f1,f2,f3,f4,f5,f6,f7,hlt0⟩:=Af hzk;clear hzk;go_wp2_with fail
     refine bodyPost_ret (v:= .tuple #[Ac Ay none none none 0 0 0,.slice none 0 0,.int .i64 je]) (by simp[results,Tryz.results27,go_sem,Ac,Ag,Ay,k0,k1,k2,k3,k4,k5,k6,k7,hlt0]) rfl
      (N3 HR.out.1 HR.out.2 w _ (Ak (HBX.out _ HB4.out).1.below (by omega) _ _ _ _ _ _ _ _))
 ·have ba:(B5 p s q != 0)=true:=by simp[hc]
  have HR:Hid (Ck p s q=B5 p s q∧B5 p s q≠0):=zh ⟨by unfold Ck;rw[zp hc],hc⟩;clear hc;have hzk:=(HBX.out _ HB1.out).2;unfold zeroCells at hzk;obtain⟨k0,k1,k2,k3,k4,k5,k6,k7,f0,f1,f2,f3,f4,f5,f6,f7,hlt0⟩:=Af hzk;clear hzk;go_wp2_with fail
  refine bodyPost_ret (v:= .tuple #[Ac Ay none none none 0 0 0,.slice none 0 0,.int .i64 (B5 p s q)]) (by simp[results,Tryz.results27,go_sem,Ac,Ag,Ay,k0,k1,k2,k3,k4,k5,k6,k7,hlt0]) rfl
   (N3 HR.out.1 HR.out.2 w _ (Ak (HBX.out _ HB1.out).1.below (by omega) _ _ _ _ _ _ _ _))
end Go.Proofs.YtaanpcjkflhomaaGreatDoor
