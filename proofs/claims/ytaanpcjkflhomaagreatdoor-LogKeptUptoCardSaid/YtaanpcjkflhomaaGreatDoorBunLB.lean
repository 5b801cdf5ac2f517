/-
  Walks of state.Begin and of the reference BeginOf.
-/
import Derived.Test.YtaanpcjkflhomaaGreatDoorBunF
import Derived.Test.YtaanpcjkflhomaaGreatDoorBunG
import Derived.Test.YtaanpcjkflhomaaGreatDoorBunLA
import Derived.Laws.StructEq
import Derived.IntWalk
import Derived.Test.YtaanpcjkflhomaaGreatDoorBunDC
import Derived.Test.YtaanpcjkflhomaaGreatDoorBunJ
import Derived.Test.YtaanpcjkflhomaaGreatDoorBunO
import Derived.Test.YtaanpcjkflhomaaGreatDoorBunA
set_option maxHeartbeats 20000000
set_option maxRecDepth 100000
set_option linter.unusedSimpArgs false
set_option linter.unusedVariables false
namespace Go.Proofs.YtaanpcjkflhomaaGreatDoor
open Go.RowKit
theorem Yz (p:Ab) (p1 p2 p3:Option Addr) (q1 q2 q3:Nat) (w:World) (hE:Env w) (hp:Az w 0 w.heap.size p1 p2 p3 p) (hps:Ai p):
  Calls Tryz.prog 85 #[Bc p p1 p2 p3 q1 q2 q3] w fun e w'=>∃a c rows,e= .returned (.tuple #[Ac (Hq p) a none none c 0 0,.int .i64 (Bf p)])∧Ax w' w.heap.size w'.heap.size a none none rows (Hq p)∧Below w.heap.size w w':=by
 have hql:=hps.ag;have HS:=zh hps;clear hps
 have hbx:∀W,Below ((w.alloc (.cells (zP p p1 p2 p3 q1 q2 q3) 26)).alloc (.cells zeroCells 31)).heap.size ((w.alloc (.cells (zP p p1 p2 p3 q1 q2 q3) 26)).alloc (.cells zeroCells 31)) W→
   Az W 0 W.heap.size p1 p2 p3 p∧(W.cell? ⟨w.heap.size,0,none⟩=some (.slice p1 p.aj.length q1)∧W.cell? ⟨w.heap.size,1,none⟩=some (.slice p2 p.ag.length q2)∧W.cell? ⟨w.heap.size,2,none⟩=some (.slice p3 p.binds.length q3))∧Bk W (w.heap.size+1) 31 zeroCells∧Below w.heap.size w W:=fun W hW=>by
  have h:=G6 hp q1 q2 q3 26 W (((zb _ _).alloc (zn _) _).trans (hW.mono (by simp)));exact⟨h.1.wider (zn _) (by have:=hW.size;simp at this⊢;omega),h.2.1,(Bk.cg _ _ _ (by simp)).below hW (by simp),h.2.2⟩
 unfold zeroCells at hbx;unfold Bc;have HV:=zh hE;clear hE hp
 go_enter Tryz.func85,Tryz.ntmps85
 obtain⟨_,⟨m20,m21,m22⟩,_,_⟩:=hbx _ (zb _ _);have HBX:=zh hbx;clear hbx
 go_wp2_with fail
 generalize ((w.alloc (.cells (zP p p1 p2 p3 q1 q2 q3) 26)).alloc (.cells zO 31))=W0 at *;refine(Ku p p1 p2 p3 q1 q2 q3 0 W0 (Av (HBX.out W0 (zb _ _)).2.2.2 HV.out) ((HBX.out W0 (zb _ _)).1) HS.out).mono ?_;rintro e W1 ⟨rfl,hB1⟩;have HB1:=zh hB1;clear hB1 m20 m21 m22
 obtain⟨_,⟨m20,m21,m22⟩,hbk,hbelow⟩:=HBX.out _ HB1.out;by_cases hc:Bf p=0
 ·have b1:(Bf p != 0)=false:=by simp[hc]
  have HC:Hid (Bf p=0):=hc;have HR:Hid (Hq p=Cx p):=(by simp[Hq,hc]:Hq p=Cx p);have hmk:=Aco p.ag.length (by omega);clear hc;obtain⟨k0,k1,k2,k3,k4,k5,k6,k7,f0,f1,f2,f3,f4,f5,f6,f7,hlt⟩:=Af hbk;go_wp2_with fail
  refine bodyPost_ret (v:= .tuple #[Ac (Cx p) (some ⟨W1.heap.size,0,none⟩) none none p.ag.length 0 0,.int .i64 0]) (by simp[results,Tryz.results85,go_sem,Ac,Ag,Cx,k0,k1,k2,k3,k4,k5,k6,k7,hlt]) rfl
   ⟨some ⟨W1.heap.size,0,none⟩,p.ag.length,M3 p,by rw[HR.out,HC.out],?_,?_⟩
  ·rw[HR.out]
   refine Af3 (Sl.of_bk (cs:=(List.replicate p.ag.length (Value.slice none 0 0)).toArray) (t:=50) ?_ hbelow.size (by simp[World.setCell]) (by simp));rw[List.toArray_replicate];exact Bk.cg _ _ _ (by simp[World.setCell])
  ·exact(Ak hbelow (by omega) _ _ _ _ _ _ _ _).alloc (by simpa [World.setCell] using hbelow.size) _
 ·have b1:(Bf p != 0)=true:=by simp[hc]
  have HR:Hid (Hq p=Ay):=(by simp[Hq,hc]:Hq p=Ay);obtain⟨k0,k1,k2,k3,k4,k5,k6,k7,f0,f1,f2,f3,f4,f5,f6,f7,hlt⟩:=Af hbk;clear hc;go_wp2_with fail
  refine bodyPost_ret (v:= .tuple #[Ac Ay none none none 0 0 0,.int .i64 (Bf p)]) (by simp[results,Tryz.results85,go_sem,Ac,Ag,Ay,k0,k1,k2,k3,k4,k5,k6,k7,hlt]) rfl
   ⟨none,0,[],by rw[HR.out],by rw[HR.out];exact Ki _ _ _,Ak hbelow (by omega) _ _ _ _ _ _ _ _⟩
theorem Aay (p:Ab) (p1 p2 p3:Option Addr) (q1 q2 q3:Nat) (w:World) (hp:Az w 0 w.heap.size p1 p2 p3 p) (hps:Ai p):
  Calls Tryz.prog 89 #[Bc p p1 p2 p3 q1 q2 q3] w fun e w'=>∃a c rows,e= .returned (Ac (Cx p) a none none c 0 0)∧Ax w' w.heap.size w'.heap.size a none none rows (Cx p)∧Below w.heap.size w w':=by
 have hql:=hps.ag;have hbx:=G6 hp q1 q2 q3 26;have hmk:=Aco p.ag.length (by omega);unfold Bc;clear hp hps;go_enter Tryz.func89,Tryz.ntmps89
 obtain⟨m20,m21,m22⟩:=(hbx _ (zb _ _)).2.1;have HBX:=zh hbx;clear hbx
 go_wp2_with fail
 have hb2:=(HBX.out _ (zb _ _)).2.2;refine bodyPost_ret (v:=Ac (Cx p) (some ⟨w.heap.size+1+1,0,none⟩) none none p.ag.length 0 0) (by simp[results,Tryz.results89,go_sem,Ac,Ag,Cx]) rfl
  ⟨some ⟨w.heap.size+1+1,0,none⟩,p.ag.length,M3 p,rfl,?_,?_⟩
 ·refine Af3 (Sl.of_bk (cs:=(List.replicate p.ag.length (Value.slice none 0 0)).toArray) (t:=50) ?_ (by omega) (by simp) (by simp))
  have:=Bk.cg ((w.alloc (.cells (zP p p1 p2 p3 q1 q2 q3) 26)).alloc (.cells #[.slice (some ⟨w.heap.size+1+1,0,none⟩) p.ag.length p.ag.length,.slice none 0 0,.slice none 0 0,.int .i64 0,.int .i64 0,.int .i64 0,.int .i64 0,.int .i64 0] 31)) 50 (List.replicate p.ag.length (Value.slice none 0 0)).toArray (g:=w.heap.size+1+1) (by simp);simpa using this
 ·exact(hb2.alloc hb2.size _).alloc (by simp;omega) _
open Go.RowKit
open Go.RowKit
def Wt (x y:Cn):Bool:=x.kind == y.kind && (x.a == y.a && (x.b == y.b && (x.key.toList == y.key.toList && x.body.toList == y.body.toList)))
theorem Avz (x y:Cn) (w:World):(Op.equalIn 10000 57 (.agg (zX x)) (.agg (zX y))).run Tryz.prog w= .ok (Wt x y) w:=by
 have u1:=Tryz.underlying3;have a1:=Tryz.isAgg3;have z1:=Tryz.sizeOf3;have u2:=Tryz.underlying9;have a2:=Tryz.isAgg9;have z2:=Tryz.sizeOf9;have hS:Tryz.prog.underlying 57=some (.struct (Tryz.prog.fieldsOf 57)):=by kernel_rfl
 have hH:Tryz.prog.stoodInHeld 57=false:=by kernel_rfl
 rw[show(10000:Nat)=9999+1 from rfl,run_equalIn_agg w 9999 57 _ _ hS hH];simp only[Program.fieldsOf,Tryz.underlying57];unfold Wt
 go_simp
 by_cases h1:x.kind=y.kind<;>by_cases h2:x.a=y.a<;>by_cases h3:x.b=y.b<;>by_cases h4:x.key.toList=y.key.toList<;>by_cases h5:x.body.toList=y.body.toList<;>simp[h1,h2,h3,h4,h5]
@[go_sem ↓] theorem Azd (x y:Cn) (w:World):(binOp .neq 57 (.agg (zX x)) (.agg (zX y))).run Tryz.prog w= .ok (.bool (!Wt x y)) w:=by
 rw[run_neq_struct,Avz];rfl
@[go_sem ↓] theorem Azc (x y:Cn) (w:World):(binOp .eql 57 (.agg (zX x)) (.agg (zX y))).run Tryz.prog w= .ok (.bool (Wt x y)) w:=by
 rw[run_eql_struct,Avz];rfl
@[go_sem] theorem Aw4:Tryz.prog.eqGuardType Tryz.prog.depth 57=false:=by kernel_rfl
theorem Ol {wr:World} {b o k:Nat} {x:Cn} (hc:∀j u,(Ez x)[j]? =some u→wr.cell? ⟨b,o+k * 5+j,none⟩=some u):
  wr.cell? ⟨b,o+k * 5,none⟩=some (.int .i64 x.kind)∧wr.cell? ⟨b,o+k * 5+1,none⟩=some (.int .i64 x.a)∧wr.cell? ⟨b,o+k * 5+2,none⟩=some (.int .i64 x.b)∧wr.cell? ⟨b,o+k * 5+3,none⟩=some (.string x.key)∧wr.cell? ⟨b,o+k * 5+4,none⟩=some (.string x.body):=
 ⟨hc 0 _ rfl,hc 1 _ rfl,hc 2 _ rfl,hc 3 _ rfl,hc 4 _ rfl⟩
open Go Go.RowKit
theorem Agq {p:Ab} {s:Aa} (x:Cn) (h:Am s∧Ba s):Am (Lb p s x)∧Ba (Lb p s x):=by
 unfold Lb;by_cases h0:E2 p s x=0
 ·rw[zp h0]
  exact⟨(Q8 h0).right.small,(Q8 h0).right.ints⟩
 ·rw[zq h0]
  exact h
theorem Nr {p:Ab} (hp:Ai p):∀(l:List Cn),Am (Ju p l)∧Ba (Ju p l):=by
 intro l;have hk:∀(l:List Cn) (s:Aa),(Am s∧Ba s)→Am (l.foldl (Lb p) s)∧Ba (l.foldl (Lb p) s):=by
  intro l
  induction l with
  |nil=>intro s h;exact h
  |cons x l ih=>intro s h;exact ih _ (Agq x h)
 exact hk l _ ⟨Wv hp,Aea p⟩
open Go Go.RowKit
theorem Aak:∀(n:Nat) (s:ByteArray),∀x∈(I5 n s).1,Df x=true
 |0,s,x,hx=>by cases hx
 |n+1,s,x,hx=>by
  rw[I5] at hx
  cases h:Hp s with
  |none=>rw[h] at hx;cases hx
  |some y=>
   rw[h] at hx;rcases List.mem_cons.1 hx with rfl|hx
   ·exact(Na h).1
   ·exact Aak n _ x hx
theorem Tv (t:ByteArray):∀x∈Dq t,Df x=true:=by
 unfold Dq
 split
 ·intro x hx;cases hx
 ·exact Aak 60 t
theorem Xt {x:Cn} (h:Df x=true):Eb x:=by
 unfold Df at h;simp only[zc,zd] at h;obtain⟨⟨⟨⟨h1,h2⟩,h3⟩,h4⟩,h5⟩:=h;exact⟨by omega,by omega,by omega,by omega,by omega⟩
theorem Ah7:∀(n:Nat) (s:ByteArray),(I5 n s).1.length≤n
 |0,s=>zn _
 |n+1,s=>by
  rw[I5]
  cases h:Hp s with
  |none=>exact Nat.zero_le _
  |some y=>exact Nat.succ_le_succ (Ah7 n _)
theorem L8 (t:ByteArray):(Dq t).length≤60:=by
 unfold Dq
 split
 ·exact Nat.zero_le _
 ·exact Ah7 60 t
def rcS (p:Ab) (t:ByteArray):Aa:=if Hn p t=0 then Ju p (Dq t) else Ay
def rcN (p:Ab) (t:ByteArray):Int:=if Hn p t=0 then ((Dq t).length:Int) else 0
theorem Ae3 {p:Ab} {t:ByteArray} {e:Int} (h:Hn p t=e) (h0:e≠0):rcS p t=Ay∧rcN p t=0∧Hn p t=e:=by
 unfold rcS rcN;rw[zq (by rw[h];exact h0),zq (by rw[h];exact h0)];exact⟨rfl,rfl,h⟩
theorem Qn {p:Ab} {t:ByteArray} (h1:Bf p=0) (h2:Dd t=0):rcS p t=Ju p (Dq t)∧rcN p t=(Dq t).length∧Hn p t=0:=by
 have h:Hn p t=0:=by unfold Hn;rw[zq (by simp[h1])];exact h2
 unfold rcS rcN;rw[zp h,zp h];exact⟨rfl,rfl,h⟩
def Ajd (p:Ab) (t:ByteArray) (w:World) (e:Ending) (w':World):Prop:=
 ∃a1 a2 a3 c1 c2 c3 rows,e= .returned (.tuple #[Ac (rcS p t) a1 a2 a3 c1 c2 c3,.int .i64 (rcN p t),.int .i64 (Hn p t)])∧Ax w' w.heap.size w'.heap.size a1 a2 a3 rows (rcS p t)∧Below w.heap.size w w'
theorem Yf {W:World} {g:Nat} {t:TypeId} {o0 o1 o2 o3 o4 o5 o6 o7:Value} (h:Bk W g t #[o0,o1,o2,o3,o4,o5,o6,o7]) (v0 v1 v2 v3 v4 v5 v6 v7:Value):
  Bk ((((((((W.setCell ⟨g,0,none⟩ v0).setCell ⟨g,1,none⟩ v1).setCell ⟨g,2,none⟩ v2).setCell ⟨g,3,none⟩ v3).setCell ⟨g,4,none⟩ v4).setCell ⟨g,5,none⟩ v5).setCell ⟨g,6,none⟩ v6).setCell ⟨g,7,none⟩ v7) g t #[v0,v1,v2,v3,v4,v5,v6,v7]:=by
 have:=(((((((h.ck 0 v0).ck 1 v1).ck 2 v2).ck 3 v3).ck 4 v4).ck 5 v5).ck 6 v6).ck 7 v7;simpa using this
def Avu (p:Ab) (L:List Cn) (W0 W3:World) (i:Value) (wr:World):Prop:=
 ∃(k:Nat) (b1 b2 b3:Option Addr) (d1 d2 d3:Nat) (rows:List Bq),k≤L.length∧i= .int .i64 k∧Bk wr W3.heap.size 31 (Ag (Ju p (L.take k)) b1 b2 b3 d1 d2 d3)∧Ax wr W0.heap.size wr.heap.size b1 b2 b3 rows (Ju p (L.take k))∧Below W3.heap.size W3 wr
theorem Ly (p:Ab) (t:ByteArray) (p1 p2 p3:Option Addr) (q1 q2 q3:Nat) (w:World) (hE:Env w) (hp:Az w 0 w.heap.size p1 p2 p3 p) (hps:Ai p) (ht:t.size≤1048576):
  Calls Tryz.prog 42 #[Bc p p1 p2 p3 q1 q2 q3,.string t] w (Ajd p t w):=by
 have HPS:=zh hps;clear hps
 have HT:=zh ht;clear ht
 have hbx:∀W,Below ((w.alloc (.cells (zP p p1 p2 p3 q1 q2 q3) 26)).alloc (.cells zeroCells 31)).heap.size ((w.alloc (.cells (zP p p1 p2 p3 q1 q2 q3) 26)).alloc (.cells zeroCells 31)) W→
   Az W 0 W.heap.size p1 p2 p3 p∧(W.cell? ⟨w.heap.size,0,none⟩=some (.slice p1 p.aj.length q1)∧W.cell? ⟨w.heap.size,1,none⟩=some (.slice p2 p.ag.length q2)∧W.cell? ⟨w.heap.size,2,none⟩=some (.slice p3 p.binds.length q3))∧Bk W (w.heap.size+1) 31 zeroCells∧Below w.heap.size w W:=fun W hW=>by
  have h:=G6 hp q1 q2 q3 26 W (((zb _ _).alloc (zn _) _).trans (hW.mono (by simp)));exact⟨h.1.wider (zn _) (by have:=hW.size;simp at this⊢;omega),h.2.1,(Bk.cg _ _ _ (by simp)).below hW (by simp),h.2.2⟩
 unfold zeroCells at hbx;unfold Bc;have HV:=zh hE;clear hE hp
 go_enter Tryz.func42,Tryz.ntmps42
 obtain⟨_,⟨m20,m21,m22⟩,_,_⟩:=hbx _ (zb _ _);have HBX:=zh hbx;clear hbx
 go_wp2_with fail
 have HLZ0:Hid (w.heap.size+1 < ((w.alloc (.cells (zP p p1 p2 p3 q1 q2 q3) 26)).alloc (.cells zO 31)).heap.size):=zh (by simp);generalize ((w.alloc (.cells (zP p p1 p2 p3 q1 q2 q3) 26)).alloc (.cells zO 31))=W0 at *;refine(Ku p p1 p2 p3 q1 q2 q3 0 W0 (Av (HBX.out W0 (zb _ _)).2.2.2 HV.out) ((HBX.out W0 (zb _ _)).1) HPS.out).mono ?_;rintro e W1 ⟨rfl,hB1⟩;have HB1:=zh hB1;clear hB1 m20 m21 m22
 obtain⟨_,⟨m20,m21,m22⟩,hbk,hbelow⟩:=HBX.out _ HB1.out;by_cases hc:Bf p=0
 ·have b1:(Bf p != 0)=false:=by simp[hc]
  have HC:Hid (Bf p=0):=zh hc;clear hc hbk hbelow m20 m21 m22;go_wp2_with fail
  refine(Pt t HT.out W1).mono ?_;rintro e W2 ⟨al,cl,rfl,hsl,hb2⟩;have HB2:=zh (HB1.out.trans (hb2.mono HB1.out.size));have HSL:=zh hsl;clear hsl hb2
  by_cases hr:Dd t=0
  ·have HG:=zh (Qn HC.out hr)
   have b2:(Dd t != 0)=false:=by simp[hr]
   clear hr;obtain⟨_,⟨m20,m21,m22⟩,_,_⟩:=HBX.out _ HB2.out;go_wp2_with fail
   refine(Yz p p1 p2 p3 q1 q2 q3 W2 (Av (HBX.out _ HB2.out).2.2.2 HV.out) (HBX.out _ HB2.out).1 HPS.out).mono ?_;rintro e W3 ⟨z1,y1,rowsB,rfl,hs3,hb3⟩;have eb:Hq p=Cx p:=by unfold Hq;rw[zp HC.out]
   rw[eb] at hs3⊢;have HB3:=zh (HB2.out.trans (hb3.mono HB2.out.size));have HSL3:=zh (zi (HSL.out.below hb3 (zn _)) hb3.size);have HG3:=zh HB3.out.size;have HL60:=zh (L8 t);have HRG:=zh (Tv t);have HL0:Hid (Ju p ((Dq t).take 0)=Cx p):=zh rfl;clear eb hb3 m20 m21 m22;have hL60:(Dq t).length≤60:=L8 t;generalize Dq t=L at *;generalize Cx p=X at *;unfold Ac Ag;go_upto_region 8 with fail
   obtain⟨W4,hW4⟩:∃W4,W3.alloc (.cells (zV X z1 none none y1 0 0) 31)=W4:=⟨_,rfl⟩;rw[hW4];have HI4:Hid (Avu p L W0 W3 (.int .i64 0) W4):=zh (by
    rw[←hW4];refine⟨0,z1,none,none,y1,0,0,rowsB,Nat.zero_le _,rfl,?_,?_,(zb _ _).alloc (zn _) _⟩
    ·rw[HL0.out];exact Bk.new _ _ _
    ·rw[HL0.out];exact(hs3.below ((zb _ _).alloc (zn _) _) (zn _)).wider HB2.out.size (by simp))
   clear hW4 hs3;go_wp2_with fail
   go_loopw [40] (fun i wr=>Avu p L W0 W3 i wr) (fun i _=>L.length - (intOf i).toNat)
   case atStart=>exact HI4.out
   case round=>
    obtain⟨k,c1,c2,c3,d1,d2,d3,rows,hk,rfl,hbk,hst,hB⟩:=hrel;have HK:=zh hbk;have HST:=zh hst;have HB:=zh hB;have HBW:=zh (HB3.out.trans (hB.mono HB3.out.size));by_cases hlt:k < L.length
    ·obtain⟨g,o,ha,_,hb,hcell⟩:=Bd Qz (by decide) HSL3.out.1 hlt
     subst ha;obtain⟨e0,e1,e2,e3,e4⟩:=Ol (wr:=wr) (b:=g) (o:=o) (k:=k) (x:=L[k]) fun j u hu=>(hB.cell (p:=⟨g,_,none⟩) (Nat.lt_of_lt_of_le hb HSL3.out.2)).trans (hcell j u hu);have hR:=Ade p L hlt;have hA:=Xt (HRG.out _ (zg hlt));have HR:=zh hR;have HA:=zh hA;have HSM:=zh (Nr HPS.out (L.take k));have hkI:(k:Int) < (L.length:Int):=Int.ofNat_lt.2 hlt;have HKL:=zh hlt;clear hcell hR hA hbk hst hB hk;generalize L[k]=x at *;clear hlt;go_upto_region 11 with fail
     obtain⟨W5,hW5⟩:∃W5,wr.alloc (.cells (zX x) 57)=W5:=⟨_,rfl⟩;have hw5:Below wr.heap.size wr W5:=by rw[←hW5];exact(zb _ _).alloc (zn _) _
     have hk5:Bk W5 wr.heap.size 57 (zX x):=by rw[←hW5];exact Bk.new _ _ _
     have HBK5:=zh (HK.out.below hw5 HK.out.lt);have HB5:=zh (HB.out.trans (hw5.mono HB.out.size));have HBW5:=zh (HBW.out.trans (hw5.mono HBW.out.size));have HS5:=zh ((HST.out.below hw5 (zn _)).wider (zn _) hw5.size);have y0:=hk5.cell 0;have y1':=hk5.cell 1;have y2:=hk5.cell 2;have y3:=hk5.cell 3;have y4:=hk5.cell 4
     simp only[zI,zJ,zK] at y0 y1' y2 y3 y4;rw[hW5];obtain⟨_,⟨m20,m21,m22⟩,_,_⟩:=HBX.out _ HBW5.out;obtain⟨n0,n1,n2,n3,n4,n5,n6,n7⟩:=Jl HBK5.out;clear hW5 hw5 hk5 e0 e1 e2 e3 e4 HK HST HB HBW;obtain⟨S,hS⟩:∃S,Ju p (L.take k)=S:=⟨_,rfl⟩;rw[hS] at HR HSM HBK5 HS5 n0 n1 n2 n3 n4 n5 n6 n7;clear hS;go_wp2_with fail
     refine(T3 p S x p1 p2 p3 c1 c2 c3 q1 q2 q3 d1 d2 d3 rows W5 (Av (HBX.out _ HBW5.out).2.2.2 HV.out) (HBX.out _ HBW5.out).1 HPS.out (HS5.out.wider (Nat.zero_le _) (zn _)) HSM.out.1 HSM.out.2 HA.out).mono ?_;rintro e W6 ⟨u1,u2,u3,f1,f2,f3,rowsD,rfl,hs6,hb6⟩;have HLT5:=zh (zi HBK5.out.lt HBW5.out.size);clear y0 y1' y2 y3 y4 m20 m21 m22 n0 n1 n2 n3 n4 n5 n6 n7;unfold Ac Ag;go_upto_region 12 with fail
     obtain⟨Y,hY⟩:∃Y,doS p S x=Y:=⟨_,rfl⟩;rw[hY] at hs6⊢;obtain⟨W7,hW7⟩:∃W7,W6.alloc (.cells (zV Y u1 u2 u3 f1 f2 f3) 31)=W7:=⟨_,rfl⟩;have hw7:Below W6.heap.size W6 W7:=by rw[←hW7];exact(zb _ _).alloc (zn _) _
     have hk7:Bk W7 W6.heap.size 31 (zV Y u1 u2 u3 f1 f2 f3):=by rw[←hW7];exact Bk.new _ _ _
     have hb57:=hb6.trans (hw7.mono hb6.size);have HB7:=zh (HB5.out.trans (hb57.mono HB5.out.size));have HBK7:=zh (HBK5.out.below hb57 HBK5.out.lt);have HS7:=zh ((hs6.below hw7 (zn _)).wider (zn _) hw7.size);have HO7:=zh ((HS5.out.below hb57 (zn _)).wider (zn _) hb57.size);rw[hW7];clear hW7 hw7 hb57 hb6 hs6;by_cases hd:E2 p S x=0
     ·have HR1:Hid (Ju p (L.take (k+1))=Y):=zh (by rw[HR.out];unfold Lb;rw[zp hd,hY])
      rw[hd];have hbk7:=HBK7.out;unfold Ag at hbk7;obtain⟨n0,n1,n2,n3,n4,n5,n6,n7,_,_,_,_,_,_,_,_,hltN⟩:=Af hk7;obtain⟨_,_,_,_,_,_,_,_,g0,g1,g2,g3,g4,g5,g6,g7,hltG⟩:=Af hbk7;clear hk7 hbk7 hd hY;go_wp2_with fail
      refine⟨⟨k+1,u1,u2,u3,f1,f2,f3,rowsD,HKL.out,by go_num,?_,?_,Ak HB7.out (zn _) _ _ _ _ _ _ _ _⟩,by simp[intOf];omega⟩
      ·rw[HR1.out]
       exact Yf HBK7.out _ _ _ _ _ _ _ _
      ·rw[HR1.out]
       exact(Mp HS7.out HLT5.out.1 _ _ _ _ _ _ _ _).wider HLT5.out.2 (by simp[World.setCell])
     ·have HR1:Hid (Ju p (L.take (k+1))=S):=zh (by rw[HR.out];unfold Lb;rw[zq hd])
      have bd:(E2 p S x == 0)=false:=by simp[hd]
      generalize E2 p S x=ed at *;clear hk7 hd hY;go_wp2_with fail
      refine⟨⟨k+1,c1,c2,c3,d1,d2,d3,rows,HKL.out,by go_num,?_,?_,HB7.out⟩,by simp[intOf];omega⟩
      ·rw[HR1.out];exact HBK7.out
      ·rw[HR1.out];exact HO7.out
    ·obtain rfl:k=L.length:=by omega
     rw[List.take_length] at hbk hst;have HK:=zh hbk;have HST:=zh hst;generalize Ju p L=S at *;unfold Ag at hbk;obtain⟨n0,n1,n2,n3,n4,n5,n6,n7,_,_,_,_,_,_,_,_,hltG⟩:=Af hbk;obtain⟨_,_,hzk,hbelow⟩:=HBX.out _ HBW.out;obtain⟨k0,k1,k2,k3,k4,k5,k6,k7,x0,x1,x2,x3,x4,x5,x6,x7,hltZ⟩:=Af hzk;have hlo:w.heap.size+1 < W0.heap.size:=HLZ0.out;have HBL:=zh hbelow;clear hbk hst hB hk hlt hzk hbelow;go_wp2_with fail
     refine bodyPost_ret (v:= .tuple #[Ac S c1 c2 c3 d1 d2 d3,.int .i64 L.length,.int .i64 0]) (by simp[results,Tryz.results42,go_sem,Ac,Ag,n0,n1,n2,n3,n4,n5,n6,n7,hltG,k0,k1,k2,k3,k4,k5,k6,k7,hltZ]) rfl
      ⟨c1,c2,c3,d1,d2,d3,rows,by rw[HG.out.1,HG.out.2.1,HG.out.2.2],?_,Ak HBL.out (by omega) _ _ _ _ _ _ _ _⟩
     rw[HG.out.1];exact(Mp HST.out hlo _ _ _ _ _ _ _ _).wider (by omega) (by simp[World.setCell])
  ·have b2:(Dd t != 0)=true:=by simp[hr]
   have HG:=zh (Ae3 (p:=p) (t:=t) (by unfold Hn;rw[zq (by simp[HC.out])]) hr);obtain⟨_,_,hbk,hbelow⟩:=HBX.out _ HB2.out;obtain⟨k0,k1,k2,k3,k4,k5,k6,k7,f0,f1,f2,f3,f4,f5,f6,f7,hlt⟩:=Af hbk;clear hr hbk;go_wp2_with fail
   refine bodyPost_ret (v:= .tuple #[Ac Ay none none none 0 0 0,.int .i64 0,.int .i64 (Dd t)]) (by simp[results,Tryz.results42,go_sem,Ac,Ag,Ay,k0,k1,k2,k3,k4,k5,k6,k7,hlt]) rfl
    ⟨none,none,none,0,0,0,[],by rw[HG.out.1,HG.out.2.1,HG.out.2.2],by rw[HG.out.1];exact Ki _ _ _,Ak hbelow (by omega) _ _ _ _ _ _ _ _⟩
 ·have b1:(Bf p != 0)=true:=by simp[hc]
  have HG:=zh (Ae3 (p:=p) (t:=t) (by unfold Hn;rw[zp hc]) hc);obtain⟨k0,k1,k2,k3,k4,k5,k6,k7,f0,f1,f2,f3,f4,f5,f6,f7,hlt⟩:=Af hbk;clear hc;go_wp2_with fail
  refine bodyPost_ret (v:= .tuple #[Ac Ay none none none 0 0 0,.int .i64 0,.int .i64 (Bf p)]) (by simp[results,Tryz.results42,go_sem,Ac,Ag,Ay,k0,k1,k2,k3,k4,k5,k6,k7,hlt]) rfl
   ⟨none,none,none,0,0,0,[],by rw[HG.out.1,HG.out.2.1,HG.out.2.2],by rw[HG.out.1];exact Ki _ _ _,Ak hbelow (by omega) _ _ _ _ _ _ _ _⟩
open Go Go.RowKit
def lbX:Cn:=⟨1,0,0,⟨#[120,46,121]⟩,⟨#[104,105]⟩⟩
def lbY:Cn:=⟨2,1,2,⟨#[]⟩,⟨#[]⟩⟩
def lbS:ByteArray:=⟨#[1,0,0,3,120,46,121,2,104,105]⟩
def lbT:ByteArray:=⟨#[2,1,2,0,0]⟩
theorem Acf:F0 lbX=0∧Gc lbX=lbS:=by constructor<;>kernel_rfl
theorem Acg:F0 lbY=0∧Gc lbY=lbT:=by constructor<;>kernel_rfl
theorem Ach:F0 ⟨0,256,0,⟨#[]⟩,⟨#[]⟩⟩=3∧Gc ⟨0,256,0,⟨#[]⟩,⟨#[]⟩⟩=⟨#[]⟩:=by constructor<;>kernel_rfl
theorem V3:Dd (lbS++lbT++⟨#[1]⟩)=0∧Dq (lbS++lbT++⟨#[1]⟩)=[lbX,lbY]∧J4 (lbS++lbT++⟨#[1]⟩)=15:=by
 refine⟨?_,?_,?_⟩<;>kernel_rfl
theorem Z5:Dd (lbS++lbT)=0∧Dq (lbS++lbT)=[lbX,lbY]:=by constructor<;>kernel_rfl
theorem Ayo:E2 Ae Bn Vk=7:=by kernel_rfl
open Go Go.RowKit
def K7:ByteArray:=⟨#[104,105]⟩
def lbA:Aa:=⟨[[⟨0,kXY,K7,false,0⟩],[],[]],[],[],1,0,1,0,0⟩
def lbB:Aa:=⟨[[⟨0,kXY,K7,false,0⟩],[⟨1,kXY,K7,false,0⟩],[]],[],[],2,0,2,0,0⟩
theorem Al7:Kb Ae 0 kXY K7=[⟨0,kXY,K7,0⟩,⟨1,kXY,K7,0⟩]:=by
 unfold Kb;rw[Wa];rfl
theorem Aru:G2 Ae (Cx Ae,[⟨0,kXY,K7,0⟩,⟨1,kXY,K7,0⟩])=(lbA,[⟨1,kXY,K7,0⟩]):=by
 have hp:Bs (Ah (F7 (Cx Ae)) 0) (Cj (Cx Ae) ⟨0,kXY,K7,0⟩)=[⟨0,kXY,K7,false,0⟩]:=rfl;have hl:Ek Ae (F7 (Cx Ae)) 0 (Cj (Cx Ae) ⟨0,kXY,K7,0⟩)=(lbA,[]):=by
  unfold Ek;rw[hp,zp (by decide)];rfl
 show((Ek Ae (F7 (Cx Ae)) 0 (Cj (Cx Ae) ⟨0,kXY,K7,0⟩)).1,_++(Ek Ae (F7 (Cx Ae)) 0 (Cj (Cx Ae) ⟨0,kXY,K7,0⟩)).2)=_
 rw[hl];rfl
theorem Arv:G2 Ae (lbA,[⟨1,kXY,K7,0⟩])=(lbB,[]):=by
 have hp:Bs (Ah (F7 lbA) 1) (Cj lbA ⟨1,kXY,K7,0⟩)=[⟨1,kXY,K7,false,0⟩]:=rfl;have hl:Ek Ae (F7 lbA) 1 (Cj lbA ⟨1,kXY,K7,0⟩)=(lbB,[]):=by
  unfold Ek;rw[hp,zp (by decide)];rfl
 show((Ek Ae (F7 lbA) 1 (Cj lbA ⟨1,kXY,K7,0⟩)).1,_++(Ek Ae (F7 lbA) 1 (Cj lbA ⟨1,kXY,K7,0⟩)).2)=_
 rw[hl];rfl
theorem Aog:D5 Ae (Cx Ae) [⟨0,kXY,K7,0⟩,⟨1,kXY,K7,0⟩]=lbB:=by
 refine M6 (n:=2) ?_ (by decide)
 show G2 Ae (G2 Ae (Cx Ae,[⟨0,kXY,K7,0⟩,⟨1,kXY,K7,0⟩]))=_
 rw[Aru,Arv]
theorem Ars:Bh Ae (Cx Ae) [⟨0,kXY,K7,0⟩,⟨1,kXY,K7,0⟩]=0:=by
 unfold Bh;rw[zq (by rw[Ta];decide),zq (by decide),zq (by decide),zq (by simp[Ew,Aim];decide),zq (by decide)]
theorem Akd:Bt Ae (Cx Ae) 0 kXY K7=0:=by
 unfold Bt;rw[zq (by rw[Ta];decide),zq (by rw[S1];decide),zq (by decide),Al7,Ars]
theorem Al8:Cl Ae (Cx Ae) 0 kXY K7=lbB:=by
 unfold Cl Cu;rw[zp Akd,Al7,zp Ars,Aog]
theorem Aw8:E2 Ae (Cx Ae) lbX=0:=Akd
theorem Auw:doS Ae (Cx Ae) lbX=lbB:=Al8
theorem Aof:Cs Ae lbB:=by
 have:=Q3 Akd;rw[Al8] at this;exact this
theorem Al6:Cc Ae lbB 1 2=0:=Ko.2 ⟨Fv.2 ⟨Aof,by decide,by decide⟩,by decide,by decide⟩
theorem Art:Fh Ae lbB 1 2= { lbB with ae:=[⟨1,2⟩] } :=by
 unfold Fh;rw[zp Al6];rfl
theorem Aw9:Ju Ae [lbX,lbY]= { lbB with ae:=[⟨1,2⟩] } :=by
 show Lb Ae (Lb Ae (Cx Ae) lbX) lbY=_
 have h1:Lb Ae (Cx Ae) lbX=lbB:=by unfold Lb;rw[zp Aw8,Auw]
 have h2:E2 Ae lbB lbY=0:=Al6;have h3:doS Ae lbB lbY= { lbB with ae:=[⟨1,2⟩] } :=Art;rw[h1];unfold Lb;rw[zp h2,h3]
open Go Go.RowKit
theorem Aoh:Eb lbX:=⟨by decide,by decide,by decide,by decide,by decide⟩
theorem Aoi:Eb lbY:=⟨by decide,by decide,by decide,by decide,by decide⟩
def lbZ:Cn:=⟨0,256,0,⟨#[]⟩,⟨#[]⟩⟩
theorem Aoj:Eb lbZ:=⟨by decide,by decide,by decide,by decide,by decide⟩
theorem Aok:Eb Vk:=⟨by decide,by decide,by decide,by decide,by decide⟩
theorem Dl (w:World) (hE:Env w):Calls Tryz.prog 36 #[] w fun e w'=>e= .returned (.bool true)∧Below w.heap.size w w':=by
 have HE:=zh hE;clear hE
 go_enter Tryz.func36,Tryz.ntmps36
 go_wp2_with fail
 refine(Jv lbX Aoh _).mono ?_;rw[Acf.1,Acf.2];rintro e w1 ⟨rfl,hb1⟩;go_wp2_with fail
 refine(Jv lbY Aoi _).mono ?_;rw[Acg.1,Acg.2];rintro e w2 ⟨rfl,hb2⟩;go_wp2_with fail
 have HB2:=zh (hb1.trans (hb2.mono hb1.size));clear hb1 hb2;refine(Pt _ (by decide) w2).mono ?_;rintro e w3 ⟨la,lc,rfl,_,hb3⟩;rw[V3.1,V3.2.1,V3.2.2];have HB3:=zh (HB2.out.trans (hb3.mono HB2.out.size));clear hb3;go_wp2_with fail
 refine(Dh _).mono ?_;rintro e w4 ⟨p1,p2,p3,rfl,ho4,hb4⟩;have HB4:=zh (HB3.out.trans (hb4.mono HB3.out.size));clear hb4;go_wp2_with fail
 have hrc:=Ly Ae (lbS++lbT) _ _ _ 3 3 5 w4 (Av HB4.out HE.out) ho4.bz C9 (by decide);have hg:=Qn (p:=Ae) (t:=lbS++lbT) (by kernel_rfl) Z5.1;refine hrc.mono ?_;rintro e w5 ⟨x1,x2,x3,d1,d2,d3,rows,rfl,hs5,hb5⟩;rw[hg.1,hg.2.1,hg.2.2,Z5.2,Aw9];have HB5:=zh (HB4.out.trans (hb5.mono HB4.out.size));clear hrc hg hs5 hb5;unfold Ac Ag lbB;go_wp2_with fail
 obtain⟨WA,hWA⟩:∃WA,w5.alloc (.cells #[.slice x1 3 d1,.slice x2 0 d2,.slice x3 1 d3,.int .i64 2,.int .i64 0,.int .i64 2,.int .i64 0,.int .i64 0] 31)=WA:=⟨_,rfl⟩;have HKA:Hid (Bk WA w5.heap.size 31 #[.slice x1 3 d1,.slice x2 0 d2,.slice x3 1 d3,.int .i64 2,.int .i64 0,.int .i64 2,.int .i64 0,.int .i64 0]):=zh (by rw[←hWA];exact Bk.new _ _ _);have HBA:Hid (Below w.heap.size w WA):=zh (by rw[←hWA];exact HB5.out.alloc HB5.out.size _);rw[hWA];clear hWA;refine(Jv lbZ Aoj _).mono ?_;rw[show F0 lbZ=3 from Ach.1,show Gc lbZ=⟨#[]⟩ from Ach.2];rintro e w6 ⟨rfl,hb6⟩;have HB6:=zh (HBA.out.trans (hb6.mono HBA.out.size));have HK6:=zh (HKA.out.below hb6 HKA.out.lt);clear hb6;go_wp2_with fail
 refine(Dh _).mono ?_;rintro e w7 ⟨o1,o2,o3,rfl,ho7,hb7⟩;have HB7:=zh (HB6.out.trans (hb7.mono HB6.out.size));have HK7:=zh (HK6.out.below hb7 HK6.out.lt);clear hb7;go_wp2_with fail
 refine(Fe _).mono ?_;rintro e w8 ⟨g0,g1,g2,g3,rfl,hy8,hb8⟩;have ho8:=ho7.below hb8;have HB8:=zh (HB7.out.trans (hb8.mono HB7.out.size));have HK8:=zh (HK7.out.below hb8 HK7.out.lt);clear hb8;go_wp2_with fail
 have hdo:=T3 Ae Bn Vk _ _ _ _ _ _ 3 3 5 3 1 2 (Gp g0) w8 (Av HB8.out HE.out) ho8.bz C9 hy8.state Fw Gr Aok;refine hdo.mono ?_;rintro e w9 ⟨y1,y2,y3,f1,f2,f3,rows9,rfl,hs9,hb9⟩;have HB9:=zh (HB8.out.trans (hb9.mono HB8.out.size));have HK9:=zh (HK8.out.below hb9 HK8.out.lt);rw[Ayo];clear hdo hs9 hb9;generalize doS Ae Bn Vk=Z;unfold Ac Ag;go_upto_region 7 with fail
 generalize hWB:World.alloc _ (Obj.cells _ _)=WB;have hk9:Bk WB w5.heap.size 31 #[.slice x1 3 d1,.slice x2 0 d2,.slice x3 1 d3,.int .i64 2,.int .i64 0,.int .i64 2,.int .i64 0,.int .i64 0]:=by rw[←hWB];exact HK9.out.alloc _
 have HBB:Hid (Below w.heap.size w WB):=zh (by rw[←hWB];exact HB9.out.alloc HB9.out.size _);have q2:=hk9.cell 2;have q5:=hk9.cell 5
 simp only[zI,zJ,zK] at q2 q5;clear hk9 hWB;unfold lbS lbT;go_wp2_with fail
 go_ret
 exact⟨rfl,HBB.out⟩
end Go.Proofs.YtaanpcjkflhomaaGreatDoor
