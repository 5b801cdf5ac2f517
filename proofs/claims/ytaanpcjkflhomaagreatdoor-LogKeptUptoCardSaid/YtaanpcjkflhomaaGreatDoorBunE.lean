/-
  Letters and lines of letters: plain.
-/
import Derived.Test.YtaanpcjkflhomaaGreatDoorBunA
import Derived.Test.YtaanpcjkflhomaaGreatDoorBunB
import Derived.Test.YtaanpcjkflhomaaGreatDoorBunC
import Derived.Deep.RegionHeld3
import Derived.Deep.QuietTactic
import Derived.BigQuiet
import Derived.StillTailTactics
import Derived.Laws.StructEq
import Derived.IntWalk
import Derived.Test.YtaanpcjkflhomaaGreatDoorBunD
import Derived.Lib.AppendZeros
import Derived.Laws.CopyRow
import Derived.Lib.SliceRun
set_option maxHeartbeats 20000000
set_option maxRecDepth 100000
set_option linter.unusedSimpArgs false
set_option linter.unusedVariables false
namespace Go.Proofs.YtaanpcjkflhomaaGreatDoor
open Go.RowKit
def Bi (x:Ap):Bool:=decide (Be isWord x.key=0) && decide (0≤x.seq) && decide (x.seq < 1048576) && decide (x.body.size≤12) && decide (0≤x.au) && decide (x.au≤2)
def Fq (last:Int):List Ap→Bool
 | []=>true
 |x::r=>Bi x && decide (last < x.seq) && Fq x.seq r
def Ci (l:List Ap):Bool:=Fq (-1) l
def Et (l:List Ap):Int:=if Ci l=true then 0 else 1
def Nh (l:List Ap) (k:Nat):Int:=if k=0 then -1 else match l[k - 1]? with
 |some x=>x.seq
 |none=> -1
theorem U7 {x:Ap} (h:Bi x=true):0≤x.seq∧x.seq < 1048576:=by
 simp only[Bi,zc,zd] at h;exact⟨h.1.1.1.1.2,h.1.1.1.2⟩
theorem Ahc (l:List Ap):Nh l 0= -1:=rfl
theorem Rs {l:List Ap} {k:Nat} (h:k < l.length):Nh l (k+1)=l[k].seq:=by
 simp[Nh,h]
theorem Ow {l:List Ap} {k:Nat} (h:k < l.length) (last:Int):Fq last (l.drop k)=(Bi l[k] && decide (last < l[k].seq) && Fq l[k].seq (l.drop (k+1))):=by
 rw[List.drop_eq_getElem_cons h];rfl
theorem V5 {l:List Ap} {k:Nat} (h:k < l.length) {last:Int} (hl:Fq last (l.drop k)=Ci l) (hf:Bi l[k]=false):Ci l=false:=by
 rw[←hl,Ow h,hf];rfl
theorem Acm {l:List Ap} {k:Nat} (h:k < l.length) {last:Int} (hl:Fq last (l.drop k)=Ci l) (hf:l[k].seq≤last):Ci l=false:=by
 rw[←hl,Ow h,decide_eq_false (by omega),Bool.and_false];rfl
theorem V6 {l:List Ap} {k:Nat} (h:k < l.length) {last:Int} (hl:Fq last (l.drop k)=Ci l) (hf:Bi l[k]=true) (hs:last < l[k].seq):Fq (Nh l (k+1)) (l.drop (k+1))=Ci l:=by
 rw[←hl,Ow h,hf,decide_eq_true hs,Rs h];rfl
theorem Acn {l:List Ap} {last:Int} (hl:Fq last (l.drop l.length)=Ci l):Ci l=true:=by
 rw[←hl,List.drop_length];rfl
theorem Nk:∀ {l:List Ap} {last:Int},Fq last l=true→(∀x∈l,Bi x=true∧last < x.seq)∧l.Pairwise fun x y=>x.seq < y.seq
 | [],_,_=>⟨(fun x hx=>by cases hx),List.Pairwise.nil⟩
 |x::r,last,h=>by
  simp only[Fq,zc,zd] at h;obtain⟨h1,h2⟩:=Nk h.2;refine⟨fun y hy=> ?_,List.pairwise_cons.2 ⟨fun y hy=>(h1 y hy).2,h2⟩⟩;rcases List.mem_cons.1 hy with rfl|hy
  ·exact h.1
  ·exact⟨(h1 y hy).1,by have:=(h1 y hy).2;omega⟩
theorem Xn:∀ {l:List Ap} {last:Int},(∀x∈l,Bi x=true∧last < x.seq)→(l.Pairwise fun x y=>x.seq < y.seq)→Fq last l=true
 | [],_,_,_=>rfl
 |x::r,last,h1,h2=>by
  obtain⟨h3,h4⟩:=List.pairwise_cons.1 h2;obtain⟨h5,h6⟩:=h1 x (List.mem_cons_self ..);simp only[Fq,zc,zd];exact⟨⟨h5,h6⟩,Xn (fun y hy=>⟨(h1 y (List.mem_cons_of_mem _ hy)).1,h3 y hy⟩) h4⟩
theorem E7 {l:List Ap} :Ci l=true↔(∀x∈l,Bi x=true)∧l.Pairwise fun x y=>x.seq < y.seq:=by
 constructor
 ·intro h
  exact⟨fun x hx=>((Nk h).1 x hx).1,(Nk h).2⟩
 ·rintro⟨h1,h2⟩
  exact Xn (fun x hx=>⟨h1 x hx,by have:=(U7 (h1 x hx)).1;omega⟩) h2
def Bs (l:List Ap) (x:Ap):List Ap:=match l with
 | []=>[x]
 |y::r=>if x.seq < y.seq then x::y::r else y::Bs r x
open Go.RowKit
theorem Wq (x:Ap) (w:World) (hv:Env w) (hx:Ep x):Calls Tryz.prog 78 #[.agg (A9 x).toArray] w fun e w'=>e= .returned (.bool (Bi x))∧Below w.heap.size w w':=by
 obtain⟨seq,key,body,again,au⟩:=x;obtain⟨k1,k2,_⟩:=hx;simp only at k1 k2;unfold A9;have hbk:=Bk.new w 52 #[.int .i64 seq,.string key,.string body,.bool again,.int .i64 au];have hbl:Below w.heap.size w (w.alloc (.cells #[.int .i64 seq,.string key,.string body,.bool again,.int .i64 au] 52)):=(zb _ w).alloc (zn _) _;have hz:(w.alloc (.cells #[.int .i64 seq,.string key,.string body,.bool again,.int .i64 au] 52)).heap.size=w.heap.size+1:=by simp
 have HB:=zh hbk;clear hbk
 have HL:=zh (zi hbl (Av hbl hv));clear hbl hv
 go_enter Tryz.func78,Tryz.ntmps78
 go_wp2_with fail
 generalize w.alloc (.cells #[.int .i64 seq,.string key,.string body,.bool again,.int .i64 au] 52)=W0 at *;refine(O2 key W0 (by omega) HL.out.2).mono ?_;rintro e W1 ⟨a1,c1,rfl,_,_,hb1⟩;have b1:=HB.out.below hb1 (by omega);have e0:=b1.cell 0;have e2:=b1.cell 2;have e4:=b1.cell 4
 simp only[zI,zJ,zK] at e0 e2 e4;have HB1:=zh (HL.out.1.trans (hb1.mono HL.out.1.size));clear hb1 b1
 have HF:Hid (Bi ⟨seq,key,body,again,au⟩=(decide (Be isWord key=0) && decide (0≤seq) && decide (seq < 1048576) && decide (body.size≤12) && decide (0≤au) && decide (au≤2))):=(rfl:Bi ⟨seq,key,body,again,au⟩=_);by_cases hs:Be isWord key=0
 ·have b0:(Be isWord key == 0)=true:=by simp[hs]
  have HF2:Hid (Bi ⟨seq,key,body,again,au⟩=(decide (0≤seq) && decide (seq < 1048576) && decide (body.size≤12) && decide (0≤au) && decide (au≤2))):=by
   refine(?_:Bi ⟨seq,key,body,again,au⟩=_);rw[HF.out,decide_eq_true hs,Bool.true_and]
  clear hs;go_wp2_with fail
  all_goals go_ret
  all_goals refine⟨?_,HB1.out⟩
  all_goals(refine congrArg (fun b=>Ending.returned (Value.bool b)) ?_;rw[HF2.out];first|(simp[*];done)|(simp[*];omega))
 ·have b0:(Be isWord key == 0)=false:=by simp[hs]
  have HF2:Hid (Bi ⟨seq,key,body,again,au⟩=false):=by
   refine(?_:Bi ⟨seq,key,body,again,au⟩=_);rw[HF.out,decide_eq_false hs];rfl
  clear hs;go_wp2_with fail
  go_ret
  exact⟨by rw[HF2.out];rfl,HB1.out⟩
theorem Ef (x:Ap) (w:World) (hx:Ep x):Calls Tryz.prog 105 #[.agg (A9 x).toArray] w fun e w'=>e= .returned (.bool (Bi x))∧Below w.heap.size w w':=by
 obtain⟨seq,key,body,again,au⟩:=x;obtain⟨k1,k2,_⟩:=hx;simp only at k1 k2;unfold A9;have hbk:=Bk.new w 52 #[.int .i64 seq,.string key,.string body,.bool again,.int .i64 au];have hbl:Below w.heap.size w (w.alloc (.cells #[.int .i64 seq,.string key,.string body,.bool again,.int .i64 au] 52)):=(zb _ w).alloc (zn _) _;have hz:(w.alloc (.cells #[.int .i64 seq,.string key,.string body,.bool again,.int .i64 au] 52)).heap.size=w.heap.size+1:=by simp
 have HB:=zh hbk;clear hbk
 have HL:=zh hbl;clear hbl
 have HF:Hid (Bi ⟨seq,key,body,again,au⟩=((decide (0≤seq) && decide (seq≤1048575)) && decide (Be isWord key=0) && decide (body.size≤12) && (decide (0≤au) && decide (au≤2)))):=by
  refine(?_:Bi ⟨seq,key,body,again,au⟩=_);unfold Bi;simp only;rw[Bool.eq_iff_iff];simp only[zc,zd]
  constructor
  ·rintro⟨⟨⟨⟨⟨h1,h2⟩,h3⟩,h4⟩,h5⟩,h6⟩
   exact⟨⟨⟨⟨h2,by omega⟩,h1⟩,h4⟩,h5,h6⟩
  ·rintro⟨⟨⟨⟨h2,h3⟩,h1⟩,h4⟩,h5,h6⟩
   exact⟨⟨⟨⟨⟨h1,h2⟩,by omega⟩,h4⟩,h5⟩,h6⟩
 go_enter Tryz.func105,Tryz.ntmps105
 have e0:=HB.out.cell 0;simp only[zI,zJ] at e0;go_wp2_with fail
 generalize w.alloc (.cells #[.int .i64 seq,.string key,.string body,.bool again,.int .i64 au] 52)=W0 at *;refine(B8 _ _ _ _).mono ?_;rintro e w1 ⟨rfl,rfl⟩
 cases hq:(decide (0≤seq) && decide (seq≤1048575))
 ·have HR:Hid (Bi ⟨seq,key,body,again,au⟩=false):=by
   refine(?_:Bi ⟨seq,key,body,again,au⟩=_);rw[HF.out,hq];rfl
  clear hq;go_wp2_with fail
  go_ret
  exact⟨by rw[HR.out];rfl,HL.out⟩
 ·have HQ:=zh hq;clear hq
  have e1:=HB.out.cell 1;simp only[zI,zJ,zK] at e1;go_wp2_with fail
  refine(Iz key W0 (by omega)).mono ?_;rintro e W1 ⟨rfl,hb1⟩;have b1:=HB.out.below hb1 (by omega);clear e0 e1;have e2:=b1.cell 2;have e4:=b1.cell 4
  simp only[zI,zJ,zK] at e2 e4;have HB1:=zh (HL.out.trans (hb1.mono HL.out.size));clear hb1 b1
  by_cases hs:Be isWord key=0
  ·have b0:(Be isWord key == 0)=true:=by simp[hs]
   have HS:=zh hs;clear hs
   by_cases hl:body.size≤12
   ·have HL2:=zh (decide_eq_true hl)
    go_wp2_with fail
    refine(B8 _ _ _ _).mono ?_;rintro e w1 ⟨rfl,rfl⟩;have HR:Hid (Bi ⟨seq,key,body,again,au⟩=(decide (0≤au) && decide (au≤2))):=by
     refine(?_:Bi ⟨seq,key,body,again,au⟩=_);rw[HF.out,HQ.out,decide_eq_true HS.out,HL2.out];rfl
    go_wp2_with fail
    go_ret
    exact⟨by rw[HR.out];rfl,HB1.out⟩
   ·have hl':12 < body.size:=by omega
    have HL2:=zh (decide_eq_false hl);clear hl
    have HR:Hid (Bi ⟨seq,key,body,again,au⟩=false):=by
     refine(?_:Bi ⟨seq,key,body,again,au⟩=_);rw[HF.out,HL2.out,Bool.and_false];rfl
    go_wp2_with fail
    go_ret
    exact⟨by rw[HR.out];rfl,HB1.out⟩
  ·have b0:(Be isWord key == 0)=false:=by simp[hs]
   have HR:Hid (Bi ⟨seq,key,body,again,au⟩=false):=by
    refine(?_:Bi ⟨seq,key,body,again,au⟩=_);rw[HF.out,decide_eq_false hs,Bool.and_false];rfl
   clear hs;go_wp2_with fail
   go_ret
   exact⟨by rw[HR.out];rfl,HB1.out⟩
def At4 (l:List Ap) (w:World) (last i:Value) (wr:World):Prop:=
 ∃k:Nat,k≤l.length∧i= .int .i64 k∧last= .int .i64 (Nh l k)∧Fq (Nh l k) (l.drop k)=Ci l∧Below w.heap.size w wr
theorem Hk {wr:World} {b o k:Nat} {x:Ap} (hc:∀j u,(A9 x)[j]? =some u→wr.cell? ⟨b,o+k * 5+j,none⟩=some u):
  wr.cell? ⟨b,o+k * 5,none⟩=some (.int .i64 x.seq)∧wr.cell? ⟨b,o+k * 5+1,none⟩=some (.string x.key)∧wr.cell? ⟨b,o+k * 5+2,none⟩=some (.string x.body)∧wr.cell? ⟨b,o+k * 5+3,none⟩=some (.bool x.again)∧wr.cell? ⟨b,o+k * 5+4,none⟩=some (.int .i64 x.au):=
 ⟨hc 0 _ rfl,hc 1 _ rfl,hc 2 _ rfl,hc 3 _ rfl,hc 4 _ rfl⟩
theorem Pr (a:Option Addr) (c:Nat) (l:List Ap) (lo:Nat) (w:World) (hv:Env w) (hl:Sl w lo w.heap.size a (l.flatMap A9)) (hs:F5 l):
  Calls Tryz.prog 77 #[.slice a l.length c] w fun e w'=>e= .returned (.int .i64 (Et l))∧Below w.heap.size w w':=by
 have hll:=hs.len;have HL:=zh hl;clear hl
 have HV:=zh hv;clear hv
 have HS:=zh hs.item;clear hs
 go_enter Tryz.func77,Tryz.ntmps77
 go_wp2_with fail
 go_loopw [3,8] (fun last i wr=>At4 l w last i wr) (fun _ i _=>l.length - (intOf i).toNat)
 case atStart=>exact⟨0,by omega,rfl,rfl,rfl,zb _ _⟩
 case round=>
  obtain⟨k,hk,rfl,rfl,hlf,hB⟩:=hrel;have HF:=zh hlf;clear hlf
  have HB:=zh hB;by_cases hlt:k < l.length
  ·obtain⟨b,o,ha,_,hb,hc⟩:=Bd Cg (by decide) HL.out hlt
   subst ha;obtain⟨e0,e1,e2,e3,e4⟩:=Hk (wr:=wr) (b:=b) (o:=o) (k:=k) (x:=l[k]) fun j u hu=>(hB.cell (p:=⟨b,_,none⟩) hb).trans (hc j u hu);have HSM:=zh (HS.out _ (zg hlt));have hbk:=Bk.new wr 52 (A9 l[k]).toArray;have hbl:Below wr.heap.size wr (wr.alloc (.cells (A9 l[k]).toArray 52)):=(zb _ wr).alloc (zn _) _;have hz:(wr.alloc (.cells (A9 l[k]).toArray 52)).heap.size=wr.heap.size+1:=by simp
   have HBK:=zh hbk;have HBL:=zh hbl;have HZ:=zh hz
   clear hc hB hbk hbl hz;go_wp2_with fail
   refine(Wq l[k] _ (Av (HB.out.trans (HBL.out.mono HB.out.size)) HV.out) HSM.out).mono ?_;rintro e w1 ⟨rfl,hb1⟩;have hb1':=HBK.out.below hb1 (by have:=HZ.out;unfold A9 at this;simp);have f0:=hb1'.cell 0;rw[show((A9 l[k]).toArray)[0]? =some (.int .i64 l[k].seq) from rfl] at f0;have HB1:=zh (HB.out.trans ((HBL.out.trans (hb1.mono (by have:=HZ.out;unfold A9 at this;simp))).mono HB.out.size));clear hb1 hb1' e0 e1 e2 e3 e4
   cases hq:Bi l[k]
   ·have HR:Hid (Et l=1):=by
     refine(?_:Et l=1);unfold Et;rw[V5 hlt HF.out hq];rfl
    clear hq;go_wp2_with fail
    go_ret
    exact⟨by rw[HR.out];rfl,HB1.out⟩
   ·by_cases hs:Nh l k < l[k].seq
    ·have HR:=zh (V6 hlt HF.out hq hs)
     have HQ:=zh (Rs hlt);clear hq;go_wp2_with fail
     exact⟨⟨k+1,hlt,by go_num,by rw[HQ.out],HR.out,HB1.out⟩,by simp[intOf];omega⟩
    ·have hs':l[k].seq≤Nh l k:=by omega
     have HR:Hid (Et l=1):=by
      refine(?_:Et l=1);unfold Et;rw[Acm hlt HF.out hs'];rfl
     clear hq hs;go_wp2_with fail
     go_ret
     exact⟨by rw[HR.out];rfl,HB1.out⟩
  ·obtain rfl:k=l.length:=by omega
   have HR:Hid (Et l=0):=by
    refine(?_:Et l=0);unfold Et;rw[Acn HF.out];rfl
   clear hB;go_wp2_with fail
   go_ret
   exact⟨by rw[HR.out];rfl,HB.out⟩
open Go.RowKit
def K9 (x y:Ap):Bool:=x.seq == y.seq && (x.key.toList == y.key.toList && (x.body.toList == y.body.toList && (x.again == y.again && x.au == y.au)))
theorem Rp {x y:Ap} :K9 x y=true↔x=y:=by
 obtain⟨a,b,c,d,e⟩:=x;obtain⟨a',b',c',d',e'⟩:=y;simp only[K9,zc,beq_iff_eq,Ap.mk.injEq]
 constructor
 ·rintro⟨h1,h2,h3,h4,h5⟩
  exact⟨h1,toList_inj h2,toList_inj h3,h4,h5⟩
 ·rintro⟨h1,h2,h3,h4,h5⟩
  exact⟨h1,by rw[h2],by rw[h3],h4,h5⟩
def Ff:List Ap→List Ap→Bool
 | [],[]=>true
 |x::xs,y::ys=>K9 x y && Ff xs ys
 |_,_=>false
theorem Iq:∀ {xs ys:List Ap},Ff xs ys=true↔xs=ys
 | [],[]=>by simp[Ff]
 | [],y::ys=>by simp[Ff]
 |x::xs,[]=>by simp[Ff]
 |x::xs,y::ys=>by
  simp only[Ff,zc,List.cons.injEq,Rp,Iq]
theorem Jc (xs:List Ap):Ff xs xs=true:=Iq.2 rfl
theorem Ag8 {xs ys:List Ap} (h:xs.length≠ys.length):Ff xs ys=false:=by
 rw[←Bool.not_eq_true,Iq];rintro rfl;exact h rfl
theorem Aeq {xs ys:List Ap} {k:Nat} (h1:k < xs.length) (h2:k < ys.length):Ff (xs.drop k) (ys.drop k)=(K9 xs[k] ys[k] && Ff (xs.drop (k+1)) (ys.drop (k+1))):=by
 rw[List.drop_eq_getElem_cons h1,List.drop_eq_getElem_cons h2];rfl
theorem Arj (x y:Ap) (w:World):(Op.equalIn 10000 52 (.agg (zY x)) (.agg (zY y))).run Tryz.prog w= .ok (K9 x y) w:=by
 have u1:=Tryz.underlying3;have a1:=Tryz.isAgg3;have z1:=Tryz.sizeOf3;have u2:=Tryz.underlying9;have a2:=Tryz.isAgg9;have z2:=Tryz.sizeOf9;have u3:=Tryz.underlying4;have a3:=Tryz.isAgg4;have z3:=Tryz.sizeOf4;have hS:Tryz.prog.underlying 52=some (.struct (Tryz.prog.fieldsOf 52)):=by kernel_rfl
 have hH:Tryz.prog.stoodInHeld 52=false:=by kernel_rfl
 rw[show(10000:Nat)=9999+1 from rfl,run_equalIn_agg w 9999 52 _ _ hS hH];simp only[Program.fieldsOf,Tryz.underlying52];unfold K9
 go_simp
 by_cases h1:x.seq=y.seq<;>by_cases h2:x.key.toList=y.key.toList<;>by_cases h3:x.body.toList=y.body.toList<;>by_cases h4:x.again=y.again<;>by_cases h5:x.au=y.au<;>simp[h1,h2,h3,h4,h5]
@[go_sem ↓] theorem Ay7 (x y:Ap) (w:World):(binOp .neq 52 (.agg (zY x)) (.agg (zY y))).run Tryz.prog w= .ok (.bool (!K9 x y)) w:=by
 rw[run_neq_struct,Arj];rfl
@[go_sem ↓] theorem Alv (x y:Ap) (w:World):(binOp .eql 52 (.agg (zY x)) (.agg (zY y))).run Tryz.prog w= .ok (.bool (K9 x y)) w:=by
 rw[run_eql_struct,Arj];rfl
@[go_sem] theorem Av0:Tryz.prog.eqGuardType Tryz.prog.depth 52=false:=by kernel_rfl
def At8 (xs ys:List Ap) (B:Nat) (w:World) (i:Value) (wr:World):Prop:=
 ∃k:Nat,k≤xs.length∧i= .int .i64 k∧Ff (xs.drop k) (ys.drop k)=Ff xs ys∧Below B w wr
theorem Gj (a b:Option Addr) (c d:Nat) (xs ys:List Ap) (w:World) (lo:Nat) (hx:Sl w lo w.heap.size a (xs.flatMap A9)) (hy:Sl w lo w.heap.size b (ys.flatMap A9))
  (h1:xs.length≤4294967296) (_h2:ys.length≤4294967296):
  Calls Tryz.prog 33 #[.slice a xs.length c,.slice b ys.length d] w fun e w'=>e= .returned (.bool (Ff xs ys))∧Below w.heap.size w w':=by
 have HX:=zh hx;clear hx
 have HY:=zh hy;clear hy
 by_cases hl:xs.length=ys.length
 ·have hxy:(((xs.length:Int)) != (ys.length:Int))=false:=by simp[hl]
  have HL:=zh hl;clear hl
  go_enter Tryz.func33,Tryz.ntmps33
  go_wp2_with fail
  go_loopw [5] (fun i wr=>At8 xs ys w.heap.size w i wr) (fun i _=>xs.length - (intOf i).toNat)
  case atStart=>exact⟨0,by omega,rfl,rfl,zb _ _⟩
  case round=>
   obtain⟨k,hk,rfl,hq,hB⟩:=hrel;have HQ:=zh hq;clear hq
   by_cases hlt:k < xs.length
   ·have hlt2:k < ys.length:=by rw[←HL.out];exact hlt
    obtain⟨g,o,ha,_,hb,hc⟩:=Bd Cg (by decide) HX.out hlt;obtain⟨g2,o2,ha2,_,hb2,hc2⟩:=Bd Cg (by decide) HY.out hlt2;subst ha ha2;obtain⟨e0,e1,e2,e3,e4⟩:=Hk (wr:=wr) (b:=g) (o:=o) (k:=k) (x:=xs[k]) fun j u hu=>(hB.cell (p:=⟨g,_,none⟩) hb).trans (hc j u hu);obtain⟨d0,d1,d2,d3,d4⟩:=Hk (wr:=wr) (b:=g2) (o:=o2) (k:=k) (x:=ys[k]) fun j u hu=>(hB.cell (p:=⟨g2,_,none⟩) hb2).trans (hc2 j u hu);have hd:=Aeq hlt hlt2;have HD:=zh hd;clear hd hc hc2
    have HB:=zh hB;clear hB
    generalize xs[k]=x at *;generalize ys[k]=y at *
    cases hq:K9 x y
    ·have HR:Hid (Ff xs ys=false):=(by rw[←HQ.out,HD.out,hq];rfl:Ff xs ys=false)
     go_wp2
     go_quiet (fail)
     all_goals go_wp2
     all_goals go_ret
     all_goals exact⟨by rw[HR.out];rfl,below_draws HB.out _⟩
    ·have HR:Hid (Ff (xs.drop (k+1)) (ys.drop (k+1))=Ff xs ys):=(by rw[←HQ.out,HD.out,hq];rfl:Ff (xs.drop (k+1)) (ys.drop (k+1))=Ff xs ys)
     go_wp2
     go_quiet (fail)
     all_goals go_wp2
     all_goals exact⟨⟨k+1,hlt,by go_num,HR.out,below_draws HB.out _⟩,by simp[intOf];omega⟩
   ·obtain rfl:k=xs.length:=by omega
    have HR:Hid (Ff xs ys=true):=by
     refine(?_:Ff xs ys=true);rw[←HQ.out,List.drop_eq_nil_of_le (zn _),List.drop_eq_nil_of_le (by rw[HL.out];exact zn _)];rfl
    go_wp2
    go_ret
    exact⟨by rw[HR.out];rfl,hB⟩
 ·have hxy:(((xs.length:Int)) != (ys.length:Int))=true:=by simp;omega
  have HR:=zh (Ag8 hl);clear hl
  go_enter Tryz.func33,Tryz.ntmps33
  go_wp2_with fail
  go_ret
  exact⟨by rw[HR.out];rfl,zb _ _⟩
open Go.RowKit
def Awd:Value:= .agg #[.int .i64 0,.string .empty,.string .empty,.bool false,.int .i64 0]
theorem Gh:(Tryz.prog.info? 52).map (fun i=>(i.zero,i.size,i.bytes))=some (some Awd,5,56):=by kernel_rfl
theorem Jf (x:Ap):∀u∈A9 x,u.oneCell'=true:=by simp[A9,Value.oneCell']
theorem Ke (xs:List Ap):∀u∈xs.flatMap A9,u.oneCell'=true:=by
 intro u hu;obtain⟨x,_,hx⟩:=List.mem_flatMap.1 hu;exact Jf x u hx
theorem Cp {w:World} {base base':Nat} {e:TypeId} {size n:Nat} {v:Value} {us:List Value} (h:w.ownsRow base e size v n us) (hb:base'≤base):w.ownsRow base' e size v n us:=by
 obtain⟨hl,h⟩:=h;refine⟨hl,?_⟩;rcases h with h|⟨g,cap,cur,hv,hg,r⟩
 ·exact .inl h
 ·exact .inr ⟨g,cap,cur,hv,zr hb hg,r⟩
theorem Pj (x:Ap):∀l:List Ap,(Bs l x).length=l.length+1
 | []=>rfl
 |y::r=>by
  unfold Bs
  split
  ·simp
  ·simp[Pj x r]
def At6 (l:List Ap) (x:Ap) (W0:World) (v d i:Value) (wr:World):Prop:=
 ∃(k:Nat) (dn:Bool) (outs:List Ap),k≤l.length∧i= .int .i64 k∧d= .bool dn∧outs++(if dn=true then l.drop k else Bs (l.drop k) x)=Bs l x∧outs.length=k+(if dn=true then 1 else 0)∧
  wr.ownsRow W0.heap.size 52 5 v outs.length (outs.flatMap A9)∧Below W0.heap.size W0 wr
theorem Rx {w:World} {B:Nat} {v:Value} {outs:List Ap} {x:Ap} (h:w.ownsRow B 52 5 v (outs.length+1) (outs.flatMap A9++A9 x)):w.ownsRow B 52 5 v (outs++[x]).length ((outs++[x]).flatMap A9):=by
 rw[ze,List.flatMap_append];simpa using h
open Go.RowKit
def Apx (l:List Ap) (w:World) (i:Value) (wr:World):Prop:=
 ∃k:Nat,k≤l.length∧i= .int .i64 k∧Fq (Nh l k) (l.drop k)=Ci l∧Below w.heap.size w wr
theorem Lj {w:World} {b o:Nat} {x:Ap} (h:∀W,Below w.heap.size w W→W.cell? ⟨b,o+0 * 5,none⟩=some (.int .i64 x.seq)∧W.cell? ⟨b,o+0 * 5+1,none⟩=some (.string x.key)∧W.cell? ⟨b,o+0 * 5+2,none⟩=some (.string x.body)∧W.cell? ⟨b,o+0 * 5+3,none⟩=some (.bool x.again)∧W.cell? ⟨b,o+0 * 5+4,none⟩=some (.int .i64 x.au)) {W:World} (hW:Below w.heap.size w W):
  (W.cell? ⟨b,o,none⟩=some (.int .i64 x.seq)∧W.cell? ⟨b,o+1,none⟩=some (.string x.key)∧W.cell? ⟨b,o+2,none⟩=some (.string x.body)∧W.cell? ⟨b,o+3,none⟩=some (.bool x.again)∧W.cell? ⟨b,o+4,none⟩=some (.int .i64 x.au))∧Below w.heap.size w W:=by
 have:=h W hW;simp only[Nat.zero_mul,Nat.add_zero] at this;exact⟨this,hW⟩
theorem Ij {w:World} {b o m k:Nat} {x y:Ap} (h:∀W,Below w.heap.size w W→W.cell? ⟨b,o+k * 5,none⟩=some (.int .i64 x.seq)∧W.cell? ⟨b,o+k * 5+1,none⟩=some (.string x.key)∧W.cell? ⟨b,o+k * 5+2,none⟩=some (.string x.body)∧W.cell? ⟨b,o+k * 5+3,none⟩=some (.bool x.again)∧W.cell? ⟨b,o+k * 5+4,none⟩=some (.int .i64 x.au))
  (hj:∀W,Below w.heap.size w W→W.cell? ⟨b,o+m * 5,none⟩=some (.int .i64 y.seq)) {W:World} (hW:Below w.heap.size w W):
  (W.cell? ⟨b,o+m * 5,none⟩=some (.int .i64 y.seq)∧W.cell? ⟨b,o+k * 5,none⟩=some (.int .i64 x.seq)∧W.cell? ⟨b,o+k * 5+1,none⟩=some (.string x.key)∧W.cell? ⟨b,o+k * 5+2,none⟩=some (.string x.body)∧W.cell? ⟨b,o+k * 5+3,none⟩=some (.bool x.again)∧W.cell? ⟨b,o+k * 5+4,none⟩=some (.int .i64 x.au))∧Below w.heap.size w W:=⟨⟨hj W hW,h W hW⟩,hW⟩
theorem Bp {w W W':World} {C:Prop} (hW:C∧Below w.heap.size w W) (hb:Below W.heap.size W W'):Below w.heap.size w W':=hW.2.trans (hb.mono hW.2.size)
theorem Sb (a:Option Addr) (c:Nat) (l:List Ap) (lo:Nat) (w:World) (hl:Sl w lo w.heap.size a (l.flatMap A9)) (hs:F5 l):
  Calls Tryz.prog 104 #[.slice a l.length c] w fun e w'=>e= .returned (.bool (Ci l))∧Below w.heap.size w w':=by
 have hll:=hs.len;have HL:=zh hl;clear hl
 have HS:=zh hs.item;clear hs
 go_enter Tryz.func104,Tryz.ntmps104
 go_wp2_with fail
 go_loopw [3] (fun i wr=>Apx l w i wr) (fun i _=>l.length - (intOf i).toNat)
 case atStart=>exact⟨0,by omega,rfl,rfl,zb _ _⟩
 case round=>
  obtain⟨k,hk,rfl,hlf,hB⟩:=hrel;have HF:=zh hlf;clear hlf
  have HB:=zh hB;by_cases hlt:k < l.length
  ·obtain⟨b,o,ha,_,hb,hc⟩:=Bd Cg (by decide) HL.out hlt
   subst ha;have HI:Hid (∀W,Below w.heap.size w W→W.cell? ⟨b,o+k * 5,none⟩=some (.int .i64 l[k].seq)∧W.cell? ⟨b,o+k * 5+1,none⟩=some (.string l[k].key)∧W.cell? ⟨b,o+k * 5+2,none⟩=some (.string l[k].body)∧W.cell? ⟨b,o+k * 5+3,none⟩=some (.bool l[k].again)∧W.cell? ⟨b,o+k * 5+4,none⟩=some (.int .i64 l[k].au)):=
    fun W hW=>Hk (wr:=W) (b:=b) (o:=o) (k:=k) (x:=l[k]) fun j u hu=>(hW.cell (p:=⟨b,_,none⟩) hb).trans (hc j u hu)
   have HSM:=zh (HS.out _ (zg hlt));clear hc hB;by_cases hk0:k=0
   ·subst hk0
    cases hq:Bi l[0]
    ·have HR:=zh (V5 hlt HF.out hq)
     have HQ:=zh hq;clear hq
     have hfn:=fun W=>Ef l[0] W HSM.out;rw[HQ.out] at hfn;have HFN:=zh hfn;clear hfn
     go_wp2_with fail
     refine Jn [(0,false),(1,false),(2,false),(3,false),(4,true),(5,false),(6,false),(7,false),(8,false),(9,false),(10,false),(11,false),(12,false),(13,false),(14,false),(15,false),(16,false),(17,false),(18,false),(19,false),(20,false),(21,false),(22,false),(23,false)] (by kernel_rfl) (fun hOrd=> ?_);refine Ir (S:=(fun W=>(W.cell? ⟨b,o,none⟩=some (.int .i64 l[0].seq)∧W.cell? ⟨b,o+1,none⟩=some (.string l[0].key)∧W.cell? ⟨b,o+2,none⟩=some (.string l[0].body)∧W.cell? ⟨b,o+3,none⟩=some (.bool l[0].again)∧W.cell? ⟨b,o+4,none⟩=some (.int .i64 l[0].au))∧Below w.heap.size w W)) hOrd (by kernel_rfl) (by first|exact Lj HI.out (by assumption)|exact Lj HI.out HB.out.drew) (fun hHeld=> ?_);clear hOrd
     iterate 24 ((first|(refine zT ?_)|(refine zL ?_)|(refine NW.call rfl (fun K hK=> ?_);go_simp;((go_at_call 105;refine(HFN.out _).mono ?_;rintro e w1 ⟨rfl,hb⟩;have hb1:=Bp (by assumption) hb;clear hb));refine hK.out _ _ (by first|exact Lj HI.out (by assumption)|exact Lj HI.out HB.out.drew) (fun hHeld=> ?_);clear hK K));try simp only[Act.put,zA,zB,zC,zD,zE,zF])
     refine NW.done ?_;go_wp2_with fail
     go_ret
     exact⟨by rw[HR.out];rfl,by assumption⟩
    ·have HQ:=zh (V6 hlt HF.out hq (by have:=U7 hq;rw[Ahc];omega))
     have hfn:=fun W=>Ef l[0] W HSM.out;rw[hq] at hfn;have HFN:=zh hfn;clear hfn hq
     go_wp2_with fail
     refine Jn [(0,false),(1,false),(2,false),(3,false),(4,true),(5,false),(6,false),(7,false),(8,false),(9,false),(10,false),(11,false),(12,false),(13,false),(14,false),(15,false),(16,false),(17,false),(18,false),(19,false),(20,false),(21,false),(22,false),(23,false)] (by kernel_rfl) (fun hOrd=> ?_);refine Ir (S:=(fun W=>(W.cell? ⟨b,o,none⟩=some (.int .i64 l[0].seq)∧W.cell? ⟨b,o+1,none⟩=some (.string l[0].key)∧W.cell? ⟨b,o+2,none⟩=some (.string l[0].body)∧W.cell? ⟨b,o+3,none⟩=some (.bool l[0].again)∧W.cell? ⟨b,o+4,none⟩=some (.int .i64 l[0].au))∧Below w.heap.size w W)) hOrd (by kernel_rfl) (by first|exact Lj HI.out (by assumption)|exact Lj HI.out HB.out.drew) (fun hHeld=> ?_);clear hOrd
     iterate 24 ((first|(refine zT ?_)|(refine zL ?_)|(refine NW.call rfl (fun K hK=> ?_);go_simp;((go_at_call 105;refine(HFN.out _).mono ?_;rintro e w1 ⟨rfl,hb⟩;have hb1:=Bp (by assumption) hb;clear hb));refine hK.out _ _ (by first|exact Lj HI.out (by assumption)|exact Lj HI.out HB.out.drew) (fun hHeld=> ?_);clear hK K));try simp only[Act.put,zA,zB,zC,zD,zE,zF])
     refine NW.done ?_;go_wp2_with fail
     exact⟨⟨1,hlt,rfl,HQ.out,by assumption⟩,by simp[intOf];omega⟩
   ·obtain⟨m,hkm⟩:∃m,k=m+1:=⟨k - 1,by omega⟩
    have hm:m < l.length:=by omega
    have hw:IntKind.i64.wrap ((k:Int) - 1)=(m:Int):=(IntWalk.i64_in _ (by omega)).trans (by omega);have hpos:decide ((0:Int) < (k:Int))=true:=by simp;omega
    have hkp:0 < k:=by omega
    have hkp2:decide (0 < k)=true:=by simp;omega
    have hi1:(0:Int)≤(k:Int):=by omega
    have hi2:(k:Int) < (l.length:Int):=by omega
    have hi3:(0:Int)≤(m:Int):=by omega
    have hi4:(m:Int) < (l.length:Int):=by omega
    have HKM:=zh hkm;clear hkm hk0
    obtain⟨b',o',ha',_,_,hc'⟩:=Bd Cg (by decide) HL.out hm;simp only[Option.some.injEq,Addr.mk.injEq,and_true] at ha';obtain⟨rfl,rfl⟩:=ha';have HJ:Hid (∀W,Below w.heap.size w W→W.cell? ⟨b,o+m * 5,none⟩=some (.int .i64 l[m].seq)):=fun W hW=>(hW.cell (p:=⟨b,_,none⟩) hb).trans (hc' 0 _ rfl);clear hc';have HLA:Hid (Nh l k=l[m].seq):=(by rw[HKM.out];exact Rs hm:Nh l k=l[m].seq)
    cases hq:Bi l[k]
    ·have HR:=zh (V5 hlt HF.out hq)
     have hfn:=fun W=>Ef l[k] W HSM.out;rw[hq] at hfn;have HFN:=zh hfn;clear hfn hq
     generalize l[k]=x at *;generalize l[m]=y at *;go_wp2_with fail
     refine Jn [(0,false),(1,false),(2,false),(3,false),(4,true),(5,false),(6,false),(7,false),(8,false),(9,false),(10,false),(11,false),(12,false),(13,false),(14,false),(15,false),(16,false),(17,false),(18,false),(19,false),(20,false),(21,false),(22,false),(23,false)] (by kernel_rfl) (fun hOrd=> ?_);refine Ir (S:=(fun W=>(W.cell? ⟨b,o+m * 5,none⟩=some (.int .i64 y.seq)∧W.cell? ⟨b,o+k * 5,none⟩=some (.int .i64 x.seq)∧W.cell? ⟨b,o+k * 5+1,none⟩=some (.string x.key)∧W.cell? ⟨b,o+k * 5+2,none⟩=some (.string x.body)∧W.cell? ⟨b,o+k * 5+3,none⟩=some (.bool x.again)∧W.cell? ⟨b,o+k * 5+4,none⟩=some (.int .i64 x.au))∧Below w.heap.size w W)) hOrd (by kernel_rfl) (by first|exact Ij HI.out HJ.out (by assumption)|exact Ij HI.out HJ.out HB.out.drew) (fun hHeld=> ?_);clear hOrd
     iterate 24 ((first|(refine zT ?_)|(refine zL ?_)|(refine NW.call rfl (fun K hK=> ?_);go_simp;((go_at_call 105;refine(HFN.out _).mono ?_;rintro e w1 ⟨rfl,hb⟩;have hb1:=Bp (by assumption) hb;clear hb));refine hK.out _ _ (by first|exact Ij HI.out HJ.out (by assumption)|exact Ij HI.out HJ.out HB.out.drew) (fun hHeld=> ?_);clear hK K));try simp only[Act.put,zA,zB,zC,zD,zE,zF])
     refine NW.done ?_;go_wp2_with fail
     go_ret
     exact⟨by rw[HR.out];rfl,by assumption⟩
    ·have hfn:=fun W=>Ef l[k] W HSM.out
     rw[hq] at hfn;have HFN:=zh hfn;clear hfn
     by_cases hs:l[m].seq < l[k].seq
     ·have HR:=zh (V6 hlt HF.out hq (by rw[HLA.out];exact hs))
      clear hq;generalize hx:l[k]=x at *;generalize hy:l[m]=y at *;clear hx hy;go_wp2_with fail
      refine Jn [(0,false),(1,false),(2,false),(3,false),(4,true),(5,false),(6,false),(7,false),(8,false),(9,false),(10,false),(11,false),(12,false),(13,false),(14,false),(15,false),(16,false),(17,false),(18,false),(19,false),(20,false),(21,false),(22,false),(23,false)] (by kernel_rfl) (fun hOrd=> ?_);refine Ir (S:=(fun W=>(W.cell? ⟨b,o+m * 5,none⟩=some (.int .i64 y.seq)∧W.cell? ⟨b,o+k * 5,none⟩=some (.int .i64 x.seq)∧W.cell? ⟨b,o+k * 5+1,none⟩=some (.string x.key)∧W.cell? ⟨b,o+k * 5+2,none⟩=some (.string x.body)∧W.cell? ⟨b,o+k * 5+3,none⟩=some (.bool x.again)∧W.cell? ⟨b,o+k * 5+4,none⟩=some (.int .i64 x.au))∧Below w.heap.size w W)) hOrd (by kernel_rfl) (by first|exact Ij HI.out HJ.out (by assumption)|exact Ij HI.out HJ.out HB.out.drew) (fun hHeld=> ?_);clear hOrd
      iterate 24 ((first|(refine zT ?_)|(refine zL ?_)|(refine NW.call rfl (fun K hK=> ?_);go_simp;((go_at_call 105;refine(HFN.out _).mono ?_;rintro e w1 ⟨rfl,hb⟩;have hb1:=Bp (by assumption) hb;clear hb));refine hK.out _ _ (by first|exact Ij HI.out HJ.out (by assumption)|exact Ij HI.out HJ.out HB.out.drew) (fun hHeld=> ?_);clear hK K));try simp only[Act.put,zA,zB,zC,zD,zE,zF])
      refine NW.done ?_;go_wp2_with fail
      exact⟨⟨k+1,hlt,by go_num,HR.out,by assumption⟩,by simp[intOf];omega⟩
     ·have hs':l[k].seq≤l[m].seq:=by omega
      have HR:=zh (Acm hlt HF.out (by rw[HLA.out];exact hs'));clear hq hs;generalize hx:l[k]=x at *;generalize hy:l[m]=y at *;clear hx hy;go_wp2_with fail
      refine Jn [(0,false),(1,false),(2,false),(3,false),(4,true),(5,false),(6,false),(7,false),(8,false),(9,false),(10,false),(11,false),(12,false),(13,false),(14,false),(15,false),(16,false),(17,false),(18,false),(19,false),(20,false),(21,false),(22,false),(23,false)] (by kernel_rfl) (fun hOrd=> ?_);refine Ir (S:=(fun W=>(W.cell? ⟨b,o+m * 5,none⟩=some (.int .i64 y.seq)∧W.cell? ⟨b,o+k * 5,none⟩=some (.int .i64 x.seq)∧W.cell? ⟨b,o+k * 5+1,none⟩=some (.string x.key)∧W.cell? ⟨b,o+k * 5+2,none⟩=some (.string x.body)∧W.cell? ⟨b,o+k * 5+3,none⟩=some (.bool x.again)∧W.cell? ⟨b,o+k * 5+4,none⟩=some (.int .i64 x.au))∧Below w.heap.size w W)) hOrd (by kernel_rfl) (by first|exact Ij HI.out HJ.out (by assumption)|exact Ij HI.out HJ.out HB.out.drew) (fun hHeld=> ?_);clear hOrd
      iterate 24 ((first|(refine zT ?_)|(refine zL ?_)|(refine NW.call rfl (fun K hK=> ?_);go_simp;((go_at_call 105;refine(HFN.out _).mono ?_;rintro e w1 ⟨rfl,hb⟩;have hb1:=Bp (by assumption) hb;clear hb));refine hK.out _ _ (by first|exact Ij HI.out HJ.out (by assumption)|exact Ij HI.out HJ.out HB.out.drew) (fun hHeld=> ?_);clear hK K));try simp only[Act.put,zA,zB,zC,zD,zE,zF])
      refine NW.done ?_;go_wp2_with fail
      go_ret
      exact⟨by rw[HR.out];rfl,by assumption⟩
  ·obtain rfl:k=l.length:=by omega
   have HR:=zh (Acn HF.out);clear hB;go_wp2_with fail
   go_ret
   exact⟨by rw[HR.out];rfl,HB.out⟩
open Go.RowKit
def Bj (n:Int) (b:ByteArray):Ap:=⟨n,⟨#[120,46,121]⟩,b,false,0⟩
theorem Aim:Be isWord ⟨#[120,46,121]⟩=0:=by rw[Gk,ByteArray.toList_eq];decide
theorem Ky {n:Int} {b:ByteArray} (h0:0≤n) (h1:n < 1048576) (hb:b.size≤12):Bi (Bj n b)=true:=by
 simp[Bi,Bj,Aim,h0,h1,hb]
theorem J2 {n:Int} {b:ByteArray} (h0:0≤n) (h1:n < 1048576) (hb:b.size≤12):Ep (Bj n b):=by
 unfold Ep Bj;refine⟨?_,?_,?_,?_,?_,?_⟩
 ·show(⟨#[120,46,121]⟩:ByteArray).size≤1048576;decide
 ·show b.size≤1048576;omega
 ·show -9223372036854775808≤n;omega
 ·show n≤9223372036854775807;omega
 ·show(-9223372036854775808:Int)≤0;decide
 ·show(0:Int)≤9223372036854775807;decide
theorem Aki (n:Int) (b:ByteArray) (w:World):Calls Tryz.prog 100 #[.int .i64 n,.string b] w fun e w'=>e= .returned (.agg (A9 (Bj n b)).toArray)∧Below w.heap.size w w':=by
 go_enter Tryz.func100,Tryz.ntmps100
 go_wp2_with fail
 exact bodyPost_ret (v:= .agg (A9 (Bj n b)).toArray) (by simp[results,Tryz.results100,go_sem,A9,Bj]) rfl ⟨rfl,(zb _ _).alloc (zn _) _⟩
def I3:ByteArray:=⟨#[111,110,101]⟩
def Af1:ByteArray:=⟨#[102,111,117,114]⟩
def Gu:ByteArray:=⟨#[116,119,111]⟩
theorem f1:Bi (Bj 1 I3)=true:=Ky (by decide) (by decide) (by decide)
theorem f2:Bi (Bj 2 Gu)=true:=Ky (by decide) (by decide) (by decide)
theorem f4:Bi (Bj 4 Af1)=true:=Ky (by decide) (by decide) (by decide)
theorem s1:Ep (Bj 1 I3):=J2 (by decide) (by decide) (by decide)
theorem s2:Ep (Bj 2 Gu):=J2 (by decide) (by decide) (by decide)
theorem s4:Ep (Bj 4 Af1):=J2 (by decide) (by decide) (by decide)
theorem Mn (n:Int) (b:ByteArray) (w:World):Calls Tryz.prog 100 #[.int .i64 n,.string b] w fun e w'=>e= .returned (.agg #[.int .i64 n,.string ⟨#[120,46,121]⟩,.string b,.bool false,.int .i64 0])∧Below w.heap.size w w':=Aki n b w
open Go.RowKit
theorem addr_add' (b o j:Nat):(⟨b,o,none⟩:Addr).add j=⟨b,o+j,none⟩:=by
 unfold Addr.add
 split
 ·simp_all
 ·simp
theorem Avc {w:World} {e:TypeId} {size k:Nat} (n cap:Nat) (us:List Value) (rest:Array Value) (hl:us.length=n * size) (hc:n≤cap) (hm:cap≤maxLen) (hr:rest.size=(cap - n) * size) (hk:k≤w.heap.size):
  (w.drew.alloc (.cells (us.toArray++rest) e)).ownsRow k e size (.slice (some ⟨w.heap.size,0,none⟩) n cap) n us:=by
 refine⟨hl,.inr ⟨w.heap.size,_,_,rfl,hk,heap_alloc_new w.drew _,hc,hm,?_,?_⟩⟩
 ·simp only[Array.size_append,List.size_toArray,hl,hr,←Nat.add_mul]
  congr 1
  omega
 ·simp only[Array.toList_append]
  rw[←hl];exact List.take_left
theorem Aam {P:Program} (w:World) (t ty e:TypeId) {z:Value} {size bytes:Nat} (ht:P.underlying t=some (.slice e)) (hinfo:(P.info? e).map (fun i=>(i.zero,i.size,i.bytes))=some (some z,size,bytes))
  (hzs:z.cells.size=size) (hsz:0 < size) (hb:bytes≤4096) (b0:Addr) (n cap:Nat) (olds:List Value) (lo hi:Nat) (hol:olds.length=n * size) (ho:Sl w lo hi (some b0) olds)
  (lo' hi':Nat) (a:Option Addr) (m c:Nat) (news:List Value) (hl:news.length=m * size) (hs:Sl w lo' hi' a news) (hnc:n≤cap) (hg:cap < n+m) (hn:n+m≤4294967296):
  ∃v' w',(Builtin.append_ #[t,t] ty #[.slice (some b0) n cap,.slice a m c]).run P w= .ok v' w'∧w'.ownsRow w.heap.size e size v' (n+m) (olds++news)∧Below w.heap.size w w':=by
 obtain⟨i,hi,hz0,hz1,hz2⟩:=info_parts hinfo;have hnil:news≠ []:=by
  rintro rfl;have:m * size=0:=hl.symm;rcases Nat.mul_eq_zero.1 this with h|h<;>omega
 rcases hs with h|⟨b,o,rfl,_,_,hc⟩
 ·exact absurd h hnil
 have hby:(n+m) * bytes≤140737488355328:=by
  have:(n+m) * bytes≤4294967296 * 4096:=Nat.mul_le_mul hn hb;omega
 have hr:=run_append_grow (P:=P) w t ty e i z ht hi hz0 b0 n cap olds (by rw[hz1];exact hol) (fun j v hj=>by
   rcases ho with h|⟨b',o',e',_,_,hc'⟩
   ·rw[h] at hj;simp at hj
   ·simp only[Option.some.injEq] at e'
    rw[e',addr_add'];exact hc' j v hj) ⟨b,o,none⟩ m c news (by rw[hz1];exact hl) (fun j v hj=>by rw[addr_add'];exact hc j v hj) hg (by omega) (growslice_fits hg (by rw[hz2];exact hby))
 have hge:=grownCap_ge w (n+m) cap e;have hcm:grownCap w (n+m) cap e≤maxLen:=grownCap_le_maxLen w (n+m) cap e (by unfold maxLen;omega);refine⟨_,_,hr,?_,(zb _ w).drew.alloc (zn _) _⟩;rw[List.append_toArray olds news];exact Avc (n+m) _ (olds++news) _ (by rw[ze,hol,hl,Nat.add_mul]) hge hcm (by rw[size_zeroCells,hzs]) (zn _)
theorem En {P:Program} (w:World) (t ty e:TypeId) {z:Value} {size bytes:Nat} (ht:P.underlying t=some (.slice e)) (hinfo:(P.info? e).map (fun i=>(i.zero,i.size,i.bytes))=some (some z,size,bytes))
  (hzs:z.cells.size=size) (hsz:0 < size) (hb:bytes≤4096) (b0:Addr) (lo hi:Nat) (a:Option Addr) (m c:Nat) (news:List Value) (hl:news.length=m * size) (hs:Sl w lo hi a news) (hn:m≤4294967296):
  ∃v' w',(Builtin.append_ #[t,t] ty #[.slice (some b0) 0 0,.slice a m c]).run P w= .ok v' w'∧Below w.heap.size w w'∧(0 < m∧w'.ownsRow w.heap.size e size v' m news∨m=0∧v'= .slice (some b0) 0 0∧w'=w):=by
 by_cases hm:m=0
 ·subst hm
  obtain⟨i,hi,hz0,hz1,hz2⟩:=info_parts hinfo;refine⟨.slice (some b0) 0 0,w,?_,zb _ _,.inr ⟨rfl,rfl,rfl⟩⟩
  cases a with
  |none=>simp[Builtin.append_,run_underlying ht,sizeOf,typeInfo,hi,Builtin.lenOf,Builtin.firstCells,storeCells]
  |some ad=>
   have hf:=run_firstCells_some (P:=P) w i.size 0 ad 0 c [] (by simp) (by intro j v hj;simp at hj);simp[Builtin.append_,run_underlying ht,sizeOf,typeInfo,hi,Builtin.lenOf,hf,storeCells]
 ·obtain⟨v',w',h1,h2,h3⟩:=Aam (P:=P) w t ty e ht hinfo hzs hsz hb b0 0 0 [] 0 0 (by simp) (Sl.nil _ _ _ _) lo hi a m c news hl hs (zn _) (by omega) (by omega)
  rw[Nat.zero_add,List.nil_append] at h2;exact⟨v',w',h1,h3,.inl ⟨by omega,h2⟩⟩
end Go.Proofs.YtaanpcjkflhomaaGreatDoor
namespace Go.Proofs.YtaanpcjkflhomaaGreatDoor
open Go.RowKit
theorem Ls {P:Program} (w:World) (dT sT ty elem:TypeId) {z:Value} {size bytes:Nat} (hu:P.underlying dT=some (.slice elem)) (hinfo:(P.info? elem).map (fun i=>(i.zero,i.size,i.bytes))=some (some z,size,bytes))
  (g o dLen dCap:Nat) (a:Addr) (sLen sCap k:Nat) (cur:Array Value) (t:TypeId) (cs:List Value) (hg:w.heap[g]? =some (.cells cur t (0,0))) (hk:Nat.min sLen dLen=k) (hn:cs.length=k * size)
  (hsrc:∀j v,cs[j]? =some v→w.cell? (a.add j)=some v) (hfit:o+cs.length≤cur.size) (h1:∀v∈cs,v.oneCell'=true):
  (Builtin.copy_ #[dT,sT] ty #[.slice (some ⟨g,o,none⟩) dLen dCap,.slice (some a) sLen sCap]).run P w= .ok (goInt k) (w.setRow g (cur.toList.take o++cs++cur.toList.drop (o+cs.length)).toArray):=by
 obtain⟨i,hi,hz0,hz1,hz2⟩:=info_parts hinfo;have hl:=run_loadCells_list (P:=P) w a cs hsrc;have hst:=run_storeCells_at P g o t cs 0 cur w hg (by simpa using hfit) h1;rw[hn] at hl;simp[Builtin.copy_,run_underlying hu,Builtin.lenOf,Builtin.firstCells,sizeOf,typeInfo,hi,hz1,hk,hl,hst]
theorem M2 {P:Program} (w:World) {ops:Array Oper} {rest:List Oper} {o:Oper} {a:Act} {Q:Exit→Act→World→Prop} (hgd:o.guard=none) (d s:Operand) (t t':TypeId)
  (ho:o.op= .call { callee:= .builtin .copy,args:= #[d,s],argTypes:= #[t,t'] }) (v u:Value) (hd:a.eval d=v) (hs:a.eval s=u) {v':Value} {w':World}
  (hr:(Builtin.copy_ #[t,t'] o.type #[v,u]).run P w= .ok v' w') (h:wpList P ops Q rest (a.put o.dst v') w'):wpList P ops Q (o::rest) a w:=
 wpList_plain hgd fun _ hK=>by
  unfold Oper.wp execOp;simp only[ho,resolve,invoke,builtin,Sem.run_bind,Sem.run_pure,Result.andThen_ok,List.map_toArray,List.map_cons,List.map_nil,hd,hs,hr];exact hK _ _ h
theorem Si {w:World} {g:Nat} {t:TypeId} {cs:Array Value} (h:Bk w g t cs) (cs':Array Value):Bk (w.setRow g cs') g t cs':=setRow_heap w g cs cs' t (0,0) h
theorem Aa8 {w:World} {g g':Nat} {t:TypeId} {cs:Array Value} (h:Bk w g' t cs) (hne:g'≠g) (cs':Array Value):Bk (w.setRow g cs') g' t cs:=(setRow_other w g g' cs' hne).trans h
theorem U6 (w:World) (g:Nat) (cs:Array Value):w.grownBy (w.setRow g cs) (some g):=⟨rfl,rfl,rfl,by simp,fun k _ hne=>setRow_other w g k cs (fun e=>hne (by rw[e]))⟩
theorem Dt {w w1 w2:World} {row:Option Nat} (h1:w.grownBy w1 row) (h2:w1.grownBy w2 row):w.grownBy w2 row:=
 ⟨h2.os.trans h1.os,h2.tape.trans h1.tape,h2.output.trans h1.output,zr h1.size h2.size,fun k hk hne=>(h2.block k (Nat.lt_of_lt_of_le hk h1.size) hne).trans (h1.block k hk hne)⟩
theorem Zw (w:World) (row:Option Nat):w.grownBy w.drew row:=⟨rfl,rfl,rfl,zn _,fun _ _ _=>rfl⟩
theorem Ag3 {w w':World} (h:Below w.heap.size w w') (row:Option Nat):w.grownBy w' row:=⟨h.os,h.tape,h.output,h.size,fun k hk _=>h.block k hk⟩
theorem Hd:∀w,(sizeOf (Tryz.prog.elem 50)).run Tryz.prog w= .ok 5 w:=fun _=>by kernel_rfl
theorem Adm {w:World} {g lo hi:Nat} {t:TypeId} {cs:Array Value} (h:Bk w g t cs) (h1:lo≤g) (h2:g < hi) {us:List Value} (hu:us=cs.toList):Sl w lo hi (some ⟨g,0,none⟩) us:=
 .inr ⟨g,0,rfl,h1,h2,fun j u hj=>by
  rw[Nat.zero_add,h.cell];rw[hu,Array.getElem?_toList] at hj;exact hj⟩
theorem Vn (a:Option Addr) (c:Nat) (l:List Ap) (lo:Nat) (w:World) (hl:Sl w lo w.heap.size a (l.flatMap A9)) (hll:l.length≤1048576):
  Calls Tryz.prog 135 #[.slice a l.length c] w fun e w'=>∃v,e= .returned v∧w'.ownsRow w.heap.size 52 5 v l.length (l.flatMap A9)∧Below w.heap.size w w':=by
 have heq:=fun W=>Lib.run_eql_slice_nil (P:=Tryz.prog) W 50 52 a l.length c 0 0 Tryz.underlying50;have hlen:(l.flatMap A9).length=l.length * 5:=Dc Cg l;have HLEN:=zh hlen;clear hlen
 have HL:=zh hl;clear hl
 cases a with
 |none=>
  have h0:l.length=0:=by
   rcases HL.out with h|⟨b,o,e,_⟩
   ·have:=HLEN.out;rw[h] at this;simp at this;omega
   ·cases e
  have HR:Hid (∀W:World,W.ownsRow w.heap.size 52 5 (.slice none 0 0) l.length (l.flatMap A9)):=fun W=>by
   rw[h0,List.eq_nil_of_length_eq_zero h0];exact World.ownsRow_nil _ _ _ _
  clear h0;go_enter Tryz.func135,Tryz.ntmps135
  go_wp2_with fail
  go_ret
  exact⟨_,rfl,HR.out _,zb _ _⟩
 |some ad=>
  have hal:Below w.heap.size w (w.alloc (.cells #[] 52)):=(zb _ _).alloc (zn _) _;obtain⟨v',w',hr,hb,hx⟩:=En (P:=Tryz.prog) (w.alloc (.cells #[] 52)) 50 50 52 Tryz.underlying50 Gh rfl (by decide) (by decide) ⟨w.heap.size,0,none⟩ lo w.heap.size (some ad) l.length c (l.flatMap A9) HLEN.out (HL.out.below hal (zn _)) (by omega);have HO:Hid (w'.ownsRow w.heap.size 52 5 v' l.length (l.flatMap A9)):=by
   rcases hx with⟨_,h⟩|⟨h0,rfl,rfl⟩
   ·exact Cp h (by simp)
   ·rw[h0,List.eq_nil_of_length_eq_zero h0]
    exact World.ownsRow_lit w #[] 0 (zn _) (by decide) rfl
  have HB:=zh (hal.trans (hb.mono hal.size));clear hx hb hal
  go_enter Tryz.func135,Tryz.ntmps135
  go_wp2_with (at_builtin;refine Lib.wpList_append_run _ rfl _ _ _ _ rfl _ _ rfl rfl _ _ hr ?_)
  go_ret
  exact⟨_,rfl,HO.out,HB.out⟩
open Go.RowKit
theorem Qw (g:Nat) (lb:Array Value) (eg:∀args w,(callFunc g args).run Tryz.prog w= .ok (.enter g args) w) (p:B6→Bool) (xs:List B6) (a:Option Addr) (c lo:Nat) (w:World)
  (hp:∀x∈xs,∀W,Below w.heap.size w W→Calls Tryz.prog g (#[.agg (El x).toArray]++lb) W fun e W'=>e= .returned (.bool (p x))∧Below W.heap.size W W')
  (hx:Sl w lo w.heap.size a (xs.flatMap (El))) (hl:xs.length≤4294967296):
  Calls Tryz.prog 101 #[.slice a xs.length c,.func (.func g) #[] lb] w fun e w'=>e= .returned (.int .i64 (idxOf p xs))∧Below w.heap.size w w':=by
 have HX:=zh hx;clear hx
 have HP:=zh hp;clear hp
 go_enter Tryz.func101,Tryz.ntmps101
 go_wp2_with fail
 go_loopw [8] (fun i wr=>Lx p xs w.heap.size w i wr) (fun i _=>xs.length - (intOf i).toNat)
 case atStart=>exact⟨0,by omega,rfl,zb _ _,fun j x hj=>absurd hj (by omega)⟩
 case round=>
  obtain⟨k,hk,rfl,hB,hall⟩:=hrel;have HA:=zh hall;clear hall
  by_cases hlt:k < xs.length
  ·obtain⟨b,o,rfl,_,hb,hc⟩:=Bd (enc:=El) (size:=2) (fun _=>rfl) (by decide) HX.out hlt
   have e0:wr.cell? ⟨b,o+k * 2,none⟩=some (.int .i64 xs[k].queue):=by
    have:=(hB.cell (p:=⟨b,_,none⟩) hb).trans (hc 0 _ rfl);simpa using this
   have e1:wr.cell? ⟨b,o+k * 2+1,none⟩=some (.int .i64 xs[k].cf):=by
    have:=(hB.cell (p:=⟨b,_,none⟩) hb).trans (hc 1 _ rfl);simpa using this
   have HPk:=zh (HP.out xs[k] (zg hlt) wr hB);have HB:=zh hB;clear hc hB
   cases hq:p xs[k]
   ·have HQ:=zh hq;clear hq
    go_wp2_with fail
    refine HPk.out.mono ?_;rw[HQ.out];rintro e w1 ⟨rfl,hb1⟩;have H1:=zh (HB.out.trans (hb1.mono HB.out.size));clear hb1
    go_wp2_with fail
    exact⟨Fj HA.out hlt HQ.out H1.out,by simp[intOf];omega⟩
   ·have HQ:=zh (idxOf_hit HA.out hlt hq)
    have HQ2:=zh hq;clear hq
    go_wp2_with fail
    refine HPk.out.mono ?_;rw[HQ2.out];rintro e w1 ⟨rfl,hb1⟩;have H1:=zh (HB.out.trans (hb1.mono HB.out.size));clear hb1
    go_wp2_with fail
    go_ret
    exact⟨by rw[HQ.out];rfl,H1.out⟩
  ·have HQ:=zh (idxOf_miss HA.out (by omega))
   go_wp2_with fail
   go_ret
   exact⟨by rw[HQ.out];rfl,hB⟩
theorem containsFunc_Taker (g:Nat) (lb:Array Value) (eg:∀args w,(callFunc g args).run Tryz.prog w= .ok (.enter g args) w) (p:B6→Bool) (xs:List B6) (a:Option Addr) (c lo:Nat) (w:World)
  (hp:∀x∈xs,∀W,Below w.heap.size w W→Calls Tryz.prog g (#[.agg (El x).toArray]++lb) W fun e W'=>e= .returned (.bool (p x))∧Below W.heap.size W W')
  (hx:Sl w lo w.heap.size a (xs.flatMap (El))) (hl:xs.length≤4294967296):
  Calls Tryz.prog 63 #[.slice a xs.length c,.func (.func g) #[] lb] w fun e w'=>e= .returned (.bool (xs.any p))∧Below w.heap.size w w':=by
 have HI:=zh (Qw g lb eg p xs a c lo w hp hx hl);clear hp hx
 have hany:=M5 p xs;have HY:=zh hany;clear hany
 generalize hI:idxOf p xs=I at HI HY;clear hI;go_enter Tryz.func63,Tryz.ntmps63
 go_wp2_with fail
 refine HI.out.mono ?_;rintro e w1 ⟨rfl,hb1⟩;go_wp2_with fail
 go_ret
 exact⟨by rw[HY.out];rfl,hb1⟩
end Go.Proofs.YtaanpcjkflhomaaGreatDoor
