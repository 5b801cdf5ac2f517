/- Lemmas. -/
import Derived.StillTailTactics
import Derived.Laws.StructEq
import Derived.IntWalk
import Derived.Test.YtpkneogjdfolaaaGreatDoorBunD
import Derived.Lib.AppendZeros
import Derived.Laws.CopyRow
set_option maxHeartbeats 20000000
set_option maxRecDepth 100000
set_option linter.unusedSimpArgs false
set_option linter.unusedVariables false
namespace Go.Proofs.YtpkneogjdfolaaaGreatDoor
open Go.RowKit
def Bl(x:Ao):Bool:=decide (Be isWord x.key=0) && decide (0≤x.seq) && decide (x.seq < 1048576) && decide (x.body.size≤12) && decide (0≤x.au) && decide (x.au≤2)
def Fq(last:Int):List Ao→Bool
 | []=>true
 |x::r=>Bl x && decide (last < x.seq) && Fq x.seq r
def Ct(l:List Ao):Bool:=Fq (-1) l
def Et(l:List Ao):Int:=if Ct l=true then 0 else 1
def Nz(l:List Ao)(k:Nat):Int:=if k=0 then -1 else match l[k - 1]? with
 |some x=>x.seq
 |none=> -1
theorem Xa{x:Ao}(h:Bl x=true):0≤x.seq∧x.seq < 1048576:=by
 simp only[Bl,zc,zd] at h;exact⟨h.1.1.1.1.2,h.1.1.1.2⟩
theorem Ai0(l:List Ao):Nz l 0= -1:=rfl
theorem Sx{l:List Ao}{k:Nat}(h:k < l.length):Nz l (k+1)=l[k].seq:=by
 simp[Nz,h]
theorem Pg{l:List Ao}{k:Nat}(h:k < l.length)(last:Int):Fq last (l.drop k)=(Bl l[k] && decide (last < l[k].seq) && Fq l[k].seq (l.drop (k+1))):=by
 rw[List.drop_eq_getElem_cons h];rfl
theorem Ym{l:List Ao}{k:Nat}(h:k < l.length){last:Int}(hl:Fq last (l.drop k)=Ct l)(hf:Bl l[k]=false):Ct l=false:=by
 rw[←hl,Pg h,hf];rfl
theorem Aet{l:List Ao}{k:Nat}(h:k < l.length){last:Int}(hl:Fq last (l.drop k)=Ct l)(hf:l[k].seq≤last):Ct l=false:=by
 rw[←hl,Pg h,decide_eq_false (by omega),Bool.and_false];rfl
theorem Yn{l:List Ao}{k:Nat}(h:k < l.length){last:Int}(hl:Fq last (l.drop k)=Ct l)(hf:Bl l[k]=true)(hs:last < l[k].seq):Fq (Nz l (k+1)) (l.drop (k+1))=Ct l:=by
 rw[←hl,Pg h,hf,decide_eq_true hs,Sx h];rfl
theorem Aeu{l:List Ao}{last:Int}(hl:Fq last (l.drop l.length)=Ct l):Ct l=true:=by
 rw[←hl,List.drop_length];rfl
theorem N2:∀ {l:List Ao} {last:Int},Fq last l=true→(∀x∈l,Bl x=true∧last < x.seq)∧l.Pairwise fun x y=>x.seq < y.seq
 | [],_,_=>⟨(fun x hx=>by cases hx),List.Pairwise.nil⟩
 |x::r,last,h=>by
  simp only[Fq,zc,zd] at h;obtain⟨h1,h2⟩:=N2 h.2;refine⟨fun y hy=> ?_,List.pairwise_cons.2 ⟨fun y hy=>(h1 y hy).2,h2⟩⟩;rcases List.mem_cons.1 hy with rfl|hy
  ·exact h.1
  ·exact⟨(h1 y hy).1,by have:=(h1 y hy).2;omega⟩
theorem Zv:∀ {l:List Ao} {last:Int},(∀x∈l,Bl x=true∧last < x.seq)→(l.Pairwise fun x y=>x.seq < y.seq)→Fq last l=true
 | [],_,_,_=>rfl
 |x::r,last,h1,h2=>by
  obtain⟨h3,h4⟩:=List.pairwise_cons.1 h2;obtain⟨h5,h6⟩:=h1 x (List.mem_cons_self ..);simp only[Fq,zc,zd];exact⟨⟨h5,h6⟩,Zv (fun y hy=>⟨(h1 y (List.mem_cons_of_mem _ hy)).1,h3 y hy⟩) h4⟩
theorem E7{l:List Ao} :Ct l=true↔(∀x∈l,Bl x=true)∧l.Pairwise fun x y=>x.seq < y.seq:=by
 constructor
 ·intro h
  exact⟨fun x hx=>((N2 h).1 x hx).1,(N2 h).2⟩
 ·rintro⟨h1,h2⟩
  exact Zv (fun x hx=>⟨h1 x hx,by have:=(Xa (h1 x hx)).1;omega⟩) h2
def Bt(l:List Ao)(x:Ao):List Ao:=match l with
 | []=>[x]
 |y::r=>if x.seq < y.seq then x::y::r else y::Bt r x
theorem Zb(x:Ao)(w:zW)(hv:Env w)(hx:Er x):Calls Tryz.prog 127 #[.agg (Ax x).toArray] w fun e w'=>e= .returned (.bool (Bl x))∧Below w.heap.size w w':=by
 obtain⟨seq,key,body,again,au⟩:=x;obtain⟨k1,k2,_⟩:=hx;simp only at k1 k2;unfold Ax;have hbk:=Bk.new w 113 #[.int .i64 seq,.string key,.string body,.bool again,.int .i64 au];have hbl:Below w.heap.size w (w.alloc (.cells #[.int .i64 seq,.string key,.string body,.bool again,.int .i64 au] 113)):=(zb _ w).alloc (zn _) _;have hz:(w.alloc (.cells #[.int .i64 seq,.string key,.string body,.bool again,.int .i64 au] 113)).heap.size=w.heap.size+1:=by simp
 have HB:=zh hbk;clear hbk
 have HL:=zh (zi hbl (Ba hbl hv));clear hbl hv
 go_enter Tryz.func127,Tryz.ntmps127
 go_wp2_with fail
 generalize w.alloc (.cells #[.int .i64 seq,.string key,.string body,.bool again,.int .i64 au] 113)=W0 at *;refine(Pr key W0 (by omega) HL.out.2).mono ?_;rintro e W1 ⟨a1,c1,rfl,_,_,hb1⟩;have b1:=HB.out.below hb1 (by omega);have e0:=b1.cell 0;have e2:=b1.cell 2;have e4:=b1.cell 4
 simp only[zI,zJ,zK] at e0 e2 e4;have HB1:=zh (HL.out.1.trans (hb1.mono HL.out.1.size));clear hb1 b1
 have HF:Hid (Bl ⟨seq,key,body,again,au⟩=(decide (Be isWord key=0) && decide (0≤seq) && decide (seq < 1048576) && decide (body.size≤12) && decide (0≤au) && decide (au≤2))):=(rfl:Bl ⟨seq,key,body,again,au⟩=_);by_cases hs:Be isWord key=0
 ·have b0:(Be isWord key == 0)=true:=by simp[hs]
  have HF2:Hid (Bl ⟨seq,key,body,again,au⟩=(decide (0≤seq) && decide (seq < 1048576) && decide (body.size≤12) && decide (0≤au) && decide (au≤2))):=by
   refine(?_:Bl ⟨seq,key,body,again,au⟩=_);rw[HF.out,decide_eq_true hs,Bool.true_and]
  clear hs;go_wp2_with fail
  all_goals go_ret
  all_goals refine⟨?_,HB1.out⟩
  all_goals(refine congrArg (fun b=>Ending.returned (Value.bool b)) ?_;rw[HF2.out];first|(simp[*];done)|(simp[*];omega))
 ·have b0:(Be isWord key == 0)=false:=by simp[hs]
  have HF2:Hid (Bl ⟨seq,key,body,again,au⟩=false):=by
   refine(?_:Bl ⟨seq,key,body,again,au⟩=_);rw[HF.out,decide_eq_false hs];rfl
  clear hs;go_wp2_with fail
  go_ret
  exact⟨by rw[HF2.out];rfl,HB1.out⟩
theorem Ef(x:Ao)(w:zW)(hx:Er x):Calls Tryz.prog 185 #[.agg (Ax x).toArray] w fun e w'=>e= .returned (.bool (Bl x))∧Below w.heap.size w w':=by
 obtain⟨seq,key,body,again,au⟩:=x;obtain⟨k1,k2,_⟩:=hx;simp only at k1 k2;unfold Ax;have hbk:=Bk.new w 113 #[.int .i64 seq,.string key,.string body,.bool again,.int .i64 au];have hbl:Below w.heap.size w (w.alloc (.cells #[.int .i64 seq,.string key,.string body,.bool again,.int .i64 au] 113)):=(zb _ w).alloc (zn _) _;have hz:(w.alloc (.cells #[.int .i64 seq,.string key,.string body,.bool again,.int .i64 au] 113)).heap.size=w.heap.size+1:=by simp
 have HB:=zh hbk;clear hbk
 have HL:=zh hbl;clear hbl
 have HF:Hid (Bl ⟨seq,key,body,again,au⟩=((decide (0≤seq) && decide (seq≤1048575)) && decide (Be isWord key=0) && decide (body.size≤12) && (decide (0≤au) && decide (au≤2)))):=by
  refine(?_:Bl ⟨seq,key,body,again,au⟩=_);unfold Bl;simp only;rw[Bool.eq_iff_iff];simp only[zc,zd]
  constructor
  ·rintro⟨⟨⟨⟨⟨h1,h2⟩,h3⟩,h4⟩,h5⟩,h6⟩
   exact⟨⟨⟨⟨h2,by omega⟩,h1⟩,h4⟩,h5,h6⟩
  ·rintro⟨⟨⟨⟨h2,h3⟩,h1⟩,h4⟩,h5,h6⟩
   exact⟨⟨⟨⟨⟨h1,h2⟩,by omega⟩,h4⟩,h5⟩,h6⟩
 go_enter Tryz.func185,Tryz.ntmps185
 have e0:=HB.out.cell 0;simp only[zI,zJ] at e0;go_wp2_with fail
 generalize w.alloc (.cells #[.int .i64 seq,.string key,.string body,.bool again,.int .i64 au] 113)=W0 at *;refine(Cc _ _ _ _).mono ?_;rintro e w1 ⟨rfl,rfl⟩
 cases hq:(decide (0≤seq) && decide (seq≤1048575))
 ·have HR:Hid (Bl ⟨seq,key,body,again,au⟩=false):=by
   refine(?_:Bl ⟨seq,key,body,again,au⟩=_);rw[HF.out,hq];rfl
  clear hq;go_wp2_with fail
  go_ret
  exact⟨by rw[HR.out];rfl,HL.out⟩
 ·have HQ:=zh hq;clear hq
  have e1:=HB.out.cell 1;simp only[zI,zJ,zK] at e1;go_wp2_with fail
  refine(Kd key W0 (by omega)).mono ?_;rintro e W1 ⟨rfl,hb1⟩;have b1:=HB.out.below hb1 (by omega);clear e0 e1;have e2:=b1.cell 2;have e4:=b1.cell 4
  simp only[zI,zJ,zK] at e2 e4;have HB1:=zm HL hb1;clear hb1 b1
  by_cases hs:Be isWord key=0
  ·have b0:(Be isWord key == 0)=true:=by simp[hs]
   have HS:=zh hs;clear hs
   by_cases hl:body.size≤12
   ·have HL2:=zh (decide_eq_true hl)
    go_wp2_with fail
    refine(Cc _ _ _ _).mono ?_;rintro e w1 ⟨rfl,rfl⟩;have HR:Hid (Bl ⟨seq,key,body,again,au⟩=(decide (0≤au) && decide (au≤2))):=by
     refine(?_:Bl ⟨seq,key,body,again,au⟩=_);rw[HF.out,HQ.out,decide_eq_true HS.out,HL2.out];rfl
    go_wp2_with fail
    go_ret
    exact⟨by rw[HR.out];rfl,HB1.out⟩
   ·have hl':12 < body.size:=by omega
    have HL2:=zh (decide_eq_false hl);clear hl
    have HR:Hid (Bl ⟨seq,key,body,again,au⟩=false):=by
     refine(?_:Bl ⟨seq,key,body,again,au⟩=_);rw[HF.out,HL2.out,Bool.and_false];rfl
    go_wp2_with fail
    go_ret
    exact⟨by rw[HR.out];rfl,HB1.out⟩
  ·have b0:(Be isWord key == 0)=false:=by simp[hs]
   have HR:Hid (Bl ⟨seq,key,body,again,au⟩=false):=by
    refine(?_:Bl ⟨seq,key,body,again,au⟩=_);rw[HF.out,decide_eq_false hs,Bool.and_false];rfl
   clear hs;go_wp2_with fail
   go_ret
   exact⟨by rw[HR.out];rfl,HB1.out⟩
def Avo(l:List Ao)(w:zW)(last i:Value)(wr:zW):Prop:=
 ∃k:Nat,k≤l.length∧i= .int .i64 k∧last= .int .i64 (Nz l k)∧Fq (Nz l k) (l.drop k)=Ct l∧Below w.heap.size w wr
theorem Hw{wr:zW}{b o k:Nat}{x:Ao}(hc:∀j u,(Ax x)[j]? =some u→wr.cell? ⟨b,o+k * 5+j,none⟩=some u):
  zM wr b (o+k * 5) (.int .i64 x.seq)∧zM wr b (o+k * 5+1) (.string x.key)∧zM wr b (o+k * 5+2) (.string x.body)∧zM wr b (o+k * 5+3) (.bool x.again)∧zM wr b (o+k * 5+4) (.int .i64 x.au):=
 ⟨hc 0 _ rfl,hc 1 _ rfl,hc 2 _ rfl,hc 3 _ rfl,hc 4 _ rfl⟩
theorem Qh(a:zZ)(c:Nat)(l:List Ao)(lo:Nat)(w:zW)(hv:Env w)(hl:Sl w lo w.heap.size a (l.flatMap Ax))(hs:Gb l):
  Calls Tryz.prog 126 #[.slice a l.length c] w fun e w'=>e= .returned (.int .i64 (Et l))∧Below w.heap.size w w':=by
 have hll:=hs.len;have HL:=zh hl;clear hl
 have HV:=zh hv;clear hv
 have HS:=zh hs.item;clear hs
 go_enter Tryz.func126,Tryz.ntmps126
 go_wp2_with fail
 go_loopw [3,8] (fun last i wr=>Avo l w last i wr) (fun _ i _=>l.length - (intOf i).toNat)
 case atStart=>exact⟨0,by omega,rfl,rfl,rfl,zb _ _⟩
 case round=>
  obtain⟨k,hk,rfl,rfl,hlf,hB⟩:=hrel;have HF:=zh hlf;clear hlf
  have HB:=zh hB;by_cases hlt:k < l.length
  ·obtain⟨b,o,ha,_,hb,hc⟩:=Bf Cu (by decide) HL.out hlt
   subst ha;obtain⟨e0,e1,e2,e3,e4⟩:=Hw (wr:=wr) (b:=b) (o:=o) (k:=k) (x:=l[k]) fun j u hu=>(hB.cell (p:=⟨b,_,none⟩) hb).trans (hc j u hu);have HSM:=zh (HS.out _ (zg hlt));have hbk:=Bk.new wr 113 (Ax l[k]).toArray;have hbl:Below wr.heap.size wr (wr.alloc (.cells (Ax l[k]).toArray 113)):=(zb _ wr).alloc (zn _) _;have hz:(wr.alloc (.cells (Ax l[k]).toArray 113)).heap.size=wr.heap.size+1:=by simp
   have HBK:=zh hbk;have HBL:=zh hbl;have HZ:=zh hz
   clear hc hB hbk hbl hz;go_wp2_with fail
   refine(Zb l[k] _ (Ba (HB.out.trans (HBL.out.mono HB.out.size)) HV.out) HSM.out).mono ?_;rintro e w1 ⟨rfl,hb1⟩;have hb1':=HBK.out.below hb1 (by have:=HZ.out;unfold Ax at this;simp);have f0:=hb1'.cell 0;rw[show((Ax l[k]).toArray)[0]? =some (.int .i64 l[k].seq) from rfl] at f0;have HB1:=zh (HB.out.trans ((HBL.out.trans (hb1.mono (by have:=HZ.out;unfold Ax at this;simp))).mono HB.out.size));clear hb1 hb1' e0 e1 e2 e3 e4
   cases hq:Bl l[k]
   ·have HR:Hid (Et l=1):=by
     refine(?_:Et l=1);unfold Et;rw[Ym hlt HF.out hq];rfl
    clear hq;go_wp2_with fail
    go_ret
    exact⟨by rw[HR.out];rfl,HB1.out⟩
   ·by_cases hs:Nz l k < l[k].seq
    ·have HR:=zh (Yn hlt HF.out hq hs)
     have HQ:=zh (Sx hlt);clear hq;go_wp2_with fail
     exact⟨⟨k+1,hlt,by go_num,by rw[HQ.out],HR.out,HB1.out⟩,by simp[intOf];omega⟩
    ·have hs':l[k].seq≤Nz l k:=by omega
     have HR:Hid (Et l=1):=by
      refine(?_:Et l=1);unfold Et;rw[Aet hlt HF.out hs'];rfl
     clear hq hs;go_wp2_with fail
     go_ret
     exact⟨by rw[HR.out];rfl,HB1.out⟩
  ·obtain rfl:k=l.length:=by omega
   have HR:Hid (Et l=0):=by
    refine(?_:Et l=0);unfold Et;rw[Aeu HF.out];rfl
   clear hB;go_wp2_with fail
   go_ret
   exact⟨by rw[HR.out];rfl,HB.out⟩
def Lr(x y:Ao):Bool:=x.seq == y.seq && (x.key.toList == y.key.toList && (x.body.toList == y.body.toList && (x.again == y.again && x.au == y.au)))
theorem As8(x y:Ao)(w:zW):(Op.equalIn 10000 113 (.agg (zY x)) (.agg (zY y))).run Tryz.prog w= .ok (Lr x y) w:=by
 have u1:=Tryz.underlying3;have a1:=Tryz.isAgg3;have z1:=Tryz.sizeOf3;have u2:=Tryz.underlying9;have a2:=Tryz.isAgg9;have z2:=Tryz.sizeOf9;have u3:=Tryz.underlying4;have a3:=Tryz.isAgg4;have z3:=Tryz.sizeOf4;have hS:Tryz.prog.underlying 113=some (.struct (Tryz.prog.fieldsOf 113)):=by kernel_rfl
 have hH:Tryz.prog.stoodInHeld 113=false:=by kernel_rfl
 rw[show(10000:Nat)=9999+1 from rfl,run_equalIn_agg w 9999 113 _ _ hS hH];simp only[Program.fieldsOf,Tryz.underlying113];unfold Lr
 go_simp
 by_cases h1:x.seq=y.seq<;>by_cases h2:x.key.toList=y.key.toList<;>by_cases h3:x.body.toList=y.body.toList<;>by_cases h4:x.again=y.again<;>by_cases h5:x.au=y.au<;>simp[h1,h2,h3,h4,h5]
@[go_sem ↓] theorem A1k(x y:Ao)(w:zW):(binOp .neq 113 (.agg (zY x)) (.agg (zY y))).run Tryz.prog w= .ok (.bool (!Lr x y)) w:=by
 rw[run_neq_struct,As8];rfl
@[go_sem ↓] theorem Awk(x y:Ao)(w:zW):(binOp .eql 113 (.agg (zY x)) (.agg (zY y))).run Tryz.prog w= .ok (.bool (Lr x y)) w:=by
 rw[run_eql_struct,As8];rfl
@[go_sem] theorem Axx:Tryz.prog.eqGuardType Tryz.prog.depth 113=false:=by kernel_rfl
def Ayf:Value:= .agg #[.int .i64 0,.string .empty,.string .empty,.bool false,.int .i64 0]
theorem Gq:(Tryz.prog.info? 113).map (fun i=>(i.zero,i.size,i.bytes))=some (some Ayf,5,56):=by kernel_rfl
theorem Jz(x:Ao):∀u∈Ax x,u.oneCell'=true:=by simp[Ax,Value.oneCell']
theorem Kr(xs:List Ao):∀u∈xs.flatMap Ax,u.oneCell'=true:=by
 intro u hu;obtain⟨x,_,hx⟩:=List.mem_flatMap.1 hu;exact Jz x u hx
theorem Da{w:zW}{base base':Nat}{e:TypeId}{size n:Nat}{v:Value}{us:List Value}(h:w.ownsRow base e size v n us)(hb:base'≤base):w.ownsRow base' e size v n us:=by
 obtain⟨hl,h⟩:=h;refine⟨hl,?_⟩;rcases h with h|⟨g,cap,cur,hv,hg,r⟩
 ·exact .inl h
 ·exact .inr ⟨g,cap,cur,hv,zr hb hg,r⟩
theorem P4(x:Ao):∀l:List Ao,(Bt l x).length=l.length+1
 | []=>rfl
 |y::r=>by
  unfold Bt
  split
  ·simp
  ·simp[P4 x r]
def Avr(l:List Ao)(x:Ao)(W0:zW)(v d i:Value)(wr:zW):Prop:=
 ∃(k:Nat)(dn:Bool)(outs:List Ao),k≤l.length∧i= .int .i64 k∧d= .bool dn∧outs++(if dn=true then l.drop k else Bt (l.drop k) x)=Bt l x∧outs.length=k+(if dn=true then 1 else 0)∧
  wr.ownsRow W0.heap.size 113 5 v outs.length (outs.flatMap Ax)∧Below W0.heap.size W0 wr
theorem Ta{w:zW}{B:Nat}{v:Value}{outs:List Ao}{x:Ao}(h:w.ownsRow B 113 5 v (outs.length+1) (outs.flatMap Ax++Ax x)):w.ownsRow B 113 5 v (outs++[x]).length ((outs++[x]).flatMap Ax):=by
 rw[ze,List.flatMap_append];simpa using h
def Arm(l:List Ao)(w:zW)(i:Value)(wr:zW):Prop:=
 ∃k:Nat,k≤l.length∧i= .int .i64 k∧Fq (Nz l k) (l.drop k)=Ct l∧Below w.heap.size w wr
theorem L8{w:zW}{b o:Nat}{x:Ao}(h:∀W,Below w.heap.size w W→zM W b (o+0 * 5) (.int .i64 x.seq)∧zM W b (o+0 * 5+1) (.string x.key)∧zM W b (o+0 * 5+2) (.string x.body)∧zM W b (o+0 * 5+3) (.bool x.again)∧zM W b (o+0 * 5+4) (.int .i64 x.au)){W:zW}(hW:Below w.heap.size w W):
  (zM W b o (.int .i64 x.seq)∧zM W b (o+1) (.string x.key)∧zM W b (o+2) (.string x.body)∧zM W b (o+3) (.bool x.again)∧zM W b (o+4) (.int .i64 x.au))∧Below w.heap.size w W:=by
 have:=h W hW;simp only[Nat.zero_mul,Nat.add_zero] at this;exact⟨this,hW⟩
theorem Is{w:zW}{b o m k:Nat}{x y:Ao}(h:∀W,Below w.heap.size w W→zM W b (o+k * 5) (.int .i64 x.seq)∧zM W b (o+k * 5+1) (.string x.key)∧zM W b (o+k * 5+2) (.string x.body)∧zM W b (o+k * 5+3) (.bool x.again)∧zM W b (o+k * 5+4) (.int .i64 x.au))
  (hj:∀W,Below w.heap.size w W→W.cell? ⟨b,o+m * 5,none⟩=some (.int .i64 y.seq)) {W:zW} (hW:Below w.heap.size w W):
  (zM W b (o+m * 5) (.int .i64 y.seq)∧zM W b (o+k * 5) (.int .i64 x.seq)∧zM W b (o+k * 5+1) (.string x.key)∧zM W b (o+k * 5+2) (.string x.body)∧zM W b (o+k * 5+3) (.bool x.again)∧zM W b (o+k * 5+4) (.int .i64 x.au))∧Below w.heap.size w W:=⟨⟨hj W hW,h W hW⟩,hW⟩
theorem Bq{w W W':zW}{C:Prop}(hW:C∧Below w.heap.size w W)(hb:Below W.heap.size W W'):Below w.heap.size w W':=hW.2.trans (hb.mono hW.2.size)
theorem Tn(a:zZ)(c:Nat)(l:List Ao)(lo:Nat)(w:zW)(hl:Sl w lo w.heap.size a (l.flatMap Ax))(hs:Gb l):
  Calls Tryz.prog 184 #[.slice a l.length c] w fun e w'=>e= .returned (.bool (Ct l))∧Below w.heap.size w w':=by
 have hll:=hs.len;have HL:=zh hl;clear hl
 have HS:=zh hs.item;clear hs
 go_enter Tryz.func184,Tryz.ntmps184
 go_wp2_with fail
 go_loopw [3] (fun i wr=>Arm l w i wr) (fun i _=>l.length - (intOf i).toNat)
 case atStart=>exact⟨0,by omega,rfl,rfl,zb _ _⟩
 case round=>
  obtain⟨k,hk,rfl,hlf,hB⟩:=hrel;have HF:=zh hlf;clear hlf
  have HB:=zh hB;by_cases hlt:k < l.length
  ·obtain⟨b,o,ha,_,hb,hc⟩:=Bf Cu (by decide) HL.out hlt
   subst ha;have HI:Hid (∀W,Below w.heap.size w W→zM W b (o+k * 5) (.int .i64 l[k].seq)∧zM W b (o+k * 5+1) (.string l[k].key)∧zM W b (o+k * 5+2) (.string l[k].body)∧zM W b (o+k * 5+3) (.bool l[k].again)∧zM W b (o+k * 5+4) (.int .i64 l[k].au)):=
    fun W hW=>Hw (wr:=W) (b:=b) (o:=o) (k:=k) (x:=l[k]) fun j u hu=>(hW.cell (p:=⟨b,_,none⟩) hb).trans (hc j u hu)
   have HSM:=zh (HS.out _ (zg hlt));clear hc hB;by_cases hk0:k=0
   ·subst hk0
    cases hq:Bl l[0]
    ·have HR:=zh (Ym hlt HF.out hq)
     have HQ:=zh hq;clear hq
     have hfn:=fun W=>Ef l[0] W HSM.out;rw[HQ.out] at hfn;have HFN:=zh hfn;clear hfn
     go_wp2_with fail
     refine Kl [(0,false),(1,false),(2,false),(3,false),(4,true),(5,false),(6,false),(7,false),(8,false),(9,false),(10,false),(11,false),(12,false),(13,false),(14,false),(15,false),(16,false),(17,false),(18,false),(19,false),(20,false),(21,false),(22,false),(23,false)] (by kernel_rfl) (fun hOrd=> ?_);refine Rt (S:=(fun W=>(zM W b o (.int .i64 l[0].seq)∧zM W b (o+1) (.string l[0].key)∧zM W b (o+2) (.string l[0].body)∧zM W b (o+3) (.bool l[0].again)∧zM W b (o+4) (.int .i64 l[0].au))∧Below w.heap.size w W)) hOrd (by kernel_rfl) (by first|exact L8 HI.out (by assumption)|exact L8 HI.out HB.out.drew) (fun hHeld=> ?_);clear hOrd
     iterate 24 ((first|(refine zT ?_)|(refine zL ?_)|(refine NW.call rfl (fun K hK=> ?_);go_simp;((go_at_call 185;refine(HFN.out _).mono ?_;rintro e w1 ⟨rfl,hb⟩;have hb1:=Bq (by assumption) hb;clear hb));refine zk hK (by first|exact L8 HI.out (by assumption)|exact L8 HI.out HB.out.drew) (fun hHeld=> ?_);clear hK K)))
     refine NW.done ?_;go_wp2_with fail
     go_ret
     exact⟨by rw[HR.out];rfl,by assumption⟩
    ·have HQ:=zh (Yn hlt HF.out hq (by have:=Xa hq;rw[Ai0];omega))
     have hfn:=fun W=>Ef l[0] W HSM.out;rw[hq] at hfn;have HFN:=zh hfn;clear hfn hq
     go_wp2_with fail
     refine Kl [(0,false),(1,false),(2,false),(3,false),(4,true),(5,false),(6,false),(7,false),(8,false),(9,false),(10,false),(11,false),(12,false),(13,false),(14,false),(15,false),(16,false),(17,false),(18,false),(19,false),(20,false),(21,false),(22,false),(23,false)] (by kernel_rfl) (fun hOrd=> ?_);refine Rt (S:=(fun W=>(zM W b o (.int .i64 l[0].seq)∧zM W b (o+1) (.string l[0].key)∧zM W b (o+2) (.string l[0].body)∧zM W b (o+3) (.bool l[0].again)∧zM W b (o+4) (.int .i64 l[0].au))∧Below w.heap.size w W)) hOrd (by kernel_rfl) (by first|exact L8 HI.out (by assumption)|exact L8 HI.out HB.out.drew) (fun hHeld=> ?_);clear hOrd
     iterate 24 ((first|(refine zT ?_)|(refine zL ?_)|(refine NW.call rfl (fun K hK=> ?_);go_simp;((go_at_call 185;refine(HFN.out _).mono ?_;rintro e w1 ⟨rfl,hb⟩;have hb1:=Bq (by assumption) hb;clear hb));refine zk hK (by first|exact L8 HI.out (by assumption)|exact L8 HI.out HB.out.drew) (fun hHeld=> ?_);clear hK K)))
     refine NW.done ?_;go_wp2_with fail
     exact⟨⟨1,hlt,rfl,HQ.out,by assumption⟩,by simp[intOf];omega⟩
   ·obtain⟨m,hkm⟩:∃m,k=m+1:=⟨k - 1,by omega⟩
    have hm:m < l.length:=by omega
    have hw:IntKind.i64.wrap ((k:Int) - 1)=(m:Int):=(IntWalk.i64_in _ (by omega)).trans (by omega);have hpos:decide ((0:Int) < (k:Int))=true:=by simp;omega
    have hkp:0 < k:=by omega
    have hkp2:decide (0 < k)=true:=by simp;omega
    have hi1:(0:Int)≤(k:Int):=by omega
    have hi2:(k:Int) < (l.length:Int):=by omega
    have hi3:(0:Int)≤(m:Int):=by omega
    have hi4:(m:Int) < (l.length:Int):=by omega
    have HKM:=zh hkm;clear hkm hk0
    obtain⟨b',o',ha',_,_,hc'⟩:=Bf Cu (by decide) HL.out hm;simp only[Option.some.injEq,Addr.mk.injEq,and_true] at ha';obtain⟨rfl,rfl⟩:=ha';have HJ:Hid (∀W,Below w.heap.size w W→W.cell? ⟨b,o+m * 5,none⟩=some (.int .i64 l[m].seq)):=fun W hW=>(hW.cell (p:=⟨b,_,none⟩) hb).trans (hc' 0 _ rfl);clear hc';have HLA:Hid (Nz l k=l[m].seq):=(by rw[HKM.out];exact Sx hm:Nz l k=l[m].seq)
    cases hq:Bl l[k]
    ·have HR:=zh (Ym hlt HF.out hq)
     have hfn:=fun W=>Ef l[k] W HSM.out;rw[hq] at hfn;have HFN:=zh hfn;clear hfn hq
     generalize l[k]=x at *;generalize l[m]=y at *;go_wp2_with fail
     refine Kl [(0,false),(1,false),(2,false),(3,false),(4,true),(5,false),(6,false),(7,false),(8,false),(9,false),(10,false),(11,false),(12,false),(13,false),(14,false),(15,false),(16,false),(17,false),(18,false),(19,false),(20,false),(21,false),(22,false),(23,false)] (by kernel_rfl) (fun hOrd=> ?_);refine Rt (S:=(fun W=>(zM W b (o+m * 5) (.int .i64 y.seq)∧zM W b (o+k * 5) (.int .i64 x.seq)∧zM W b (o+k * 5+1) (.string x.key)∧zM W b (o+k * 5+2) (.string x.body)∧zM W b (o+k * 5+3) (.bool x.again)∧zM W b (o+k * 5+4) (.int .i64 x.au))∧Below w.heap.size w W)) hOrd (by kernel_rfl) (by first|exact Is HI.out HJ.out (by assumption)|exact Is HI.out HJ.out HB.out.drew) (fun hHeld=> ?_);clear hOrd
     iterate 24 ((first|(refine zT ?_)|(refine zL ?_)|(refine NW.call rfl (fun K hK=> ?_);go_simp;((go_at_call 185;refine(HFN.out _).mono ?_;rintro e w1 ⟨rfl,hb⟩;have hb1:=Bq (by assumption) hb;clear hb));refine zk hK (by first|exact Is HI.out HJ.out (by assumption)|exact Is HI.out HJ.out HB.out.drew) (fun hHeld=> ?_);clear hK K)))
     refine NW.done ?_;go_wp2_with fail
     go_ret
     exact⟨by rw[HR.out];rfl,by assumption⟩
    ·have hfn:=fun W=>Ef l[k] W HSM.out
     rw[hq] at hfn;have HFN:=zh hfn;clear hfn
     by_cases hs:l[m].seq < l[k].seq
     ·have HR:=zh (Yn hlt HF.out hq (by rw[HLA.out];exact hs))
      clear hq;generalize hx:l[k]=x at *;generalize hy:l[m]=y at *;clear hx hy;go_wp2_with fail
      refine Kl [(0,false),(1,false),(2,false),(3,false),(4,true),(5,false),(6,false),(7,false),(8,false),(9,false),(10,false),(11,false),(12,false),(13,false),(14,false),(15,false),(16,false),(17,false),(18,false),(19,false),(20,false),(21,false),(22,false),(23,false)] (by kernel_rfl) (fun hOrd=> ?_);refine Rt (S:=(fun W=>(zM W b (o+m * 5) (.int .i64 y.seq)∧zM W b (o+k * 5) (.int .i64 x.seq)∧zM W b (o+k * 5+1) (.string x.key)∧zM W b (o+k * 5+2) (.string x.body)∧zM W b (o+k * 5+3) (.bool x.again)∧zM W b (o+k * 5+4) (.int .i64 x.au))∧Below w.heap.size w W)) hOrd (by kernel_rfl) (by first|exact Is HI.out HJ.out (by assumption)|exact Is HI.out HJ.out HB.out.drew) (fun hHeld=> ?_);clear hOrd
      iterate 24 ((first|(refine zT ?_)|(refine zL ?_)|(refine NW.call rfl (fun K hK=> ?_);go_simp;((go_at_call 185;refine(HFN.out _).mono ?_;rintro e w1 ⟨rfl,hb⟩;have hb1:=Bq (by assumption) hb;clear hb));refine zk hK (by first|exact Is HI.out HJ.out (by assumption)|exact Is HI.out HJ.out HB.out.drew) (fun hHeld=> ?_);clear hK K)))
      refine NW.done ?_;go_wp2_with fail
      exact⟨⟨k+1,hlt,by go_num,HR.out,by assumption⟩,by simp[intOf];omega⟩
     ·have hs':l[k].seq≤l[m].seq:=by omega
      have HR:=zh (Aet hlt HF.out (by rw[HLA.out];exact hs'));clear hq hs;generalize hx:l[k]=x at *;generalize hy:l[m]=y at *;clear hx hy;go_wp2_with fail
      refine Kl [(0,false),(1,false),(2,false),(3,false),(4,true),(5,false),(6,false),(7,false),(8,false),(9,false),(10,false),(11,false),(12,false),(13,false),(14,false),(15,false),(16,false),(17,false),(18,false),(19,false),(20,false),(21,false),(22,false),(23,false)] (by kernel_rfl) (fun hOrd=> ?_);refine Rt (S:=(fun W=>(zM W b (o+m * 5) (.int .i64 y.seq)∧zM W b (o+k * 5) (.int .i64 x.seq)∧zM W b (o+k * 5+1) (.string x.key)∧zM W b (o+k * 5+2) (.string x.body)∧zM W b (o+k * 5+3) (.bool x.again)∧zM W b (o+k * 5+4) (.int .i64 x.au))∧Below w.heap.size w W)) hOrd (by kernel_rfl) (by first|exact Is HI.out HJ.out (by assumption)|exact Is HI.out HJ.out HB.out.drew) (fun hHeld=> ?_);clear hOrd
      iterate 24 ((first|(refine zT ?_)|(refine zL ?_)|(refine NW.call rfl (fun K hK=> ?_);go_simp;((go_at_call 185;refine(HFN.out _).mono ?_;rintro e w1 ⟨rfl,hb⟩;have hb1:=Bq (by assumption) hb;clear hb));refine zk hK (by first|exact Is HI.out HJ.out (by assumption)|exact Is HI.out HJ.out HB.out.drew) (fun hHeld=> ?_);clear hK K)))
      refine NW.done ?_;go_wp2_with fail
      go_ret
      exact⟨by rw[HR.out];rfl,by assumption⟩
  ·obtain rfl:k=l.length:=by omega
   have HR:=zh (Aeu HF.out);clear hB;go_wp2_with fail
   go_ret
   exact⟨by rw[HR.out];rfl,HB.out⟩
def Bi(n:Int)(b:zN):Ao:=⟨n,⟨#[120,46,121]⟩,b,false,0⟩
theorem Ahl:Be isWord ⟨#[120,46,121]⟩=0:=by rw[Gs,ByteArray.toList_eq];decide
theorem Lp{n:Int}{b:zN}(h0:0≤n)(h1:n < 1048576)(hb:b.size≤12):Bl (Bi n b)=true:=by
 simp[Bl,Bi,Ahl,h0,h1,hb]
theorem Kf{n:Int}{b:zN}(h0:0≤n)(h1:n < 1048576)(hb:b.size≤12):Er (Bi n b):=by
 unfold Er Bi;refine⟨?_,?_,?_,?_,?_,?_⟩
 ·show(⟨#[120,46,121]⟩:zN).size≤1048576;decide
 ·show b.size≤1048576;omega
 ·show -9223372036854775808≤n;omega
 ·show n≤9223372036854775807;omega
 ·show(-9223372036854775808:Int)≤0;decide
 ·show(0:Int)≤9223372036854775807;decide
def Jb:zN:=⟨#[111,110,101]⟩
def Ah0:zN:=⟨#[102,111,117,114]⟩
def Gl:zN:=⟨#[116,119,111]⟩
theorem f1:Bl (Bi 1 Jb)=true:=Lp (by decide) (by decide) (by decide)
theorem f2:Bl (Bi 2 Gl)=true:=Lp (by decide) (by decide) (by decide)
theorem f4:Bl (Bi 4 Ah0)=true:=Lp (by decide) (by decide) (by decide)
theorem s1:Er (Bi 1 Jb):=Kf (by decide) (by decide) (by decide)
theorem s2:Er (Bi 2 Gl):=Kf (by decide) (by decide) (by decide)
theorem s4:Er (Bi 4 Ah0):=Kf (by decide) (by decide) (by decide)
open Go.RowKit
theorem addr_add'(b o j:Nat):(⟨b,o,none⟩:Addr).add j=⟨b,o+j,none⟩:=by
 unfold Addr.add
 split
 ·simp_all
 ·simp
theorem Aw3{w:zW}{e:TypeId}{size k:Nat}(n cap:Nat)(us:List Value)(rest:Array Value)(hl:us.length=n * size)(hc:n≤cap)(hm:cap≤maxLen)(hr:rest.size=(cap - n) * size)(hk:k≤w.heap.size):
  (w.drew.alloc (.cells (us.toArray++rest) e)).ownsRow k e size (.slice (some ⟨w.heap.size,0,none⟩) n cap) n us:=by
 refine⟨hl,.inr ⟨w.heap.size,_,_,rfl,hk,heap_alloc_new w.drew _,hc,hm,?_,?_⟩⟩
 ·simp only[Array.size_append,List.size_toArray,hl,hr,←Nat.add_mul]
  congr 1
  omega
 ·simp only[Array.toList_append]
  rw[←hl];exact List.take_left
theorem Acp{P:Program}(w:zW)(t ty e:TypeId){z:Value}{size bytes:Nat}(ht:P.underlying t=some (.slice e))(hinfo:(P.info? e).map (fun i=>(i.zero,i.size,i.bytes))=some (some z,size,bytes))
  (hzs:z.cells.size=size) (hsz:0 < size) (hb:bytes≤4096) (b0:Addr) (n cap:Nat) (olds:List Value) (lo hi:Nat) (hol:olds.length=n * size) (ho:Sl w lo hi (some b0) olds)
  (lo' hi':Nat) (a:zZ) (m c:Nat) (news:List Value) (hl:news.length=m * size) (hs:Sl w lo' hi' a news) (hnc:n≤cap) (hg:cap < n+m) (hn:n+m≤4294967296):
  ∃v' w',(Builtin.append_ #[t,t] ty #[.slice (some b0) n cap,.slice a m c]).run P w= .ok v' w'∧w'.ownsRow w.heap.size e size v' (n+m) (olds++news)∧Below w.heap.size w w':=by
 obtain⟨i,hi,hz0,hz1,hz2⟩:=info_parts hinfo;have hnil:news≠ []:=by
  rintro rfl;have:m * size=0:=hl.symm;rcases Nat.mul_eq_zero.1 this with h|h<;>omega
 rcases hs with h|⟨b,o,rfl,_,_,hc⟩
 ·exact absurd h hnil
 have hby:(n+m) * bytes≤140737488355328:=by
  have:(n+m) * bytes≤4294967296 * 4096:=Nat.mul_le_mul hn hb;omega
 have hr:=run_append_grow (P:=P) w t ty e i z ht hi hz0 b0 n cap olds (by rw[hz1];exact hol) (fun j v hj=>by
   rcases ho with h|⟨b',o',e',_,_,hc'⟩
   ·rw[h] at hj;simp at hj
   ·simp only[Option.some.injEq] at e'
    rw[e',addr_add'];exact hc' j v hj) ⟨b,o,none⟩ m c news (by rw[hz1];exact hl) (fun j v hj=>by rw[addr_add'];exact hc j v hj) hg (by omega) (growslice_fits hg (by rw[hz2];exact hby))
 have hge:=grownCap_ge w (n+m) cap e;have hcm:grownCap w (n+m) cap e≤maxLen:=grownCap_le_maxLen w (n+m) cap e (by unfold maxLen;omega);refine⟨_,_,hr,?_,(zb _ w).drew.alloc (zn _) _⟩;rw[List.append_toArray olds news];exact Aw3 (n+m) _ (olds++news) _ (by rw[ze,hol,hl,Nat.add_mul]) hge hcm (by rw[size_zeroCells,hzs]) (zn _)
theorem Ep{P:Program}(w:zW)(t ty e:TypeId){z:Value}{size bytes:Nat}(ht:P.underlying t=some (.slice e))(hinfo:(P.info? e).map (fun i=>(i.zero,i.size,i.bytes))=some (some z,size,bytes))
  (hzs:z.cells.size=size) (hsz:0 < size) (hb:bytes≤4096) (b0:Addr) (lo hi:Nat) (a:zZ) (m c:Nat) (news:List Value) (hl:news.length=m * size) (hs:Sl w lo hi a news) (hn:m≤4294967296):
  ∃v' w',(Builtin.append_ #[t,t] ty #[.slice (some b0) 0 0,.slice a m c]).run P w= .ok v' w'∧Below w.heap.size w w'∧(0 < m∧w'.ownsRow w.heap.size e size v' m news∨m=0∧v'= .slice (some b0) 0 0∧w'=w):=by
 by_cases hm:m=0
 ·subst hm
  obtain⟨i,hi,hz0,hz1,hz2⟩:=info_parts hinfo;refine⟨.slice (some b0) 0 0,w,?_,zb _ _,.inr ⟨rfl,rfl,rfl⟩⟩
  cases a with
  |none=>simp[Builtin.append_,run_underlying ht,sizeOf,typeInfo,hi,Builtin.lenOf,Builtin.firstCells,storeCells]
  |some ad=>
   have hf:=run_firstCells_some (P:=P) w i.size 0 ad 0 c [] (by simp) (by intro j v hj;simp at hj);simp[Builtin.append_,run_underlying ht,sizeOf,typeInfo,hi,Builtin.lenOf,hf,storeCells]
 ·obtain⟨v',w',h1,h2,h3⟩:=Acp (P:=P) w t ty e ht hinfo hzs hsz hb b0 0 0 [] 0 0 (by simp) (Sl.nil _ _ _ _) lo hi a m c news hl hs (zn _) (by omega) (by omega)
  rw[Nat.zero_add,List.nil_append] at h2;exact⟨v',w',h1,h3,.inl ⟨by omega,h2⟩⟩
end Go.Proofs.YtpkneogjdfolaaaGreatDoor
namespace Go.Proofs.YtpkneogjdfolaaaGreatDoor
open Go.RowKit
theorem Mj{P:Program}(w:zW)(dT sT ty elem:TypeId){z:Value}{size bytes:Nat}(hu:P.underlying dT=some (.slice elem))(hinfo:(P.info? elem).map (fun i=>(i.zero,i.size,i.bytes))=some (some z,size,bytes))
  (g o dLen dCap:Nat) (a:Addr) (sLen sCap k:Nat) (cur:Array Value) (t:TypeId) (cs:List Value) (hg:w.heap[g]? =some (.cells cur t (0,0))) (hk:Nat.min sLen dLen=k) (hn:cs.length=k * size)
  (hsrc:∀j v,cs[j]? =some v→w.cell? (a.add j)=some v) (hfit:o+cs.length≤cur.size) (h1:∀v∈cs,v.oneCell'=true):
  (Builtin.copy_ #[dT,sT] ty #[.slice (some ⟨g,o,none⟩) dLen dCap,.slice (some a) sLen sCap]).run P w= .ok (goInt k) (w.setRow g (cur.toList.take o++cs++cur.toList.drop (o+cs.length)).toArray):=by
 obtain⟨i,hi,hz0,hz1,hz2⟩:=info_parts hinfo;have hl:=run_loadCells_list (P:=P) w a cs hsrc;have hst:=run_storeCells_at P g o t cs 0 cur w hg (by simpa using hfit) h1;rw[hn] at hl;simp[Builtin.copy_,run_underlying hu,Builtin.lenOf,Builtin.firstCells,sizeOf,typeInfo,hi,hz1,hk,hl,hst]
theorem Nk{P:Program}(w:zW){ops:Array Oper}{rest:List Oper}{o:Oper}{a:Act}{Q:Exit→Act→zW→Prop}(hgd:o.guard=none)(d s:Operand)(t t':TypeId)
  (ho:o.op= .call { callee:= .builtin .copy,args:= #[d,s],argTypes:= #[t,t'] }) (v u:Value) (hd:a.eval d=v) (hs:a.eval s=u) {v':Value} {w':zW}
  (hr:(Builtin.copy_ #[t,t'] o.type #[v,u]).run P w= .ok v' w') (h:wpList P ops Q rest (a.put o.dst v') w'):wpList P ops Q (o::rest) a w:=
 wpList_plain hgd fun _ hK=>by
  unfold Oper.wp execOp;simp only[ho,resolve,invoke,builtin,Sem.run_bind,Sem.run_pure,Result.andThen_ok,List.map_toArray,List.map_cons,List.map_nil,hd,hs,hr];exact hK _ _ h
theorem Ts{w:zW}{g:Nat}{t:TypeId}{cs:Array Value}(h:Bk w g t cs)(cs':Array Value):Bk (w.setRow g cs') g t cs':=setRow_heap w g cs cs' t (0,0) h
theorem Adj{w:zW}{g g':Nat}{t:TypeId}{cs:Array Value}(h:Bk w g' t cs)(hne:g'≠g)(cs':Array Value):Bk (w.setRow g cs') g' t cs:=(setRow_other w g g' cs' hne).trans h
theorem Wv(w:zW)(g:Nat)(cs:Array Value):w.grownBy (w.setRow g cs) (some g):=⟨rfl,rfl,rfl,by simp,fun k _ hne=>setRow_other w g k cs (fun e=>hne (by rw[e]))⟩
theorem Dq{w w1 w2:zW}{row:Option Nat}(h1:w.grownBy w1 row)(h2:w1.grownBy w2 row):w.grownBy w2 row:=
 ⟨h2.os.trans h1.os,h2.tape.trans h1.tape,h2.output.trans h1.output,zr h1.size h2.size,fun k hk hne=>(h2.block k (Nat.lt_of_lt_of_le hk h1.size) hne).trans (h1.block k hk hne)⟩
theorem Ab0(w:zW)(row:Option Nat):w.grownBy w.drew row:=⟨rfl,rfl,rfl,zn _,fun _ _ _=>rfl⟩
theorem Aip{w w':zW}(h:Below w.heap.size w w')(row:Option Nat):w.grownBy w' row:=⟨h.os,h.tape,h.output,h.size,fun k hk _=>h.block k hk⟩
theorem Ho:∀w,(sizeOf (Tryz.prog.elem 132)).run Tryz.prog w= .ok 5 w:=fun _=>by kernel_rfl
theorem Afk{w:zW}{g lo hi:Nat}{t:TypeId}{cs:Array Value}(h:Bk w g t cs)(h1:lo≤g)(h2:g < hi){us:List Value}(hu:us=cs.toList):Sl w lo hi (some ⟨g,0,none⟩) us:=
 .inr ⟨g,0,rfl,h1,h2,fun j u hj=>by
  rw[Nat.zero_add,h.cell];rw[hu,Array.getElem?_toList] at hj;exact hj⟩
theorem Xx(a:zZ)(c:Nat)(l:List Ao)(lo:Nat)(w:zW)(hl:Sl w lo w.heap.size a (l.flatMap Ax))(hll:l.length≤1048576):
  Calls Tryz.prog 173 #[.slice a l.length c] w fun e w'=>∃v,e= .returned v∧w'.ownsRow w.heap.size 113 5 v l.length (l.flatMap Ax)∧Below w.heap.size w w':=by
 have heq:=fun W=>Lib.run_eql_slice_nil (P:=Tryz.prog) W 132 113 a l.length c 0 0 Tryz.underlying132;have hlen:(l.flatMap Ax).length=l.length * 5:=Dd Cu l;have HLEN:=zh hlen;clear hlen
 have HL:=zh hl;clear hl
 cases a with
 |none=>
  have h0:l.length=0:=by
   rcases HL.out with h|⟨b,o,e,_⟩
   ·have:=HLEN.out;rw[h] at this;simp at this;omega
   ·cases e
  have HR:Hid (∀W:zW,W.ownsRow w.heap.size 113 5 (.slice none 0 0) l.length (l.flatMap Ax)):=fun W=>by
   rw[h0,List.eq_nil_of_length_eq_zero h0];exact World.ownsRow_nil _ _ _ _
  clear h0;go_enter Tryz.func173,Tryz.ntmps173
  go_wp2_with fail
  go_ret
  exact⟨_,rfl,HR.out _,zb _ _⟩
 |some ad=>
  have hal:Below w.heap.size w (w.alloc (.cells #[] 113)):=(zb _ _).alloc (zn _) _;obtain⟨v',w',hr,hb,hx⟩:=Ep (P:=Tryz.prog) (w.alloc (.cells #[] 113)) 132 132 113 Tryz.underlying132 Gq rfl (by decide) (by decide) ⟨w.heap.size,0,none⟩ lo w.heap.size (some ad) l.length c (l.flatMap Ax) HLEN.out (HL.out.below hal (zn _)) (by omega);have HO:Hid (w'.ownsRow w.heap.size 113 5 v' l.length (l.flatMap Ax)):=by
   rcases hx with⟨_,h⟩|⟨h0,rfl,rfl⟩
   ·exact Da h (by simp)
   ·rw[h0,List.eq_nil_of_length_eq_zero h0]
    exact World.ownsRow_lit w #[] 0 (zn _) (by decide) rfl
  have HB:=zh (hal.trans (hb.mono hal.size));clear hx hb hal
  go_enter Tryz.func173,Tryz.ntmps173
  go_wp2_with (at_builtin;refine Lib.wpList_append_run _ rfl _ _ _ _ rfl _ _ rfl rfl _ _ hr ?_)
  go_ret
  exact⟨_,rfl,HO.out,HB.out⟩
open Go.RowKit
theorem Rr(g:Nat)(lb:Array Value)(eg:∀args w,(callFunc g args).run Tryz.prog w= .ok (.enter g args) w)(p:Cf→Bool)(xs:List Cf)(a:zZ)(c lo:Nat)(w:zW)
  (hp:∀x∈xs,∀W,Below w.heap.size w W→Calls Tryz.prog g (#[.agg (Ez x).toArray]++lb) W fun e W'=>e= .returned (.bool (p x))∧Below W.heap.size W W')
  (hx:Sl w lo w.heap.size a (xs.flatMap (Ez))) (hl:xs.length≤4294967296):
  Calls Tryz.prog 136 #[.slice a xs.length c,.func (.func g) #[] lb] w fun e w'=>e= .returned (.int .i64 (idxOf p xs))∧Below w.heap.size w w':=by
 have HX:=zh hx;clear hx
 have HP:=zh hp;clear hp
 go_enter Tryz.func136,Tryz.ntmps136
 go_wp2_with fail
 go_loopw [8] (fun i wr=>Ky p xs w.heap.size w i wr) (fun i _=>xs.length - (intOf i).toNat)
 case atStart=>exact⟨0,by omega,rfl,zb _ _,fun j x hj=>absurd hj (by omega)⟩
 case round=>
  obtain⟨k,hk,rfl,hB,hall⟩:=hrel;have HA:=zh hall;clear hall
  by_cases hlt:k < xs.length
  ·obtain⟨b,o,rfl,_,hb,hc⟩:=Bf (enc:=Ez) (size:=2) (fun _=>rfl) (by decide) HX.out hlt
   have e0:wr.cell? ⟨b,o+k * 2,none⟩=some (.int .i64 xs[k].queue):=by
    have:=(hB.cell (p:=⟨b,_,none⟩) hb).trans (hc 0 _ rfl);simpa using this
   have e1:wr.cell? ⟨b,o+k * 2+1,none⟩=some (.int .i64 xs[k].cf):=by
    have:=(hB.cell (p:=⟨b,_,none⟩) hb).trans (hc 1 _ rfl);simpa using this
   have HPk:=zh (HP.out xs[k] (zg hlt) wr hB);have HB:=zh hB;clear hc hB
   cases hq:p xs[k]
   ·have HQ:=zh hq;clear hq
    go_wp2_with fail
    refine HPk.out.mono ?_;rw[HQ.out];rintro e w1 ⟨rfl,hb1⟩;have H1:=zm HB hb1;clear hb1
    go_wp2_with fail
    exact⟨E0 HA.out hlt HQ.out H1.out,by simp[intOf];omega⟩
   ·have HQ:=zh (idxOf_hit HA.out hlt hq)
    have HQ2:=zh hq;clear hq
    go_wp2_with fail
    refine HPk.out.mono ?_;rw[HQ2.out];rintro e w1 ⟨rfl,hb1⟩;have H1:=zm HB hb1;clear hb1
    go_wp2_with fail
    go_ret
    exact⟨by rw[HQ.out];rfl,H1.out⟩
  ·have HQ:=zh (idxOf_miss HA.out (by omega))
   go_wp2_with fail
   go_ret
   exact⟨by rw[HQ.out];rfl,hB⟩
end Go.Proofs.YtpkneogjdfolaaaGreatDoor
