/- Lemmas. -/
import Derived.Test.YtpkneogjdfolaaaGreatDoorBunKA
import Derived.Lib.AppendIntMem
import Derived.Lib.AtoiErrMem
set_option maxHeartbeats 20000000
set_option maxRecDepth 100000
set_option linter.unusedSimpArgs false
set_option linter.unusedVariables false
namespace Go.Proofs.YtpkneogjdfolaaaGreatDoor
open Go Go.RowKit
theorem Ci{a b c:zW}{row:Option Nat}(h:a.grownBy b row)(k:b.grownBy c row):a.grownBy c row:=
 ⟨k.os.trans h.os,k.tape.trans h.tape,k.output.trans h.output,zr h.size k.size,fun i hi hr=>(k.block i (Nat.lt_of_lt_of_le hi h.size) hr).trans (h.block i hi hr)⟩
theorem Jg(w:zW)(g i:Nat)(v:Value):w.grownBy (w.setCell ⟨g,i,none⟩ v) (some g):=
 ⟨rfl,rfl,rfl,by simp[World.setCell],fun k _ hne=>Below.heap_setCell w ⟨g,i,none⟩ v k (fun e=>hne (by rw[e]))⟩
def dkE(e:Int):PanicEntry:= { v:= .iface 90 (.agg #[.int .i64 e]),recovered:=false }
def Qg(w:zW):Prop:=Env w∧Lib.TabIs Tryz.prog w "internal/strconv.uint64pow10" .u64 Lib.pow10Tab∧(∃te pe,w.cell? ⟨2,0,none⟩=some (.iface te pe))∧∃te pe,w.cell? ⟨3,0,none⟩=some (.iface te pe)
theorem Qg.below{w w':zW}(h:Qg w)(hb:Below w.heap.size w w'):Qg w':=by
 obtain⟨h1,h2,⟨t1,e1,h3⟩,⟨t2,e2,h4⟩⟩:=h;exact⟨Ba hb h1,Go.Joins.tab_stays (g:=1) (by kernel_rfl) h2 hb (zn _),⟨t1,e1,(hb.cell (p:=⟨2,0,none⟩) (lt_of_cell h3)).trans h3⟩,⟨t2,e2,(hb.cell (p:=⟨3,0,none⟩) (lt_of_cell h4)).trans h4⟩⟩
def Axm(p:Ab)(p1 p2 p3:zZ)(q1 q2 q3:Nat)(s:Aa)(a1 a2 a3:zZ)(c1 c2 c3:Nat):Array Value:=
 #[.slice p1 p.aj.length q1,.slice p2 p.ag.length q2,.slice p3 p.binds.length q3,.slice a1 s.ready.length c1,.slice a2 s.outs.length c2,.slice a3 s.ae.length c3,.int .i64 s.ah,.int .i64 s.af,.int .i64 s.aw,.int .i64 s.ar,.int .i64 s.dropped]
structure Rz (W0 W:zW) (p:Ab) (p1 p2 p3:zZ) (q1 q2 q3:Nat) (s:Aa) (a1 a2 a3:zZ) (c1 c2 c3:Nat) (rows:List Bm):Prop where
 below:Below W0.heap.size W0 W
 bk:Bk W W0.heap.size 42 (Axm p p1 p2 p3 q1 q2 q3 s a1 a2 a3 c1 c2 c3)
 st:∃lo,W0.heap.size < lo∧Ca W lo (.slice a1 s.ready.length c1) (.slice a2 s.outs.length c2) (.slice a3 s.ae.length c3) rows s
def TbS(W0 W:zW)(p:Ab)(p1 p2 p3:zZ)(q1 q2 q3:Nat)(s:Aa):Prop:=∃a1 a2 a3 c1 c2 c3 rows,Rz W0 W p p1 p2 p3 q1 q2 q3 s a1 a2 a3 c1 c2 c3 rows
structure DkW (W0:zW) (p:Ab) (p1 p2 p3:zZ):Prop where
 env:Qg W0
 bz:Au W0 0 W0.heap.size p1 p2 p3 p
 small:Ai p
theorem Rz.keep{W0 W W':zW}{p:Ab}{p1 p2 p3:zZ}{q1 q2 q3:Nat}{s:Aa}{a1 a2 a3:zZ}{c1 c2 c3:Nat}{rows:List Bm}(h:Rz W0 W p p1 p2 p3 q1 q2 q3 s a1 a2 a3 c1 c2 c3 rows)(hb:Below W.heap.size W W'):Rz W0 W' p p1 p2 p3 q1 q2 q3 s a1 a2 a3 c1 c2 c3 rows:=by
 obtain⟨lo,h1,h2⟩:=h.st;exact⟨h.below.trans (hb.mono h.below.size),h.bk.below hb h.bk.lt,lo,h1,h2.kept (Ah.oqb hb (ts:=[]))⟩
theorem TbS.keep{W0 W W':zW}{p:Ab}{p1 p2 p3:zZ}{q1 q2 q3:Nat}{s:Aa}(h:TbS W0 W p p1 p2 p3 q1 q2 q3 s)(hb:Below W.heap.size W W'):TbS W0 W' p p1 p2 p3 q1 q2 q3 s:=by
 obtain⟨a1,a2,a3,c1,c2,c3,rows,h⟩:=h;exact⟨a1,a2,a3,c1,c2,c3,rows,h.keep hb⟩
theorem Bs{w w':zW}(h:Below w.heap.size w w')(row:Option Nat):w.grownBy w' row:=⟨h.os,h.tape,h.output,h.size,fun k hk _=>h.block k hk⟩
theorem Rz.bu{W0 W:zW}{p:Ab}{p1 p2 p3:zZ}{q1 q2 q3:Nat}{s:Aa}{a1 a2 a3:zZ}{c1 c2 c3:Nat}{rows:List Bm}(h:Rz W0 W p p1 p2 p3 q1 q2 q3 s a1 a2 a3 c1 c2 c3 rows)(hw:DkW W0 p p1 p2 p3):Au W 0 W.heap.size p1 p2 p3 p∧Qg W∧Env W∧Av W 0 W.heap.size a1 a2 a3 rows s:=by
 obtain⟨lo,_,h2⟩:=h.st;exact⟨(hw.bz.below h.below (zn _)).wider (zn _) h.below.size,hw.env.below h.below,Ba h.below hw.env.1,h2.bc.1.wider (Nat.zero_le _) (zn _)⟩
theorem Rz.cells{W0 W:zW}{p:Ab}{p1 p2 p3:zZ}{q1 q2 q3:Nat}{s:Aa}{a1 a2 a3:zZ}{c1 c2 c3:Nat}{rows:List Bm}(h:Rz W0 W p p1 p2 p3 q1 q2 q3 s a1 a2 a3 c1 c2 c3 rows):
  (zM W W0.heap.size 0 (.slice p1 p.aj.length q1)∧zM W W0.heap.size 1 (.slice p2 p.ag.length q2)∧zM W W0.heap.size 2 (.slice p3 p.binds.length q3))∧
  (zM W W0.heap.size 3 (.slice a1 s.ready.length c1)∧zM W W0.heap.size 4 (.slice a2 s.outs.length c2)∧zM W W0.heap.size 5 (.slice a3 s.ae.length c3)∧zM W W0.heap.size 6 (.int .i64 s.ah)∧zM W W0.heap.size 7 (.int .i64 s.af)∧zM W W0.heap.size 8 (.int .i64 s.aw)∧zM W W0.heap.size 9 (.int .i64 s.ar)∧zM W W0.heap.size 10 (.int .i64 s.dropped)):=
 ⟨⟨h.bk.cell 0,h.bk.cell 1,h.bk.cell 2⟩,h.bk.cell 3,h.bk.cell 4,h.bk.cell 5,h.bk.cell 6,h.bk.cell 7,h.bk.cell 8,h.bk.cell 9,h.bk.cell 10⟩
theorem Rz.put{W0 W:zW}{p:Ab}{p1 p2 p3:zZ}{q1 q2 q3:Nat}{s:Aa}{a1 a2 a3:zZ}{c1 c2 c3:Nat}{rows:List Bm}(h:Rz W0 W p p1 p2 p3 q1 q2 q3 s a1 a2 a3 c1 c2 c3 rows){x:Aa}{lo:Nat}{b1 b2 b3:zZ}{d1 d2 d3:Nat}{ry:List Bm}
  (hl:W0.heap.size < lo) (hx:Ca W lo (.slice b1 x.ready.length d1) (.slice b2 x.outs.length d2) (.slice b3 x.ae.length d3) ry x):
  Rz W0 ((((((((W.setCell ⟨W0.heap.size,3,none⟩ (.slice b1 x.ready.length d1)).setCell ⟨W0.heap.size,4,none⟩ (.slice b2 x.outs.length d2)).setCell ⟨W0.heap.size,5,none⟩ (.slice b3 x.ae.length d3)).setCell ⟨W0.heap.size,6,none⟩ (.int .i64 x.ah)).setCell ⟨W0.heap.size,7,none⟩ (.int .i64 x.af)).setCell ⟨W0.heap.size,8,none⟩ (.int .i64 x.aw)).setCell ⟨W0.heap.size,9,none⟩ (.int .i64 x.ar)).setCell ⟨W0.heap.size,10,none⟩ (.int .i64 x.dropped)) p p1 p2 p3 q1 q2 q3 x b1 b2 b3 d1 d2 d3 ry∧
  W.grownBy ((((((((W.setCell ⟨W0.heap.size,3,none⟩ (.slice b1 x.ready.length d1)).setCell ⟨W0.heap.size,4,none⟩ (.slice b2 x.outs.length d2)).setCell ⟨W0.heap.size,5,none⟩ (.slice b3 x.ae.length d3)).setCell ⟨W0.heap.size,6,none⟩ (.int .i64 x.ah)).setCell ⟨W0.heap.size,7,none⟩ (.int .i64 x.af)).setCell ⟨W0.heap.size,8,none⟩ (.int .i64 x.aw)).setCell ⟨W0.heap.size,9,none⟩ (.int .i64 x.ar)).setCell ⟨W0.heap.size,10,none⟩ (.int .i64 x.dropped)) (some W0.heap.size):=by
 have hbl:∀(i:Nat)(u:Value)(V:zW),Below W0.heap.size W0 V→Below W0.heap.size W0 (V.setCell ⟨W0.heap.size,i,none⟩ u):=fun i u V hV=>hV.setCell (p:=⟨W0.heap.size,i,none⟩) (zn _) u;refine⟨⟨?_,?_,lo,hl,?_⟩,?_⟩
 ·exact hbl _ _ _ (hbl _ _ _ (hbl _ _ _ (hbl _ _ _ (hbl _ _ _ (hbl _ _ _ (hbl _ _ _ (hbl _ _ _ h.below)))))))
 ·have:=(((((((h.bk.ck 3 (.slice b1 x.ready.length d1)).ck 4 (.slice b2 x.outs.length d2)).ck 5 (.slice b3 x.ae.length d3)).ck 6 (.int .i64 x.ah)).ck 7 (.int .i64 x.af)).ck 8 (.int .i64 x.aw)).ck 9 (.int .i64 x.ar)).ck 10 (.int .i64 x.dropped)
  simpa [Axm] using this
 ·have k1:=h.bk.ck 3 (.slice b1 x.ready.length d1)
  have k2:=k1.ck 4 (.slice b2 x.outs.length d2);have k3:=k2.ck 5 (.slice b3 x.ae.length d3);have k4:=k3.ck 6 (.int .i64 x.ah);have k5:=k4.ck 7 (.int .i64 x.af);have k6:=k5.ck 8 (.int .i64 x.aw);have k7:=k6.ck 9 (.int .i64 x.ar);have ht:42∈[42]:=List.mem_singleton.2 rfl;exact hx.kept ((((((((Ah.set h.bk ht 3 _).trans (Ah.set k1 ht 4 _)).trans (Ah.set k2 ht 5 _)).trans (Ah.set k3 ht 6 _)).trans (Ah.set k4 ht 7 _)).trans (Ah.set k5 ht 8 _)).trans (Ah.set k6 ht 9 _)).trans (Ah.set k7 ht 10 _))
 ·have g:∀(i:Nat)(u:Value)(V:zW),W.grownBy V (some W0.heap.size)→W.grownBy (V.setCell ⟨W0.heap.size,i,none⟩ u) (some W0.heap.size):=fun i u V hV=>Ci hV (Jg V W0.heap.size i u)
  exact g _ _ _ (g _ _ _ (g _ _ _ (g _ _ _ (g _ _ _ (g _ _ _ (g _ _ _ (Jg _ _ _ _)))))))
theorem TbS.typed{W0 W W':zW}{p:Ab}{p1 p2 p3:zZ}{q1 q2 q3:Nat}{s:Aa}{ts:List TypeId}(h:TbS W0 W p p1 p2 p3 q1 q2 q3 s)(hk:Ah ts W W')(hb:Below W0.heap.size W0 W')
  (h0:42∉ts:=by decide) (h1:132∉ts:=by decide) (h2:113∉ts:=by decide) (h3:115∉ts:=by decide) (h4:147∉ts:=by decide):TbS W0 W' p p1 p2 p3 q1 q2 q3 s:=by
 obtain⟨a1,a2,a3,c1,c2,c3,rows,h⟩:=h;obtain⟨lo,hl,hh⟩:=h.st;exact⟨a1,a2,a3,c1,c2,c3,rows,hb,hk _ _ _ h0 h.bk,lo,hl,hh.kept hk h1 h2 h3 h4⟩
theorem Apv{W W':zW}{R:Nat}{t:TypeId}{cs:Array Value}(hR:Bk W R t cs)(hg:W.grownBy W' (some R)):Ah [t] W W':=fun b t' cs' ht hb=>hb.grown hg fun e=>by
 cases e
 exact ht (List.mem_singleton.2 (hb.ty hR))
theorem Am2(b:Bool)(e:Int)(w:zW):Calls Tryz.prog 51 #[.bool b,.int .i64 e] w fun en w'=>en=(if b=true then .returned (.tuple #[]) else .panicked [dkE e])∧w'=w:=by
 cases b
 ·go_enter Tryz.func51,Tryz.ntmps51
  go_wp2_with fail
  exact⟨rfl,rfl,rfl⟩
 ·go_enter Tryz.func51,Tryz.ntmps51
  go_wp2_with fail
  go_end0
  exact⟨rfl,rfl⟩
theorem Kj(e:Int)(w:zW):Calls Tryz.prog 51 #[.bool true,.int .i64 e] w fun en w'=>en= .returned (.tuple #[])∧w'=w:=by
 have:=Am2 true e w;rwa [zp rfl] at this
theorem Hu(e:Int)(w:zW):Calls Tryz.prog 51 #[.bool false,.int .i64 e] w fun en w'=>en= .panicked [dkE e]∧w'=w:=by
 have:=Am2 false e w;rwa [zq (by decide)] at this
theorem Ab2:∀l:List UInt8,Lib.index l [32]=match Gt l with|some x=>(x.1.length:Int)|none=> -1
 | []=>rfl
 |b::l=>by
  have ih:=Ab2 l;unfold Lib.index Gt;by_cases h:b=32
  ·subst h
   rfl
  ·have hp:([32]:List UInt8).isPrefixOf (b::l)=false:=by
    simp[List.isPrefixOf];exact fun e=>h e.symm
   rw[hp,zq (by simp),zq h,ih]
   cases hc:Gt l with
   |none=>rfl
   |some x=>
    show(if ((x.1.length:Int) == -1)=true then (-1:Int) else (x.1.length:Int)+1)=(((b::x.1).length:Nat):Int)
    rw[zq (by simp),List.length_cons];rfl
theorem Ast{l a r:List UInt8}(h:Gt l=some (a,r)):Lib.cut l [32]=(a,r,true):=by
 unfold Lib.cut;rw[Ab2,h];obtain⟨rfl,_⟩:=Tv h;simp
theorem Ass{l:List UInt8}(h:Gt l=none):Lib.cut l [32]=(l,[],false):=by
 unfold Lib.cut;rw[Ab2,h];rfl
theorem Ay4{a r:List UInt8}(s:zN)(hs:s.size≤1048576)(h:Gt s.toList=some (a,r))(w:zW)(hE:Env w):
  Calls Tryz.prog 49 #[.string s] w fun e w'=>e= .returned (.tuple #[.string (bs a),.string (bs r)])∧Below w.heap.size w w':=by
 obtain⟨m,hm⟩:=hE;have hc:=Tryz.strings_Cut s ⟨#[32]⟩ m w (by omega) hm;rw[←ByteArray.toList_eq,show((⟨#[32]⟩:zN).data.toList)=[32] from rfl,Ast h] at hc;have HC:=zh hc;clear hc hm;go_enter Tryz.func49,Tryz.ntmps49
 go_wp2_with fail
 refine HC.out.mono ?_;rintro e w1 ⟨rfl,n,rfl⟩;go_wp2_with fail
 refine(Kj 1 _).mono ?_;rintro e w2 ⟨rfl,rfl⟩;go_wp2_with fail
 go_ret2
 exact⟨rfl,below_draws (zb _ _) _⟩
theorem Ay3(s:zN)(hs:s.size≤1048576)(h:Gt s.toList=none)(w:zW)(hE:Env w):
  Calls Tryz.prog 49 #[.string s] w fun e w'=>e= .panicked [dkE 1]∧Below w.heap.size w w':=by
 obtain⟨m,hm⟩:=hE;have hc:=Tryz.strings_Cut s ⟨#[32]⟩ m w (by omega) hm;rw[←ByteArray.toList_eq,show((⟨#[32]⟩:zN).data.toList)=[32] from rfl,Ass h] at hc;have HC:=zh hc;clear hc hm;go_enter Tryz.func49,Tryz.ntmps49
 go_wp2_with fail
 refine HC.out.mono ?_;rintro e w1 ⟨rfl,n,rfl⟩;go_wp2_with fail
 refine(Hu 1 _).mono ?_;rintro e w2 ⟨rfl,rfl⟩;go_wp2_with fail
 exact⟨rfl,rfl,below_draws (zb _ _) _⟩
theorem Avz{l:List UInt8}{v:Int}(h:Lib.atoiAll l= .ok v):v≤9223372036854775807:=by
 cases l with
 |nil=>cases h
 |cons c r=>
  unfold Lib.atoiAll at h;simp only at h
  split at h
  ·cases h
  ·cases h
  ·split at h
   ·cases h
   ·split at h
    ·cases h
    ·cases h
     split<;>omega
theorem Ahz(s:zN)(hs:s.size≤1048576)(w:zW)(hE:Qg w):
  Calls Tryz.prog 133 #[.string s] w fun e w'=>Below w.heap.size w w'∧((∃v,Lib.atoiAll s.toList= .ok v∧e= .returned (.tuple #[.int .i64 v,.nilIface]))∨(∃v t p,(∀u,Lib.atoiAll s.toList≠ .ok u)∧e= .returned (.tuple #[.int .i64 v,.iface t (.pointer (some p))]))):=by
 obtain⟨_,_,⟨t1,e1,h1⟩,⟨t2,e2,h2⟩⟩:=hE
 cases h:Lib.atoiAll s.toList with
 |ok v=>
  refine(Tryz.strconv_Atoi_ok s (by omega) v (by rw[←ByteArray.toList_eq];exact h) w).mono ?_;rintro e w' ⟨rfl,rfl|⟨t,rfl⟩⟩
  ·exact⟨zb _ _,.inl ⟨v,rfl,rfl⟩⟩
  ·exact⟨Lib.bytesWorld_below _ _ _,.inl ⟨v,rfl,rfl⟩⟩
 |range=>
  refine(Tryz.strconv_Atoi_range s (by omega) (by rw[←ByteArray.toList_eq];exact h) _ w h2 (.inr ⟨_,_,rfl⟩)).mono ?_;rintro e w' ⟨N,rfl,_,_,hb⟩;exact⟨hb,.inr ⟨_,_,_,fun u h=>(by cases h),rfl⟩⟩
 |_=>
  refine(Any.strconv_Atoi_syntax Tryz.laysC172 s (by omega) (by rw[←ByteArray.toList_eq];exact h) _ w h1 (.inr ⟨_,_,rfl⟩)).mono ?_;rintro e w' ⟨N,rfl,_,_,hb⟩;exact⟨hb,.inr ⟨_,_,_,fun u h=>(by cases h),rfl⟩⟩
theorem Ux(n:Int)(h: -9223372036854775808≤n∧n≤9223372036854775807)(w:zW)(hE:Qg w):Calls Tryz.prog 46 #[.int .i64 n] w fun e w'=>e= .returned (.string (bs (Lib.itoa n)))∧Below w.heap.size w w':=by
 refine(Tryz.strconv_Itoa n h.1 h.2 w hE.2.1).mono ?_;rintro e w' ⟨rfl,k,os,rfl⟩;exact⟨rfl,Lib.below_grow _ _ (zn _) _ _⟩
theorem Awd(s:zN)(hs:s.size≤1048576)(h:0≤Dp s.toList)(w:zW)(hE:Qg w):
  Calls Tryz.prog 87 #[.string s] w fun e w'=>e= .returned (.int .i64 (Dp s.toList))∧Below w.heap.size w w':=by
 obtain⟨h1,h2,h3⟩:=Atu h;have HA:=zh (Ahz s hs w hE);have HE:=zh hE;rw[Eo] at h2;have H3:=zh h3;have hr:Dp s.toList < 1000000:=by
  unfold Dp
  split
  ·rename_i hc
   have:=Aa9 (l:=s.toList) (fun b hb=>(Wk _).1 b (by rw[hc.2.2];exact hb));have h10:10 ^ s.toList.length≤10 ^ 6:=Nat.pow_le_pow_right (by decide) hc.2.1;omega
  ·omega
 generalize Dp s.toList=v at *;clear h3 hE;have H1:=zh h1;clear h1;go_enter Tryz.func87,Tryz.ntmps87
 go_wp2_with fail
 refine HA.out.mono ?_;rintro e w1 ⟨hb1,⟨u,hu,rfl⟩|⟨u,t,q,hu,rfl⟩⟩
 ·have huv:u=v:=by
   rw[H1.out] at hu
   cases hu
   rfl
  subst huv;have HE1:=zh (HE.out.below hb1);have HB1:=zh hb1;clear hu hb1;go_wp2_with fail
  refine(Ux u (by omega) w1 HE1.out).mono ?_;rintro e w2 ⟨rfl,hb2⟩;have HB2:=zm HB1 hb2;have hq:((bs (Lib.itoa u)).toList == s.toList)=true:=by rw[Di,H3.out];simp
  clear hb2;go_wp2_with fail
  refine(Kj 1 _).mono ?_;rintro e w3 ⟨rfl,rfl⟩;go_wp2_with fail
  go_ret
  exact⟨rfl,HB2.out⟩
 ·exact absurd H1.out (hu v)
theorem Awc(s:zN)(hs:s.size≤1048576)(h:Dp s.toList < 0)(w:zW)(hE:Qg w):
  Calls Tryz.prog 87 #[.string s] w fun e w'=>e= .panicked [dkE 1]∧Below w.heap.size w w':=by
 have HA:=zh (Ahz s hs w hE);have HE:=zh hE;have HN:Hid (∀v:Int,0≤v→s.size≤6→¬ Lib.itoa v=s.toList):=zh fun v h0 hl hi=>by
  have:=Azl h0 (by rw[Eo];exact hl) hi;omega
 clear h hE;go_enter Tryz.func87,Tryz.ntmps87
 go_wp2_with fail
 refine HA.out.mono ?_;rintro e w1 ⟨hb1,⟨u,hu,rfl⟩|⟨u,t,q,hu,rfl⟩⟩
 ·have HE1:=zh (HE.out.below hb1)
  have HB1:=zh hb1;have HR:=zh (Avz hu);clear hu hb1;by_cases h0:0≤u
  ·by_cases h6:s.size≤6
   ·go_wp2_with fail
    refine(Ux u (by have:=HR.out;omega) w1 HE1.out).mono ?_;rintro e w2 ⟨rfl,hb2⟩;have HB2:=zm HB1 hb2;have hq:((bs (Lib.itoa u)).toList == s.toList)=false:=by rw[Di];simpa using HN.out u h0 h6
    clear hb2;go_wp2_with fail
    refine(Hu 1 _).mono ?_;rintro e w3 ⟨rfl,rfl⟩;go_wp2_with fail
    exact⟨rfl,rfl,HB2.out⟩
   ·have h6':¬ (s.size:Int)≤6:=by omega
    go_wp2_with fail
    refine(Hu 1 _).mono ?_;rintro e w3 ⟨rfl,rfl⟩;go_wp2_with fail
    exact⟨rfl,rfl,HB1.out⟩
  ·go_wp2_with fail
   refine(Hu 1 _).mono ?_;rintro e w3 ⟨rfl,rfl⟩;go_wp2_with fail
   exact⟨rfl,rfl,HB1.out⟩
 ·have HB1:=zh hb1
  clear hu hb1;go_wp2_with fail
  refine(Hu 1 _).mono ?_;rintro e w3 ⟨rfl,rfl⟩;go_wp2_with fail
  exact⟨rfl,rfl,HB1.out⟩
theorem Aol{W0 W:zW}{p:Ab}{p1 p2 p3:zZ}{q1 q2 q3:Nat}{s:Aa}(h:TbS W0 W p p1 p2 p3 q1 q2 q3 s){x:Aa}{lo:Nat}{b1 b2 b3:zZ}(d1 d2 d3:Nat){ry:List Bm}
  (hl:W0.heap.size < lo) (hx:Ca W lo (.slice b1 x.ready.length d1) (.slice b2 x.outs.length d2) (.slice b3 x.ae.length d3) ry x) (n:Int):
  Calls Tryz.prog 88 #[zt W0.heap.size,Ad x b1 b2 b3 d1 d2 d3,.int .i64 n,.int .i64 0] W fun e W'=>e= .returned (.int .i64 n)∧TbS W0 W' p p1 p2 p3 q1 q2 q3 x∧W.grownBy W' (some W0.heap.size):=by
 obtain⟨a1,a2,a3,c1,c2,c3,rows,h⟩:=h;unfold Ad Ag;obtain⟨W1,hW1⟩:=zo (W.alloc (.cells (zV x b1 b2 b3 d1 d2 d3) 40));have hk:=zw hW1
 have hb:=zu hW1
 have h1:=h.keep hb;have hx1:=hx.kept (Ah.oqb hb (ts:=[]));have HP:=zh (h1.put (d1:=d1) (d2:=d2) (d3:=d3) hl hx1);have HB:=zh hb;have k0:=hk.cell 0;have k1:=hk.cell 1;have k2:=hk.cell 2;have k3:=hk.cell 3;have k4:=hk.cell 4;have k5:=hk.cell 5;have k6:=hk.cell 6;have k7:=hk.cell 7
 simp only[zI,zJ,zK] at k0 k1 k2 k3 k4 k5 k6 k7;obtain⟨_,n0,n1,n2,n3,n4,n5,n6,n7⟩:=h1.cells;have f0:=h1.bk.frozen 3;have f1:=h1.bk.frozen 4;have f2:=h1.bk.frozen 5;have f3:=h1.bk.frozen 6;have f4:=h1.bk.frozen 7;have f5:=h1.bk.frozen 8;have f6:=h1.bk.frozen 9;have f7:=h1.bk.frozen 10
 have hlt:=h1.bk.lt;clear h hx h1 hx1 hk hb;go_enter Tryz.func88,Tryz.ntmps88
 go_wp2_with fail
 refine(Kj 0 _).mono ?_;rintro e w2 ⟨rfl,rfl⟩;go_wp2_with fail
 go_ret
 exact⟨rfl,⟨_,_,_,_,_,_,_,HP.out.1⟩,Ci (Bs HB.out _) HP.out.2⟩
theorem Aok(v:Value)(x:Aa)(b1 b2 b3:zZ)(d1 d2 d3:Nat)(n:Int){er:Int}(he:er≠0)(W:zW):
  Calls Tryz.prog 88 #[v,Ad x b1 b2 b3 d1 d2 d3,.int .i64 n,.int .i64 er] W fun e W'=>e= .panicked [dkE er]∧Below W.heap.size W W':=by
 unfold Ad Ag;have he':(er == 0)=false:=by simpa using he
 clear he;go_enter Tryz.func88,Tryz.ntmps88
 go_wp2_with fail
 refine(Hu er _).mono ?_;rintro e w2 ⟨rfl,rfl⟩;go_wp2_with fail
 exact⟨rfl,rfl,(zb _ _).alloc (zn _) _⟩
theorem Awn{W0 W:zW}{p:Ab}{p1 p2 p3:zZ}{q1 q2 q3:Nat}{s:Aa}(h:TbS W0 W p p1 p2 p3 q1 q2 q3 s){x:Aa}{lo:Nat}{b1 b2 b3:zZ}(d1 d2 d3:Nat){ry:List Bm}
  (hl:W0.heap.size < lo) (hx:Ca W lo (.slice b1 x.ready.length d1) (.slice b2 x.outs.length d2) (.slice b3 x.ae.length d3) ry x):
  Calls Tryz.prog 93 #[zt W0.heap.size,Ad x b1 b2 b3 d1 d2 d3,.int .i64 0] W fun e W'=>e= .returned (.string (bs wOk))∧TbS W0 W' p p1 p2 p3 q1 q2 q3 x∧W.grownBy W' (some W0.heap.size):=by
 obtain⟨W1,hW1⟩:=zo (W.alloc (.cells (zV x b1 b2 b3 d1 d2 d3) 40));have hk:=zw hW1
 have hb:=zu hW1
 have HT:=zh (Aol (h.keep hb) d1 d2 d3 hl (hx.kept (Ah.oqb hb (ts:=[]))) 0);unfold Ad Ag at HT⊢;have HB:=zh hb;have k0:=hk.cell 0;have k1:=hk.cell 1;have k2:=hk.cell 2;have k3:=hk.cell 3;have k4:=hk.cell 4;have k5:=hk.cell 5;have k6:=hk.cell 6;have k7:=hk.cell 7
 simp only[zI,zJ,zK] at k0 k1 k2 k3 k4 k5 k6 k7;clear h hx hk hb;go_enter Tryz.func93,Tryz.ntmps93
 go_wp2_with fail
 refine HT.out.mono ?_;rintro e w2 ⟨rfl,ht,hg⟩;have H2:=zh (zi ht (Ci (Bs HB.out _) hg));clear ht hg;go_wp2_with fail
 go_ret
 exact⟨rfl,H2.out⟩
theorem Awm(v:Value)(x:Aa)(b1 b2 b3:zZ)(d1 d2 d3:Nat){er:Int}(he:er≠0)(W:zW):
  Calls Tryz.prog 93 #[v,Ad x b1 b2 b3 d1 d2 d3,.int .i64 er] W fun e W'=>e= .panicked [dkE er]∧Below W.heap.size W W':=by
 obtain⟨W1,hW1⟩:=zo (W.alloc (.cells (zV x b1 b2 b3 d1 d2 d3) 40));have hk:=zw hW1
 have hb:=zu hW1
 have HT:=zh (Aok v x b1 b2 b3 d1 d2 d3 0 he W1);unfold Ad Ag at HT⊢;have HB:=zh hb;have k0:=hk.cell 0;have k1:=hk.cell 1;have k2:=hk.cell 2;have k3:=hk.cell 3;have k4:=hk.cell 4;have k5:=hk.cell 5;have k6:=hk.cell 6;have k7:=hk.cell 7
 simp only[zI,zJ,zK] at k0 k1 k2 k3 k4 k5 k6 k7;clear hk hb he;go_enter Tryz.func93,Tryz.ntmps93
 go_wp2_with fail
 refine HT.out.mono ?_;rintro e w2 ⟨rfl,hb2⟩;have H2:=zm HB hb2;clear hb2;go_wp2_with fail
 exact⟨rfl,rfl,H2.out⟩
theorem Zt:∀l:List Int,Lib.join (l.map Lib.itoa) [32]=Dr l
 | []=>rfl
 | [x]=>Lib.join_one _ _
 |x::y::l=>by
  have ih:=Zt (y::l)
  show _=Lib.itoa x++32::Dr (y::l)
  rw[←ih];simp[Lib.join,List.intercalate,List.intersperse]
def Az5(xs:List Int)(w:zW)(v i:Value)(wr:zW):Prop:=
 ∃k:Nat,k≤xs.length∧i= .int .i64 k∧wr.ownsRow w.heap.size 9 1 v k ((xs.take k).map fun x=>Value.string (bs (Lib.itoa x)))∧Below w.heap.size w wr
theorem Nl(xs:List Int)(a:zZ)(c lo:Nat)(w:zW)(hE:Qg w)(hx:Abl xs)(hl6:xs.length≤100)(hs:Sl w lo w.heap.size a (xs.map (Value.int .i64))):
  Calls Tryz.prog 48 #[.slice a xs.length c] w fun e w'=>e= .returned (.string (bs (Dr xs)))∧Below w.heap.size w w':=by
 have HS:=zh hs;have HX:=zh hx;have HE:=zh hE;clear hs hx hE;go_enter Tryz.func48,Tryz.ntmps48
 go_wp2_with fail
 go_loopw [3,8] (fun v i wr=>Az5 xs w v i wr) (fun _ i _=>xs.length - (intOf i).toNat)
 case atStart=>exact⟨0,by omega,rfl,World.ownsRow_nil _ _ _ _,zb _ _⟩
 case round=>
  obtain⟨k,hk,rfl,hown,hB⟩:=hrel;obtain⟨al,cl,rfl,hcl⟩:=Ae hown;by_cases hlt:k < xs.length
  ·obtain⟨g,o,rfl,_,hb,hc⟩:=HS.out.at_ (k:=k) (by simpa using hlt)
   have hn:=HX.out.2 xs[k] (zg hlt);have HTK:=zh (show(xs.take (k+1)).map (fun x=>Value.string (bs (Lib.itoa x)))=(xs.take k).map (fun x=>Value.string (bs (Lib.itoa x)))++[Value.string (bs (Lib.itoa xs[k]))] by rw[zj hlt,List.map_append];rfl);have e0:wr.cell? ⟨g,o+k,none⟩=some (.int .i64 xs[k]):=(hB.cell (p:=⟨g,_,none⟩) hb).trans (hc k _ (by simp[hlt]));generalize xs[k]=x at *;have HI:=zh (Ux x (by omega) wr (HE.out.below hB));have HOW:=zh hown;have HB:=zh hB;have hbs:=hB.size;clear hc hn hB hown;go_wp2_with fail
   refine HI.out.mono ?_;rintro e w1 ⟨rfl,hb1⟩;have HOW1:=zh (own_below HOW.out hb1);have HB1:=zm HB hb1;have hbs1:=HB1.out.size;have hk4:k < 4294967296:=by omega
   clear hb1;go_wp2_with (at_builtin;refine Em rfl _ _ 64 rfl w.heap.size 9 Jt Tryz.underlying64 rfl (by decide) (by decide) w1 _ _ _ rfl HOW1.out _ rfl rfl rfl (by simp[Value.oneCell']) hk4 hbs1 ?_;intro v3 w3 ho3 hg3;have HO3:=zh (zi ho3 hg3);clear ho3 hg3)
   refine⟨⟨k+1,hlt,by go_num,?_,Br HOW1.out HO3.out.2 HB1.out (zn _) HB1.out.size⟩,by simp[intOf];omega⟩;rw[HTK.out];exact HO3.out.1
  ·obtain rfl:k=xs.length:=by omega
   rw[List.take_length] at hown;have HB:=zh hB;by_cases h0:xs=[]
   ·subst h0
    clear hown hB;go_wp2_with fail
    refine(Tryz.strings_Join_none _ _ _ _).mono ?_;rintro e w1 ⟨rfl,rfl⟩;go_wp2_with fail
    go_ret
    exact⟨rfl,HB.out⟩
   ·have hpos:0 < xs.length:=List.length_pos_iff.2 h0
    obtain⟨rb,rfl⟩:=Fs hown hpos;have hlen:(Lib.join ((xs.map fun x=>bs (Lib.itoa x)).map (·.data.toList)) (⟨#[32]⟩:zN).data.toList)=Dr xs:=by
     rw[←Zt,List.map_map];rfl
    have hj:=Tryz.strings_Join rb 0 cl (xs.map fun x=>bs (Lib.itoa x)) ⟨#[32]⟩ wr (fun j x hj=>by
      have h1:=(List.getElem?_eq_some_iff.1 hj).1;rw[List.length_map] at h1;rw[Nat.zero_add,hown.cellAt j (by omega),List.getElem?_map];rw[List.getElem?_map] at hj;rw[zG h1] at hj⊢;simp only[Option.map_some,Option.some.injEq] at hj⊢;rw[hj]) (hown.lt rb rfl).2 (by rw[List.length_map];omega) (by rw[List.length_map];omega) (by
      rw[hlen];have:=Ow xs HX.out.2;omega)
    rw[hlen,List.length_map] at hj;have HJ:=zh hj;clear hown hB hlen hj h0;go_wp2_with fail
    refine HJ.out.mono ?_;rintro e w1 ⟨rfl,hb1⟩;have H1:=zm HB hb1;clear hb1;go_wp2_with fail
    go_ret
    exact⟨rfl,H1.out⟩
theorem Aud(x:F7)(name:zN)(b:Nat)(W:zW)(hb:Bk W b 9 #[.string name]):
  Calls Tryz.prog 138 #[.agg (Gw x).toArray,zt b] W fun e W'=>e= .returned (.bool (x.name.toList == name.toList))∧Below W.heap.size W W':=by
 unfold Gw;obtain⟨W1,hW1⟩:=zo (W.alloc (.cells #[.string x.name,.int .i64 x.bm,.int .i64 x.dead] 71));have hk:=zw hW1
 have hB:=zu hW1
 have n0:W1.cell? ⟨W.heap.size,0,none⟩=some (.string x.name):=hk.cell 0;have n1:W1.cell? ⟨b,0,none⟩=some (.string name):=(hb.below hB hb.lt).cell 0;have HB:=zh hB;clear hb hB hk;go_enter Tryz.func138,Tryz.ntmps138
 go_wp2_with fail
 go_ret
 exact⟨rfl,HB.out⟩
theorem Axb(x:I5)(name:zN)(b:Nat)(W:zW)(hb:Bk W b 9 #[.string name]):
  Calls Tryz.prog 131 #[.agg (I7 x).toArray,zt b] W fun e W'=>e= .returned (.bool (x.name.toList == name.toList))∧Below W.heap.size W W':=by
 unfold I7;obtain⟨W1,hW1⟩:=zo (W.alloc (.cells #[.string x.name,.int .i64 x.kind] 67));have hk:=zw hW1
 have hB:=zu hW1
 have n0:W1.cell? ⟨W.heap.size,0,none⟩=some (.string x.name):=hk.cell 0;have n1:W1.cell? ⟨b,0,none⟩=some (.string name):=(hb.below hB hb.lt).cell 0;have HB:=zh hB;clear hb hB hk;go_enter Tryz.func131,Tryz.ntmps131
 go_wp2_with fail
 go_ret
 exact⟨rfl,HB.out⟩
theorem Z7{W:zW}{p:Ab}{p1 p2 p3:zZ}(q2:Nat)(hp:Au W 0 W.heap.size p1 p2 p3 p)(hps:Ai p)(name:zN)(b:Nat)(hb:Bk W b 9 #[.string name]):
  Calls Tryz.prog 74 #[.slice p2 p.ag.length q2,.func (.func 138) #[] #[zt b]] W fun e W'=>e= .returned (.int .i64 (Cl p name.toList))∧Below W.heap.size W W':=
 Rq 138 #[zt b] (enters_of Tryz.func138 (by kernel_rfl) rfl) (fun x=>x.name.toList == name.toList) p.ag p2 q2 0 W
  (fun x _ W1 h1=>Aud x name b W1 (hb.below h1 hb.lt)) hp.ag (by have:=hps.ag;omega)
theorem Al7{W:zW}{p:Ab}{p1 p2 p3:zZ}(q1:Nat)(hp:Au W 0 W.heap.size p1 p2 p3 p)(hps:Ai p)(name:zN)(b:Nat)(hb:Bk W b 9 #[.string name]):
  Calls Tryz.prog 73 #[.slice p1 p.aj.length q1,.func (.func 131) #[] #[zt b]] W fun e W'=>e= .returned (.int .i64 (Fz p name.toList))∧Below W.heap.size W W':=
 Ss 131 #[zt b] (enters_of Tryz.func131 (by kernel_rfl) rfl) (fun x=>x.name.toList == name.toList) p.aj p1 q1 0 W
  (fun x _ W1 h1=>Axb x name b W1 (hb.below h1 hb.lt)) hp.aj (by have:=hps.aj;omega)
theorem Auf{W0 W:zW}{p:Ab}{p1 p2 p3:zZ}{q1 q2 q3:Nat}{s:Aa}(hw:DkW W0 p p1 p2 p3)(h:TbS W0 W p p1 p2 p3 q1 q2 q3 s)(name:zN)(hq:0≤Cl p name.toList):
  Calls Tryz.prog 90 #[zt W0.heap.size,.string name] W fun e W'=>e= .returned (.int .i64 (Cl p name.toList))∧Below W.heap.size W W':=by
 obtain⟨a1,a2,a3,c1,c2,c3,rows,h⟩:=h;have hmf:∀(fn:Fn)(first cap:Array Value)(w:zW),(Instr.makeFunc fn first cap).run Tryz.prog w= .ok (.func fn first cap) w:=fun _ _ _ _=>rfl;obtain⟨W1,hW1⟩:=zo (W.alloc (.cells #[.string name] 9));have hk:=zw hW1
 have hB:=zu hW1
 have h1:=h.keep hB;have HI:=zh (Z7 q2 (h1.bu hw).1 hw.small name W.heap.size hk);obtain⟨⟨n0,n1,n2⟩,_⟩:=h1.cells;have HB:=zh hB;have hlt:=h1.bk.lt;clear h h1 hk hB;generalize Cl p name.toList=k at *;go_enter Tryz.func90,Tryz.ntmps90
 go_wp2_with fail
 refine HI.out.mono ?_;rintro e w2 ⟨rfl,hb2⟩;have H2:=zm HB hb2;clear hb2;go_wp2_with fail
 refine(Kj 5 _).mono ?_;rintro e w3 ⟨rfl,rfl⟩;go_wp2_with fail
 go_ret
 exact⟨rfl,H2.out⟩
theorem Aue{W0 W:zW}{p:Ab}{p1 p2 p3:zZ}{q1 q2 q3:Nat}{s:Aa}(hw:DkW W0 p p1 p2 p3)(h:TbS W0 W p p1 p2 p3 q1 q2 q3 s)(name:zN)(hq:Cl p name.toList < 0):
  Calls Tryz.prog 90 #[zt W0.heap.size,.string name] W fun e W'=>e= .panicked [dkE 5]∧Below W.heap.size W W':=by
 obtain⟨a1,a2,a3,c1,c2,c3,rows,h⟩:=h;have hmf:∀(fn:Fn)(first cap:Array Value)(w:zW),(Instr.makeFunc fn first cap).run Tryz.prog w= .ok (.func fn first cap) w:=fun _ _ _ _=>rfl;obtain⟨W1,hW1⟩:=zo (W.alloc (.cells #[.string name] 9));have hk:=zw hW1
 have hB:=zu hW1
 have h1:=h.keep hB;have HI:=zh (Z7 q2 (h1.bu hw).1 hw.small name W.heap.size hk);obtain⟨⟨n0,n1,n2⟩,_⟩:=h1.cells;have HB:=zh hB;have hlt:=h1.bk.lt;clear h h1 hk hB;generalize Cl p name.toList=k at *;have hq':decide (0≤k)=false:=by simp;omega
 clear hq;go_enter Tryz.func90,Tryz.ntmps90
 go_wp2_with fail
 refine HI.out.mono ?_;rintro e w2 ⟨rfl,hb2⟩;have H2:=zm HB hb2;clear hb2;go_wp2_with fail
 refine(Hu 5 _).mono ?_;rintro e w3 ⟨rfl,rfl⟩;go_wp2_with fail
 exact⟨rfl,rfl,H2.out⟩
end Go.Proofs.YtpkneogjdfolaaaGreatDoor
