/- Lemmas. -/
import Derived.Test.YtpkneogjdfolaaaGreatDoorBunE
import Derived.Lib.Overlaps
import Derived.Laws.CopyOwn
import Derived.Outline
set_option maxHeartbeats 20000000
set_option maxRecDepth 100000
set_option linter.unusedSimpArgs false
set_option linter.unusedVariables false
namespace Go.Proofs.YtpkneogjdfolaaaGreatDoor
open Go.RowKit
def Ako(w W0:zW)(x:Ao):Prop:=∀W,Below W0.heap.size W0 W→(zM W w.heap.size 0 (.int .i64 x.seq)∧zM W w.heap.size 1 (.string x.key)∧zM W w.heap.size 2 (.string x.body)∧zM W w.heap.size 3 (.bool x.again)∧zM W w.heap.size 4 (.int .i64 x.au))∧Below w.heap.size w W
theorem Sf(w:zW)(x:Ao)(t:TypeId):Ako w (w.alloc (.cells (zY x) t)) x:=fun W hW=>by
 have hb:=(Bk.new w t (zY x)).below hW (by simp);refine⟨⟨?_,?_,?_,?_,?_⟩,((zb _ w).alloc (zn _) _).trans (hW.mono (by simp))⟩
 ·have:=hb.cell 0;simpa using this
 ·have:=hb.cell 1;simpa using this
 ·have:=hb.cell 2;simpa using this
 ·have:=hb.cell 3;simpa using this
 ·have:=hb.cell 4;simpa using this
def M3(l:List Ao)(s:Int):Nat:=l.countP fun y=>decide (y.seq < s)
theorem Uz{s:Int} :∀ {l:List Ao} {i:Nat},i≤l.length→(∀q y,q < i→l[q]? =some y→y.seq < s)→(∀q y,i≤q→l[q]? =some y→s≤y.seq)→M3 l s=i
 | [],i,hi,_,_=>by simp at hi;simp[M3,hi]
 |a::r,0,_,_,h2=>by
  unfold M3;rw[List.countP_eq_zero];intro x hx;obtain⟨t,ht⟩:=List.mem_iff_getElem?.1 hx;have:=h2 t x (Nat.zero_le _) ht;simp;omega
 |a::r,i+1,hi,h1,h2=>by
  have ha:a.seq < s:=h1 0 a (by omega) rfl;have ih:=Uz (s:=s) (l:=r) (i:=i) (by simpa using hi) (fun q y hq hy=>h1 (q+1) y (by omega) (by simpa using hy)) (fun q y hq hy=>h2 (q+1) y (by omega) (by simpa using hy));unfold M3 at ih⊢;rw[List.countP_cons_of_pos (by simpa using ha),ih]
def Aga(a b:Int):Int:=Lib.compareInt a b
theorem Ah8{a b:Int} :Aga a b < 0↔a < b:=by
 unfold Aga Lib.compareInt
 split<;>(try split)<;>omega
theorem Ad9{a b:Int} :Aga a b=0↔a=b:=by
 unfold Aga Lib.compareInt
 split<;>(try split)<;>omega
theorem T0(x:Ao)(s:Int)(w:zW):Calls Tryz.prog 225 #[.agg (Ax x).toArray,.int .i64 s] w fun e w'=>e= .returned (.int .i64 (Aga x.seq s))∧Below w.heap.size w w':=by
 unfold Ax;go_enter Tryz.func225,Tryz.ntmps225
 go_wp2_with fail
 refine(Tryz.cmp_Compare_int x.seq s _).mono ?_;rintro e w1 ⟨rfl,rfl⟩;go_wp2_with fail
 go_ret
 exact⟨rfl,(zb _ _).alloc (zn _) _⟩
theorem As3:∀args w,(callFunc 225 args).run Tryz.prog w= .ok (.enter 225 args) w:=enters_of Tryz.func225 (by kernel_rfl) rfl
theorem Tf{l:List Ao}(h:l.Pairwise fun x y=>x.seq < y.seq){p q:Nat}{x y:Ao}(hpq:p < q)(hx:l[p]? =some x)(hy:l[q]? =some y):x.seq < y.seq:=by
 obtain⟨h1,rfl⟩:=List.getElem?_eq_some_iff.1 hx;obtain⟨h2,rfl⟩:=List.getElem?_eq_some_iff.1 hy;exact(List.pairwise_iff_getElem.1 h) p q h1 h2 hpq
def Avl(l:List Ao)(s:Int)(w:zW)(i j:Value)(wr:zW):Prop:=
 ∃lo hi:Nat,i= .int .i64 lo∧j= .int .i64 hi∧lo≤hi∧hi≤l.length∧(∀q y,q < lo→l[q]? =some y→y.seq < s)∧(∀q y,hi≤q→l[q]? =some y→s≤y.seq)∧Below w.heap.size w wr
theorem Ayy{l:List Ao}{s:Int}(hs:l.Pairwise fun x y=>x.seq < y.seq){k:Nat}(h1:∀q y,q < k→l[q]? =some y→y.seq < s)(h2:∀q y,k≤q→l[q]? =some y→s≤y.seq):
  l.any (fun y=>decide (y.seq=s))=match l[k]? with|some y=>decide (y.seq=s)|none=>false:=by
 rw[Bool.eq_iff_iff,List.any_eq_true]
 constructor
 ·rintro⟨x,hx,he⟩
  obtain⟨q,hq⟩:=List.mem_iff_getElem?.1 hx;have he':x.seq=s:=by simpa using he
  have hkq:k≤q:=by
   rcases Nat.lt_or_ge q k with h|h
   ·have:=h1 q x h hq;omega
   ·exact h
  rcases Nat.lt_or_ge k q with h|h
  ·have hkl:k < l.length:=Nat.lt_trans h (List.getElem?_eq_some_iff.1 hq).1
   have:=Tf hs h (zG hkl) hq;have:=h2 k _ (zn _) (zG hkl);omega
  ·obtain rfl:q=k:=by omega
   rw[hq];simpa using he'
 ·intro h
  cases hk:l[k]? with
  |none=>rw[hk] at h;cases h
  |some y=>
   rw[hk] at h;exact⟨y,List.mem_of_getElem? hk,h⟩
theorem Ah4(a:zZ)(c:Nat)(l:List Ao)(s:Int)(lo:Nat)(w:zW)(hl:Sl w lo w.heap.size a (l.flatMap Ax))(hll:l.length≤1048576)(hs:l.Pairwise fun x y=>x.seq < y.seq):
  Calls Tryz.prog 224 #[.slice a l.length c,.int .i64 s,.func (.func 225) #[] #[]] w fun e w'=>
   e= .returned (.tuple #[.int .i64 (M3 l s),.bool (l.any fun y=>decide (y.seq=s))])∧Below w.heap.size w w':=by
 have HL:=zh hl;clear hl
 have HS:=zh hs;clear hs
 have eg:=As3;go_enter Tryz.func224,Tryz.ntmps224
 go_wp2_with fail
 go_loopw [9,10] (fun i j wr=>Avl l s w i j wr) (fun i j _=>(intOf j).toNat - (intOf i).toNat)
 case atStart=>exact⟨0,l.length,rfl,rfl,by omega,zn _,(fun q y hq=>absurd hq (by omega)),(fun q y hq hy=>by have:=(List.getElem?_eq_some_iff.1 hy).1;omega),zb _ _⟩
 case round=>
  obtain⟨i,j,rfl,rfl,hij,hjn,h1,h2,hB⟩:=hrel;have H1:=zh h1;have H2:=zh h2;clear h1 h2
  have HB:=zh hB;by_cases hlt:i < j
  ·obtain⟨h,hh⟩:=zo ((i+j) / 2)
   have hhl:h < l.length:=by omega
   obtain⟨b,o,ha,_,hb,hc⟩:=Bf Cu (by decide) HL.out hhl;subst ha;obtain⟨e0,e1,e2,e3,e4⟩:=Hw (wr:=wr) (b:=b) (o:=o) (k:=h) (x:=l[h]) fun q u hu=>(hB.cell (p:=⟨b,_,none⟩) hb).trans (hc q u hu);clear hc hB;have hyh:l[h]? =some l[h]:=zG hhl;have HY:=zh hyh;clear hyh
   generalize l[h]=y at *;have HH:=zh hh;subst hh;by_cases hyx:Aga y.seq s < 0
   ·go_wp2_with fail
    refine(T0 y s _).mono ?_;rintro e w1 ⟨rfl,hb1⟩;have HB1:=zm HB hb1;clear hb1
    go_wp2_with fail
    refine⟨⟨(i+j) / 2+1,j,by rw[show((i:Int)+(j:Int)) / 2+1=(((i+j) / 2+1:Nat):Int) by omega],rfl,by omega,hjn,fun q z hq hz=> ?_,H2.out,HB1.out⟩,by simp[intOf];omega⟩;have hys:=Ah8.1 hyx;rcases Nat.lt_or_ge q ((i+j) / 2) with h|h
    ·have:=Tf HS.out h hz HY.out;omega
    ·obtain rfl:q=(i+j) / 2:=by omega
     rw[HY.out] at hz
     cases hz
     exact hys
   ·go_wp2_with fail
    refine(T0 y s _).mono ?_;rintro e w1 ⟨rfl,hb1⟩;have HB1:=zm HB hb1;clear hb1
    go_wp2_with fail
    refine⟨⟨i,(i+j) / 2,rfl,by rw[show((i:Int)+(j:Int)) / 2=(((i+j) / 2:Nat):Int) by omega],by omega,by omega,H1.out,fun q z hq hz=> ?_,HB1.out⟩,by simp[intOf];omega⟩;have hys:s≤y.seq:=by
     by_cases h:y.seq < s
     ·have:=Ah8.2 h;omega
     ·omega
    rcases Nat.lt_or_ge ((i+j) / 2) q with h|h
    ·have:=Tf HS.out h HY.out hz;omega
    ·obtain rfl:q=(i+j) / 2:=by omega
     rw[HY.out] at hz
     cases hz
     exact hys
  ·obtain rfl:i=j:=by omega
   have HC:=zh (Uz hjn H1.out H2.out);have HA:=zh (Ayy HS.out H1.out H2.out);by_cases hn:i < l.length
   ·obtain⟨b,o,ha,_,hb,hc⟩:=Bf Cu (by decide) HL.out hn
    subst ha;obtain⟨e0,e1,e2,e3,e4⟩:=Hw (wr:=wr) (b:=b) (o:=o) (k:=i) (x:=l[i]) fun q u hu=>(hB.cell (p:=⟨b,_,none⟩) hb).trans (hc q u hu);clear hc hB;have HA2:Hid (l.any (fun y=>decide (y.seq=s))=decide (l[i].seq=s)):=by
     refine(?_:l.any (fun y=>decide (y.seq=s))=decide (l[i].seq=s));rw[HA.out,zG hn]
    generalize l[i]=y at *;by_cases hyx:Aga y.seq s=0
    ·have HA3:Hid (l.any (fun y=>decide (y.seq=s))=true):=(HA2.out.trans (decide_eq_true (Ad9.1 hyx)):l.any (fun y=>decide (y.seq=s))=true)
     have b0:(Aga y.seq s == 0)=true:=by simp[hyx]
     clear hyx;go_wp2_with fail
     refine(T0 y s _).mono ?_;rintro e w1 ⟨rfl,hb1⟩;have HB1:=zm HB hb1;clear hb1
     go_wp2_with fail
     go_ret2
     exact⟨by rw[HA3.out,HC.out];rfl,HB1.out⟩
    ·have HA3:Hid (l.any (fun y=>decide (y.seq=s))=false):=(HA2.out.trans (decide_eq_false (mt Ad9.2 hyx)):l.any (fun y=>decide (y.seq=s))=false)
     have b0:(Aga y.seq s == 0)=false:=by simp[hyx]
     clear hyx;go_wp2_with fail
     refine(T0 y s _).mono ?_;rintro e w1 ⟨rfl,hb1⟩;have HB1:=zm HB hb1;clear hb1
     go_wp2_with fail
     go_ret2
     exact⟨by rw[HA3.out,HC.out];rfl,HB1.out⟩
   ·have HA3:Hid (l.any (fun y=>decide (y.seq=s))=false):=by
     refine(?_:l.any (fun y=>decide (y.seq=s))=false);rw[HA.out,List.getElem?_eq_none (by omega)]
    clear hB;go_wp2_with fail
    go_ret2
    exact⟨by rw[HA3.out,HC.out];rfl,HB.out⟩
theorem Am9(a:zZ)(c:Nat)(l:List Ao)(s:Int)(lo:Nat)(w:zW)(hl:Sl w lo w.heap.size a (l.flatMap Ax))(hll:l.length≤1048576)(hs:l.Pairwise fun x y=>x.seq < y.seq):
  Calls Tryz.prog 214 #[.slice a l.length c,.int .i64 s] w fun e w'=>e= .returned (.tuple #[.int .i64 (M3 l s),.bool (l.any fun y=>decide (y.seq=s))])∧Below w.heap.size w w':=by
 have HB:=zh (Ah4 a c l s lo w hl hll hs);clear hl hs
 generalize (l.any fun y=>decide (y.seq=s))=bb at *;generalize M3 l s=k at *;go_enter Tryz.func214,Tryz.ntmps214
 go_wp2_with fail
 refine HB.out.mono ?_;rintro e w1 ⟨rfl,hb1⟩;go_wp2_with fail
 go_ret2
 exact⟨rfl,hb1⟩
def Up(us:List Value)(i:Nat)(x:Ao):List Value:=us.take (i * 5)++Ax x++us.drop (i * 5)
theorem Aqj{α:Type}{C us X:List α}{p q s:Nat}(hus:C.take q=us)(hq:q+s≤C.length)(hp:p≤q)(hX:X.length=s):
  ((C.take (p+s)++us.drop p++C.drop (p+s+(us.drop p).length)).take p++X++(C.take (p+s)++us.drop p++C.drop (p+s+(us.drop p).length)).drop (p+X.length)).length=C.length∧
  ((C.take (p+s)++us.drop p++C.drop (p+s+(us.drop p).length)).take p++X++(C.take (p+s)++us.drop p++C.drop (p+s+(us.drop p).length)).drop (p+X.length)).take (q+s)=us.take p++X++us.drop p:=by
 have hul:us.length=q:=by rw[←hus,List.length_take];omega
 have hdl:(us.drop p).length=q - p:=by rw[List.length_drop,hul]
 have e1:(C.take (p+s)++us.drop p++C.drop (p+s+(us.drop p).length)).take p=us.take p:=by
  rw[List.append_assoc,List.take_append_of_le_length (by rw[List.length_take];omega),List.take_take,←hus,List.take_take]
  congr 1
  omega
 have e2:(C.take (p+s)++us.drop p++C.drop (p+s+(us.drop p).length)).drop (p+X.length)=us.drop p++C.drop (p+s+(us.drop p).length):=by
  rw[List.append_assoc,hX];have:(C.take (p+s)).length=p+s:=by rw[List.length_take];omega
  rw[List.drop_append,this,Nat.sub_self,List.drop_zero,List.drop_eq_nil_of_le (by omega),List.nil_append]
 rw[e1,e2]
 constructor
 ·simp only[ze,List.length_take,List.length_drop,hul,hX]
  omega
 ·rw[←List.append_assoc,List.take_append_of_le_length (by simp only[ze,List.length_take,List.length_drop,hul,hX];omega),List.take_of_length_le (by simp only[ze,List.length_take,List.length_drop,hul,hX];omega)]
theorem Amc{α:Type}{R us X:List α}{p q s:Nat}(hul:us.length=q)(hR:q+s≤R.length)(hp:p≤q)(hX:X.length=s)(ht:R.take p=us.take p):
  ((R.take p++X++R.drop (p+X.length)).take (p+s)++us.drop p++(R.take p++X++R.drop (p+X.length)).drop (p+s+(us.drop p).length)).length=R.length∧
  ((R.take p++X++R.drop (p+X.length)).take (p+s)++us.drop p++(R.take p++X++R.drop (p+X.length)).drop (p+s+(us.drop p).length)).take (q+s)=us.take p++X++us.drop p:=by
 have e1:(R.take p++X++R.drop (p+X.length)).take (p+s)=us.take p++X:=by
  rw[List.take_append_of_le_length (by simp only[ze,List.length_take,hX];omega),List.take_of_length_le (by simp only[ze,List.length_take,hX];omega),ht]
 rw[e1]
 constructor
 ·simp only[ze,List.length_take,List.length_drop,hul,hX]
  omega
 ·rw[List.take_append_of_le_length (by simp only[ze,List.length_take,List.length_drop,hul,hX];omega),List.take_of_length_le (by simp only[ze,List.length_take,List.length_drop,hul,hX];omega)]
theorem Aku(base:Nat)(v:Value)(n:Nat)(us:List Value)(x:Ao)(vb:Nat)(w:zW)(hown:w.ownsRow base 113 5 v n us)(hn:n≤1048576)(hvb:Bk w vb 113 (Ax x).toArray)(hbase:base≤w.heap.size):
  Calls Tryz.prog 215 #[v,.int .i64 n,.slice (some ⟨vb,0,none⟩) 1 1] w fun e w'=>∃v',e= .returned v'∧w'.ownsRow base 113 5 v' (n+1) (Up us n x)∧w.grownBy w' v.ownBlock:=by
 have hul:=hown.1;have hsl:Sl w 0 w.heap.size (some ⟨vb,0,none⟩) (Ax x):=Afk hvb (Nat.zero_le _) hvb.lt rfl;have HR:Hid (us++Ax x=Up us n x):=by
  refine(?_:us++Ax x=Up us n x);unfold Up;rw[List.take_of_length_le (by omega),List.drop_eq_nil_of_le (by omega),List.append_nil]
 obtain⟨a,c,rfl,hnc⟩:=Ae hown;have hcut:=fun W=>Mk (P:=Tryz.prog) (t:=132) (size:=5) Tryz.underlying132 Ho a n c n (n:Int) rfl (zn _) W;have HO:=zh hown;have HSL:=zh hsl
 clear hown hsl hvb hul;have hsum:n+1≤4294967296:=by omega
 have hvl:(Ax x).length=1 * 5:=rfl;have HVL:=zh hvl;clear hvl
 go_enter Tryz.func215,Tryz.ntmps215
 go_wp2_with (at_builtin;refine Aaw rfl _ _ 132 rfl base 113 Gq Tryz.underlying132 rfl (by decide) (by decide) _ _ _ rfl HO.out _ _ _ rfl 0 _ (Ax x) HVL.out HSL.out (Jz x) hsum hbase ?_;intro v' w' hown' hgrow;have HO':=zh hown';have HG:=zh hgrow;clear hown' hgrow)
 go_ret
 exact⟨_,rfl,by rw[←HR.out];exact HO'.out,HG.out⟩
theorem Xp(W:zW)(g n i:Nat)(us:List Value)(hi:i < n)(hn:n≤1048576)(hul:us.length=n * 5)(hcell:∀j u,us[j]? =some u→W.cell? ⟨g,j,none⟩=some u):∀ty,∃G R,(Builtin.append_ #[132,3] ty #[.slice (some ⟨g,0,none⟩) i n,.int .i64 ((n:Int)+1 - (i:Int))]).run Tryz.prog W=
   .ok (.slice (some ⟨W.heap.size,0,none⟩) (n+1) G) (W.drew.alloc (.cells R 113))∧n+1≤G∧G≤maxLen∧R.size=G * 5∧R.toList.take (i * 5)=us.take (i * 5):=fun ty=>by
 obtain⟨t,hti,hz0,hz1,hz2⟩:=info_parts (P:=Tryz.prog) Gq;have hold:(Builtin.firstCells t.size i (.slice (some ⟨g,0,none⟩) i n)).run Tryz.prog W.drew= .ok (us.take (i * 5)).toArray W.drew:=by
  rw[hz1];refine run_firstCells_some W.drew 5 i ⟨g,0,none⟩ i n (us.take (i * 5)) (by rw[List.length_take];omega) (fun j v hj=> ?_);rw[addr_add',Nat.zero_add];rw[List.getElem?_take] at hj
  split at hj
  ·exact hcell j v hj
  ·cases hj
 have h:=Lib.run_append_grow_zeros W 132 3 ty 113 t _ .i64 .i64 Tryz.underlying132 Tryz.underlying3 hti hz0 (some ⟨g,0,none⟩) i n (us.take (i * 5)) hold (n+1 - i) (by omega) (by rw[hz1];decide) (by omega) (by omega) (by rw[hz2];omega)
  (by rw[hz2];refine growslice_fits (by omega) ?_;omega)
 rw[show i+(n+1 - i)=n+1 by omega] at h;have hge:=grownCap_ge W (n+1) n 113;have hcm:=grownCap_le_maxLen W (n+1) n 113 (by unfold maxLen;omega);rw[show(n:Int)+1 - (i:Int)=((n+1 - i:Nat):Int) by omega];refine⟨_,_,h,hge,hcm,?_,?_⟩
 ·simp only[Array.size_append,size_zeroCells,List.size_toArray,List.length_take,hul]
  rw[show Ayf.cells.size=5 from rfl];omega
 ·simp only[Array.toList_append]
  rw[List.append_assoc,List.take_append_of_le_length (by rw[List.length_take];omega),List.take_of_length_le (by rw[List.length_take];omega)]
theorem Ahp(base g n i:Nat)(us:List Value)(x:Ao)(vb:Nat)(w:zW)(hown:w.ownsRow base 113 5 (.slice (some ⟨g,0,none⟩) n n) n us)(hi:i < n)(hn:n≤1048576)(hvb:Bk w vb 113 (Ax x).toArray)(h1:∀u∈us,u.oneCell'=true)(hbase:base≤w.heap.size):
  Calls Tryz.prog 215 #[.slice (some ⟨g,0,none⟩) n n,.int .i64 i,.slice (some ⟨vb,0,none⟩) 1 1] w fun e w'=>∃v',e= .returned v'∧w'.ownsRow base 113 5 v' (n+1) (Up us i x)∧w.grownBy w' (some g):=by
 have hul:=hown.1;have hcell:∀j u,us[j]? =some u→w.cell? ⟨g,j,none⟩=some u:=by
  rcases Sl.cu hown with h|⟨b,o,e,_,_,hc⟩
  ·intro j u hu;rw[h] at hu;simp at hu
  ·simp only[Option.some.injEq,Addr.mk.injEq,and_true] at e
   obtain⟨rfl,rfl⟩:=e;intro j u hu;have:=hc j u hu;rwa [Nat.zero_add] at this
 have hgl:g < w.heap.size:=(hown.lt g rfl).2;have hvl:=hvb.lt;obtain⟨G,R,hr,hG1,hG2,hR,htk⟩:=Xp w g n i us hi hn hul hcell 132;obtain⟨W1,hW1⟩:=zo (w.drew.alloc (.cells R 113));rw[hW1] at hr;obtain⟨B2,hB2⟩:=zo w.heap.size;rw[hB2] at hr;have k1:Bk W1 B2 113 R:=by rw[←hW1,←hB2];exact Bk.new w.drew _ _
 have kb1:Below B2 w W1:=by rw[←hW1,←hB2];exact(zb _ w).drew.alloc (zn _) _
 have kv1:Bk W1 vb 113 (Ax x).toArray:=hvb.below kb1 (by omega);have hxl:(Ax x).length=5:=rfl
 -- the first copy: the letter
 have hcp1:∀ty,(Builtin.copy_ #[132,132] ty #[.slice (some ⟨B2,i * 5,none⟩) (n+1 - i) (G - i),.slice (some ⟨vb,0,none⟩) 1 1]).run Tryz.prog W1= .ok (goInt 1) (W1.setRow B2 (R.toList.take (i * 5)++Ax x++R.toList.drop (i * 5+(Ax x).length)).toArray):=fun ty=>
  Mj W1 _ _ ty 113 Tryz.underlying132 Gq B2 (i * 5) (n+1 - i) (G - i) ⟨vb,0,none⟩ 1 1 1 R 113 (Ax x) k1 (by show min 1 (n+1 - i)=1;omega) rfl
   (fun j u hu=>by rw[addr_add',Nat.zero_add,kv1.cell];simpa using hu) (by rw[hR,hxl];omega) (Jz x)
 obtain⟨R1,hR1⟩:=zo (R.toList.take (i * 5)++Ax x++R.toList.drop (i * 5+(Ax x).length));rw[hR1] at hcp1;obtain⟨W2,hW2⟩:=zo ((W1.setRow B2 R1.toArray).drew);have k2:Bk W2 B2 113 R1.toArray:=by rw[←hW2];exact Ts k1 _
 have kb2:Below B2 w W2:=by rw[←hW2];exact(below_setRow kb1 (zn _) _).drew
 have hcell2:∀j u,(us.drop (i * 5))[j]? =some u→W2.cell? ⟨g,i * 5+j,none⟩=some u:=fun j u hu=>(kb2.cell (p:=⟨g,_,none⟩) (by show g < B2;omega)).trans (hcell _ u (by rwa [List.getElem?_drop] at hu));have hdl:(us.drop (i * 5)).length=(n - i) * 5:=by rw[List.length_drop,hul];omega
 have hcs:=Amc (R:=R.toList) (us:=us) (X:=Ax x) (p:=i * 5) (q:=n * 5) (s:=5) hul (by rw[Array.length_toList,hR];omega) (by omega) hxl htk;rw[hR1] at hcs;have hR1l:R1.length=R.size:=by rw[←hR1];simp only[ze,List.length_take,List.length_drop,hxl,Array.length_toList,hR];omega
 have hcp2:∀ty,(Builtin.copy_ #[132,132] ty #[.slice (some ⟨B2,(i+1) * 5,none⟩) (n - i) (G - (i+1)),.slice (some ⟨g,i * 5,none⟩) (n - i) (n - i)]).run Tryz.prog W2= .ok (goInt (n - i:Nat)) (W2.setRow B2 (R1.take ((i+1) * 5)++us.drop (i * 5)++R1.drop ((i+1) * 5+(us.drop (i * 5)).length)).toArray):=fun ty=>by
  have:=Mj W2 132 132 ty 113 Tryz.underlying132 Gq B2 ((i+1) * 5) (n - i) (G - (i+1)) ⟨g,i * 5,none⟩ (n - i) (n - i) (n - i) R1.toArray 113 (us.drop (i * 5)) k2 (by show min (n - i) (n - i)=n - i;omega) hdl
   (fun j u hu=>by rw[addr_add'];exact hcell2 j u hu) (by rw[hdl,List.size_toArray,hR1l,hR];omega) (fun u hu=>h1 u (List.mem_of_mem_drop hu))
  simpa using this
 have HRES:Hid (((W2.setRow B2 (R1.take ((i+1) * 5)++us.drop (i * 5)++R1.drop ((i+1) * 5+(us.drop (i * 5)).length)).toArray)).ownsRow base 113 5 (.slice (some ⟨B2,0,none⟩) (n+1) G) (n+1) (Up us i x)∧w.grownBy (W2.setRow B2 (R1.take ((i+1) * 5)++us.drop (i * 5)++R1.drop ((i+1) * 5+(us.drop (i * 5)).length)).toArray) (some g)):=by
  rw[show(i+1) * 5=i * 5+5 by omega];refine(?_:_∧_);refine⟨⟨?_,.inr ⟨B2,G,_,rfl,by omega,Ts k2 _,hG1,hG2,?_,?_⟩⟩,Aip (by rw[hB2];exact below_setRow kb2 (zn _) _) _⟩
  ·unfold Up
   simp only[ze,List.length_take,List.length_drop,hul,hxl];omega
  ·rw[List.size_toArray,hcs.1,Array.length_toList,hR]
  ·rw[show(n+1) * 5=n * 5+5 by omega]
   exact hcs.2
 obtain⟨W3,hW3⟩:=zo (W2.setRow B2 (R1.take ((i+1) * 5)++us.drop (i * 5)++R1.drop ((i+1) * 5+(us.drop (i * 5)).length)).toArray);rw[hW3] at HRES;simp only[hW3] at hcp2;have hb4:¬ (n=i):=by omega
 have hb5:¬ (G=i):=by omega
 have hb6:¬ (G=i+1):=by omega
 have hin:(i:Int) < (n:Int):=by omega
 have hin2:((i:Int) == (n:Int))=false:=by simp;omega
 have hwi:IntKind.i64.wrap ((i:Int)+1)=(i:Int)+1:=IntWalk.i64_in _ (by omega);have hti:((i:Int)+1).toNat=i+1:=by omega
 have hi1:(0:Int)≤(i:Int)+1:=by omega
 have hi2:(i:Int)+1≤(n:Int)+1:=by omega
 have hi3:(i:Int)≤(n:Int):=by omega
 have HX:=zh (zi hr (zi hcp1 hcp2));have HW2:=zh hW2;have hB2':=zh hB2;clear hown hr hcp1 hcp2 hW1 hW2 hW3 hR1 hcs hR1l hdl hcell2 kb2 k2 kv1 kb1 k1 hxl htk hR hcell hul hB2 hvb;go_enter Tryz.func215,Tryz.ntmps215
 go_wp2_with (first
  |(at_builtin;refine Lib.wpList_append_run _ rfl _ _ _ _ rfl _ _ rfl rfl _ _ HX.out.1 ?_)
  |(with_reducible refine Nk _ rfl _ _ 132 132 rfl _ _ rfl rfl (HX.out.2.1 _) ?_))
 go_frame
 go_still_tail 8,(by kernel_rfl)
 change wpList _ _ _ _ _ (W1.setRow B2 R1.toArray).drew
 rw[HW2.out];go_wp2_with (with_reducible refine Nk _ rfl _ _ 132 132 rfl _ _ rfl rfl (HX.out.2.2 _) ?_)
 go_ret
 exact⟨_,rfl,HRES.out.1,HRES.out.2⟩
theorem Aoo(base g n c i:Nat)(us:List Value)(x:Ao)(vb:Nat)(w:zW)(hown:w.ownsRow base 113 5 (.slice (some ⟨g,0,none⟩) n c) n us)(hi:i < n)(hn:n≤1048576)(hc:n < c)(hvb:Bk w vb 113 (Ax x).toArray)(hne:vb≠g)(h1:∀u∈us,u.oneCell'=true):
  Calls Tryz.prog 215 #[.slice (some ⟨g,0,none⟩) n c,.int .i64 i,.slice (some ⟨vb,0,none⟩) 1 1] w fun e w'=>∃v',e= .returned v'∧w'.ownsRow base 113 5 v' (n+1) (Up us i x)∧w.grownBy w' (some g):=by
 obtain⟨hul,hx⟩:=hown;obtain⟨C,hbg,hcc,hcm,hcs,hct,hk⟩:∃C,base≤g∧n≤c∧c≤maxLen∧C.size=c * 5∧C.toList.take (n * 5)=us∧Bk w g 113 C:=by
  rcases hx with h|⟨g',cap,cur,hv,hg,hh,r1,r2,r3,r4⟩
  ·exfalso
   have:=h.1;simp at this
  ·simp only[Value.slice.injEq,Option.some.injEq,Addr.mk.injEq,and_true,true_and] at hv
   obtain⟨rfl,rfl⟩:=hv;exact⟨cur,hg,r1,r2,r3,r4,hh⟩
 have hxl:(Ax x).length=5:=rfl;have hdl:(us.drop (i * 5)).length=(n - i) * 5:=by rw[List.length_drop,hul];omega
 have hcell:∀j u,us[j]? =some u→w.cell? ⟨g,j,none⟩=some u:=fun j u hu=>by
  rw[hk.cell,←Array.getElem?_toList];rw[←hct,List.getElem?_take] at hu
  split at hu
  ·exact hu
  ·cases hu
 -- the first copy: what stands behind, one place on
 obtain⟨C1,hC1⟩:=zo (C.toList.take ((i+1) * 5)++us.drop (i * 5)++C.toList.drop ((i+1) * 5+(us.drop (i * 5)).length));have hCl:C.toList.length=c * 5:=by rw[Array.length_toList,hcs]
 have hC1l:C1.length=c * 5:=by
  rw[←hC1];simp only[ze,List.length_take,List.length_drop,hul,hCl];omega
 have hcp1:∀ty dc sc,(Builtin.copy_ #[132,132] ty #[.slice (some ⟨g,(i+1) * 5,none⟩) (n - i) dc,.slice (some ⟨g,i * 5,none⟩) (n+1 - i) sc]).run Tryz.prog w.drew= .ok (goInt (n - i:Nat)) (w.drew.setRow g C1.toArray):=fun ty dc sc=>by
  have:=Mj w.drew 132 132 ty 113 Tryz.underlying132 Gq g ((i+1) * 5) (n - i) dc ⟨g,i * 5,none⟩ (n+1 - i) sc (n - i) C 113 (us.drop (i * 5)) hk (by show min (n+1 - i) (n - i)=n - i;omega) hdl
   (fun j u hu=>by rw[addr_add'];exact hcell _ u (by rwa [List.getElem?_drop] at hu)) (by rw[hdl,hcs];omega) (fun u hu=>h1 u (List.mem_of_mem_drop hu))
  rw[hC1] at this;exact this
 obtain⟨W1,hW1⟩:=zo (w.drew.setRow g C1.toArray);have k1:Bk W1 g 113 C1.toArray:=by rw[←hW1];exact Ts (w:=w.drew) hk _
 have kv1:Bk W1 vb 113 (Ax x).toArray:=by rw[←hW1];exact Adj (w:=w.drew) hvb hne _
 have hcp2:∀ty dc,(Builtin.copy_ #[132,132] ty #[.slice (some ⟨g,i * 5,none⟩) (n+1 - i) dc,.slice (some ⟨vb,0,none⟩) 1 1]).run Tryz.prog W1= .ok (goInt 1) (W1.setRow g (C1.take (i * 5)++Ax x++C1.drop (i * 5+(Ax x).length)).toArray):=fun ty dc=>by
  have:=Mj W1 132 132 ty 113 Tryz.underlying132 Gq g (i * 5) (n+1 - i) dc ⟨vb,0,none⟩ 1 1 1 C1.toArray 113 (Ax x) k1 (by show min 1 (n+1 - i)=1;omega) rfl
   (fun j u hu=>by rw[addr_add',Nat.zero_add,kv1.cell];simpa using hu) (by rw[hxl,List.size_toArray,hC1l];omega) (Jz x)
  simpa using this
 have hsp:=Aqj (C:=C.toList) (us:=us) (X:=Ax x) (p:=i * 5) (q:=n * 5) (s:=5) hct (by rw[hCl];omega) (by omega) hxl;rw[show i * 5+5=(i+1) * 5 by omega,hC1] at hsp;have HRES:Hid ((W1.setRow g (C1.take (i * 5)++Ax x++C1.drop (i * 5+(Ax x).length)).toArray).ownsRow base 113 5 (.slice (some ⟨g,0,none⟩) (n+1) c) (n+1) (Up us i x)∧w.grownBy (W1.setRow g (C1.take (i * 5)++Ax x++C1.drop (i * 5+(Ax x).length)).toArray) (some g)):=by
  refine(?_:_∧_);refine⟨⟨?_,.inr ⟨g,c,_,rfl,hbg,Ts k1 _,by omega,hcm,?_,?_⟩⟩,?_⟩
  ·unfold Up
   simp only[ze,List.length_take,List.length_drop,hul,hxl];omega
  ·rw[List.size_toArray,hsp.1,hCl]
  ·rw[show(n+1) * 5=n * 5+5 by omega]
   exact hsp.2
  ·rw[←hW1]
   exact Dq (Ab0 w _) (Dq (Wv _ g _) (Wv _ g _))
 obtain⟨W2,hW2⟩:=zo (W1.setRow g (C1.take (i * 5)++Ax x++C1.drop (i * 5+(Ax x).length)).toArray);rw[hW2] at HRES;rw[hW2] at hcp2;rw[hW1] at hcp1;have hov:∀lb cb,(callFunc 227 #[.slice (some ⟨vb,0,none⟩) 1 1,.slice (some ⟨g,(i+1) * 5,none⟩) lb cb]).run Tryz.prog w= .ok (.value (.bool false)) w:=fun lb cb=>by
  have hkg:w.heap[g]? =some (.cells C 113 (0,0)):=hk;have hkv:w.heap[vb]? =some (.cells (Ax x).toArray 113 (0,0)):=hvb;rw[run_callFunc_extern Tryz.func227 (by kernel_rfl) (by kernel_rfl) (by kernel_rfl) (e:=Extern.SlicesOverlaps.overlaps #[132,132] #[4]) (by kernel_rfl),
   Lib.run_overlaps_apart w 132 4 113 Tryz.underlying132 5 (fun W=>by kernel_rfl) ⟨vb,0,none⟩ ⟨g,(i+1) * 5,none⟩ 1 1 lb cb hne 113 113 5 C.size (by simp only[World.shape?,hkv];rfl) (by simp only[World.shape?,hkg]) (by rw[hcs];omega)
    (by simp[World.frozen?,hkv]) (by simp[World.frozen?,hkv])]
  rfl
 have hb4:¬ (n=i):=by omega
 have hb5:¬ (c=i):=by omega
 have hb6:¬ (c=i+1):=by omega
 have hb7:¬ ((c:Int) < (n:Int)+1):=by omega
 have hin:(i:Int) < (n:Int):=by omega
 have hin2:((i:Int) == (n:Int))=false:=by simp;omega
 have hwi:IntKind.i64.wrap ((i:Int)+1)=(i:Int)+1:=IntWalk.i64_in _ (by omega);have hwn:IntKind.i64.wrap ((n:Int)+1)=(n:Int)+1:=IntWalk.i64_in _ (by omega);have hti:((i:Int)+1).toNat=i+1:=by omega
 have htn:((n:Int)+1).toNat=n+1:=by omega
 have hi1:(0:Int)≤(i:Int)+1:=by omega
 have hi2:(i:Int)+1≤(n:Int)+1:=by omega
 have hi3:(i:Int)≤(n:Int):=by omega
 have hi4:(i:Int)≤(n:Int)+1:=by omega
 have hi5:(n:Int)+1≤(c:Int):=by omega
 have hi6:(0:Int)≤(n:Int)+1:=by omega
 have HX:=zh (zi hcp1 hcp2);clear hcp1 hcp2 hW1 hW2 hC1 hsp hC1l hdl k1 kv1 hxl hcell hul hvb hk hct hcs hCl hcm hcc hx;go_enter Tryz.func215,Tryz.ntmps215
 go_wp2_with fail
 (try go_frame)
 go_still_tail 8,(by kernel_rfl)
 go_wp2_with (first
  |(with_reducible refine Nk _ rfl _ _ 132 132 rfl _ _ rfl rfl (HX.out.1 _ _ _) ?_)
  |(with_reducible refine Nk _ rfl _ _ 132 132 rfl _ _ rfl rfl (HX.out.2 _ _) ?_))
 go_ret
 exact⟨_,rfl,HRES.out.1,HRES.out.2⟩
theorem Abh(base:Nat)(v:Value)(n i:Nat)(us:List Value)(x:Ao)(vb:Nat)(w:zW)(hown:w.ownsRow base 113 5 v n us)(hi:i≤n)(hn:n≤1048576)(hvb:Bk w vb 113 (Ax x).toArray)
  (hne:∀g,v.ownBlock=some g→vb≠g) (h1:∀u∈us,u.oneCell'=true) (hbase:base≤w.heap.size):
  Calls Tryz.prog 215 #[v,.int .i64 i,.slice (some ⟨vb,0,none⟩) 1 1] w fun e w'=>∃v',e= .returned v'∧w'.ownsRow base 113 5 v' (n+1) (Up us i x)∧w.grownBy w' v.ownBlock:=by
 rcases Nat.lt_or_ge i n with h|h
 ·have hx:=hown.2
  rcases hx with h0|⟨g,cap,cur,rfl,hg,hh,r1,r2,r3,r4⟩
  ·omega
  ·have hv:Value.ownBlock (.slice (some ⟨g,0,none⟩) n cap)=some g:=rfl
   rcases Nat.lt_or_ge n cap with hc|hc
   ·exact Aoo base g n cap i us x vb w hown h hn hc hvb (hne g rfl) h1
   ·obtain rfl:cap=n:=by omega
    exact Ahp base g cap i us x vb w hown h hn hvb h1 hbase
 ·obtain rfl:i=n:=by omega
  exact Aku base v i us x vb w hown hn hvb hbase
theorem Nu{α:Type}{enc:α→List Value}{size:Nat}(hs:∀x,(enc x).length=size):∀(k:Nat)(xs:List α),(xs.flatMap enc).take (k * size)=(xs.take k).flatMap enc
 |0,xs=>by simp
 |k+1,[]=>by simp
 |k+1,x::xs=>by
  rw[List.take_succ_cons,List.flatMap_cons,List.flatMap_cons,←Nu hs k xs,List.take_append,hs,List.take_of_length_le (by rw[hs,Nat.succ_mul];omega),show(k+1) * size - size=k * size by rw[Nat.succ_mul];omega]
theorem Nt{α:Type}{enc:α→List Value}{size:Nat}(hs:∀x,(enc x).length=size):∀(k:Nat)(xs:List α),(xs.flatMap enc).drop (k * size)=(xs.drop k).flatMap enc
 |0,xs=>by simp
 |k+1,[]=>by simp
 |k+1,x::xs=>by
  rw[List.drop_succ_cons,List.flatMap_cons,←Nt hs k xs,List.drop_append,hs,List.drop_eq_nil_of_le (by rw[hs,Nat.succ_mul];omega),show(k+1) * size - size=k * size by rw[Nat.succ_mul];omega,List.nil_append]
theorem Ap0{s:Int}{l:List Ao}(h:∀y∈l,s≤y.seq):M3 l s=0:=by
 unfold M3;rw[List.countP_eq_zero];intro y hy;have:=h y hy;simp;omega
theorem Afc{x:Ao} :∀ {l:List Ao},(l.Pairwise fun x y=>x.seq < y.seq)→(l.any (fun y=>decide (y.seq=x.seq))=false)→Bt l x=l.take (M3 l x.seq)++[x]++l.drop (M3 l x.seq)
 | [],_,_=>rfl
 |y::r,hp,ha=>by
  obtain⟨hp1,hp2⟩:=List.pairwise_cons.1 hp;rw[List.any_cons,Bool.or_eq_false_iff] at ha;have hne:y.seq≠x.seq:=by simpa using ha.1
  unfold Bt;by_cases h:x.seq < y.seq
  ·rw[zp h,Ap0 (fun z hz=>by
    rcases List.mem_cons.1 hz with rfl|hz
    ·omega
    ·have:=hp1 z hz;omega)]
   rfl
  ·have hlt:y.seq < x.seq:=by omega
   have:M3 (y::r) x.seq=M3 r x.seq+1:=by
    unfold M3;rw[List.countP_cons_of_pos (by simpa using hlt)]
   rw[zq h,this,Afc hp2 ha.2,List.take_succ_cons,List.drop_succ_cons];simp
theorem Aq9(l:List Ao)(s:Int):M3 l s≤l.length:=List.countP_le_length
theorem Aps{x:Ao}{l:List Ao}(hp:l.Pairwise fun x y=>x.seq < y.seq)(ha:l.any (fun y=>decide (y.seq=x.seq))=false):Up (l.flatMap Ax) (M3 l x.seq) x=(Bt l x).flatMap Ax:=by
 rw[Afc hp ha];unfold Up;rw[Nu Cu,Nt Cu];simp
theorem Acl{w W0 W:zW}{x:Ao}(h:Ako w W0 x)(hW:Below W0.heap.size W0 W):(zM W w.heap.size 0 (.int .i64 x.seq)∧zM W w.heap.size 1 (.string x.key)∧zM W w.heap.size 2 (.string x.body)∧zM W w.heap.size 3 (.bool x.again)∧zM W w.heap.size 4 (.int .i64 x.au))∧Below W0.heap.size W0 W:=⟨(h W hW).1,hW⟩
theorem Ap8{w W0 W:zW}{x:Ao}(h:Ako w W0 x){C:Prop}(hW:C∧Below W0.heap.size W0 W)(o:Obj):((W.alloc o).cell? ⟨w.heap.size,0,none⟩=some (.int .i64 x.seq)∧(W.alloc o).cell? ⟨w.heap.size,1,none⟩=some (.string x.key)∧(W.alloc o).cell? ⟨w.heap.size,2,none⟩=some (.string x.body)∧(W.alloc o).cell? ⟨w.heap.size,3,none⟩=some (.bool x.again)∧(W.alloc o).cell? ⟨w.heap.size,4,none⟩=some (.int .i64 x.au))∧Below W0.heap.size W0 (W.alloc o):=Acl h (hW.2.alloc hW.2.size o)
theorem Aua{W0 W:zW}{a:zZ}{us:List Value}(h:Sl W0 0 W0.heap.size a us){C:Prop}(hW:C∧Below W0.heap.size W0 W):Sl W 0 W.heap.size a us:=(h.below hW.2 (zn _)).wider (zn _) hW.2.size
theorem At7{W0 W W':zW}{C:Prop}(hW:C∧Below W0.heap.size W0 W)(_:Below W.heap.size W W'):W0.heap.size≤W.heap.size:=hW.2.size
theorem Av0{w:zW}{g:Nat}{t:TypeId}{cs:Array Value}(h:Bk w g t cs):Bk w.drew g t cs:=h
theorem At8{B:Nat}{W0 wc:zW}{B0:Nat}{v:Value}{l:List Ao}{x:Ao}{k:Nat}(h0:B0≤W0.heap.size)(hown:wc.ownsRow B 113 5 v l.length (l.flatMap Ax))(hB:W0.heap.size≤B)(hW:Below W0.heap.size W0 wc)(hk:k≤l.length)(hn:l.length≤1048576):
  Calls Tryz.prog 215 #[v,.int .i64 k,.slice (some ⟨wc.heap.size,0,none⟩) 1 1] (wc.alloc (.cells (zY x) 113)) fun e w'=>∃v',e= .returned v'∧w'.ownsRow B0 113 5 v' (l.length+1) (Up (l.flatMap Ax) k x)∧Below W0.heap.size W0 w':=by
 have hb:Below wc.heap.size wc (wc.alloc (.cells (Ax x).toArray 113)):=(zb _ wc).alloc (zn _) _;have ho:=own_below hown hb;have hsz:=hW.size;refine(Abh W0.heap.size v l.length k _ x wc.heap.size _ (Da ho hB) hk hn (Bk.new _ _ _) (fun g hg=> ?_) (Kr l) (by simp;omega)).mono ?_
 ·have:=(hown.lt g hg).2;omega
 ·rintro e w' ⟨v',rfl,ho',hg'⟩
  exact⟨v',rfl,Da ho' h0,Br (Da ho hB) hg' (hW.trans (hb.mono hsz)) (zn _) (by simp;omega)⟩
theorem At9{B:Nat}{W0 wc:zW}{B0 vb:Nat}{v:Value}{l:List Ao}{x:Ao}{k:Nat}(h0:B0≤W0.heap.size)(hown:wc.ownsRow B 113 5 v l.length (l.flatMap Ax))(hB:W0.heap.size≤B)(hW:Below W0.heap.size W0 wc)(hvb:Bk wc vb 113 (Ax x).toArray)(hv:vb < B)(hk:k≤l.length)(hn:l.length≤1048576):
  Calls Tryz.prog 215 #[v,.int .i64 k,.slice (some ⟨vb,0,none⟩) 1 1] wc fun e w'=>∃v',e= .returned v'∧w'.ownsRow B0 113 5 v' (l.length+1) (Up (l.flatMap Ax) k x)∧Below W0.heap.size W0 w':=by
 refine(Abh W0.heap.size v l.length k _ x vb _ (Da hown hB) hk hn hvb (fun g hg=> ?_) (Kr l) hW.size).mono ?_
 ·have:=(hown.lt g hg).1;omega
 ·rintro e w' ⟨v',rfl,ho',hg'⟩
  exact⟨v',rfl,Da ho' h0,Br (Da hown hB) hg' hW (zn _) hW.size⟩
theorem Aq4(a:zZ)(c:Nat)(l:List Ao)(x:Ao)(lo:Nat)(w:zW)(hl:Sl w lo w.heap.size a (l.flatMap Ax))(hll:l.length≤1048576)(hp:l.Pairwise fun x y=>x.seq < y.seq)(hn:l.any (fun y=>decide (y.seq=x.seq))=false):
  Calls Tryz.prog 202 #[.slice a l.length c,.agg (Ax x).toArray] w fun e w'=>∃v,e= .returned v∧w'.ownsRow w.heap.size 113 5 v (Bt l x).length ((Bt l x).flatMap Ax)∧Below w.heap.size w w':=by
 have hbx:=Sf w x 113;have hz:(w.alloc (.cells (zY x) 113)).heap.size=w.heap.size+1:=by simp
 have hl0:=(hl.below ((zb _ w).alloc (zn _) (.cells (zY x) 113)) (zn _)).wider (lo':=0) (hi':=(w.alloc (.cells (zY x) 113)).heap.size) (Nat.zero_le _) (by simp);have HL0:=zh hl0;have HBX:=zh hbx;have HP:=zh hp;have hfin:∀(W:zW)(v:Value),W.ownsRow w.heap.size 113 5 v (l.length+1) (Up (l.flatMap Ax) (M3 l x.seq) x)→W.ownsRow w.heap.size 113 5 v (Bt l x).length ((Bt l x).flatMap Ax):=fun W v h=>by rw[P4,←Aps hp hn];exact h
 have HFIN:=zh hfin;have HLE:=Aq9 l x.seq;clear hl hbx hl0 hp hn hfin;unfold Ax;go_enter Tryz.func202,Tryz.ntmps202
 obtain⟨⟨e0,e1,e2,e3,e4⟩,_⟩:=HBX.out _ (zb _ _);go_wp2_with fail
 generalize w.alloc (.cells (zY x) 113)=W0 at *;have HZ:=zh hz;clear hz
 have hwz:w.heap.size≤W0.heap.size:=by have:=HZ.out;omega
 refine(Am9 a c l x.seq 0 W0 HL0.out hll HP.out).mono ?_;rintro e W1 ⟨rfl,hb1⟩;have HB1:=zh hb1;clear hb1 e0 e1 e2 e3 e4
 generalize hk:M3 l x.seq=k at *;clear hk;generalize (l.any fun y=>decide (y.seq=x.seq))=bb at *;go_wp2_with fail
 go_region_held3 (fun W=>(zM W w.heap.size 0 (.int .i64 x.seq)∧zM W w.heap.size 1 (.string x.key)∧zM W w.heap.size 2 (.string x.body)∧zM W w.heap.size 3 (.bool x.again)∧zM W w.heap.size 4 (.int .i64 x.au))∧Below W0.heap.size W0 W)
  (first|exact Acl HBX.out (by assumption)|exact Acl HBX.out HB1.out.drew|exact Ap8 HBX.out (by assumption) _)
  (first
   |(go_at_call 173;refine(Xx a c l 0 _ (Aua HL0.out (by assumption)) hll).mono ?_;rintro e wc ⟨v,rfl,hown,hb⟩;have hbc:=Bq (by assumption) hb;have hbs:=At7 (by assumption) hb)
   |(go_at_call 215;have hins:=At8 (x:=x) hwz hown hbs hbc HLE hll;with_reducible refine hins.mono ?_;clear hins;rintro e wi ⟨v2,rfl,hown2,hbi⟩)
   |(go_at_call 215;have hins:=At9 (x:=x) hwz hown hbs hbc ((Av0 (Bk.new _ _ _)).below hb (by simp)) (by simp) HLE hll;with_reducible refine hins.mono ?_;clear hins;rintro e wi ⟨v2,rfl,hown2,hbi⟩))
 all_goals go_wp2
 all_goals go_ret
 all_goals exact⟨_,rfl,HFIN.out _ _ hown2,(HBX.out _ hbi).2⟩
open Go Go.RowKit
theorem P8{P:Program}{t size:Nat}(ht:P.underlying t=some (.slice (P.elem t)))(hs:∀w,(sizeOf (P.elem t)).run P w= .ok size w)(a:zZ)(len cap k:Nat)(i:Int)(hi:i=(k:Int))(hk:k≤cap)(w:zW):
  (Instr.slice t (.slice a len cap) none (some (.int .i64 i)) none).run P w= .ok (.slice a k cap) w:=by
 subst hi;rw[run_slice_h w t a len cap ht .i64 k (by omega) (by omega),hs]
 cases a with
 |none=>simp[sliced,Result.andThen]
 |some a=>simp[sliced,Result.andThen,Addr.add]
theorem Vx(a:zZ)(c:Nat)(l:List Ao)(x:Ao)(lo:Nat)(w:zW)(hl:Sl w lo w.heap.size a (l.flatMap Ax))(hll:l.length≤1048576):
  Calls Tryz.prog 110 #[.slice a l.length c,.agg (Ax x).toArray] w fun e w'=>∃v,e= .returned v∧w'.ownsRow w.heap.size 113 5 v (Bt l x).length ((Bt l x).flatMap Ax)∧Below w.heap.size w w':=by
 have HL:=zh hl;clear hl
 have hbk:=Bk.new w 113 (Ax x).toArray;have hbl:Below w.heap.size w (w.alloc (.cells (Ax x).toArray 113)):=(zb _ w).alloc (zn _) _;have hz:(w.alloc (.cells (Ax x).toArray 113)).heap.size=w.heap.size+1:=by simp
 unfold Ax at *;go_enter Tryz.func110,Tryz.ntmps110
 go_wp2_with fail
 generalize w.alloc (.cells [Value.int IntKind.i64 x.seq,Value.string x.key,Value.string x.body,Value.bool x.again,Value.int IntKind.i64 x.au].toArray 113)=W0 at *;have HBX:Hid (∀W,Below W0.heap.size W0 W→(zM W w.heap.size 0 (.int .i64 x.seq)∧zM W w.heap.size 1 (.string x.key)∧zM W w.heap.size 2 (.string x.body)∧zM W w.heap.size 3 (.bool x.again)∧zM W w.heap.size 4 (.int .i64 x.au))∧Below w.heap.size w W):=fun W hW=>by
  have hb:=hbk.below hW (by omega);refine⟨⟨?_,?_,?_,?_,?_⟩,hbl.trans (hW.mono (by omega))⟩
  ·have:=hb.cell 0;simpa using this
  ·have:=hb.cell 1;simpa using this
  ·have:=hb.cell 2;simpa using this
  ·have:=hb.cell 3;simpa using this
  ·have:=hb.cell 4;simpa using this
 have HZ:=zh hz;clear hbk hbl hz
 go_loopw [5,6,7] (fun v d i wr=>Avr l x W0 v d i wr) (fun _ _ i _=>l.length - (intOf i).toNat)
 case atStart=>exact⟨0,false,[],by omega,rfl,rfl,rfl,rfl,World.ownsRow_nil _ _ _ _,zb _ _⟩
 case round=>
  obtain⟨k,dn,outs,hk,rfl,rfl,hp,hol,hown,hB⟩:=hrel;have HP:=zh hp;clear hp
  have hok:outs.length < 4294967296:=by rw[hol];split<;>omega
  have HOL:=zh hol;clear hol
  have hbase:=hB.size;obtain⟨⟨e0,e1,e2,e3,e4⟩,_⟩:=HBX.out wr hB;have HO:=zh hown;clear hown
  have HB:=zh hB;by_cases hlt:k < l.length
  ·obtain⟨b,o,ha,_,hb,hc⟩:=Bf (enc:=Ax) Cu (by decide) HL.out hlt
   subst ha;have HD:Hid (∀W,Below W0.heap.size W0 W→zM W b (o+k * 5) (.int .i64 l[k].seq)∧zM W b (o+k * 5+1) (.string l[k].key)∧zM W b (o+k * 5+2) (.string l[k].body)∧zM W b (o+k * 5+3) (.bool l[k].again)∧zM W b (o+k * 5+4) (.int .i64 l[k].au)):=
    fun W hW=>Hw (wr:=W) (b:=b) (o:=o) (k:=k) (x:=l[k]) fun j u hu=>((HBX.out W hW).2.cell (p:=⟨b,_,none⟩) hb).trans (hc j u hu)
   obtain⟨d0,d1,d2,d3,d4⟩:=HD.out wr hB;clear hc hB;have HDK:Hid (l.drop k=l[k]::l.drop (k+1)):=List.drop_eq_getElem_cons hlt;generalize hy:l[k]=y at *;clear hy;have hok3:(outs++[x]).length < 4294967296:=by have:=HOL.out;simp;split at this<;>omega
   have hgx:0≤k:=Nat.zero_le _
   cases dn
   ·by_cases hs:x.seq < y.seq
    ·have HN:Hid ((outs++[x])++[y]++l.drop (k+1)=Bt l x):=by
      refine(?_:(outs++[x])++[y]++l.drop (k+1)=Bt l x);rw[←HP.out,HDK.out];simp[Bt,hs]
     go_wp2_with fail
     go_quiet (fail)
     all_goals
      generalize hW1:World.drewN wr _=W1 at *;have hB1:Below wr.heap.size wr W1:=by rw[←hW1];exact below_draws (zb _ _) _
      clear hW1 e0 e1 e2 e3 e4 d0 d1 d2 d3 d4;have HO1:=zh (own_below HO.out hB1);have HB1:=zm HB hB1;have hb1:=HB1.out.size;obtain⟨⟨e0,e1,e2,e3,e4⟩,_⟩:=HBX.out W1 HB1.out;obtain⟨d0,d1,d2,d3,d4⟩:=HD.out W1 HB1.out;clear hB1;go_wp2_with (first
       |(at_builtin;refine Em rfl _ _ 132 rfl W0.heap.size 113 Gq Tryz.underlying132 rfl (by decide) (by decide) W1 _ _ _ rfl HO1.out (Ax x) rfl rfl rfl (Jz _) hok hb1 ?_;intro v2 w2 hown' hgrow;have HO2:=zh (Ta hown');have HB2:=zh (Br HO1.out hgrow HB1.out (zn _) hb1);have hb2:=HB2.out.size;have hf2:=(HD.out w2 HB2.out);obtain⟨f02,f12,f22,f32,f42⟩:=hf2;clear hown' hgrow)
       |(at_builtin;refine Em rfl _ _ 132 rfl W0.heap.size 113 Gq Tryz.underlying132 rfl (by decide) (by decide) w2 _ _ _ rfl HO2.out (Ax y) rfl rfl rfl (Jz _) hok3 hb2 ?_;intro v3 w3 hown' hgrow;have HO3:=zh (Ta hown');have HB3:=zh (Br HO2.out hgrow HB2.out (zn _) hb2);have hb3:=HB3.out.size;have hf3:=(HD.out w3 HB3.out);obtain⟨f03,f13,f23,f33,f43⟩:=hf3;clear hown' hgrow))
      exact⟨⟨k+1,true,outs++[x]++[y],hlt,by go_num,rfl,by rw[zp rfl];exact HN.out,by have:=HOL.out;simp at this;simp;omega,HO3.out,HB3.out⟩,by simp[intOf];omega⟩
    ·have hs':y.seq≤x.seq:=by omega
     have HN:Hid (outs++[y]++Bt (l.drop (k+1)) x=Bt l x):=by
      refine(?_:outs++[y]++Bt (l.drop (k+1)) x=Bt l x);rw[←HP.out,HDK.out];simp[Bt,hs]
     clear hs;go_wp2_with fail
     go_quiet (fail)
     all_goals
      generalize hW1:World.drewN wr _=W1 at *;have hB1:Below wr.heap.size wr W1:=by rw[←hW1];exact below_draws (zb _ _) _
      clear hW1 e0 e1 e2 e3 e4 d0 d1 d2 d3 d4;have HO1:=zh (own_below HO.out hB1);have HB1:=zm HB hB1;have hb1:=HB1.out.size;obtain⟨⟨e0,e1,e2,e3,e4⟩,_⟩:=HBX.out W1 HB1.out;obtain⟨d0,d1,d2,d3,d4⟩:=HD.out W1 HB1.out;clear hB1;go_wp2_with (first
       |(at_builtin;refine Em rfl _ _ 132 rfl W0.heap.size 113 Gq Tryz.underlying132 rfl (by decide) (by decide) W1 _ _ _ rfl HO1.out (Ax y) rfl rfl rfl (Jz _) hok hb1 ?_;intro v2 w2 hown' hgrow;have HO2:=zh (Ta hown');have HB2:=zh (Br HO1.out hgrow HB1.out (zn _) hb1);have hb2:=HB2.out.size;have hf2:=(HD.out w2 HB2.out);obtain⟨f02,f12,f22,f32,f42⟩:=hf2;clear hown' hgrow))
      exact⟨⟨k+1,false,outs++[y],hlt,by go_num,rfl,by rw[zq Bool.false_ne_true];exact HN.out,by have:=HOL.out;simp at this;simp;omega,HO2.out,HB2.out⟩,by simp[intOf];omega⟩
   ·have HN:Hid (outs++[y]++l.drop (k+1)=Bt l x):=by
     refine(?_:outs++[y]++l.drop (k+1)=Bt l x);rw[←HP.out,HDK.out];simp
    go_wp2_with fail
    go_quiet (fail)
    all_goals
     generalize hW1:World.drewN wr _=W1 at *;have hB1:Below wr.heap.size wr W1:=by rw[←hW1];exact below_draws (zb _ _) _
     clear hW1 e0 e1 e2 e3 e4 d0 d1 d2 d3 d4;have HO1:=zh (own_below HO.out hB1);have HB1:=zm HB hB1;have hb1:=HB1.out.size;obtain⟨⟨e0,e1,e2,e3,e4⟩,_⟩:=HBX.out W1 HB1.out;obtain⟨d0,d1,d2,d3,d4⟩:=HD.out W1 HB1.out;clear hB1;go_wp2_with (first
      |(at_builtin;refine Em rfl _ _ 132 rfl W0.heap.size 113 Gq Tryz.underlying132 rfl (by decide) (by decide) W1 _ _ _ rfl HO1.out (Ax y) rfl rfl rfl (Jz _) hok hb1 ?_;intro v2 w2 hown' hgrow;have HO2:=zh (Ta hown');have HB2:=zh (Br HO1.out hgrow HB1.out (zn _) hb1);have hb2:=HB2.out.size;have hf2:=(HD.out w2 HB2.out);obtain⟨f02,f12,f22,f32,f42⟩:=hf2;clear hown' hgrow))
     exact⟨⟨k+1,true,outs++[y],hlt,by go_num,rfl,by rw[zp rfl];exact HN.out,by have:=HOL.out;simp at this;simp;omega,HO2.out,HB2.out⟩,by simp[intOf];omega⟩
  ·obtain rfl:k=l.length:=by omega
   have HNIL:Hid (l.drop l.length=[]):=List.drop_eq_nil_of_le (zn _);have hwz:w.heap.size≤W0.heap.size:=by have:=HZ.out;omega
   cases dn
   ·have HN:Hid (outs++[x]=Bt l x):=by
     refine(?_:outs++[x]=Bt l x);rw[←HP.out,HNIL.out];rfl
    clear hB;go_wp2_with (at_builtin;refine Em rfl _ _ 132 rfl W0.heap.size 113 Gq Tryz.underlying132 rfl (by decide) (by decide) wr _ _ _ rfl HO.out (Ax x) rfl rfl rfl (Jz _) hok hbase ?_;intro v2 w2 hown' hgrow;have HO2:=zh (Ta hown');have HB2:=zh (Br HO.out hgrow HB.out (zn _) hbase);clear hown' hgrow)
    go_ret
    exact⟨_,rfl,by rw[←HN.out];exact Da HO2.out hwz,(HBX.out _ HB2.out).2⟩
   ·have HN:Hid (outs=Bt l x):=by
     refine(?_:outs=Bt l x);rw[←HP.out,HNIL.out];simp
    clear hB;go_wp2_with fail
    go_ret
    exact⟨_,rfl,by rw[←HN.out];exact Da HO.out hwz,(HBX.out _ HB.out).2⟩
end Go.Proofs.YtpkneogjdfolaaaGreatDoor
