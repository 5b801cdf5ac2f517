/-
  Walk of the library's Insert of one letter into a row of the call's own.
-/
import Derived.Test.YtaanpcjkflhomaaGreatDoorBunE
import Derived.Test.YtaanpcjkflhomaaGreatDoorFind
import Derived.Lib.Overlaps
import Derived.Laws.CopyOwn
import Derived.Lib.AppendZerosOnto
import Derived.StillTailTactics
import Derived.IntWalk
import Derived.Outline
set_option maxHeartbeats 20000000
set_option maxRecDepth 100000
set_option linter.unusedSimpArgs false
set_option linter.unusedVariables false
namespace Go.Proofs.YtaanpcjkflhomaaGreatDoor
open Go.RowKit
def Tk (us:List Value) (i:Nat) (x:Ap):List Value:=us.take (i * 5)++A9 x++us.drop (i * 5)
theorem Ao2 {α:Type} {C us X:List α} {p q s:Nat} (hus:C.take q=us) (hq:q+s≤C.length) (hp:p≤q) (hX:X.length=s):
  ((C.take (p+s)++us.drop p++C.drop (p+s+(us.drop p).length)).take p++X++(C.take (p+s)++us.drop p++C.drop (p+s+(us.drop p).length)).drop (p+X.length)).length=C.length∧
  ((C.take (p+s)++us.drop p++C.drop (p+s+(us.drop p).length)).take p++X++(C.take (p+s)++us.drop p++C.drop (p+s+(us.drop p).length)).drop (p+X.length)).take (q+s)=us.take p++X++us.drop p:=by
 have hul:us.length=q:=by rw[←hus,List.length_take];omega
 have hdl:(us.drop p).length=q - p:=by rw[List.length_drop,hul]
 have e1:(C.take (p+s)++us.drop p++C.drop (p+s+(us.drop p).length)).take p=us.take p:=by
  rw[List.append_assoc,List.take_append_of_le_length (by rw[List.length_take];omega),List.take_take,←hus,List.take_take]
  congr 1
  omega
 have e2:(C.take (p+s)++us.drop p++C.drop (p+s+(us.drop p).length)).drop (p+X.length)=us.drop p++C.drop (p+s+(us.drop p).length):=by
  rw[List.append_assoc,hX]
  have:(C.take (p+s)).length=p+s:=by rw[List.length_take];omega
  rw[List.drop_append,this,Nat.sub_self,List.drop_zero,List.drop_eq_nil_of_le (by omega),List.nil_append]
 rw[e1,e2]
 constructor
 ·simp only[List.length_append,List.length_take,List.length_drop,hul,hX]
  omega
 ·rw[←List.append_assoc,List.take_append_of_le_length (by simp only[List.length_append,List.length_take,List.length_drop,hul,hX];omega),List.take_of_length_le (by simp only[List.length_append,List.length_take,List.length_drop,hul,hX];omega)]
theorem Ak2 {α:Type} {R us X:List α} {p q s:Nat} (hul:us.length=q) (hR:q+s≤R.length) (hp:p≤q) (hX:X.length=s) (ht:R.take p=us.take p):
  ((R.take p++X++R.drop (p+X.length)).take (p+s)++us.drop p++(R.take p++X++R.drop (p+X.length)).drop (p+s+(us.drop p).length)).length=R.length∧
  ((R.take p++X++R.drop (p+X.length)).take (p+s)++us.drop p++(R.take p++X++R.drop (p+X.length)).drop (p+s+(us.drop p).length)).take (q+s)=us.take p++X++us.drop p:=by
 have e1:(R.take p++X++R.drop (p+X.length)).take (p+s)=us.take p++X:=by
  rw[List.take_append_of_le_length (by simp only[List.length_append,List.length_take,hX];omega),List.take_of_length_le (by simp only[List.length_append,List.length_take,hX];omega),ht]
 rw[e1]
 constructor
 ·simp only[List.length_append,List.length_take,List.length_drop,hul,hX]
  omega
 ·rw[List.take_append_of_le_length (by simp only[List.length_append,List.length_take,List.length_drop,hul,hX];omega),List.take_of_length_le (by simp only[List.length_append,List.length_take,List.length_drop,hul,hX];omega)]
theorem Ai8 (base:Nat) (v:Value) (n:Nat) (us:List Value) (x:Ap) (vb:Nat) (w:World) (hown:w.ownsRow base 52 5 v n us) (hn:n≤1048576) (hvb:Bk w vb 52 (A9 x).toArray) (hbase:base≤w.heap.size):
  Calls Tryz.prog 159 #[v,.int .i64 n,.slice (some ⟨vb,0,none⟩) 1 1] w fun e w'=>∃v',e= .returned v'∧w'.ownsRow base 52 5 v' (n+1) (Tk us n x)∧w.grownBy w' v.ownBlock:=by
 have hul:=hown.1
 have hsl:Sl w 0 w.heap.size (some ⟨vb,0,none⟩) (A9 x):=Adm hvb (Nat.zero_le _) hvb.lt rfl
 have HR:Hid (us++A9 x=Tk us n x):=by
  refine(?_:us++A9 x=Tk us n x)
  unfold Tk
  rw[List.take_of_length_le (by omega),List.drop_eq_nil_of_le (by omega),List.append_nil]
 obtain⟨a,c,rfl,hnc⟩:=Ad hown
 have hcut:=fun W=>Lt (P:=Tryz.prog) (t:=50) (size:=5) Tryz.underlying50 Hd a n c n (n:Int) rfl (zn _) W
 have HO:=zh hown;have HSL:=zh hsl
 clear hown hsl hvb hul
 have hsum:n+1≤4294967296:=by omega
 have hvl:(A9 x).length=1 * 5:=rfl
 have HVL:=zh hvl;clear hvl
 go_enter Tryz.func159,Tryz.ntmps159
 go_wp2_with (at_builtin;refine Yo rfl _ _ 50 rfl base 52 Gh Tryz.underlying50 rfl (by decide) (by decide) _ _ _ rfl HO.out _ _ _ rfl 0 _ (A9 x) HVL.out HSL.out (Jf x) hsum hbase ?_;intro v' w' hown' hgrow;have HO':=zh hown';have HG:=zh hgrow;clear hown' hgrow)
 go_ret
 exact⟨_,rfl,by rw[←HR.out];exact HO'.out,HG.out⟩
theorem Vh (W:World) (g n i:Nat) (us:List Value) (hi:i < n) (hn:n≤1048576) (hul:us.length=n * 5) (hcell:∀j u,us[j]? =some u→W.cell? ⟨g,j,none⟩=some u):∀ty,∃G R,(Builtin.append_ #[50,3] ty #[.slice (some ⟨g,0,none⟩) i n,.int .i64 ((n:Int)+1 - (i:Int))]).run Tryz.prog W=
   .ok (.slice (some ⟨W.heap.size,0,none⟩) (n+1) G) (W.drew.alloc (.cells R 52))∧n+1≤G∧G≤maxLen∧R.size=G * 5∧R.toList.take (i * 5)=us.take (i * 5):=fun ty=>by
 obtain⟨t,hti,hz0,hz1,hz2⟩:=info_parts (P:=Tryz.prog) Gh
 have hold:(Builtin.firstCells t.size i (.slice (some ⟨g,0,none⟩) i n)).run Tryz.prog W.drew= .ok (us.take (i * 5)).toArray W.drew:=by
  rw[hz1]
  refine run_firstCells_some W.drew 5 i ⟨g,0,none⟩ i n (us.take (i * 5)) (by rw[List.length_take];omega) (fun j v hj=> ?_)
  rw[addr_add',Nat.zero_add]
  rw[List.getElem?_take] at hj
  split at hj
  ·exact hcell j v hj
  ·cases hj
 have h:=Lib.run_append_grow_zeros W 50 3 ty 52 t _ .i64 .i64 Tryz.underlying50 Tryz.underlying3 hti hz0 (some ⟨g,0,none⟩) i n (us.take (i * 5)) hold (n+1 - i) (by omega) (by rw[hz1];decide) (by omega) (by omega) (by rw[hz2];omega)
  (by rw[hz2];refine growslice_fits (by omega) ?_;omega)
 rw[show i+(n+1 - i)=n+1 by omega] at h
 have hge:=grownCap_ge W (n+1) n 52
 have hcm:=grownCap_le_maxLen W (n+1) n 52 (by unfold maxLen;omega)
 rw[show(n:Int)+1 - (i:Int)=((n+1 - i:Nat):Int) by omega]
 refine⟨_,_,h,hge,hcm,?_,?_⟩
 ·simp only[Array.size_append,size_zeroCells,List.size_toArray,List.length_take,hul]
  rw[show Awd.cells.size=5 from rfl]
  omega
 ·simp only[Array.toList_append]
  rw[List.append_assoc,List.take_append_of_le_length (by rw[List.length_take];omega),List.take_of_length_le (by rw[List.length_take];omega)]
theorem Afl (base g n i:Nat) (us:List Value) (x:Ap) (vb:Nat) (w:World) (hown:w.ownsRow base 52 5 (.slice (some ⟨g,0,none⟩) n n) n us) (hi:i < n) (hn:n≤1048576) (hvb:Bk w vb 52 (A9 x).toArray) (h1:∀u∈us,u.oneCell'=true) (hbase:base≤w.heap.size):
  Calls Tryz.prog 159 #[.slice (some ⟨g,0,none⟩) n n,.int .i64 i,.slice (some ⟨vb,0,none⟩) 1 1] w fun e w'=>∃v',e= .returned v'∧w'.ownsRow base 52 5 v' (n+1) (Tk us i x)∧w.grownBy w' (some g):=by
 have hul:=hown.1
 have hcell:∀j u,us[j]? =some u→w.cell? ⟨g,j,none⟩=some u:=by
  rcases Sl.of_own hown with h|⟨b,o,e,_,_,hc⟩
  ·intro j u hu;rw[h] at hu;simp at hu
  ·simp only[Option.some.injEq,Addr.mk.injEq,and_true] at e
   obtain⟨rfl,rfl⟩:=e
   intro j u hu
   have:=hc j u hu
   rwa [Nat.zero_add] at this
 have hgl:g < w.heap.size:=(hown.lt g rfl).2
 have hvl:=hvb.lt
 obtain⟨G,R,hr,hG1,hG2,hR,htk⟩:=Vh w g n i us hi hn hul hcell 50
 obtain⟨W1,hW1⟩:∃W1,w.drew.alloc (.cells R 52)=W1:=⟨_,rfl⟩
 rw[hW1] at hr
 obtain⟨B2,hB2⟩:∃B2,w.heap.size=B2:=⟨_,rfl⟩
 rw[hB2] at hr
 have k1:Bk W1 B2 52 R:=by rw[←hW1,←hB2];exact Bk.new w.drew _ _
 have kb1:Below B2 w W1:=by rw[←hW1,←hB2];exact(zb _ w).drew.alloc (zn _) _
 have kv1:Bk W1 vb 52 (A9 x).toArray:=hvb.below kb1 (by omega)
 have hxl:(A9 x).length=5:=rfl
 -- the first copy: the letter
 have hcp1:∀ty,(Builtin.copy_ #[50,50] ty #[.slice (some ⟨B2,i * 5,none⟩) (n+1 - i) (G - i),.slice (some ⟨vb,0,none⟩) 1 1]).run Tryz.prog W1= .ok (goInt 1) (W1.setRow B2 (R.toList.take (i * 5)++A9 x++R.toList.drop (i * 5+(A9 x).length)).toArray):=fun ty=>
  Ls W1 _ _ ty 52 Tryz.underlying50 Gh B2 (i * 5) (n+1 - i) (G - i) ⟨vb,0,none⟩ 1 1 1 R 52 (A9 x) k1 (by show min 1 (n+1 - i)=1;omega) rfl
   (fun j u hu=>by rw[addr_add',Nat.zero_add,kv1.cell];simpa using hu) (by rw[hR,hxl];omega) (Jf x)
 obtain⟨R1,hR1⟩:∃R1,R.toList.take (i * 5)++A9 x++R.toList.drop (i * 5+(A9 x).length)=R1:=⟨_,rfl⟩
 rw[hR1] at hcp1
 obtain⟨W2,hW2⟩:∃W2,(W1.setRow B2 R1.toArray).drew=W2:=⟨_,rfl⟩
 have k2:Bk W2 B2 52 R1.toArray:=by rw[←hW2];exact Si k1 _
 have kb2:Below B2 w W2:=by rw[←hW2];exact(below_setRow kb1 (zn _) _).drew
 have hcell2:∀j u,(us.drop (i * 5))[j]? =some u→W2.cell? ⟨g,i * 5+j,none⟩=some u:=fun j u hu=>(kb2.cell (p:=⟨g,_,none⟩) (by show g < B2;omega)).trans (hcell _ u (by rwa [List.getElem?_drop] at hu))
 have hdl:(us.drop (i * 5)).length=(n - i) * 5:=by rw[List.length_drop,hul];omega
 have hcs:=Ak2 (R:=R.toList) (us:=us) (X:=A9 x) (p:=i * 5) (q:=n * 5) (s:=5) hul (by rw[Array.length_toList,hR];omega) (by omega) hxl htk
 rw[hR1] at hcs
 have hR1l:R1.length=R.size:=by rw[←hR1];simp only[List.length_append,List.length_take,List.length_drop,hxl,Array.length_toList,hR];omega
 have hcp2:∀ty,(Builtin.copy_ #[50,50] ty #[.slice (some ⟨B2,(i+1) * 5,none⟩) (n - i) (G - (i+1)),.slice (some ⟨g,i * 5,none⟩) (n - i) (n - i)]).run Tryz.prog W2= .ok (goInt (n - i:Nat)) (W2.setRow B2 (R1.take ((i+1) * 5)++us.drop (i * 5)++R1.drop ((i+1) * 5+(us.drop (i * 5)).length)).toArray):=fun ty=>by
  have:=Ls W2 50 50 ty 52 Tryz.underlying50 Gh B2 ((i+1) * 5) (n - i) (G - (i+1)) ⟨g,i * 5,none⟩ (n - i) (n - i) (n - i) R1.toArray 52 (us.drop (i * 5)) k2 (by show min (n - i) (n - i)=n - i;omega) hdl
   (fun j u hu=>by rw[addr_add'];exact hcell2 j u hu) (by rw[hdl,List.size_toArray,hR1l,hR];omega) (fun u hu=>h1 u (List.mem_of_mem_drop hu))
  simpa using this
 have HRES:Hid (((W2.setRow B2 (R1.take ((i+1) * 5)++us.drop (i * 5)++R1.drop ((i+1) * 5+(us.drop (i * 5)).length)).toArray)).ownsRow base 52 5 (.slice (some ⟨B2,0,none⟩) (n+1) G) (n+1) (Tk us i x)∧w.grownBy (W2.setRow B2 (R1.take ((i+1) * 5)++us.drop (i * 5)++R1.drop ((i+1) * 5+(us.drop (i * 5)).length)).toArray) (some g)):=by
  rw[show(i+1) * 5=i * 5+5 by omega]
  refine(?_:_∧_)
  refine⟨⟨?_,.inr ⟨B2,G,_,rfl,by omega,Si k2 _,hG1,hG2,?_,?_⟩⟩,Ag3 (by rw[hB2];exact below_setRow kb2 (zn _) _) _⟩
  ·unfold Tk
   simp only[List.length_append,List.length_take,List.length_drop,hul,hxl]
   omega
  ·rw[List.size_toArray,hcs.1,Array.length_toList,hR]
  ·rw[show(n+1) * 5=n * 5+5 by omega]
   exact hcs.2
 obtain⟨W3,hW3⟩:∃W3,W2.setRow B2 (R1.take ((i+1) * 5)++us.drop (i * 5)++R1.drop ((i+1) * 5+(us.drop (i * 5)).length)).toArray=W3:=⟨_,rfl⟩
 rw[hW3] at HRES
 simp only[hW3] at hcp2
 have hb4:¬ (n=i):=by omega
 have hb5:¬ (G=i):=by omega
 have hb6:¬ (G=i+1):=by omega
 have hin:(i:Int) < (n:Int):=by omega
 have hin2:((i:Int) == (n:Int))=false:=by simp;omega
 have hwi:IntKind.i64.wrap ((i:Int)+1)=(i:Int)+1:=IntWalk.i64_in _ (by omega)
 have hti:((i:Int)+1).toNat=i+1:=by omega
 have hi1:(0:Int)≤(i:Int)+1:=by omega
 have hi2:(i:Int)+1≤(n:Int)+1:=by omega
 have hi3:(i:Int)≤(n:Int):=by omega
 have HX:=zh (And.intro hr (And.intro hcp1 hcp2))
 have HW2:=zh hW2
 have hB2':=zh hB2
 clear hown hr hcp1 hcp2 hW1 hW2 hW3 hR1 hcs hR1l hdl hcell2 kb2 k2 kv1 kb1 k1 hxl htk hR hcell hul hB2 hvb
 go_enter Tryz.func159,Tryz.ntmps159
 go_wp2_with (first
  |(at_builtin;refine Lib.wpList_append_run _ rfl _ _ _ _ rfl _ _ rfl rfl _ _ HX.out.1 ?_)
  |(with_reducible refine M2 _ rfl _ _ 50 50 rfl _ _ rfl rfl (HX.out.2.1 _) ?_))
 go_frame
 go_still_tail 8,(by kernel_rfl)
 change wpList _ _ _ _ _ (W1.setRow B2 R1.toArray).drew
 rw[HW2.out]
 go_wp2_with (with_reducible refine M2 _ rfl _ _ 50 50 rfl _ _ rfl rfl (HX.out.2.2 _) ?_)
 go_ret
 exact⟨_,rfl,HRES.out.1,HRES.out.2⟩
theorem Am9 (base g n c i:Nat) (us:List Value) (x:Ap) (vb:Nat) (w:World) (hown:w.ownsRow base 52 5 (.slice (some ⟨g,0,none⟩) n c) n us) (hi:i < n) (hn:n≤1048576) (hc:n < c) (hvb:Bk w vb 52 (A9 x).toArray) (hne:vb≠g) (h1:∀u∈us,u.oneCell'=true):
  Calls Tryz.prog 159 #[.slice (some ⟨g,0,none⟩) n c,.int .i64 i,.slice (some ⟨vb,0,none⟩) 1 1] w fun e w'=>∃v',e= .returned v'∧w'.ownsRow base 52 5 v' (n+1) (Tk us i x)∧w.grownBy w' (some g):=by
 obtain⟨hul,hx⟩:=hown
 obtain⟨C,hbg,hcc,hcm,hcs,hct,hk⟩:∃C,base≤g∧n≤c∧c≤maxLen∧C.size=c * 5∧C.toList.take (n * 5)=us∧Bk w g 52 C:=by
  rcases hx with h|⟨g',cap,cur,hv,hg,hh,r1,r2,r3,r4⟩
  ·exfalso
   have:=h.1
   simp at this
  ·simp only[Value.slice.injEq,Option.some.injEq,Addr.mk.injEq,and_true,true_and] at hv
   obtain⟨rfl,rfl⟩:=hv
   exact⟨cur,hg,r1,r2,r3,r4,hh⟩
 have hxl:(A9 x).length=5:=rfl
 have hdl:(us.drop (i * 5)).length=(n - i) * 5:=by rw[List.length_drop,hul];omega
 have hcell:∀j u,us[j]? =some u→w.cell? ⟨g,j,none⟩=some u:=fun j u hu=>by
  rw[hk.cell,←Array.getElem?_toList]
  rw[←hct,List.getElem?_take] at hu
  split at hu
  ·exact hu
  ·cases hu
 -- the first copy: what stands behind, one place on
 obtain⟨C1,hC1⟩:∃C1,C.toList.take ((i+1) * 5)++us.drop (i * 5)++C.toList.drop ((i+1) * 5+(us.drop (i * 5)).length)=C1:=⟨_,rfl⟩
 have hCl:C.toList.length=c * 5:=by rw[Array.length_toList,hcs]
 have hC1l:C1.length=c * 5:=by
  rw[←hC1]
  simp only[List.length_append,List.length_take,List.length_drop,hul,hCl]
  omega
 have hcp1:∀ty dc sc,(Builtin.copy_ #[50,50] ty #[.slice (some ⟨g,(i+1) * 5,none⟩) (n - i) dc,.slice (some ⟨g,i * 5,none⟩) (n+1 - i) sc]).run Tryz.prog w.drew= .ok (goInt (n - i:Nat)) (w.drew.setRow g C1.toArray):=fun ty dc sc=>by
  have:=Ls w.drew 50 50 ty 52 Tryz.underlying50 Gh g ((i+1) * 5) (n - i) dc ⟨g,i * 5,none⟩ (n+1 - i) sc (n - i) C 52 (us.drop (i * 5)) hk (by show min (n+1 - i) (n - i)=n - i;omega) hdl
   (fun j u hu=>by rw[addr_add'];exact hcell _ u (by rwa [List.getElem?_drop] at hu)) (by rw[hdl,hcs];omega) (fun u hu=>h1 u (List.mem_of_mem_drop hu))
  rw[hC1] at this
  exact this
 obtain⟨W1,hW1⟩:∃W1,w.drew.setRow g C1.toArray=W1:=⟨_,rfl⟩
 have k1:Bk W1 g 52 C1.toArray:=by rw[←hW1];exact Si (w:=w.drew) hk _
 have kv1:Bk W1 vb 52 (A9 x).toArray:=by rw[←hW1];exact Aa8 (w:=w.drew) hvb hne _
 have hcp2:∀ty dc,(Builtin.copy_ #[50,50] ty #[.slice (some ⟨g,i * 5,none⟩) (n+1 - i) dc,.slice (some ⟨vb,0,none⟩) 1 1]).run Tryz.prog W1= .ok (goInt 1) (W1.setRow g (C1.take (i * 5)++A9 x++C1.drop (i * 5+(A9 x).length)).toArray):=fun ty dc=>by
  have:=Ls W1 50 50 ty 52 Tryz.underlying50 Gh g (i * 5) (n+1 - i) dc ⟨vb,0,none⟩ 1 1 1 C1.toArray 52 (A9 x) k1 (by show min 1 (n+1 - i)=1;omega) rfl
   (fun j u hu=>by rw[addr_add',Nat.zero_add,kv1.cell];simpa using hu) (by rw[hxl,List.size_toArray,hC1l];omega) (Jf x)
  simpa using this
 have hsp:=Ao2 (C:=C.toList) (us:=us) (X:=A9 x) (p:=i * 5) (q:=n * 5) (s:=5) hct (by rw[hCl];omega) (by omega) hxl
 rw[show i * 5+5=(i+1) * 5 by omega,hC1] at hsp
 have HRES:Hid ((W1.setRow g (C1.take (i * 5)++A9 x++C1.drop (i * 5+(A9 x).length)).toArray).ownsRow base 52 5 (.slice (some ⟨g,0,none⟩) (n+1) c) (n+1) (Tk us i x)∧w.grownBy (W1.setRow g (C1.take (i * 5)++A9 x++C1.drop (i * 5+(A9 x).length)).toArray) (some g)):=by
  refine(?_:_∧_)
  refine⟨⟨?_,.inr ⟨g,c,_,rfl,hbg,Si k1 _,by omega,hcm,?_,?_⟩⟩,?_⟩
  ·unfold Tk
   simp only[List.length_append,List.length_take,List.length_drop,hul,hxl]
   omega
  ·rw[List.size_toArray,hsp.1,hCl]
  ·rw[show(n+1) * 5=n * 5+5 by omega]
   exact hsp.2
  ·rw[←hW1]
   exact Dt (Zw w _) (Dt (U6 _ g _) (U6 _ g _))
 obtain⟨W2,hW2⟩:∃W2,W1.setRow g (C1.take (i * 5)++A9 x++C1.drop (i * 5+(A9 x).length)).toArray=W2:=⟨_,rfl⟩
 rw[hW2] at HRES
 rw[hW2] at hcp2
 rw[hW1] at hcp1
 have hov:∀lb cb,(callFunc 171 #[.slice (some ⟨vb,0,none⟩) 1 1,.slice (some ⟨g,(i+1) * 5,none⟩) lb cb]).run Tryz.prog w= .ok (.value (.bool false)) w:=fun lb cb=>by
  have hkg:w.heap[g]? =some (.cells C 52 (0,0)):=hk
  have hkv:w.heap[vb]? =some (.cells (A9 x).toArray 52 (0,0)):=hvb
  rw[run_callFunc_extern Tryz.func171 (by kernel_rfl) (by kernel_rfl) (by kernel_rfl) (e:=Extern.SlicesOverlaps.overlaps #[50,50] #[4]) (by kernel_rfl),
   Lib.run_overlaps_apart w 50 4 52 Tryz.underlying50 5 (fun W=>by kernel_rfl) ⟨vb,0,none⟩ ⟨g,(i+1) * 5,none⟩ 1 1 lb cb hne 52 52 5 C.size (by simp only[World.shape?,hkv];rfl) (by simp only[World.shape?,hkg]) (by rw[hcs];omega)
    (by simp[World.frozen?,hkv]) (by simp[World.frozen?,hkv])]
  rfl
 have hb4:¬ (n=i):=by omega
 have hb5:¬ (c=i):=by omega
 have hb6:¬ (c=i+1):=by omega
 have hb7:¬ ((c:Int) < (n:Int)+1):=by omega
 have hin:(i:Int) < (n:Int):=by omega
 have hin2:((i:Int) == (n:Int))=false:=by simp;omega
 have hwi:IntKind.i64.wrap ((i:Int)+1)=(i:Int)+1:=IntWalk.i64_in _ (by omega)
 have hwn:IntKind.i64.wrap ((n:Int)+1)=(n:Int)+1:=IntWalk.i64_in _ (by omega)
 have hti:((i:Int)+1).toNat=i+1:=by omega
 have htn:((n:Int)+1).toNat=n+1:=by omega
 have hi1:(0:Int)≤(i:Int)+1:=by omega
 have hi2:(i:Int)+1≤(n:Int)+1:=by omega
 have hi3:(i:Int)≤(n:Int):=by omega
 have hi4:(i:Int)≤(n:Int)+1:=by omega
 have hi5:(n:Int)+1≤(c:Int):=by omega
 have hi6:(0:Int)≤(n:Int)+1:=by omega
 have HX:=zh (And.intro hcp1 hcp2)
 clear hcp1 hcp2 hW1 hW2 hC1 hsp hC1l hdl k1 kv1 hxl hcell hul hvb hk hct hcs hCl hcm hcc hx
 go_enter Tryz.func159,Tryz.ntmps159
 go_wp2_with fail
 (try go_frame)
 go_still_tail 8,(by kernel_rfl)
 go_wp2_with (first
  |(with_reducible refine M2 _ rfl _ _ 50 50 rfl _ _ rfl rfl (HX.out.1 _ _ _) ?_)
  |(with_reducible refine M2 _ rfl _ _ 50 50 rfl _ _ rfl rfl (HX.out.2 _ _) ?_))
 go_ret
 exact⟨_,rfl,HRES.out.1,HRES.out.2⟩
theorem Zb (base:Nat) (v:Value) (n i:Nat) (us:List Value) (x:Ap) (vb:Nat) (w:World) (hown:w.ownsRow base 52 5 v n us) (hi:i≤n) (hn:n≤1048576) (hvb:Bk w vb 52 (A9 x).toArray)
  (hne:∀g,v.ownBlock=some g→vb≠g) (h1:∀u∈us,u.oneCell'=true) (hbase:base≤w.heap.size):
  Calls Tryz.prog 159 #[v,.int .i64 i,.slice (some ⟨vb,0,none⟩) 1 1] w fun e w'=>∃v',e= .returned v'∧w'.ownsRow base 52 5 v' (n+1) (Tk us i x)∧w.grownBy w' v.ownBlock:=by
 rcases Nat.lt_or_ge i n with h|h
 ·have hx:=hown.2
  rcases hx with h0|⟨g,cap,cur,rfl,hg,hh,r1,r2,r3,r4⟩
  ·omega
  ·have hv:Value.ownBlock (.slice (some ⟨g,0,none⟩) n cap)=some g:=rfl
   rcases Nat.lt_or_ge n cap with hc|hc
   ·exact Am9 base g n cap i us x vb w hown h hn hc hvb (hne g rfl) h1
   ·obtain rfl:cap=n:=by omega
    exact Afl base g cap i us x vb w hown h hn hvb h1 hbase
 ·obtain rfl:i=n:=by omega
  exact Ai8 base v i us x vb w hown hn hvb hbase
end Go.Proofs.YtaanpcjkflhomaaGreatDoor
