/-
  Where a Seq stands in a right line: plain, and walked (lines.find, the library's BinarySearchFunc at letters).
-/
import Derived.Test.YtaanpcjkflhomaaGreatDoorLinesEA
set_option maxHeartbeats 20000000
set_option maxRecDepth 100000
set_option linter.unusedSimpArgs false
set_option linter.unusedVariables false
namespace Go.Proofs.YtaanpcjkflhomaaGreatDoor
open Go.RowKit
def Mo (l:List Ap) (s:Int):Nat:=l.countP fun y=>decide (y.seq < s)
theorem Ts {s:Int} :∀ {l:List Ap} {i:Nat},i≤l.length→(∀q y,q < i→l[q]? =some y→y.seq < s)→(∀q y,i≤q→l[q]? =some y→s≤y.seq)→Mo l s=i
 | [],i,hi,_,_=>by simp at hi;simp[Mo,hi]
 |a::r,0,_,_,h2=>by
  unfold Mo
  rw[List.countP_eq_zero]
  intro x hx
  obtain⟨t,ht⟩:=List.mem_iff_getElem?.1 hx
  have:=h2 t x (Nat.zero_le _) ht
  simp;omega
 |a::r,i+1,hi,h1,h2=>by
  have ha:a.seq < s:=h1 0 a (by omega) rfl
  have ih:=Ts (s:=s) (l:=r) (i:=i) (by simpa using hi) (fun q y hq hy=>h1 (q+1) y (by omega) (by simpa using hy)) (fun q y hq hy=>h2 (q+1) y (by omega) (by simpa using hy))
  unfold Mo at ih⊢
  rw[List.countP_cons_of_pos (by simpa using ha),ih]
def Aef (a b:Int):Int:=Lib.compareInt a b
theorem Agc {a b:Int} :Aef a b < 0↔a < b:=by
 unfold Aef Lib.compareInt
 split<;>(try split)<;>omega
theorem Abz {a b:Int} :Aef a b=0↔a=b:=by
 unfold Aef Lib.compareInt
 split<;>(try split)<;>omega
theorem Ss (x:Ap) (s:Int) (w:World):Calls Tryz.prog 169 #[.agg (A9 x).toArray,.int .i64 s] w fun e w'=>e= .returned (.int .i64 (Aef x.seq s))∧Below w.heap.size w w':=by
 unfold A9
 go_enter Tryz.func169,Tryz.ntmps169
 go_wp2_with fail
 refine(Tryz.cmp_Compare_int x.seq s _).mono ?_
 rintro e w1 ⟨rfl,rfl⟩
 go_wp2_with fail
 go_ret
 exact⟨rfl,(zb _ _).alloc (zn _) _⟩
theorem Arc:∀args w,(callFunc 169 args).run Tryz.prog w= .ok (.enter 169 args) w:=enters_of Tryz.func169 (by kernel_rfl) rfl
theorem R6 {l:List Ap} (h:l.Pairwise fun x y=>x.seq < y.seq) {p q:Nat} {x y:Ap} (hpq:p < q) (hx:l[p]? =some x) (hy:l[q]? =some y):x.seq < y.seq:=by
 obtain⟨h1,rfl⟩:=List.getElem?_eq_some_iff.1 hx
 obtain⟨h2,rfl⟩:=List.getElem?_eq_some_iff.1 hy
 exact(List.pairwise_iff_getElem.1 h) p q h1 h2 hpq
def At1 (l:List Ap) (s:Int) (w:World) (i j:Value) (wr:World):Prop:=
 ∃lo hi:Nat,i= .int .i64 lo∧j= .int .i64 hi∧lo≤hi∧hi≤l.length∧(∀q y,q < lo→l[q]? =some y→y.seq < s)∧(∀q y,hi≤q→l[q]? =some y→s≤y.seq)∧Below w.heap.size w wr
theorem Awt {l:List Ap} {s:Int} (hs:l.Pairwise fun x y=>x.seq < y.seq) {k:Nat} (h1:∀q y,q < k→l[q]? =some y→y.seq < s) (h2:∀q y,k≤q→l[q]? =some y→s≤y.seq):
  l.any (fun y=>decide (y.seq=s))=match l[k]? with|some y=>decide (y.seq=s)|none=>false:=by
 rw[Bool.eq_iff_iff,List.any_eq_true]
 constructor
 ·rintro⟨x,hx,he⟩
  obtain⟨q,hq⟩:=List.mem_iff_getElem?.1 hx
  have he':x.seq=s:=by simpa using he
  have hkq:k≤q:=by
   rcases Nat.lt_or_ge q k with h|h
   ·have:=h1 q x h hq;omega
   ·exact h
  rcases Nat.lt_or_ge k q with h|h
  ·have hkl:k < l.length:=Nat.lt_trans h (List.getElem?_eq_some_iff.1 hq).1
   have:=R6 hs h (zG hkl) hq
   have:=h2 k _ (zn _) (zG hkl)
   omega
  ·obtain rfl:q=k:=by omega
   rw[hq]
   simpa using he'
 ·intro h
  cases hk:l[k]? with
  |none=>rw[hk] at h;cases h
  |some y=>
   rw[hk] at h
   exact⟨y,List.mem_of_getElem? hk,h⟩
theorem Af6 (a:Option Addr) (c:Nat) (l:List Ap) (s:Int) (lo:Nat) (w:World) (hl:Sl w lo w.heap.size a (l.flatMap A9)) (hll:l.length≤1048576) (hs:l.Pairwise fun x y=>x.seq < y.seq):
  Calls Tryz.prog 168 #[.slice a l.length c,.int .i64 s,.func (.func 169) #[] #[]] w fun e w'=>
   e= .returned (.tuple #[.int .i64 (Mo l s),.bool (l.any fun y=>decide (y.seq=s))])∧Below w.heap.size w w':=by
 have HL:=zh hl;clear hl
 have HS:=zh hs;clear hs
 have eg:=Arc
 go_enter Tryz.func168,Tryz.ntmps168
 go_wp2_with fail
 go_loopw [9,10] (fun i j wr=>At1 l s w i j wr) (fun i j _=>(intOf j).toNat - (intOf i).toNat)
 case atStart=>exact⟨0,l.length,rfl,rfl,by omega,zn _,(fun q y hq=>absurd hq (by omega)),(fun q y hq hy=>by have:=(List.getElem?_eq_some_iff.1 hy).1;omega),zb _ _⟩
 case round=>
  obtain⟨i,j,rfl,rfl,hij,hjn,h1,h2,hB⟩:=hrel
  have H1:=zh h1;have H2:=zh h2;clear h1 h2
  have HB:=zh hB
  by_cases hlt:i < j
  ·obtain⟨h,hh⟩:∃h,(i+j) / 2=h:=⟨_,rfl⟩
   have hhl:h < l.length:=by omega
   obtain⟨b,o,ha,_,hb,hc⟩:=Bd Cg (by decide) HL.out hhl
   subst ha
   obtain⟨e0,e1,e2,e3,e4⟩:=Hk (wr:=wr) (b:=b) (o:=o) (k:=h) (x:=l[h]) fun q u hu=>(hB.cell (p:=⟨b,_,none⟩) hb).trans (hc q u hu)
   clear hc hB
   have hyh:l[h]? =some l[h]:=zG hhl
   have HY:=zh hyh;clear hyh
   generalize l[h]=y at *
   have HH:=zh hh
   subst hh
   by_cases hyx:Aef y.seq s < 0
   ·go_wp2_with fail
    refine(Ss y s _).mono ?_
    rintro e w1 ⟨rfl,hb1⟩
    have HB1:=zh (HB.out.trans (hb1.mono HB.out.size));clear hb1
    go_wp2_with fail
    refine⟨⟨(i+j) / 2+1,j,by rw[show((i:Int)+(j:Int)) / 2+1=(((i+j) / 2+1:Nat):Int) by omega],rfl,by omega,hjn,fun q z hq hz=> ?_,H2.out,HB1.out⟩,by simp[intOf];omega⟩
    have hys:=Agc.1 hyx
    rcases Nat.lt_or_ge q ((i+j) / 2) with h|h
    ·have:=R6 HS.out h hz HY.out;omega
    ·obtain rfl:q=(i+j) / 2:=by omega
     rw[HY.out] at hz
     cases hz
     exact hys
   ·go_wp2_with fail
    refine(Ss y s _).mono ?_
    rintro e w1 ⟨rfl,hb1⟩
    have HB1:=zh (HB.out.trans (hb1.mono HB.out.size));clear hb1
    go_wp2_with fail
    refine⟨⟨i,(i+j) / 2,rfl,by rw[show((i:Int)+(j:Int)) / 2=(((i+j) / 2:Nat):Int) by omega],by omega,by omega,H1.out,fun q z hq hz=> ?_,HB1.out⟩,by simp[intOf];omega⟩
    have hys:s≤y.seq:=by
     by_cases h:y.seq < s
     ·have:=Agc.2 h;omega
     ·omega
    rcases Nat.lt_or_ge ((i+j) / 2) q with h|h
    ·have:=R6 HS.out h HY.out hz;omega
    ·obtain rfl:q=(i+j) / 2:=by omega
     rw[HY.out] at hz
     cases hz
     exact hys
  ·obtain rfl:i=j:=by omega
   have HC:=zh (Ts hjn H1.out H2.out)
   have HA:=zh (Awt HS.out H1.out H2.out)
   by_cases hn:i < l.length
   ·obtain⟨b,o,ha,_,hb,hc⟩:=Bd Cg (by decide) HL.out hn
    subst ha
    obtain⟨e0,e1,e2,e3,e4⟩:=Hk (wr:=wr) (b:=b) (o:=o) (k:=i) (x:=l[i]) fun q u hu=>(hB.cell (p:=⟨b,_,none⟩) hb).trans (hc q u hu)
    clear hc hB
    have HA2:Hid (l.any (fun y=>decide (y.seq=s))=decide (l[i].seq=s)):=by
     refine(?_:l.any (fun y=>decide (y.seq=s))=decide (l[i].seq=s))
     rw[HA.out,zG hn]
    generalize l[i]=y at *
    by_cases hyx:Aef y.seq s=0
    ·have HA3:Hid (l.any (fun y=>decide (y.seq=s))=true):=(HA2.out.trans (decide_eq_true (Abz.1 hyx)):l.any (fun y=>decide (y.seq=s))=true)
     have b0:(Aef y.seq s == 0)=true:=by simp[hyx]
     clear hyx
     go_wp2_with fail
     refine(Ss y s _).mono ?_
     rintro e w1 ⟨rfl,hb1⟩
     have HB1:=zh (HB.out.trans (hb1.mono HB.out.size));clear hb1
     go_wp2_with fail
     go_ret2
     exact⟨by rw[HA3.out,HC.out];rfl,HB1.out⟩
    ·have HA3:Hid (l.any (fun y=>decide (y.seq=s))=false):=(HA2.out.trans (decide_eq_false (mt Abz.2 hyx)):l.any (fun y=>decide (y.seq=s))=false)
     have b0:(Aef y.seq s == 0)=false:=by simp[hyx]
     clear hyx
     go_wp2_with fail
     refine(Ss y s _).mono ?_
     rintro e w1 ⟨rfl,hb1⟩
     have HB1:=zh (HB.out.trans (hb1.mono HB.out.size));clear hb1
     go_wp2_with fail
     go_ret2
     exact⟨by rw[HA3.out,HC.out];rfl,HB1.out⟩
   ·have HA3:Hid (l.any (fun y=>decide (y.seq=s))=false):=by
     refine(?_:l.any (fun y=>decide (y.seq=s))=false)
     rw[HA.out,List.getElem?_eq_none (by omega)]
    clear hB
    go_wp2_with fail
    go_ret2
    exact⟨by rw[HA3.out,HC.out];rfl,HB.out⟩
theorem Alx (a:Option Addr) (c:Nat) (l:List Ap) (s:Int) (lo:Nat) (w:World) (hl:Sl w lo w.heap.size a (l.flatMap A9)) (hll:l.length≤1048576) (hs:l.Pairwise fun x y=>x.seq < y.seq):
  Calls Tryz.prog 158 #[.slice a l.length c,.int .i64 s] w fun e w'=>e= .returned (.tuple #[.int .i64 (Mo l s),.bool (l.any fun y=>decide (y.seq=s))])∧Below w.heap.size w w':=by
 have HB:=zh (Af6 a c l s lo w hl hll hs);clear hl hs
 generalize (l.any fun y=>decide (y.seq=s))=bb at *
 generalize Mo l s=k at *
 go_enter Tryz.func158,Tryz.ntmps158
 go_wp2_with fail
 refine HB.out.mono ?_
 rintro e w1 ⟨rfl,hb1⟩
 go_wp2_with fail
 go_ret2
 exact⟨rfl,hb1⟩
end Go.Proofs.YtaanpcjkflhomaaGreatDoor
