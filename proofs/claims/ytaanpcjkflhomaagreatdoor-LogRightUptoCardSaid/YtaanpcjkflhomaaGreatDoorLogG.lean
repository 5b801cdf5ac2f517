/-
  The reference's SameActs.
-/
import Derived.Test.YtaanpcjkflhomaaGreatDoorLogD
import Derived.Laws.StructEq
import Derived.IntWalk
set_option maxHeartbeats 20000000
set_option maxRecDepth 100000
set_option linter.unusedSimpArgs false
set_option linter.unusedVariables false
namespace Go.Proofs.YtaanpcjkflhomaaGreatDoor
open Go.RowKit
def Wt (x y:Cn):Bool:=x.kind == y.kind && (x.a == y.a && (x.b == y.b && (x.key.toList == y.key.toList && x.body.toList == y.body.toList)))
theorem Ane {x y:Cn} :Wt x y=true↔x=y:=by
 obtain⟨a,b,c,d,e⟩:=x
 obtain⟨a',b',c',d',e'⟩:=y
 simp only[Wt,Bool.and_eq_true,beq_iff_eq,Cn.mk.injEq]
 constructor
 ·rintro⟨h1,h2,h3,h4,h5⟩
  exact⟨h1,h2,h3,toList_inj h4,toList_inj h5⟩
 ·rintro⟨h1,h2,h3,h4,h5⟩
  exact⟨h1,h2,h3,by rw[h4],by rw[h5]⟩
def Hg:List Cn→List Cn→Bool
 | [],[]=>true
 |x::xs,y::ys=>Wt x y && Hg xs ys
 |_,_=>false
theorem Pv:∀ {xs ys:List Cn},Hg xs ys=true↔xs=ys
 | [],[]=>by simp[Hg]
 | [],y::ys=>by simp[Hg]
 |x::xs,[]=>by simp[Hg]
 |x::xs,y::ys=>by
  simp only[Hg,Bool.and_eq_true,List.cons.injEq,Ane,Pv]
theorem Aji {xs ys:List Cn} (h:xs.length≠ys.length):Hg xs ys=false:=by
 rw[←Bool.not_eq_true,Pv]
 rintro rfl
 exact h rfl
theorem Aft {xs ys:List Cn} {k:Nat} (h1:k < xs.length) (h2:k < ys.length):Hg (xs.drop k) (ys.drop k)=(Wt xs[k] ys[k] && Hg (xs.drop (k+1)) (ys.drop (k+1))):=by
 rw[List.drop_eq_getElem_cons h1,List.drop_eq_getElem_cons h2]
 rfl
theorem Avz (x y:Cn) (w:World):(Op.equalIn 10000 57 (.agg #[.int .i64 x.kind,.int .i64 x.a,.int .i64 x.b,.string x.key,.string x.body]) (.agg #[.int .i64 y.kind,.int .i64 y.a,.int .i64 y.b,.string y.key,.string y.body])).run Tryz.prog w= .ok (Wt x y) w:=by
 have u1:=Tryz.underlying3
 have a1:=Tryz.isAgg3
 have z1:=Tryz.sizeOf3
 have u2:=Tryz.underlying9
 have a2:=Tryz.isAgg9
 have z2:=Tryz.sizeOf9
 have hS:Tryz.prog.underlying 57=some (.struct (Tryz.prog.fieldsOf 57)):=by kernel_rfl
 have hH:Tryz.prog.stoodInHeld 57=false:=by kernel_rfl
 rw[show(10000:Nat)=9999+1 from rfl,run_equalIn_agg w 9999 57 _ _ hS hH]
 simp only[Program.fieldsOf,Tryz.underlying57]
 unfold Wt
 go_simp
 by_cases h1:x.kind=y.kind<;>by_cases h2:x.a=y.a<;>by_cases h3:x.b=y.b<;>by_cases h4:x.key.toList=y.key.toList<;>by_cases h5:x.body.toList=y.body.toList<;>simp[h1,h2,h3,h4,h5]
@[go_sem ↓] theorem Azd (x y:Cn) (w:World):(binOp .neq 57 (.agg #[.int .i64 x.kind,.int .i64 x.a,.int .i64 x.b,.string x.key,.string x.body]) (.agg #[.int .i64 y.kind,.int .i64 y.a,.int .i64 y.b,.string y.key,.string y.body])).run Tryz.prog w= .ok (.bool (!Wt x y)) w:=by
 rw[run_neq_struct,Avz];rfl
@[go_sem ↓] theorem Azc (x y:Cn) (w:World):(binOp .eql 57 (.agg #[.int .i64 x.kind,.int .i64 x.a,.int .i64 x.b,.string x.key,.string x.body]) (.agg #[.int .i64 y.kind,.int .i64 y.a,.int .i64 y.b,.string y.key,.string y.body])).run Tryz.prog w= .ok (.bool (Wt x y)) w:=by
 rw[run_eql_struct,Avz];rfl
@[go_sem] theorem Aw4:Tryz.prog.eqGuardType Tryz.prog.depth 57=false:=by kernel_rfl
theorem Ol {wr:World} {b o k:Nat} {x:Cn} (hc:∀j u,(Ez x)[j]? =some u→wr.cell? ⟨b,o+k * 5+j,none⟩=some u):
  wr.cell? ⟨b,o+k * 5,none⟩=some (.int .i64 x.kind)∧wr.cell? ⟨b,o+k * 5+1,none⟩=some (.int .i64 x.a)∧wr.cell? ⟨b,o+k * 5+2,none⟩=some (.int .i64 x.b)∧wr.cell? ⟨b,o+k * 5+3,none⟩=some (.string x.key)∧wr.cell? ⟨b,o+k * 5+4,none⟩=some (.string x.body):=
 ⟨hc 0 _ rfl,hc 1 _ rfl,hc 2 _ rfl,hc 3 _ rfl,hc 4 _ rfl⟩
def Aje (xs ys:List Cn) (B:Nat) (w:World) (i:Value) (wr:World):Prop:=
 ∃k:Nat,k≤xs.length∧i= .int .i64 k∧Hg (xs.drop k) (ys.drop k)=Hg xs ys∧Below B w wr
theorem Ad0 (a b:Option Addr) (c d:Nat) (xs ys:List Cn) (w:World) (lo:Nat) (hx:Sl w lo w.heap.size a (xs.flatMap Ez)) (hy:Sl w lo w.heap.size b (ys.flatMap Ez))
  (h1:xs.length≤4294967296) (_h2:ys.length≤4294967296):
  Calls Tryz.prog 41 #[.slice a xs.length c,.slice b ys.length d] w fun e w'=>e= .returned (.bool (Hg xs ys))∧Below w.heap.size w w':=by
 have HX:=zh hx;clear hx
 have HY:=zh hy;clear hy
 by_cases hl:xs.length=ys.length
 ·have hxy:(((xs.length:Int)) != (ys.length:Int))=false:=by simp[hl]
  have HL:=zh hl;clear hl
  go_enter Tryz.func41,Tryz.ntmps41
  go_wp2_with fail
  go_loopw [5] (fun i wr=>Aje xs ys w.heap.size w i wr) (fun i _=>xs.length - (intOf i).toNat)
  case atStart=>exact⟨0,by omega,rfl,rfl,zb _ _⟩
  case round=>
   obtain⟨k,hk,rfl,hq,hB⟩:=hrel
   have HQ:=zh hq;clear hq
   by_cases hlt:k < xs.length
   ·have hlt2:k < ys.length:=by rw[←HL.out];exact hlt
    obtain⟨g,o,ha,_,hb,hc⟩:=Bd Qz (by decide) HX.out hlt
    obtain⟨g2,o2,ha2,_,hb2,hc2⟩:=Bd Qz (by decide) HY.out hlt2
    subst ha ha2
    obtain⟨e0,e1,e2,e3,e4⟩:=Ol (wr:=wr) (b:=g) (o:=o) (k:=k) (x:=xs[k]) fun j u hu=>(hB.cell (p:=⟨g,_,none⟩) hb).trans (hc j u hu)
    obtain⟨d0,d1,d2,d3,d4⟩:=Ol (wr:=wr) (b:=g2) (o:=o2) (k:=k) (x:=ys[k]) fun j u hu=>(hB.cell (p:=⟨g2,_,none⟩) hb2).trans (hc2 j u hu)
    have hd:=Aft hlt hlt2
    have HD:=zh hd;clear hd hc hc2
    have HB:=zh hB;clear hB
    generalize xs[k]=x at *
    generalize ys[k]=y at *
    cases hq:Wt x y
    ·have HR:Hid (Hg xs ys=false):=(by rw[←HQ.out,HD.out,hq];rfl:Hg xs ys=false)
     go_wp2
     go_quiet (fail)
     all_goals go_wp2
     all_goals go_ret
     all_goals exact⟨by rw[HR.out];rfl,below_draws HB.out _⟩
    ·have HR:Hid (Hg (xs.drop (k+1)) (ys.drop (k+1))=Hg xs ys):=(by rw[←HQ.out,HD.out,hq];rfl:Hg (xs.drop (k+1)) (ys.drop (k+1))=Hg xs ys)
     go_wp2
     go_quiet (fail)
     all_goals go_wp2
     all_goals exact⟨⟨k+1,hlt,by go_num,HR.out,below_draws HB.out _⟩,by simp[intOf];omega⟩
   ·obtain rfl:k=xs.length:=by omega
    have HR:Hid (Hg xs ys=true):=by
     refine(?_:Hg xs ys=true)
     rw[←HQ.out,List.drop_eq_nil_of_le (zn _),List.drop_eq_nil_of_le (by rw[HL.out];exact zn _)]
     rfl
    go_wp2
    go_ret
    exact⟨by rw[HR.out];rfl,hB⟩
 ·have hxy:(((xs.length:Int)) != (ys.length:Int))=true:=by simp;omega
  have HR:=zh (Aji hl);clear hl
  go_enter Tryz.func41,Tryz.ntmps41
  go_wp2_with fail
  go_ret
  exact⟨by rw[HR.out];rfl,zb _ _⟩
end Go.Proofs.YtaanpcjkflhomaaGreatDoor
