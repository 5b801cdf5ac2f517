/-
  Arguments opened: an act; a list of acts.
-/
import Derived.Test.YtaanpcjkflhomaaGreatDoorBunA
import Derived.Test.YtaanpcjkflhomaaGreatDoorActD
set_option maxHeartbeats 20000000
set_option maxRecDepth 100000
set_option linter.unusedSimpArgs false
set_option linter.unusedVariables false
namespace Go.Proofs.YtaanpcjkflhomaaGreatDoor
open Go.RowKit Go.ChangeShapes Go.WideShapes Go.Deep
section
variable {H:Type} {encH:TypeId×Value→H} {w:World} {base:Nat} {spare:Nat→Bool} {held:Bool} {n:Nat} {cs:List Value} {y:DataW H×List MemPlace}
theorem Ayj:Tryz.prog.cellsOf 57=5:=by kernel_rfl
theorem Aqg (h:DataW.trod encH Tryz.prog w base spare held n 57 cs=some y):∃x,cs=Ez x∧Atu y.1 x:=by
 obtain⟨xs,m,hx,hl,hlen,hf⟩:=Ga Tryz.underlying57 h
 obtain⟨c0,c1,c2,c3,c4,rfl⟩:=Ayq (hl.trans Ayj)
 obtain⟨y0,m0,h0⟩:=Co hf 0 rfl Oo
 obtain⟨y1,m1,h1⟩:=Co hf 1 rfl Oo
 obtain⟨y2,m2,h2⟩:=Co hf 2 rfl Oo
 obtain⟨y3,m3,h3⟩:=Co hf 3 rfl N1
 obtain⟨y4,m4,h4⟩:=Co hf 4 rfl N1
 obtain⟨i,rfl,hi⟩:=Hj h0
 obtain⟨j,rfl,hj⟩:=Hj h1
 obtain⟨q,rfl,hq⟩:=Hj h2
 obtain⟨k,rfl,hk⟩:=Kg h3
 obtain⟨b,rfl,hb⟩:=Kg h4
 rw[hx]
 exact⟨⟨i,j,q,k,b⟩,rfl,Nat.lt_trans hk (Gg m3),Nat.lt_trans hb (Gg m4),hi,hj,hq⟩
theorem Atu.small {d:DataW H} {x:Cn} (h:Atu d x) (hB:Rows.uptoBulk d≤1048576):Eb x:=by
 obtain⟨h1,h2,h3,h4,h5⟩:=h
 unfold i64 at h3 h4 h5
 exact⟨by omega,by omega,by omega,by omega,by omega⟩
theorem Acx {r:Go.Reach} {b0:Nat} {v:Value} {d:DataW H} {p:List MemPlace} (hv:Value.okWide Tryz.prog w r b0 57 v) (h:DataW.Trod encH Tryz.prog w base spare held 57 v d p) (hB:Rows.uptoBulk d≤1048576):
  ∃x:Cn,v= .agg (Ez x).toArray∧Eb x:=by
 obtain⟨cs,rfl,hsz⟩:=okWide_struct Tryz.underlying57 hv
 obtain⟨fuel,hf⟩:=h
 obtain⟨x,hc,hr⟩:=Aqg hf
 refine⟨x,congrArg Value.agg (Array.toList_inj.1 ?_),hr.small hB⟩
 exact hc
end
end Go.Proofs.YtaanpcjkflhomaaGreatDoor
