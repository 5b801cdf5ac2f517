/-
  Arguments opened: an act; a list of acts.
-/
import Derived.Test.YtaanpcjkflhomaaGreatDoorBunA
import Derived.Test.YtaanpcjkflhomaaGreatDoorActD
set_option linter.unusedSimpArgs false
set_option linter.unusedVariables false
namespace Go.Proofs.YtaanpcjkflhomaaGreatDoor
open Go.RowKit Go.ChangeShapes Go.WideShapes Go.Deep
set_option maxRecDepth 100000
section
variable {H : Type} {encH : TypeId × Value → H} {w : World} {base : Nat} {spare : Nat → Bool} {held : Bool} {n : Nat} {cs : List Value} {y : DataW H × List MemPlace}
theorem cAct : Tryz.prog.cellsOf 57 = 5 := by kernel_rfl
theorem act_in (h : DataW.trod encH Tryz.prog w base spare held n 57 cs = some y) : ∃ x,cs = vAct x ∧ ActR y.1 x := by
 obtain ⟨xs,m,hx,hl,hlen,hf⟩ := cells_struct Tryz.underlying57 h
 obtain ⟨c0,c1,c2,c3,c4,rfl⟩ := len5 (hl.trans cAct)
 obtain ⟨y0,m0,h0⟩ := field_of hf 0 rfl cInt
 obtain ⟨y1,m1,h1⟩ := field_of hf 1 rfl cInt
 obtain ⟨y2,m2,h2⟩ := field_of hf 2 rfl cInt
 obtain ⟨y3,m3,h3⟩ := field_of hf 3 rfl cString
 obtain ⟨y4,m4,h4⟩ := field_of hf 4 rfl cString
 obtain ⟨i,rfl,hi⟩ := int_in h0
 obtain ⟨j,rfl,hj⟩ := int_in h1
 obtain ⟨q,rfl,hq⟩ := int_in h2
 obtain ⟨k,rfl,hk⟩ := string_in h3
 obtain ⟨b,rfl,hb⟩ := string_in h4
 rw [hx]
 exact ⟨⟨i,j,q,k,b⟩,rfl,Nat.lt_trans hk (bulk_agg m3),Nat.lt_trans hb (bulk_agg m4),hi,hj,hq⟩
theorem ActR.small {d : DataW H} {x : ActD} (h : ActR d x) (hB : Rows.uptoBulk d ≤ 1048576) : ActSmall x := by
 obtain ⟨h1,h2,h3,h4,h5⟩ := h
 unfold i64 at h3 h4 h5
 exact ⟨by omega,by omega,by omega,by omega,by omega⟩
theorem open_act {r : Go.Reach} {b0 : Nat} {v : Value} {d : DataW H} {p : List MemPlace} (hv : Value.okWide Tryz.prog w r b0 57 v) (h : DataW.Trod encH Tryz.prog w base spare held 57 v d p) (hB : Rows.uptoBulk d ≤ 1048576) :
  ∃ x : ActD,v = .agg (vAct x).toArray ∧ ActSmall x := by
 obtain ⟨cs,rfl,hsz⟩ := okWide_struct Tryz.underlying57 hv
 obtain ⟨fuel,hf⟩ := h
 obtain ⟨x,hc,hr⟩ := act_in hf
 refine ⟨x,congrArg Value.agg (Array.toList_inj.1 ?_),hr.small hB⟩
 exact hc
end
end Go.Proofs.YtaanpcjkflhomaaGreatDoor
