/-
  The walks of SplitOf and SameTexts.
-/
import Derived.Test.YtaanpcjkflhomaaGreatDoorBunB
set_option linter.unusedSimpArgs false
set_option linter.unusedVariables false
namespace Go.Proofs.YtaanpcjkflhomaaGreatDoor
open Go.RowKit
set_option maxRecDepth 100000
def SameTRel (xs ys : List ByteArray) (B : Nat) (w : World) (i : Value) (wr : World) : Prop :=
 ∃ k : Nat,k ≤ xs.length ∧ i = .int .i64 k ∧ Below B w wr ∧ xs.take k = ys.take k
theorem take_step {α : Type} {xs ys : List α} {k : Nat} (h : xs.take k = ys.take k) (h1 : k < xs.length) (h2 : k < ys.length) (he : xs[k] = ys[k]) : xs.take (k + 1) = ys.take (k + 1) := by
 rw [List.take_add_one,List.take_add_one,h,List.getElem?_eq_getElem h1,List.getElem?_eq_getElem h2,he]
set_option maxHeartbeats 1000000 in
theorem SameTexts_any (a b : Option Addr) (c d : Nat) (xs ys : List ByteArray) (w : World) (lo : Nat) (hx : Sl w lo w.heap.size a (xs.map Value.string)) (hy : Sl w lo w.heap.size b (ys.map Value.string))
  (h1 : xs.length ≤ 4294967296) (h2 : ys.length ≤ 4294967296) :
  Calls Tryz.prog 30 #[.slice a xs.length c,.slice b ys.length d] w fun e w' => e = .returned (.bool (decide (xs = ys))) ∧ Below w.heap.size w w' := by
 have HX := Lib.hid hx; clear hx
 have HY := Lib.hid hy; clear hy
 by_cases hl : xs.length = ys.length
 ·have hl' : ((xs.length : Int) != (ys.length : Int)) = false := by simp [hl]
  have HL := Lib.hid hl; clear hl
  go_enter Tryz.func30,Tryz.ntmps30
  go_wp2
  go_loopw [5] (fun i wr => SameTRel xs ys w.heap.size w i wr) (fun i _ => xs.length - (intOf i).toNat)
  case atStart => exact ⟨0,by omega,rfl,Below.refl _ _,rfl⟩
  case round =>
   obtain ⟨k,hk,rfl,hB,hall⟩ := hrel
   have HA := Lib.hid hall; clear hall
   by_cases hlt : k < xs.length
   ·have hlt2 : k < ys.length := by have := HL.out; omega
    obtain ⟨b1,o1,rfl,hb1,hc1⟩ := sl_string HX.out hlt
    obtain ⟨b2,o2,rfl,hb2,hc2⟩ := sl_string HY.out hlt2
    have hc1' := (hB.cell (p := ⟨b1,o1 + k,none⟩) hb1).trans hc1
    have hc2' := (hB.cell (p := ⟨b2,o2 + k,none⟩) hb2).trans hc2
    clear hc1 hc2 hb1 hb2
    go_wp2
    go_quiet (fail)
    all_goals go_wp2
    ·have hne : ¬ xs = ys := by
      rintro rfl
      simp_all
     go_ret
     exact ⟨by rw [decide_eq_false hne]; rfl,below_draws hB _⟩
    ·have he : xs[k] = ys[k] := toList_inj (by simp_all)
     exact ⟨⟨k + 1,by omega,by go_num,below_draws hB _,take_step HA.out hlt hlt2 he⟩,by simp [intOf]; omega⟩
   ·go_wp2
    go_ret
    refine ⟨?_,hB⟩
    have : xs = ys := by
     have := HA.out
     rwa [List.take_of_length_le (by omega),List.take_of_length_le (by have := HL.out; omega)] at this
    rw [decide_eq_true this]; rfl
 ·have hl' : ((xs.length : Int) != (ys.length : Int)) = true := by simp; omega
  have hne : ¬ xs = ys := fun e => hl (by rw [e])
  have HN := Lib.hid hne; clear hne hl
  go_enter Tryz.func30,Tryz.ntmps30
  go_wp2
  go_ret
  exact ⟨by rw [decide_eq_false HN.out]; rfl,Below.refl _ _⟩
end Go.Proofs.YtaanpcjkflhomaaGreatDoor
