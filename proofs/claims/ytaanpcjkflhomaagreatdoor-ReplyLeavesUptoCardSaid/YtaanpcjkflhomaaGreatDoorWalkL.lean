/-
  The walks of the references laid, Fit.
-/
import Derived.Test.YtaanpcjkflhomaaGreatDoorBunB
set_option linter.unusedSimpArgs false
set_option linter.unusedVariables false
namespace Go.Proofs.YtaanpcjkflhomaaGreatDoor
open Go.RowKit
set_option maxRecDepth 100000
set_option maxHeartbeats 1000000 in
theorem laid_any : ∀ (ps ks : List ByteArray) (a b : Option Addr) (c d lo hi : Nat) (w : World), Sl w lo hi a (ps.map Value.string) → Sl w lo hi b (ks.map Value.string) → ps.length ≤ c → ks.length ≤ d →
  ps.length ≤ 4294967296 → ks.length ≤ 4294967296 →
  Calls Tryz.prog 178 #[.slice a ps.length c, .slice b ks.length d] w fun e w' => e = .returned (.bool (laidP (tl ps) (tl ks))) ∧ ∃ n, w' = w.drewN n
 | [], ks, a, b, c, d, lo, hi, w, ha, hb, hc, hd, h1, h2 => by
  have hl : laidP (tl []) (tl ks) = decide (ks.length = 0) := by cases ks <;> simp [laidP, tl]
  have HL := Lib.hid hl; clear hl ha hb
  go_enter Tryz.func178, Tryz.ntmps178
  go_wp2
  go_ret
  exact ⟨by rw [HL.out]; refine congrArg (fun b => Ending.returned (Value.bool b)) ?_; rw [Bool.eq_iff_iff]; simp, 0, rfl⟩
 | p :: ps, ks, a, b, c, d, lo, hi, w, ha, hb, hc, hd, h1, h2 => by
  simp only [List.length_cons] at hc h1
  have ih := laid_any ps
  have HIH := Lib.hid ih; clear ih
  have HB := Lib.hid hb
  obtain ⟨A1, hs1, hA1⟩ := cut_strs ha rfl hc 1 1 rfl (by simp)
  have HA1 := Lib.hid hA1; clear hA1
  simp only [List.length_cons, Nat.add_sub_cancel, List.drop_succ_cons, List.drop_zero] at hs1 HA1
  obtain ⟨b1, o1, rfl, hb1, hc1⟩ := sl_string (k := 0) ha (by simp)
  have hc1' : w.cell? ⟨b1, o1, none⟩ = some (.string p) := by simpa using hc1
  clear hc1 ha
  by_cases hp : p.toList = [35]
  ·have hp' : (p.toList == [35]) = true := by simp [hp]
   have hl : laidP (tl (p :: ps)) (tl ks) = (List.range (ks.length + 1)).any fun n => laidP (tl ps) ((tl ks).drop n) := by simp [laidP, tl, hp]
   have HL := Lib.hid hl; clear hl hp
   have hn : (((ps.length : Int) + 1) == 0) = false := by simp; omega
   go_enter Tryz.func178, Tryz.ntmps178
   go_wp2
   go_loopw [5] (fun i wr => LaidRel (tl ps) (tl ks) w i wr) (fun i _ => ks.length + 1 - (intOf i).toNat)
   case atStart => exact ⟨0, 0, by omega, rfl, rfl, fun j hj => absurd hj (by omega)⟩
   case round =>
    obtain ⟨k, m, hk, rfl, hw, hall⟩ := hrel
    have HA := Lib.hid hall; clear hall
    have HW := Lib.hid hw; clear hw
    have HAr : Hid (Sl wr lo hi A1 (ps.map Value.string)) := by rw [HW.out]; exact HA1.out
    have hBr : Sl wr lo hi b (ks.map Value.string) := by rw [HW.out]; exact HB.out
    have HBr := Lib.hid hBr; clear hBr
    simp only [tl, List.length_map] at hk
    by_cases hlt : k ≤ ks.length
    ·obtain ⟨A2, hs2, hA2⟩ := cut_strs HBr.out rfl hd k (k : Int) rfl hlt
     have HA2 := Lib.hid hA2; clear hA2
     obtain ⟨q, hq⟩ : ∃ q, laidP (tl ps) ((tl ks).drop k) = q := ⟨_, rfl⟩
     have ihk : ∀ W, Sl W lo hi A1 (ps.map Value.string) → Sl W lo hi A2 ((ks.drop k).map Value.string) → Calls Tryz.prog 178 #[.slice A1 ps.length (c - 1), .slice A2 (ks.length - k) (d - k)] W fun e w' =>
       e = .returned (.bool q) ∧ ∃ n, w' = W.drewN n := fun W h3 h4 => by
      have := HIH.out (ks.drop k) A1 A2 (c - 1) (d - k) lo hi W h3 h4 (by omega) (by rw [List.length_drop]; omega) (by omega) (by rw [List.length_drop]; omega)
      rw [List.length_drop, show tl (ks.drop k) = (tl ks).drop k from List.map_drop, hq] at this
      exact this
     have HK := Lib.hid ihk; clear ihk
     have HQ := Lib.hid hq; clear hq
     cases q
     ·go_wp2
      go_quiet ((go_at_call 178; refine Calls.quiet_of (HK.out _ HAr.out HA2.out)))
      all_goals go_wp2
      go_roundw
      case rel =>
       refine ⟨k + 1, _, by simp [tl]; omega, by go_num, by rw [HW.out]; exact World.drewN_drewN _ _ _, fun j hj => ?_⟩
       rcases Nat.lt_or_ge j k with h | h
       ·exact HA.out j h
       ·obtain rfl : j = k := by omega
        exact HQ.out
      case measure => simp [intOf]; omega
     ·have hl : laidP (tl (p :: ps)) (tl ks) = true := by
       rw [HL.out, List.any_eq_true]
       exact ⟨k, List.mem_range.2 (by omega), HQ.out⟩
      have HL2 := Lib.hid hl; clear hl
      go_wp2
      go_quiet ((go_at_call 178; refine Calls.quiet_of (HK.out _ HAr.out HA2.out)))
      all_goals go_wp2
      go_ret
      exact ⟨by rw [HL2.out]; rfl, _, by rw [HW.out]; exact World.drewN_drewN _ _ _⟩
    ·have hl : laidP (tl (p :: ps)) (tl ks) = false := by
      rw [HL.out, List.any_eq_false]
      intro j hj
      rw [HA.out j (by have := List.mem_range.1 hj; omega)]
      decide
     have HL2 := Lib.hid hl; clear hl
     go_wp2
     go_ret
     exact ⟨by rw [HL2.out]; rfl, _, HW.out⟩
  ·have hp' : (p.toList == [35]) = false := by simp [hp]
   have hn : (((ps.length : Int) + 1) == 0) = false := by simp; omega
   clear hp
   cases ks with
   | nil =>
    have hl : laidP (tl (p :: ps)) (tl []) = false := by simp [laidP, tl, show ¬ p.toList = [35] from by simpa using hp']
    have HL := Lib.hid hl; clear hl
    clear hb
    go_enter Tryz.func178, Tryz.ntmps178
    go_wp2
    go_quiet (fail)
    all_goals go_wp2
    go_ret
    exact ⟨by rw [HL.out]; rfl, _, rfl⟩
   | cons x r =>
    have hl : laidP (tl (p :: ps)) (tl (x :: r)) = ((p.toList == [42] || p.toList == x.toList) && laidP (tl ps) (tl r)) := by simp [laidP, tl, show ¬ p.toList = [35] from by simpa using hp']
    have HL := Lib.hid hl; clear hl
    obtain ⟨b2, o2, rfl, hb2, hc2⟩ := sl_string (k := 0) hb (by simp)
    simp only [List.length_cons] at hd h2
    have hc2' : w.cell? ⟨b2, o2, none⟩ = some (.string x) := by simpa using hc2
    clear hc2 hb
    obtain ⟨A2, hs2, hA2⟩ := cut_strs HB.out rfl hd 1 1 rfl (by simp)
    have HA2 := Lib.hid hA2; clear hA2
    simp only [List.length_cons, Nat.add_sub_cancel, List.drop_succ_cons, List.drop_zero] at hs2 HA2
    by_cases hs : (p.toList == [42]) = true
    ·go_enter Tryz.func178, Tryz.ntmps178
     go_wp2
     go_quiet ((go_at_call 178; refine Calls.quiet_of (HIH.out r _ _ _ _ lo hi _ HA1.out HA2.out (by omega) (by omega) (by omega) (by omega))))
     all_goals go_wp2
     go_ret
     exact ⟨by rw [HL.out, hs, Bool.true_or, Bool.true_and]; rfl, _, rfl⟩
    ·have hs' : (p.toList == [42]) = false := by simpa using hs
     clear hs
     by_cases hm : (p.toList == x.toList) = true
     ·go_enter Tryz.func178, Tryz.ntmps178
      go_wp2
      go_quiet ((go_at_call 178; refine Calls.quiet_of (HIH.out r _ _ _ _ lo hi _ HA1.out HA2.out (by omega) (by omega) (by omega) (by omega))))
      all_goals go_wp2
      go_ret
      exact ⟨by rw [HL.out, hm, Bool.or_true, Bool.true_and]; rfl, _, rfl⟩
     ·have hm' : (p.toList == x.toList) = false := by simpa using hm
      clear hm
      go_enter Tryz.func178, Tryz.ntmps178
      go_wp2
      go_quiet (fail)
      all_goals go_wp2
      go_ret
      exact ⟨by rw [HL.out, hs', hm']; rfl, _, rfl⟩
set_option maxHeartbeats 400000 in
theorem refFit_any (p k : ByteArray) (w : World) (hp : p.size ≤ 4294967281) (hk : k.size ≤ 4294967281) :
  Calls Tryz.prog 164 #[.string p, .string k] w fun e w' => e = .returned (.bool (fitP p k)) ∧ Below w.heap.size w w' := by
 have l1 := parts_len_le p
 have l2 := parts_len_le k
 go_enter Tryz.func164, Tryz.ntmps164
 go_wp2_with fail
 refine (refSplit46 p _ hp).mono ?_
 rintro e w1 ⟨a1, c1, rfl, hs1, hc1, hb1⟩
 have HS1 := Lib.hid hs1; clear hs1
 go_wp2_with fail
 refine (refSplit46 k _ hk).mono ?_
 rintro e w2 ⟨a2, c2, rfl, hs2, hc2, hb2⟩
 go_wp2_with fail
 refine (laid_any (parts p) (parts k) a1 a2 c1 c2 w.heap.size w2.heap.size w2 ((HS1.out.below hb2 (Nat.le_refl _)).wider (Nat.le_refl _) hb2.size) (hs2.wider hb1.size (Nat.le_refl _)) hc1 hc2 (by omega) (by omega)).mono ?_
 rintro e w3 ⟨rfl, n, rfl⟩
 go_wp2_with fail
 go_ret
 exact ⟨rfl, below_draws (hb1.trans (hb2.mono hb1.size)) n⟩
end Go.Proofs.YtaanpcjkflhomaaGreatDoor
