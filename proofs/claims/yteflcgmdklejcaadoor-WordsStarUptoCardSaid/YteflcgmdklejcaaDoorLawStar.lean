/-
  WordsStar: the law answers true at every key of fewer than 2^20 bytes and every number.
-/
import Derived.Test.YteflcgmdklejcaaDoorBegunA
import Derived.Test.YteflcgmdklejcaaDoorTruePure
namespace Go.Proofs.YteflcgmdklejcaaDoor
open Go.RowKit

/-- A sign, and so many stars behind it. -/
def st (c : UInt8) : Nat → ByteArray
  | 0 => ⟨#[c]⟩
  | i + 1 => st c i ++ ⟨#[46, 42]⟩

theorem st_size (c : UInt8) : ∀ i, (st c i).size = 1 + 2 * i
  | 0 => rfl
  | i + 1 => by rw [st, ByteArray.size_append, st_size c i, show (⟨#[46, 42]⟩ : ByteArray).size = 2 from rfl]; omega
theorem st_dots (c : UInt8) (hc : c ≠ 46) : ∀ i, dots (st c i).toList = [c] :: List.replicate i [42]
  | 0 => by rw [st, ByteArray.toList_eq]; simp [dots, hc]
  | i + 1 => by
    rw [st, append_toList, show ((⟨#[46, 42]⟩ : ByteArray)).toList = 46 :: [42] from by rw [ByteArray.toList_eq], dots_append, st_dots c hc i, List.cons_append]
    congr 1
    rw [List.replicate_succ']
    rfl
theorem st_ok (c : UInt8) (hc : c ≠ 46) (hw : isWild [c] = true) (i : Nat) (hi : i ≤ 5) : splitErr isWild (st c i) = 0 := by
  refine splitErr_zero (by rw [toList_len, st_size]; omega) (by rw [st_dots c hc]; simp; omega) ?_
  rw [st_dots c hc]
  intro w hw'
  rcases List.mem_cons.1 hw' with rfl | h
  · exact hw
  · rw [List.eq_of_mem_replicate h]; decide

theorem laid_stars : ∀ (i : Nat) (ks : List (List UInt8)), laidP (List.replicate i [42]) ks = decide (ks.length = i)
  | 0, ks => by cases ks <;> simp [laidP]
  | i + 1, [] => by rw [List.replicate_succ, laidP_word (by decide)]; simp
  | i + 1, k :: ks => by
    rw [List.replicate_succ, laidP_cons (by decide), laid_stars i ks, Bool.eq_iff_iff]
    simp
theorem laid_mixed (i : Nat) (ks : List (List UInt8)) : laidP ([35] :: List.replicate i [42]) ks = decide (i ≤ ks.length) := by
  rw [Bool.eq_iff_iff, laidP_hash]
  simp only [laid_stars, decide_eq_true_eq, List.length_drop]
  constructor
  · rintro ⟨n, h1, h2⟩; omega
  · intro h; exact ⟨ks.length - i, by omega, by omega⟩

theorem match_stars {k : ByteArray} (h : splitErr isWord k = 0) (i : Nat) (hi : i ≤ 5) : matchErr (st 42 i) k = 0 ∧ matchIs (st 42 i) k = decide ((parts k).length = i + 1) := by
  have he : matchErr (st 42 i) k = 0 := by simp [matchErr, st_ok 42 (by decide) (by decide) i hi, h]
  refine ⟨he, ?_⟩
  unfold matchIs
  rw [if_pos he, fitP_list, st_dots 42 (by decide), ← List.replicate_succ, laid_stars, ← parts_data, List.length_map]
theorem match_mixed {k : ByteArray} (h : splitErr isWord k = 0) (i : Nat) (hi : i ≤ 5) : matchErr (st 35 i) k = 0 ∧ matchIs (st 35 i) k = decide (i ≤ (parts k).length) := by
  have he : matchErr (st 35 i) k = 0 := by simp [matchErr, st_ok 35 (by decide) (by decide) i hi, h]
  refine ⟨he, ?_⟩
  unfold matchIs
  rw [if_pos he, fitP_list, st_dots 35 (by decide), laid_mixed, ← parts_data, List.length_map]

set_option maxHeartbeats 400000 in
theorem choose_any (c : Int) (n : Int) (w : World) (h0 : -9223372036854775808 ≤ c) (h1 : c ≤ 9223372036854775807) (hn : 1 ≤ n) (hn2 : n ≤ 1048576) :
    Calls Tryd.prog 15 #[.int .i64 c, .int .i64 n] w fun e w' => ∃ r : Nat, (r : Int) < n ∧ e = .returned (.int .i64 r) ∧ w = w' := by
  by_cases hc : c < 0
  · have hr : -((c + 1).tmod n) = (((-(c + 1)) % n).toNat : Int) := by
      rw [← Int.neg_tmod, Int.tmod_eq_emod_of_nonneg (by omega), Int.toNat_of_nonneg (Int.emod_nonneg _ (by omega))]
    have hl : (-(c + 1)) % n < n := Int.emod_lt_of_pos _ (by omega)
    have hz : 0 ≤ (-(c + 1)) % n := Int.emod_nonneg _ (by omega)
    have HR := Lib.hid (And.intro hr (And.intro hl hz)); clear hr hl hz
    go_enter Tryd.func15, Tryd.ntmps15
    go_wp2
    go_ret
    exact ⟨((-(c + 1)) % n).toNat, by have := HR.out; omega, by rw [← HR.out.1]; rfl, rfl⟩
  · have hl : c % n < n := Int.emod_lt_of_pos _ (by omega)
    have hz : 0 ≤ c % n := Int.emod_nonneg _ (by omega)
    have HR := Lib.hid (And.intro hl hz); clear hl hz
    go_enter Tryd.func15, Tryd.ntmps15
    go_wp2
    go_ret
    exact ⟨(c % n).toNat, by have := HR.out; omega, by rw [Int.toNat_of_nonneg HR.out.2]; rfl, rfl⟩

def StarRel (r : Nat) (a b i : Value) : Prop := ∃ j : Nat, j ≤ r ∧ a = .string (st 42 j) ∧ b = .string (st 35 j) ∧ i = .int .i64 ((j : Int) + 1)

set_option maxHeartbeats 2000000 in
theorem wordsStar_any (k : ByteArray) (n : Int) (w : World) (hk : k.size ≤ 1048576) (hb : -9223372036854775808 ≤ n ∧ n ≤ 9223372036854775807) (hE : Env w) :
    Calls Tryd.prog 6 #[.string k, .int .i64 n] w fun e w' => e = .returned (.bool true) ∧ Below w.heap.size w w' := by
  have HN := Lib.hid hb; clear hb
  have HE := Lib.hid hE; clear hE
  by_cases h0 : splitErr isWord k = 0
  · have ho : splitOut isWord k = parts k := by simp [splitOut, h0]
    have hp6 : (parts k).length ≤ 6 := by
      have := (splitErr_ok h0).2.1
      rwa [← parts_data, List.length_map] at this
    have M := Lib.hid (And.intro h0 ho); clear h0 ho
    go_enter Tryd.func6, Tryd.ntmps6
    go_wp2_with fail
    refine (Split_env k w (by omega) HE.out).mono ?_
    rintro e w1 ⟨a1, c1, rfl, hs1, hc1, hb1⟩
    rw [M.out.1, M.out.2]
    have H1 := Lib.hid (And.intro (below_env hb1 HE.out) hb1); clear hb1 hs1 hc1
    go_wp2_with fail
    refine (choose_any n 6 w1 HN.out.1 HN.out.2 (by decide) (by decide)).mono ?_
    rintro e w1' ⟨r, hr, rfl, rfl⟩
    have hr5 : r ≤ 5 := by omega
    clear hr
    go_wp2_with fail
    go_loop [8, 9, 10] (fun a b i => StarRel r a b i) (fun _ _ i => r + 1 - (intOf i).toNat)
    case atStart => exact ⟨0, by omega, rfl, rfl, by simp⟩
    case round =>
      obtain ⟨j, hj, rfl, rfl, rfl⟩ := hrel
      have hz1 : (st 42 j).size ≤ 11 := by rw [st_size]; omega
      have hz2 : (st 35 j).size ≤ 11 := by rw [st_size]; omega
      by_cases hlt : j < r
      · go_wp2_with fail
        exact ⟨⟨j + 1, hlt, rfl, rfl, by go_num⟩, by simp [intOf]; omega⟩
      · obtain rfl : j = r := by omega
        have s1 := match_stars M.out.1 j hr5
        have s2 := match_mixed M.out.1 j hr5
        have S := Lib.hid (And.intro s1 s2); clear s1 s2
        go_wp2_with fail
        refine (Match_env (st 42 j) k w1 (by omega) (by omega) H1.out.1).mono ?_
        rw [S.out.1.1, S.out.1.2]
        rintro e w2 ⟨rfl, hb2⟩
        have H2 := Lib.hid (And.intro (below_env hb2 H1.out.1) (H1.out.2.trans (hb2.mono H1.out.2.size))); clear hb2
        go_wp2_with fail
        refine (Match_env (st 35 j) k w2 (by omega) (by omega) H2.out.1).mono ?_
        rw [S.out.2.1, S.out.2.2]
        rintro e w3 ⟨rfl, hb3⟩
        have H3 := Lib.hid (And.intro (below_env hb3 H2.out.1) (H2.out.2.trans (hb3.mono H2.out.2.size))); clear hb3
        go_wp2_with fail
        refine (wordsBegun_any w3 H3.out.1).mono ?_
        rintro e w4 ⟨rfl, hb4⟩
        have H4 := Lib.hid (H3.out.2.trans (hb4.mono H3.out.2.size)); clear hb4
        go_wp2_with fail
        · go_ret
          refine ⟨?_, H4.out⟩
          refine congrArg (fun b => Ending.returned (Value.bool b)) (?_ : _ = true)
          rw [beq_iff_eq, Bool.eq_iff_iff]
          simp
          try omega
        · rename_i h
          exfalso
          apply h
          rw [Bool.eq_iff_iff]
          simp
          omega
  · have m1 : (splitErr isWord k != 0) = true := by simpa using h0
    clear h0
    go_enter Tryd.func6, Tryd.ntmps6
    go_wp2_with fail
    refine (Split_env k w (by omega) HE.out).mono ?_
    rintro e w1 ⟨a1, c1, rfl, hs1, hc1, hb1⟩
    have H1 := Lib.hid (And.intro (below_env hb1 HE.out) hb1); clear hb1 hs1 hc1
    go_wp2_with fail
    refine (wordsBegun_any w1 H1.out.1).mono ?_
    rintro e w2 ⟨rfl, hb2⟩
    have H2 := Lib.hid (H1.out.2.trans (hb2.mono H1.out.2.size)); clear hb2
    go_wp2_with fail
    go_ret
    exact ⟨rfl, H2.out⟩
end Go.Proofs.YteflcgmdklejcaaDoor
