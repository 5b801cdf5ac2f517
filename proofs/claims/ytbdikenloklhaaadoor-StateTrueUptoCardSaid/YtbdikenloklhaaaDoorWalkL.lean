/-
  Plain laws on patterns laid along keys: by the pattern's last word and the key's last word.
  The walks of the references laid, Fit, MatchOf.
-/
import Derived.Test.YtbdikenloklhaaaDoorWalkB
namespace Go.Proofs.YtbdikenloklhaaaDoor

/-- Can the pattern's words be laid along the key's? -/
def laidP : List (List UInt8) → List (List UInt8) → Bool
  | [], k => k.isEmpty
  | p :: ps, k => if p = [35] then (List.range (k.length + 1)).any fun n => laidP ps (k.drop n) else match k with
    | [] => false
    | x :: r => (p == [42] || p == x) && laidP ps r

theorem laidP_hash (ps k : List (List UInt8)) : laidP ([35] :: ps) k = true ↔ ∃ n, n ≤ k.length ∧ laidP ps (k.drop n) = true := by
  simp only [laidP, if_true, List.any_eq_true, List.mem_range]
  exact ⟨fun ⟨n, h1, h2⟩ => ⟨n, by omega, h2⟩, fun ⟨n, h1, h2⟩ => ⟨n, by omega, h2⟩⟩

theorem laidP_word {p : List UInt8} (hp : p ≠ [35]) (ps : List (List UInt8)) : laidP (p :: ps) [] = false := by
  simp [laidP, hp]
theorem laidP_cons {p : List UInt8} (hp : p ≠ [35]) (ps : List (List UInt8)) (x : List UInt8) (r : List (List UInt8)) : laidP (p :: ps) (x :: r) = ((p == [42] || p == x) && laidP ps r) := by
  simp [laidP, hp]

/-- A last word that is no hash takes the key's last word. -/
theorem laidP_snoc {w : List UInt8} (hw : w ≠ [35]) : ∀ (ps ks : List (List UInt8)) (x : List UInt8), laidP (ps ++ [w]) (ks ++ [x]) = (laidP ps ks && (w == [42] || w == x))
  | [], [], x => by simp [laidP, hw]
  | [], k :: ks, x => by
    have : laidP [] (ks ++ [x]) = false := by cases ks <;> rfl
    rw [List.nil_append, List.cons_append, laidP_cons hw, this, Bool.and_false]
    rfl
  | p :: ps, ks, x => by
    by_cases hp : p = [35]
    · subst hp
      rw [Bool.eq_iff_iff, Bool.and_eq_true, List.cons_append, laidP_hash, laidP_hash]
      constructor
      · rintro ⟨n, hn, h⟩
        rcases Nat.lt_or_ge ks.length n with h1 | h1
        · have : (ks ++ [x]).drop n = [] := List.drop_eq_nil_of_le (by simp; omega)
          rw [this] at h
          have hnil : ∀ q : List (List UInt8), laidP (q ++ [w]) [] = false := by
            intro q
            induction q with
            | nil => exact laidP_word hw []
            | cons a q ih =>
              by_cases ha : a = [35]
              · subst ha
                cases hc : laidP ([35] :: q ++ [w]) [] with
                | false => rfl
                | true =>
                  rw [List.cons_append, laidP_hash] at hc
                  obtain ⟨n, _, hc⟩ := hc
                  rw [List.drop_nil, ih] at hc
                  cases hc
              · exact laidP_word ha _
          rw [hnil] at h
          cases h
        · rw [List.drop_append_of_le_length h1, laidP_snoc hw ps (ks.drop n) x, Bool.and_eq_true] at h
          exact ⟨⟨n, h1, h.1⟩, h.2⟩
      · rintro ⟨⟨n, hn, h⟩, h2⟩
        exact ⟨n, by simp; omega, by rw [List.drop_append_of_le_length hn, laidP_snoc hw ps (ks.drop n) x, h, h2]; rfl⟩
    · cases ks with
      | nil =>
        rw [List.nil_append, List.cons_append, laidP_cons hp, laidP_word hp, Bool.false_and]
        have hne : laidP (ps ++ [w]) [] = false := by
          cases hps : ps with
          | nil => exact laidP_word hw []
          | cons a q =>
            clear hps
            have : ∀ q : List (List UInt8), laidP (q ++ [w]) [] = false := by
              intro q
              induction q with
              | nil => exact laidP_word hw []
              | cons a q ih =>
                by_cases ha : a = [35]
                · subst ha
                  cases hc : laidP ([35] :: q ++ [w]) [] with
                  | false => rfl
                  | true =>
                    rw [List.cons_append, laidP_hash] at hc
                    obtain ⟨n, _, hc⟩ := hc
                    rw [List.drop_nil, ih] at hc
                    cases hc
                · exact laidP_word ha _
            exact this _
        rw [hne, Bool.and_false]
      | cons k ks =>
        rw [List.cons_append, List.cons_append, laidP_cons hp, laidP_cons hp, laidP_snoc hw ps ks x, Bool.and_assoc]

theorem laidP_snoc_nil {w : List UInt8} (hw : w ≠ [35]) : ∀ q : List (List UInt8), laidP (q ++ [w]) [] = false
  | [] => laidP_word hw []
  | a :: q => by
    by_cases ha : a = [35]
    · subst ha
      cases hc : laidP ([35] :: q ++ [w]) [] with
      | false => rfl
      | true =>
        rw [List.cons_append, laidP_hash] at hc
        obtain ⟨n, _, hc⟩ := hc
        rw [List.drop_nil, laidP_snoc_nil hw q] at hc
        cases hc
    · exact laidP_word ha _

/-- A hash behind takes any rest of the key. -/
theorem laidP_hash_last : ∀ (ps ks : List (List UInt8)), laidP (ps ++ [[35]]) ks = true ↔ ∃ n, n ≤ ks.length ∧ laidP ps (ks.take n) = true
  | [], ks => by
    rw [List.nil_append, laidP_hash]
    constructor
    · intro _
      exact ⟨0, Nat.zero_le _, rfl⟩
    · intro _
      exact ⟨ks.length, Nat.le_refl _, by rw [List.drop_eq_nil_of_le (Nat.le_refl _)]; rfl⟩
  | p :: ps, ks => by
    by_cases hp : p = [35]
    · subst hp
      rw [List.cons_append, laidP_hash]
      constructor
      · rintro ⟨n, hn, h⟩
        obtain ⟨m, hm, h⟩ := (laidP_hash_last ps (ks.drop n)).1 h
        rw [List.length_drop] at hm
        refine ⟨n + m, by omega, (laidP_hash _ _).2 ⟨n, by rw [List.length_take]; omega, ?_⟩⟩
        rw [List.drop_take, show n + m - n = m from by omega]
        exact h
      · rintro ⟨n, hn, h⟩
        obtain ⟨m, hm, h⟩ := (laidP_hash _ _).1 h
        rw [List.length_take] at hm
        refine ⟨m, by omega, (laidP_hash_last ps (ks.drop m)).2 ⟨n - m, by rw [List.length_drop]; omega, ?_⟩⟩
        rw [List.drop_take] at h
        exact h
    · cases ks with
      | nil =>
        rw [List.cons_append, laidP_word hp]
        constructor
        · intro h; cases h
        · rintro ⟨n, hn, h⟩
          rw [List.take_nil, laidP_word hp] at h
          cases h
      | cons k ks =>
        rw [List.cons_append, laidP_cons hp, Bool.and_eq_true, laidP_hash_last ps ks]
        constructor
        · rintro ⟨h1, n, hn, h2⟩
          exact ⟨n + 1, by simp; omega, by rw [List.take_succ_cons, laidP_cons hp, h1, h2]; rfl⟩
        · rintro ⟨n, hn, h⟩
          cases n with
          | zero => rw [List.take_zero, laidP_word hp] at h; cases h
          | succ n =>
            rw [List.take_succ_cons, laidP_cons hp, Bool.and_eq_true] at h
            exact ⟨h.1, n, by simp at hn; omega, h.2⟩

theorem laidP_hash_nil (ps : List (List UInt8)) : laidP (ps ++ [[35]]) [] = laidP ps [] := by
  rw [Bool.eq_iff_iff, laidP_hash_last]
  constructor
  · rintro ⟨n, _, h⟩; rwa [List.take_nil] at h
  · intro h; exact ⟨0, Nat.le_refl _, by rwa [List.take_nil]⟩

theorem laidP_hash_snoc (ps ks : List (List UInt8)) (x : List UInt8) : laidP (ps ++ [[35]]) (ks ++ [x]) = (laidP ps (ks ++ [x]) || laidP (ps ++ [[35]]) ks) := by
  rw [Bool.eq_iff_iff, Bool.or_eq_true, laidP_hash_last, laidP_hash_last]
  constructor
  · rintro ⟨n, hn, h⟩
    rcases Nat.lt_or_ge ks.length n with h1 | h1
    · left
      rw [List.take_of_length_le (by simp; omega)] at h
      exact h
    · right
      rw [List.take_append_of_le_length h1] at h
      exact ⟨n, h1, h⟩
  · rintro (h | ⟨n, hn, h⟩)
    · exact ⟨ks.length + 1, by simp, by rw [List.take_of_length_le (by simp)]; exact h⟩
    · exact ⟨n, by simp; omega, by rw [List.take_append_of_le_length hn]; exact h⟩

/-- The row of a pattern at a key: can it be laid along the key's first i words? -/
def rowP (ps ks : List (List UInt8)) (i : Nat) : Bool := laidP ps (ks.take i)

theorem rowP_nil (ks : List (List UInt8)) (i : Nat) (h : i ≤ ks.length) : rowP [] ks i = decide (i = 0) := by
  cases i with
  | zero => rfl
  | succ i =>
    cases ks with
    | nil => simp at h
    | cons k ks => rfl
theorem take_snoc_get {α : Type} (ks : List α) (i : Nat) (h : i < ks.length) : ks.take (i + 1) = ks.take i ++ [ks[i]] := by
  rw [List.take_add_one, List.getElem?_eq_getElem h]
  rfl
theorem rowP_word {w : List UInt8} (hw : w ≠ [35]) (ps ks : List (List UInt8)) (i : Nat) (h : i < ks.length) : rowP (ps ++ [w]) ks (i + 1) = (rowP ps ks i && (w == [42] || w == ks[i])) := by
  unfold rowP
  rw [take_snoc_get ks i h, laidP_snoc hw]
theorem rowP_word0 {w : List UInt8} (hw : w ≠ [35]) (ps ks : List (List UInt8)) : rowP (ps ++ [w]) ks 0 = false := laidP_snoc_nil hw ps
theorem rowP_hash (ps ks : List (List UInt8)) (i : Nat) (h : i < ks.length) : rowP (ps ++ [[35]]) ks (i + 1) = (rowP ps ks (i + 1) || rowP (ps ++ [[35]]) ks i) := by
  unfold rowP
  rw [take_snoc_get ks i h, laidP_hash_snoc]
theorem rowP_hash0 (ps ks : List (List UInt8)) : rowP (ps ++ [[35]]) ks 0 = rowP ps ks 0 := laidP_hash_nil ps
theorem rowP_all (ps ks : List (List UInt8)) : rowP ps ks ks.length = laidP ps ks := by
  unfold rowP
  rw [List.take_of_length_le (Nat.le_refl _)]

end Go.Proofs.YtbdikenloklhaaaDoor

namespace Go.Proofs.YtbdikenloklhaaaDoor
open Go.RowKit
set_option maxRecDepth 100000

def LaidRel (ps ks : List (List UInt8)) (w : World) (i : Value) (wr : World) : Prop :=
  ∃ k n : Nat, k ≤ ks.length + 1 ∧ i = .int .i64 k ∧ wr = w.drewN n ∧ ∀ j, j < k → laidP ps (ks.drop j) = false

abbrev tl (l : List ByteArray) : List (List UInt8) := l.map ByteArray.toList

/-- A slice of strings, cut. -/
theorem cut_strs {w : World} {lo hi : Nat} {a : Option Addr} {xs : List ByteArray} {n c : Nat} (h : Sl w lo hi a (xs.map Value.string)) (hn : n = xs.length) (hc : n ≤ c) (k : Nat) (i : Int) (hi_ : i = (k : Int)) (hk : k ≤ n) :
    ∃ A, (∀ w, (Instr.slice 78 (.slice a n c) (some (.int .i64 i)) none none).run Tryd.prog w = .ok (.slice A (n - k) (c - k)) w) ∧ Sl w lo hi A ((xs.drop k).map Value.string) :=
  ⟨cutA a c k 1, fun w => run_cut Tryd.underlying78 (fun _ => by kernel_rfl) a n c k i hi_ hk w, by
    have := h.cut (n := n) (cap := c) (k := k) (size := 1) (by simp [hn]) hk hc
    rw [Nat.mul_one, ← List.map_drop] at this
    exact this⟩

set_option maxHeartbeats 1000000 in
theorem laid_any : ∀ (ps ks : List ByteArray) (a b : Option Addr) (c d lo hi : Nat) (w : World), Sl w lo hi a (ps.map Value.string) → Sl w lo hi b (ks.map Value.string) → ps.length ≤ c → ks.length ≤ d →
    ps.length ≤ 4294967296 → ks.length ≤ 4294967296 →
    Calls Tryd.prog 120 #[.slice a ps.length c, .slice b ks.length d] w fun e w' => e = .returned (.bool (laidP (tl ps) (tl ks))) ∧ ∃ n, w' = w.drewN n
  | [], ks, a, b, c, d, lo, hi, w, ha, hb, hc, hd, h1, h2 => by
    have hl : laidP (tl []) (tl ks) = decide (ks.length = 0) := by cases ks <;> simp [laidP, tl]
    have HL := Lib.hid hl; clear hl ha hb
    go_enter Tryd.func120, Tryd.ntmps120
    go_wp2
    go_ret
    exact ⟨by rw [HL.out]; refine congrArg (fun b => Ending.returned (Value.bool b)) ?_; rw [Bool.eq_iff_iff]; simp, 0, rfl⟩
  | p :: ps, ks, a, b, c, d, lo, hi, w, ha, hb, hc, hd, h1, h2 => by
    simp only [List.length_cons] at hc h1
    have ih := laid_any ps
    have HIH := Lib.hid ih; clear ih
    have HB := Lib.hid hb
    obtain ⟨A1, hs1, hA1⟩ := cut_strs ha rfl hc 1 1 rfl (by simp)
    have HA1 := Lib.hid hA1; clear hA1
    simp only [List.length_cons, Nat.add_sub_cancel, List.drop_succ_cons, List.drop_zero] at hs1 HA1
    obtain ⟨b1, o1, rfl, hb1, hc1⟩ := sl_string (k := 0) ha (by simp)
    have hc1' : w.cell? ⟨b1, o1, none⟩ = some (.string p) := by simpa using hc1
    clear hc1 ha
    by_cases hp : p.toList = [35]
    · have hp' : (p.toList == [35]) = true := by simp [hp]
      have hl : laidP (tl (p :: ps)) (tl ks) = (List.range (ks.length + 1)).any fun n => laidP (tl ps) ((tl ks).drop n) := by simp [laidP, tl, hp]
      have HL := Lib.hid hl; clear hl hp
      have hn : (((ps.length : Int) + 1) == 0) = false := by simp; omega
      go_enter Tryd.func120, Tryd.ntmps120
      go_wp2
      go_loopw [5] (fun i wr => LaidRel (tl ps) (tl ks) w i wr) (fun i _ => ks.length + 1 - (intOf i).toNat)
      case atStart => exact ⟨0, 0, by omega, rfl, rfl, fun j hj => absurd hj (by omega)⟩
      case round =>
        obtain ⟨k, m, hk, rfl, hw, hall⟩ := hrel
        have HA := Lib.hid hall; clear hall
        have HW := Lib.hid hw; clear hw
        have HAr : Hid (Sl wr lo hi A1 (ps.map Value.string)) := by rw [HW.out]; exact HA1.out
        have hBr : Sl wr lo hi b (ks.map Value.string) := by rw [HW.out]; exact HB.out
        have HBr := Lib.hid hBr; clear hBr
        simp only [tl, List.length_map] at hk
        by_cases hlt : k ≤ ks.length
        · obtain ⟨A2, hs2, hA2⟩ := cut_strs HBr.out rfl hd k (k : Int) rfl hlt
          have HA2 := Lib.hid hA2; clear hA2
          obtain ⟨q, hq⟩ : ∃ q, laidP (tl ps) ((tl ks).drop k) = q := ⟨_, rfl⟩
          have ihk : ∀ W, Sl W lo hi A1 (ps.map Value.string) → Sl W lo hi A2 ((ks.drop k).map Value.string) → Calls Tryd.prog 120 #[.slice A1 ps.length (c - 1), .slice A2 (ks.length - k) (d - k)] W fun e w' =>
              e = .returned (.bool q) ∧ ∃ n, w' = W.drewN n := fun W h3 h4 => by
            have := HIH.out (ks.drop k) A1 A2 (c - 1) (d - k) lo hi W h3 h4 (by omega) (by rw [List.length_drop]; omega) (by omega) (by rw [List.length_drop]; omega)
            rw [List.length_drop, show tl (ks.drop k) = (tl ks).drop k from List.map_drop, hq] at this
            exact this
          have HK := Lib.hid ihk; clear ihk
          have HQ := Lib.hid hq; clear hq
          cases q
          · go_wp2
            go_quiet ((go_at_call 120; refine Calls.quiet_of (HK.out _ HAr.out HA2.out)))
            all_goals go_wp2
            go_roundw
            case rel =>
              refine ⟨k + 1, _, by simp [tl]; omega, by go_num, by rw [HW.out]; exact World.drewN_drewN _ _ _, fun j hj => ?_⟩
              rcases Nat.lt_or_ge j k with h | h
              · exact HA.out j h
              · obtain rfl : j = k := by omega
                exact HQ.out
            case measure => simp [intOf]; omega
          · have hl : laidP (tl (p :: ps)) (tl ks) = true := by
              rw [HL.out, List.any_eq_true]
              exact ⟨k, List.mem_range.2 (by omega), HQ.out⟩
            have HL2 := Lib.hid hl; clear hl
            go_wp2
            go_quiet ((go_at_call 120; refine Calls.quiet_of (HK.out _ HAr.out HA2.out)))
            all_goals go_wp2
            go_ret
            exact ⟨by rw [HL2.out]; rfl, _, by rw [HW.out]; exact World.drewN_drewN _ _ _⟩
        · have hl : laidP (tl (p :: ps)) (tl ks) = false := by
            rw [HL.out, List.any_eq_false]
            intro j hj
            rw [HA.out j (by have := List.mem_range.1 hj; omega)]
            decide
          have HL2 := Lib.hid hl; clear hl
          go_wp2
          go_ret
          exact ⟨by rw [HL2.out]; rfl, _, HW.out⟩
    · have hp' : (p.toList == [35]) = false := by simp [hp]
      have hn : (((ps.length : Int) + 1) == 0) = false := by simp; omega
      clear hp
      cases ks with
      | nil =>
        have hl : laidP (tl (p :: ps)) (tl []) = false := by simp [laidP, tl, show ¬ p.toList = [35] from by simpa using hp']
        have HL := Lib.hid hl; clear hl
        clear hb
        go_enter Tryd.func120, Tryd.ntmps120
        go_wp2
        go_quiet (fail)
        all_goals go_wp2
        go_ret
        exact ⟨by rw [HL.out]; rfl, _, rfl⟩
      | cons x r =>
        have hl : laidP (tl (p :: ps)) (tl (x :: r)) = ((p.toList == [42] || p.toList == x.toList) && laidP (tl ps) (tl r)) := by simp [laidP, tl, show ¬ p.toList = [35] from by simpa using hp']
        have HL := Lib.hid hl; clear hl
        obtain ⟨b2, o2, rfl, hb2, hc2⟩ := sl_string (k := 0) hb (by simp)
        simp only [List.length_cons] at hd h2
        have hc2' : w.cell? ⟨b2, o2, none⟩ = some (.string x) := by simpa using hc2
        clear hc2 hb
        obtain ⟨A2, hs2, hA2⟩ := cut_strs HB.out rfl hd 1 1 rfl (by simp)
        have HA2 := Lib.hid hA2; clear hA2
        simp only [List.length_cons, Nat.add_sub_cancel, List.drop_succ_cons, List.drop_zero] at hs2 HA2
        by_cases hs : (p.toList == [42]) = true
        · go_enter Tryd.func120, Tryd.ntmps120
          go_wp2
          go_quiet ((go_at_call 120; refine Calls.quiet_of (HIH.out r _ _ _ _ lo hi _ HA1.out HA2.out (by omega) (by omega) (by omega) (by omega))))
          all_goals go_wp2
          go_ret
          exact ⟨by rw [HL.out, hs, Bool.true_or, Bool.true_and]; rfl, _, rfl⟩
        · have hs' : (p.toList == [42]) = false := by simpa using hs
          clear hs
          by_cases hm : (p.toList == x.toList) = true
          · go_enter Tryd.func120, Tryd.ntmps120
            go_wp2
            go_quiet ((go_at_call 120; refine Calls.quiet_of (HIH.out r _ _ _ _ lo hi _ HA1.out HA2.out (by omega) (by omega) (by omega) (by omega))))
            all_goals go_wp2
            go_ret
            exact ⟨by rw [HL.out, hm, Bool.or_true, Bool.true_and]; rfl, _, rfl⟩
          · have hm' : (p.toList == x.toList) = false := by simpa using hm
            clear hm
            go_enter Tryd.func120, Tryd.ntmps120
            go_wp2
            go_quiet (fail)
            all_goals go_wp2
            go_ret
            exact ⟨by rw [HL.out, hs', hm']; rfl, _, rfl⟩

/-- Does a pattern fit a key? -/
def fitP (p k : ByteArray) : Bool := laidP (tl (parts p)) (tl (parts k))

set_option maxHeartbeats 400000 in
theorem refFit_any (p k : ByteArray) (w : World) (hp : p.size ≤ 4294967281) (hk : k.size ≤ 4294967281) :
    Calls Tryd.prog 107 #[.string p, .string k] w fun e w' => e = .returned (.bool (fitP p k)) ∧ Below w.heap.size w w' := by
  have l1 := parts_len_le p
  have l2 := parts_len_le k
  go_enter Tryd.func107, Tryd.ntmps107
  go_wp2_with fail
  refine (refSplit46 p _ hp).mono ?_
  rintro e w1 ⟨a1, c1, rfl, hs1, hc1, hb1⟩
  have HS1 := Lib.hid hs1; clear hs1
  go_wp2_with fail
  refine (refSplit46 k _ hk).mono ?_
  rintro e w2 ⟨a2, c2, rfl, hs2, hc2, hb2⟩
  go_wp2_with fail
  refine (laid_any (parts p) (parts k) a1 a2 c1 c2 w.heap.size w2.heap.size w2 ((HS1.out.below hb2 (Nat.le_refl _)).wider (Nat.le_refl _) hb2.size) (hs2.wider hb1.size (Nat.le_refl _)) hc1 hc2 (by omega) (by omega)).mono ?_
  rintro e w3 ⟨rfl, n, rfl⟩
  go_wp2_with fail
  go_ret
  exact ⟨rfl, below_draws (hb1.trans (hb2.mono hb1.size)) n⟩
end Go.Proofs.YtbdikenloklhaaaDoor
