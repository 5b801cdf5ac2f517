/-
  The walks of the words' references: isWord, split, wordsError, KeyError, PatternError, SplitOf.
-/
import Derived.Test.YtapimpmpjighmaaDoorWalkA
namespace Go.Proofs.YtapimpmpjighmaaDoor
open Go.RowKit
set_option maxRecDepth 100000

def IsWordRel (s : ByteArray) (i : Value) : Prop := ∃ k : Nat, k ≤ s.size ∧ i = .int .i64 k ∧ ∀ j c, j < k → s.toList[j]? = some c → odd (c.toNat : Int) = false

theorem toList_at (s : ByteArray) (k : Nat) (h : k < s.size) : s.toList[k]? = some s[k] := by
  rw [ByteArray.toList_eq, List.getElem?_eq_getElem (by simpa using h)]
  rfl
theorem toList_len (s : ByteArray) : s.toList.length = s.size := by rw [ByteArray.toList_eq]; simp
theorem isWord_step {s : ByteArray} {k : Nat} (HA : Hid (∀ j c, j < k → s.toList[j]? = some c → odd (c.toNat : Int) = false)) (h : k < s.size) (ho : odd (s[k].toNat : Int) = false) : IsWordRel s (.int .i64 ((k : Int) + 1)) :=
  ⟨k + 1, h, by go_num, fun j c hj hc => by
    rcases Nat.lt_or_ge j k with h1 | h1
    · exact HA.out j c h1 hc
    · obtain rfl : j = k := by omega
      rw [toList_at s j h] at hc
      cases hc
      exact ho⟩
theorem isWord_no {s : ByteArray} {k : Nat} (h : k < s.size) (ho : odd (s[k].toNat : Int) = true) : isWord s.toList = false := by
  have : (s.toList.any fun c => odd (c.toNat : Int)) = true := List.any_eq_true.2 ⟨s[k], List.mem_of_getElem? (toList_at s k h), ho⟩
  simp [isWord, this]
theorem isWord_end {s : ByteArray} {k : Nat} (HA : Hid (∀ j c, j < k → s.toList[j]? = some c → odd (c.toNat : Int) = false)) (h : s.size ≤ k) : isWord s.toList = !s.toList.isEmpty := by
  have : (s.toList.any fun c => odd (c.toNat : Int)) = false := by
    rw [List.any_eq_false]
    intro c hc
    obtain ⟨j, hj, rfl⟩ := List.mem_iff_getElem.1 hc
    have := HA.out j _ (by rw [toList_len] at hj; omega) (List.getElem?_eq_getElem hj)
    simp [this]
  simp [isWord, this]

set_option maxHeartbeats 800000 in
theorem refIsWord_any (s : ByteArray) (w : World) (hs : s.size ≤ 4294967281) :
    Calls Tryd.prog 120 #[.string s] w fun e w' => e = .returned (.bool (isWord s.toList)) ∧ w = w' := by
  go_enter Tryd.func120, Tryd.ntmps120
  go_wp2
  go_loop [3] (fun i => IsWordRel s i) (fun i => s.size - (intOf i).toNat)
  case atStart => exact ⟨0, by omega, rfl, fun j c hj => absurd hj (by omega)⟩
  case round =>
    obtain ⟨k, hk, rfl, hall⟩ := hrel
    have HA := Lib.hid hall; clear hall
    by_cases hlt : k < s.size
    · go_wp2
      all_goals first
        | exact ⟨isWord_step HA hlt (by first | (simp [odd]; done) | (simp [odd]; omega) | (simp_all [odd]; done) | (simp_all [odd]; omega)), by simp [intOf]; omega⟩
        | (go_ret; exact ⟨by rw [isWord_no hlt (by simp_all [odd]; try omega)]; rfl, rfl⟩)
    · go_wp2
      go_ret
      exact ⟨by rw [isWord_end HA (by omega)]; rfl, rfl⟩

theorem infoStr : (Tryd.prog.info? 9).map (fun i => (i.zero, i.size, i.bytes)) = some (some (.string ByteArray.empty), 1, 16) := by kernel_rfl

def SplitRRel (s : ByteArray) (c B : Nat) (w : World) (v fr i : Value) (wr : World) : Prop :=
  ∃ (k f : Nat) (out : List ByteArray), k ≤ s.size + 1 ∧ f ≤ k ∧ f ≤ s.size + 1 ∧ (k ≤ s.size → f ≤ k) ∧ i = .int .i64 k ∧ fr = .int .i64 f ∧ out.length ≤ k ∧ wr.ownsRow B 9 1 v out.length (out.map Value.string) ∧
    cuts s c (s.size + 1) 0 0 = out ++ cuts s c (s.size + 1 - k) f k ∧ Below B w wr

set_option maxHeartbeats 1000000 in
theorem refSplit_any (s : ByteArray) (c : Nat) (w : World) (hs : s.size ≤ 4294967281) (_hc : c < 256) :
    Calls Tryd.prog 119 #[.string s, .int .u8 c] w fun e w' =>
      ∃ v, e = .returned v ∧ w'.ownsRow w.heap.size 9 1 v (cuts s c (s.size + 1) 0 0).length ((cuts s c (s.size + 1) 0 0).map Value.string) ∧ Below w.heap.size w w' := by
  obtain ⟨i0, hi, hz0, hz1, hz2⟩ := info_parts infoStr
  go_enter Tryd.func119, Tryd.ntmps119
  go_wp2
  go_loopw [5, 6, 7] (fun v fr i wr => SplitRRel s c w.heap.size w v fr i wr) (fun _ _ i _ => s.size + 1 - (intOf i).toNat)
  case atStart => exact ⟨0, 0, [], by omega, by omega, by omega, by omega, rfl, rfl, by simp, World.ownsRow_nil _ _ _ _, rfl, Below.refl _ _⟩
  case round =>
    obtain ⟨k, f, out, hk, hf, hf1, hf2, rfl, rfl, hlen, hown, hcut, hB⟩ := hrel
    have HC := Lib.hid hcut; clear hcut
    by_cases hle : k ≤ s.size
    · by_cases hks : k = s.size
      · obtain rfl : s.size = k := hks.symm
        go_wp2_with (at_builtin; refine append1 rfl _ _ 84 rfl w.heap.size 9 infoStr Tryd.underlying84 rfl (by decide) (by decide) wr _ _ _ rfl hown _ rfl rfl rfl (by simp [Value.oneCell']) (by omega) hB.size ?_; intro v' w1 hown' hgrow)
        exact ⟨⟨s.size + 1, s.size + 1, out ++ [s.extract f s.size], by omega, by omega, by omega, by omega, by go_num, by go_num, by simp; omega, by simpa using hown', by rw [HC.out, cuts_end]; simp, below_own hown hgrow hB (Nat.le_refl _) hB.size⟩, by simp [intOf]⟩
      · have hlt : k < s.size := by omega
        by_cases hcb : (s[k].toNat : Int) = (c : Int)
        · have hcb' : ((s[k].toNat : Int) == (c : Int)) = true := by simpa using hcb
          have hks' : ((k : Int) == (s.size : Int)) = false := by simp; omega
          have HCB := Lib.hid hcb; clear hcb
          go_wp2_with (at_builtin; refine append1 rfl _ _ 84 rfl w.heap.size 9 infoStr Tryd.underlying84 rfl (by decide) (by decide) wr _ _ _ rfl hown _ rfl rfl rfl (by simp [Value.oneCell']) (by omega) hB.size ?_; intro v' w1 hown' hgrow)
          exact ⟨⟨k + 1, k + 1, out ++ [s.extract f k], by omega, by omega, by omega, by omega, by go_num, by go_num, by simp; omega, by simpa using hown', by rw [HC.out, cuts_hit s c f k hlt HCB.out]; simp, below_own hown hgrow hB (Nat.le_refl _) hB.size⟩, by simp [intOf]; omega⟩
        · have hcb' : ((s[k].toNat : Int) == (c : Int)) = false := by simpa using hcb
          have hks' : ((k : Int) == (s.size : Int)) = false := by simp; omega
          have HCB := Lib.hid hcb; clear hcb
          go_wp2
          exact ⟨⟨k + 1, f, out, by omega, by omega, by omega, by omega, by go_num, rfl, by omega, hown, by rw [HC.out, cuts_miss s c f k hlt HCB.out], hB⟩, by simp [intOf]; omega⟩
    · obtain rfl : k = s.size + 1 := by omega
      have HE : Hid (cuts s c (s.size + 1) 0 0 = out) := by
        have := HC.out
        rw [Nat.sub_self, cuts, List.append_nil] at this
        exact this
      go_wp2
      go_ret
      exact ⟨_, rfl, by rw [HE.out]; exact hown, hB⟩

/-- What a word of a text must be, the reference says: a plain word, or (of a pattern) a star or a hash. -/
def pw (wild : Bool) (l : List UInt8) : Bool := if wild then isWild l else isWord l

theorem refSplit46 (s : ByteArray) (w : World) (hs : s.size ≤ 4294967281) :
    Calls Tryd.prog 119 #[.string s, .int .u8 46] w fun e w' =>
      ∃ a c, e = .returned (.slice a (parts s).length c) ∧ Sl w' w.heap.size w'.heap.size a ((parts s).map Value.string) ∧ (parts s).length ≤ c ∧ Below w.heap.size w w' :=
  (refSplit_any s 46 w hs (by decide)).mono (by
    rintro e w' ⟨v, rfl, hown, hb⟩
    rw [cuts_parts] at hown
    obtain ⟨a, c, rfl, hc⟩ := own_slice hown
    exact ⟨a, c, rfl, Sl.of_own hown, hc, hb⟩)

def WErrRel (p : List UInt8 → Bool) (ps : List ByteArray) (W0 : World) (k : Value) (wr : World) : Prop :=
  ∃ n : Nat, n ≤ ps.length ∧ k = .int .i64 n ∧ W0 = wr ∧ ∀ j x, j < n → ps[j]? = some x → p x.toList = true

theorem parts_len_le (s : ByteArray) : (parts s).length ≤ s.size + 1 := by rw [parts_length]; have := Lib.countB_le ⟨#[46]⟩ (by decide) s.size s (by omega); omega

theorem sl_string {w : World} {lo hi : Nat} {a : Option Addr} {ps : List ByteArray} (h : Sl w lo hi a (ps.map Value.string)) {k : Nat} (hk : k < ps.length) :
    ∃ b o, a = some ⟨b, o, none⟩ ∧ b < hi ∧ w.cell? ⟨b, o + k, none⟩ = some (.string ps[k]) := by
  obtain ⟨b, o, e, _, h2, hc⟩ := h.at_ (k := k) (by simpa using hk)
  exact ⟨b, o, e, h2, hc k _ (by simp [hk])⟩

theorem werr_step {p : List UInt8 → Bool} {ps : List ByteArray} {k : Nat} {w : World} (HA : Hid (∀ j x, j < k → ps[j]? = some x → p x.toList = true)) (h : k < ps.length) (hp : p ps[k].toList = true) : WErrRel p ps w (.int .i64 ((k : Int) + 1)) w :=
  ⟨k + 1, h, by go_num, rfl, fun j x hj hx => by
    rcases Nat.lt_or_ge j k with h1 | h1
    · exact HA.out j x h1 hx
    · obtain rfl : j = k := by omega
      rw [List.getElem?_eq_getElem h] at hx
      cases hx
      exact hp⟩
theorem werr_no {p : List UInt8 → Bool} {s : ByteArray} {k : Nat} (h24 : s.size ≤ 24) (h6 : (parts s).length ≤ 6) (h : k < (parts s).length) (hp : p (parts s)[k].toList = false) : splitErr p s = 1 := by
  unfold splitErr
  rw [if_neg (by omega), if_neg]
  intro hall
  have := List.all_eq_true.1 hall _ (List.getElem_mem h)
  rw [hp] at this
  cases this
theorem werr_end {p : List UInt8 → Bool} {s : ByteArray} {k : Nat} (h24 : s.size ≤ 24) (h6 : (parts s).length ≤ 6) (HA : Hid (∀ j x, j < k → (parts s)[j]? = some x → p x.toList = true)) (h : ¬ k < (parts s).length) : splitErr p s = 0 := by
  unfold splitErr
  rw [if_neg (by omega), if_pos]
  exact List.all_eq_true.2 fun x hx => by
    obtain ⟨j, hj, rfl⟩ := List.mem_iff_getElem.1 hx
    exact HA.out j _ (by omega) (List.getElem?_eq_getElem hj)

set_option maxHeartbeats 1000000 in
theorem wordsError_any (s : ByteArray) (wild : Bool) (w : World) (hs : s.size ≤ 4294967281) :
    Calls Tryd.prog 95 #[.string s, .bool wild] w fun e w' => e = .returned (.int .i64 (splitErr (pw wild) s)) ∧ Below w.heap.size w w' := by
  have hmx := parts_len_le s
  by_cases h1 : 24 < s.size
  · have hf : splitErr (pw wild) s = 2 := by simp [splitErr, h1]
    have HF := Lib.hid hf; clear hf
    go_enter Tryd.func95, Tryd.ntmps95
    go_wp2
    go_ret
    exact ⟨by rw [HF.out]; rfl, Below.refl _ _⟩
  · have h24 : s.size ≤ 24 := by omega
    by_cases h6 : 6 < (parts s).length
    · have hf : splitErr (pw wild) s = 2 := by simp [splitErr, h6]
      have HF := Lib.hid hf; clear hf
      go_enter Tryd.func95, Tryd.ntmps95
      go_wp2_with (go_at_call 119; refine (refSplit46 s _ hs).mono ?_; rintro e w1 ⟨a, c, rfl, hsl, hc, hb⟩)
      go_ret
      exact ⟨by rw [HF.out]; rfl, hb⟩
    · have h6' : (parts s).length ≤ 6 := by omega
      clear h1 h6
      go_enter Tryd.func95, Tryd.ntmps95
      go_wp2_with (go_at_call 119; refine (refSplit46 s _ hs).mono ?_; rintro e w1 ⟨a, c, rfl, hsl, hc, hb⟩)
      have HS := Lib.hid hsl; clear hsl
      go_loopw [6] (fun k wr => WErrRel (pw wild) (parts s) w1 k wr) (fun k _ => (parts s).length - (intOf k).toNat)
      case atStart => exact ⟨0, by omega, rfl, rfl, fun j x hj => absurd hj (by omega)⟩
      case round =>
        obtain ⟨k, hk, rfl, rfl, hall⟩ := hrel
        have HA := Lib.hid hall; clear hall
        by_cases hlt : k < (parts s).length
        · obtain ⟨b, o, rfl, hb2, hcell⟩ := sl_string HS.out hlt
          have hsz : (parts s)[k].size ≤ 4294967281 := by have := parts_size hlt; omega
          cases hq : isWord (parts s)[k].toList <;> cases wild
          all_goals
            go_wp2_with (go_at_call 120; refine (refIsWord_any _ _ hsz).mono ?_; rintro e w' ⟨rfl, rfl⟩)
            all_goals first
              | exact ⟨werr_step HA hlt (by simp_all [pw, isWild]), by simp [intOf]; omega⟩
              | (go_ret; exact ⟨by rw [werr_no h24 h6' hlt (by simp_all [pw, isWild])]; rfl, hb⟩)
        · go_wp2
          go_ret
          exact ⟨by rw [werr_end h24 h6' HA hlt]; rfl, hb⟩

theorem KeyError_any (s : ByteArray) (w : World) (hs : s.size ≤ 4294967281) :
    Calls Tryd.prog 146 #[.string s] w fun e w' => e = .returned (.int .i64 (splitErr isWord s)) ∧ Below w.heap.size w w' := by
  go_enter Tryd.func146, Tryd.ntmps146
  go_wp2_with (go_at_call 95; refine (wordsError_any s false _ hs).mono ?_; rintro e w' ⟨rfl, hb⟩)
  go_ret
  exact ⟨rfl, hb⟩

theorem PatternError_any (s : ByteArray) (w : World) (hs : s.size ≤ 4294967281) :
    Calls Tryd.prog 41 #[.string s] w fun e w' => e = .returned (.int .i64 (splitErr isWild s)) ∧ Below w.heap.size w w' := by
  go_enter Tryd.func41, Tryd.ntmps41
  go_wp2_with (go_at_call 95; refine (wordsError_any s true _ hs).mono ?_; rintro e w' ⟨rfl, hb⟩)
  go_ret
  exact ⟨rfl, hb⟩

end Go.Proofs.YtapimpmpjighmaaDoor
