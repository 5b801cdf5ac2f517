/-
  Plain laws on words: what the library's search by runes comes to where only bytes of ASCII are let by; splitting at points.
-/
import Derived.Shelf.GgClosure.StringsIndexFunc
import Derived.Lib.Split
import Derived.Lib.CountLaws
import Derived.Lib.SplitLaws
import Derived.Laws.Strings
import Derived.WideShapes
namespace Go.Proofs.YtapimpmpjighmaaDoor
open Go

/-- A byte (or a rune) that is no small letter and no digit. -/
def odd (r : Int) : Bool := !((decide (97 ≤ r) && decide (r ≤ 122)) || (decide (48 ≤ r) && decide (r ≤ 57)))

theorem odd_big (n : Nat) (h : 128 ≤ n) : odd (n : Int) = true := by
  simp [odd]; omega

theorem decode_small (s : ByteArray) (i : Nat) (h : (s.get! i).toNat < 128) : Utf8.decode s i = ((s.get! i).toNat, 1) := by
  simp [Utf8.decode, h]

theorem decode_big (s : ByteArray) (i : Nat) (h : 128 ≤ (s.get! i).toNat) : 128 ≤ (Utf8.decode s i).1 := by
  unfold Utf8.decode
  simp only [Nat.add_zero]
  rw [if_neg (by omega)]
  repeat' split
  all_goals simp_all [Utf8.runeError]
  all_goals omega

theorem get!_eq (s : ByteArray) (i : Nat) (h : i < s.size) : s.get! i = s.data.toList[i]'(by simpa using h) := by
  simp only [ByteArray.get!, Array.getElem!_eq_getD, Array.getD, Array.getElem_toList]
  exact dif_pos h

theorem idx_any (s : ByteArray) : ∀ (f pos : Nat), s.size ≤ f + pos →
    decide (0 ≤ Lib.idxFuncFrom (fun n => odd (n : Int)) true s f pos) = (s.data.toList.drop pos).any fun c => odd (c.toNat : Int)
  | 0, pos, h => by
    rw [List.drop_eq_nil_of_le (by simpa using h)]
    simp [Lib.idxFuncFrom]
  | f + 1, pos, h => by
    unfold Lib.idxFuncFrom
    by_cases hp : pos < s.size
    · have hl : pos < s.data.toList.length := by simpa using hp
      rw [if_pos hp, List.drop_eq_getElem_cons hl, List.any_cons]
      rcases Nat.lt_or_ge (s.get! pos).toNat 128 with hb | hb
      · rw [decode_small s pos hb]
        simp only [get!_eq s pos hp]
        by_cases ho : odd ((s.data.toList[pos]).toNat : Int) = true
        · rw [if_pos ho, ho]; simp
        · rw [if_neg ho, idx_any s f (pos + 1) (by omega)]
          simp only [Bool.not_eq_true] at ho
          rw [ho, Bool.false_or]
      · have h1 := odd_big _ (decode_big s pos hb)
        have h2 := odd_big _ hb
        rw [get!_eq s pos hp] at h2
        rw [if_pos h1, h2]; simp
    · rw [if_neg hp, List.drop_eq_nil_of_le (by simp; omega)]
      simp

/-- A word of letters and digits. -/
def isWord (l : List UInt8) : Bool := !l.isEmpty && !(l.any fun c => odd (c.toNat : Int))
/-- A word of a pattern. -/
def isWild (l : List UInt8) : Bool := l == [42] || l == [35] || isWord l

theorem idxFunc_any (s : ByteArray) : decide (0 ≤ Lib.idxFunc (fun n => odd (n : Int)) true s) = s.toList.any fun c => odd (c.toNat : Int) := by
  rw [ByteArray.toList_eq]
  have := idx_any s s.size 0 (by omega)
  rw [List.drop_zero] at this
  exact this

/-- The words between the points. -/
def dots : List UInt8 → List (List UInt8)
  | [] => [[]]
  | x :: r => if x = 46 then [] :: dots r else (x :: (dots r).headD []) :: (dots r).tail

theorem dots_ne (l : List UInt8) : dots l ≠ [] := by
  cases l with
  | nil => simp [dots]
  | cons x r => unfold dots; split <;> simp

theorem dots_head (l : List UInt8) : (dots l).headD [] :: (dots l).tail = dots l := by
  cases h : dots l with
  | nil => exact absurd h (dots_ne l)
  | cons a t => rfl

theorem index_cons (b : UInt8) (l : List UInt8) : Lib.index (b :: l) [46] = if b = 46 then 0 else if Lib.index l [46] == -1 then -1 else Lib.index l [46] + 1 := by
  rw [Lib.index]
  by_cases h : b = 46
  · subst h; simp [List.isPrefixOf]
  · have : (46 == b) = false := by simp; exact fun e => h e.symm
    simp [List.isPrefixOf, h, this]

theorem splitK_dots : ∀ l : List UInt8, Lib.splitK [46] 0 (Lib.count l [46]) l = dots l
  | [] => by
    have : Lib.index [] [46] = -1 := rfl
    rw [Lib.count_miss this]; rfl
  | b :: l => by
    have ih := splitK_dots l
    by_cases hb : b = 46
    · subst hb
      have hi : Lib.index (46 :: l) [46] = (0 : Nat) := by rw [index_cons]; rfl
      rw [Lib.count_hit (by simp) hi, Nat.add_comm 1, Lib.splitK, if_neg (by rw [hi]; decide), hi]
      simp only [dots, if_true, List.length_cons, List.length_nil, Nat.zero_add, Int.toNat_natCast, Nat.add_zero, List.drop_succ_cons, List.drop_zero, List.take_zero]
      rw [ih]
    · rcases (show Lib.index l [46] < 0 ∨ 0 ≤ Lib.index l [46] from by omega) with h0 | h0
      · have hm : Lib.index l [46] = -1 := by have := Lib.index_ge l [46]; omega
        have hi : Lib.index (b :: l) [46] = -1 := by rw [index_cons, if_neg hb, hm]; rfl
        rw [Lib.count_miss hm] at ih
        rw [Lib.count_miss hi]
        unfold dots
        rw [if_neg hb, ← ih]
        rfl
      · obtain ⟨i, hl⟩ := Int.eq_ofNat_of_zero_le h0
        have hi : Lib.index (b :: l) [46] = ((i + 1 : Nat) : Int) := by
          rw [index_cons, if_neg hb, hl, if_neg (by simp)]; rfl
        have hc : Lib.count (b :: l) [46] = Lib.count l [46] := by
          rw [Lib.count_hit (by simp) hi, Lib.count_hit (by simp) hl]
          rfl
        rw [hc]
        rw [Lib.count_hit (by simp) hl, Nat.add_comm 1] at ih ⊢
        rw [Lib.splitK, if_neg (by intro hh; rw [hl, beq_iff_eq] at hh; omega), hl] at ih
        rw [Lib.splitK, if_neg (by intro hh; rw [hi, beq_iff_eq] at hh; omega), hi]
        unfold dots
        rw [if_neg hb, ← ih]
        rfl

/-- The pieces of s between the points, as the reference cuts them: from the piece's start and the place that is looked at. -/
def cuts (s : ByteArray) (at_ : Nat) : Nat → Nat → Nat → List ByteArray
  | 0, _, _ => []
  | f + 1, from_, i => if s.size ≤ i then [s.extract from_ i] else if (s.get! i).toNat = at_ then s.extract from_ i :: cuts s at_ f (i + 1) (i + 1) else cuts s at_ f from_ (i + 1)

theorem cuts_end (s : ByteArray) (c f : Nat) : cuts s c (s.size + 1 - s.size) f s.size = [s.extract f s.size] ++ cuts s c (s.size + 1 - (s.size + 1)) (s.size + 1) (s.size + 1) := by
  rw [show s.size + 1 - s.size = 0 + 1 from by omega, Nat.sub_self]
  simp [cuts]
theorem cuts_hit (s : ByteArray) (c f k : Nat) (h : k < s.size) (hc : (s[k].toNat : Int) = (c : Int)) : cuts s c (s.size + 1 - k) f k = [s.extract f k] ++ cuts s c (s.size + 1 - (k + 1)) (k + 1) (k + 1) := by
  rw [show s.size + 1 - k = (s.size + 1 - (k + 1)) + 1 from by omega]
  have e : (s.get! k).toNat = c := by rw [get!_eq s k h]; exact Int.ofNat.inj hc
  rw [cuts, if_neg (by omega), if_pos e]
  rfl
theorem cuts_miss (s : ByteArray) (c f k : Nat) (h : k < s.size) (hc : ¬ (s[k].toNat : Int) = (c : Int)) : cuts s c (s.size + 1 - k) f k = cuts s c (s.size + 1 - (k + 1)) f (k + 1) := by
  rw [show s.size + 1 - k = (s.size + 1 - (k + 1)) + 1 from by omega]
  have e : ¬ (s.get! k).toNat = c := by rw [get!_eq s k h]; exact fun h => hc (congrArg Int.ofNat h)
  rw [cuts, if_neg (by omega), if_neg e]


theorem byte_drop (s : ByteArray) (k : Nat) (h : k < s.size) : s.toList.drop k = s[k] :: s.toList.drop (k + 1) := by
  rw [ByteArray.toList_eq, List.drop_eq_getElem_cons (by simpa using h)]
  rfl

theorem extract_toList (s : ByteArray) (a b : Nat) : (s.extract a b).toList = (s.toList.drop a).take (b - a) := by
  rw [ByteArray.toList_eq, ByteArray.toList_eq, Lib.extract_data]

theorem extract_snoc (s : ByteArray) (f k : Nat) (hf : f ≤ k) (h : k < s.size) : (s.extract f (k + 1)).toList = (s.extract f k).toList ++ [s[k]] := by
  rw [extract_toList, extract_toList, show k + 1 - f = (k - f) + 1 from by omega, List.take_add_one, List.getElem?_drop, show f + (k - f) = k from by omega]
  rw [List.getElem?_eq_getElem (by rw [ByteArray.toList_eq]; simpa using h)]
  simp only [ByteArray.toList_eq]
  rfl

theorem cuts_data (s : ByteArray) : ∀ (n k f : Nat), s.size - k = n → f ≤ k → k ≤ s.size →
    (cuts s 46 (s.size + 1 - k) f k).map ByteArray.toList = ((s.extract f k).toList ++ (dots (s.toList.drop k)).headD []) :: (dots (s.toList.drop k)).tail
  | 0, k, f, hn, hf, hk => by
    obtain rfl : k = s.size := by omega
    have e : dots (s.toList.drop s.size) = [[]] := by
      rw [List.drop_eq_nil_of_le (by rw [ByteArray.toList_eq]; simp)]; rfl
    rw [cuts_end, Nat.sub_self, e]
    simp [cuts]
  | n + 1, k, f, hn, hf, hk => by
    have hlt : k < s.size := by omega
    by_cases hc : (s[k].toNat : Int) = ((46 : Nat) : Int)
    · have hb : s[k] = 46 := by
        apply UInt8.toNat_inj.1
        exact Int.ofNat.inj hc
      have e : (s.extract (k + 1) (k + 1)).toList = [] := by rw [extract_toList, Nat.sub_self, List.take_zero]
      rw [cuts_hit s 46 f k hlt hc, List.map_append, cuts_data s n (k + 1) (k + 1) (by omega) (Nat.le_refl _) (by omega), byte_drop s k hlt, hb, e]
      simp only [List.map_cons, List.map_nil, dots, if_true, List.headD_cons, List.tail_cons, List.append_nil, List.nil_append, dots_head, List.singleton_append]
    · have hb : ¬ s[k] = 46 := fun e => hc (by rw [e]; rfl)
      rw [cuts_miss s 46 f k hlt hc, cuts_data s n (k + 1) f (by omega) (by omega) (by omega), byte_drop s k hlt, extract_snoc s f k hf hlt]
      simp only [dots, if_neg hb, List.headD_cons, List.tail_cons, List.append_assoc, List.singleton_append]

/-- The words of a text, as the library cuts it at its points. -/
def parts (s : ByteArray) : List ByteArray := Lib.splitB ⟨#[46]⟩ 0 (Lib.countB s ⟨#[46]⟩) s

theorem parts_data (s : ByteArray) : (parts s).map ByteArray.toList = dots s.toList := by
  have : (parts s).map (·.data.toList) = dots s.data.toList := by
    rw [parts, Lib.splitB_data]
    exact splitK_dots _
  rw [ByteArray.toList_eq, ← this]
  exact List.map_congr_left fun x _ => ByteArray.toList_eq x

theorem toList_inj {a b : ByteArray} (h : a.toList = b.toList) : a = b := by
  rw [ByteArray.toList_eq, ByteArray.toList_eq] at h
  exact WideShapes.bytes_inj h

theorem map_toList_inj : ∀ {a b : List ByteArray}, a.map ByteArray.toList = b.map ByteArray.toList → a = b
  | [], [], _ => rfl
  | [], b :: lb, h => by simp at h
  | a :: la, [], h => by simp at h
  | a :: la, b :: lb, h => by
    simp only [List.map_cons, List.cons.injEq] at h
    rw [toList_inj h.1, map_toList_inj h.2]

theorem cuts_parts (s : ByteArray) : cuts s 46 (s.size + 1) 0 0 = parts s := by
  apply map_toList_inj
  have := cuts_data s s.size 0 0 (by omega) (Nat.le_refl _) (by omega)
  rw [Nat.sub_zero, extract_toList, Nat.sub_zero, List.take_zero, List.nil_append, List.drop_zero, dots_head] at this
  rw [this, parts_data]

theorem dots_mem_len : ∀ (l x : List UInt8), x ∈ dots l → x.length ≤ l.length
  | [], x, h => by simp [dots] at h; subst h; simp
  | b :: l, x, h => by
    unfold dots at h
    split at h
    · rcases List.mem_cons.1 h with rfl | h
      · simp
      · have := dots_mem_len l x h; simp; omega
    · have hh := dots_head l
      rcases List.mem_cons.1 h with rfl | h
      · have := dots_mem_len l ((dots l).headD []) (by rw [← hh]; exact List.mem_cons_self)
        rw [List.length_cons, List.length_cons]; omega
      · have := dots_mem_len l x (by rw [← hh]; exact List.mem_cons_of_mem _ h)
        simp; omega

theorem parts_size {s : ByteArray} {k : Nat} (h : k < (parts s).length) : (parts s)[k].size ≤ s.size := by
  have h1 : (parts s)[k].toList ∈ dots s.toList := by
    rw [← parts_data]; exact List.mem_map.2 ⟨_, List.getElem_mem h, rfl⟩
  have := dots_mem_len _ _ h1
  simp only [ByteArray.toList_eq] at this
  simpa using this

end Go.Proofs.YtapimpmpjighmaaDoor
