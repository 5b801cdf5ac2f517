/-
  The walks of the words: what words.plain, wild, split and their references compute. Conditions: strings shorter than 2^32 - 15 bytes where the library's Split or ContainsFunc is called; the library's variable MaxLen holds an int.
-/
import Derived.Test.YtapimpmpjighmaaDoorBase
import Derived.Test.YtapimpmpjighmaaDoorShelf
import Derived.Test.YtapimpmpjighmaaDoorWordsPure
namespace Go.Proofs.YtapimpmpjighmaaDoor
open Go.RowKit
set_option maxRecDepth 100000

set_option maxHeartbeats 400000 in
theorem plain1_any (r : Int) (w : World) :
    Calls Tryd.prog 127 #[.int .i32 r] w fun e w' => e = .returned (.bool (odd r)) ∧ w = w' := by
  go_enter Tryd.func127, Tryd.ntmps127
  go_wp2
  all_goals go_ret
  all_goals refine ⟨?_, rfl⟩
  all_goals (refine congrArg (fun b => Ending.returned (Value.bool b)) ?_; rw [Bool.eq_iff_iff]; simp [odd] <;> omega)

theorem plain1_grows (w : World) : PredGrows Tryd.prog 127 #[] (fun n => odd (n : Int)) w :=
  fun W x _ _ => (plain1_any x W).mono (by rintro e w' ⟨rfl, rfl⟩; exact ⟨rfl, Below.refl _ _⟩)

theorem eg_plain1 : ∀ args w, (callFunc 127 args).run Tryd.prog w = .ok (.enter 127 args) w := enters_of Tryd.func127 (by kernel_rfl) rfl

theorem contains_odd (s : ByteArray) (w : World) :
    Calls Tryd.prog 113 #[.string s, .func (.func 127) #[] #[]] w fun e w' => e = .returned (.bool (s.toList.any fun c => odd (c.toNat : Int))) ∧ Below w.heap.size w w' :=
  (Tryd.strings_ContainsFunc_grows _ #[] eg_plain1 _ s w (plain1_grows w)).mono (by rintro e w' ⟨rfl, hb⟩; exact ⟨by rw [idxFunc_any], hb⟩)

set_option maxHeartbeats 400000 in
theorem plain_any (s : ByteArray) (w : World) :
    Calls Tryd.prog 109 #[.string s] w fun e w' => e = .returned (.bool (isWord s.toList)) ∧ Below w.heap.size w w' := by
  go_enter Tryd.func109, Tryd.ntmps109
  go_wp2_with (go_at_call 113; refine (contains_odd _ _).mono ?_; rintro e w1 ⟨rfl, hb⟩)
  · go_ret
    exact ⟨by simp [isWord, *], Below.refl _ _⟩
  · go_ret
    exact ⟨by simp [isWord, *], hb⟩

set_option maxHeartbeats 400000 in
theorem wild_any (s : ByteArray) (w : World) :
    Calls Tryd.prog 118 #[.string s] w fun e w' => e = .returned (.bool (isWild s.toList)) ∧ Below w.heap.size w w' := by
  go_enter Tryd.func118, Tryd.ntmps118
  go_wp2_with (go_at_call 109; refine (plain_any _ _).mono ?_; rintro e w1 ⟨rfl, hb⟩)
  all_goals go_ret
  all_goals exact ⟨by simp [isWild, *], by first | exact Below.refl _ _ | assumption⟩

/-- Which error a text has, of which each word must be p. -/
def splitErr (p : List UInt8 → Bool) (s : ByteArray) : Int := if 24 < s.size ∨ 6 < (parts s).length then 2 else if (parts s).all (fun x => p x.toList) then 0 else 1
def splitOut (p : List UInt8 → Bool) (s : ByteArray) : List ByteArray := if splitErr p s = 0 then parts s else []
def SplitPost (p : List UInt8 → Bool) (s : ByteArray) (w : World) (e : Ending) (w' : World) : Prop :=
  ∃ a c, e = .returned (.tuple #[.slice a (splitOut p s).length c, .int .i64 (splitErr p s)]) ∧ Sl w' w.heap.size w'.heap.size a ((splitOut p s).map Value.string) ∧ (splitOut p s).length ≤ c ∧ Below w.heap.size w w'

theorem parts_length (s : ByteArray) : (parts s).length = Lib.countB s ⟨#[46]⟩ + 1 := by
  exact Lib.splitB_all _ (by decide) 0 _ s rfl

/-- Which error, by the bytes. -/
def splitErrL (p : List UInt8 → Bool) (l : List UInt8) : Int := if 24 < l.length ∨ 6 < (dots l).length then 2 else if (dots l).all p then 0 else 1
theorem splitErr_list (p : List UInt8 → Bool) (s : ByteArray) : splitErr p s = splitErrL p s.toList := by
  unfold splitErr splitErrL
  rw [← parts_data, List.length_map, List.all_map, ByteArray.toList_eq, Array.length_toList]
  rfl

/-- The library's variable MaxLen holds an int. -/
def Env (w : World) : Prop := ∃ m, w.cell? ⟨0, 0, none⟩ = some (.int .i64 m)
theorem lt_of_cell {w : World} {a : Addr} {v : Value} (h : w.cell? a = some v) : a.block < w.heap.size := by
  rcases Nat.lt_or_ge a.block w.heap.size with h1 | h1
  · exact h1
  · simp [World.cell?, Array.getElem?_eq_none h1] at h
theorem below_env {w w' : World} (hb : Below w.heap.size w w') (h : Env w) : Env w' := by
  obtain ⟨m, hm⟩ := h
  exact ⟨m, (hb.cell (p := ⟨0, 0, none⟩) (lt_of_cell hm)).trans hm⟩

theorem lib_split (s : ByteArray) (m : Int) (w : World) (hs : s.size < 4294967281) (hm : w.cell? ⟨0, 0, none⟩ = some (.int .i64 m)) :
    Calls Tryd.prog 126 #[.string s, .string ⟨#[46]⟩] w fun e w' =>
      e = .returned (.slice (some ⟨w.heap.size, 0, none⟩) (parts s).length (parts s).length) ∧ w' = w.alloc (.cells ((parts s).map Value.string).toArray 9) :=
  (Tryd.strings_Split s ⟨#[46]⟩ m w hs hm (by decide)).mono (by rintro e w' ⟨rfl, rfl⟩; exact ⟨by rw [parts_length], rfl⟩)

def SplitRel (p : List UInt8 → Bool) (ps : List ByteArray) (W0 : World) (k : Value) (wr : World) : Prop :=
  ∃ n : Nat, n ≤ ps.length ∧ k = .int .i64 n ∧ Below W0.heap.size W0 wr ∧ ∀ j x, j < n → ps[j]? = some x → p x.toList = true

set_option maxHeartbeats 800000 in
theorem split_any (g : Nat) (p : List UInt8 → Bool) (eg : ∀ args w, (callFunc g args).run Tryd.prog w = .ok (.enter g args) w)
    (hmay : ∀ x W, Calls Tryd.prog g #[.string x] W fun e W' => e = .returned (.bool (p x.toList)) ∧ Below W.heap.size W W')
    (s : ByteArray) (m : Int) (w : World) (hs : s.size < 4294967281) (hm : w.cell? ⟨0, 0, none⟩ = some (.int .i64 m)) :
    Calls Tryd.prog 108 #[.string s, .func (.func g) #[] #[]] w (SplitPost p s w) := by
  have hsl := Sl.new w ((parts s).map Value.string) 9 (w.heap.size + 1) (by omega)
  have hmx : (parts s).length ≤ 9223372036854775806 := by rw [parts_length]; have := Lib.countB_le ⟨#[46]⟩ (by decide) s.size s (by omega); omega
  have HM := Lib.hid hmay; clear hmay
  have HS := Lib.hid hsl; clear hsl
  by_cases h1 : 24 < s.size ∨ 6 < (parts s).length
  · have he : splitErr p s = 2 := by simp [splitErr, h1]
    have ho : splitOut p s = [] := by simp [splitOut, he]
    have HF : Hid (splitErr p s = 2 ∧ splitOut p s = []) := ⟨he, ho⟩
    clear he ho
    go_enter Tryd.func108, Tryd.ntmps108
    go_wp2_with (go_at_call 126; refine (lib_split s m _ hs hm).mono ?_; rintro e w1 ⟨rfl, rfl⟩)
    all_goals go_ret2
    all_goals exact ⟨none, 0, by rw [HF.out.1, HF.out.2]; rfl, by rw [HF.out.2]; exact Sl.nil _ _ _ _, by rw [HF.out.2]; simp, (Below.refl _ _).alloc (Nat.le_refl _) _⟩
  · have h24 : s.size ≤ 24 := by omega
    have h6 : (parts s).length ≤ 6 := by omega
    clear h1
    go_enter Tryd.func108, Tryd.ntmps108
    go_wp2_with (go_at_call 126; refine (lib_split s m _ hs hm).mono ?_; rintro e w1 ⟨rfl, rfl⟩)
    generalize hW0 : w.alloc (.cells ((parts s).map Value.string).toArray 9) = W0 at *
    have hz : W0.heap.size = w.heap.size + 1 := by rw [← hW0]; simp
    have hBW : Below w.heap.size w W0 := by rw [← hW0]; exact (Below.refl _ _).alloc (Nat.le_refl _) _
    have HZ := Lib.hid hz; clear hz
    clear hW0
    go_loopw [21] (fun k wr => SplitRel p (parts s) W0 k wr) (fun k _ => (parts s).length - (intOf k).toNat)
    case atStart => exact ⟨0, by omega, rfl, Below.refl _ _, fun j x hj => absurd hj (by omega)⟩
    case round =>
      obtain ⟨k, hk, rfl, hB, hall⟩ := hrel
      have HA := Lib.hid hall; clear hall
      by_cases hlt : k < (parts s).length
      · obtain ⟨b, o, ea, hb1, hb2, hc⟩ := HS.out.at_ (k := k) (by simpa using hlt)
        have hcell : wr.cell? ⟨w.heap.size, k, none⟩ = some (.string (parts s)[k]) := by
          simp only [Option.some.injEq, Addr.mk.injEq] at ea
          obtain ⟨rfl, rfl, _⟩ := ea
          rw [hB.cell (p := ⟨_, k, none⟩) (by rw [HZ.out]; exact hb2)]
          have := hc k (.string (parts s)[k]) (by simp [hlt])
          simpa using this
        clear ea hb1 hb2 hc b o
        by_cases hp : p (parts s)[k].toList = true
        · go_wp2_with (go_at_fn g; refine (HM.out _ _).mono ?_; rintro e w1 ⟨rfl, hb⟩)
          go_roundw
          case rel =>
            exact ⟨k + 1, hlt, by go_num, hB.trans (hb.mono hB.size), fun j x hj hx => by
              rcases Nat.lt_or_ge j k with h | h
              · exact HA.out j x h hx
              · obtain rfl : j = k := by omega
                rw [List.getElem?_eq_getElem hlt] at hx
                cases hx
                exact hp⟩
          case measure => simp [intOf]; omega
        · have HP : Hid (splitErr p s = 1 ∧ splitOut p s = []) := by
            have he : splitErr p s = 1 := by
              unfold splitErr
              rw [if_neg (by omega), if_neg]
              intro hall
              exact hp (List.all_eq_true.1 hall _ (List.getElem_mem hlt))
            exact ⟨he, by simp [splitOut, he]⟩
          simp only [Bool.not_eq_true] at hp
          go_wp2_with (go_at_fn g; refine (HM.out _ _).mono ?_; rintro e w1 ⟨rfl, hb⟩)
          go_ret2
          exact ⟨none, 0, by rw [HP.out.1, HP.out.2]; rfl, by rw [HP.out.2]; exact Sl.nil _ _ _ _, by rw [HP.out.2]; simp, hBW.trans ((hB.trans (hb.mono hB.size)).mono hBW.size)⟩
      · have HP : Hid (splitErr p s = 0 ∧ splitOut p s = parts s) := by
          have he : splitErr p s = 0 := by
            unfold splitErr
            rw [if_neg (by omega), if_pos]
            exact List.all_eq_true.2 fun x hx => by
              obtain ⟨j, hj, rfl⟩ := List.mem_iff_getElem.1 hx
              exact HA.out j _ (by omega) (List.getElem?_eq_getElem hj)
          exact ⟨he, by simp [splitOut, he]⟩
        go_wp2
        go_ret2
        refine ⟨some ⟨w.heap.size, 0, none⟩, (parts s).length, by rw [HP.out.1, HP.out.2]; rfl, ?_, by rw [HP.out.2]; omega, hBW.trans (hB.mono hBW.size)⟩
        rw [HP.out.2]
        exact (HS.out.below hB (by rw [HZ.out]; omega)).wider (Nat.le_refl _) (by have := hB.size; have := HZ.out; omega)

theorem eg_plain : ∀ args w, (callFunc 109 args).run Tryd.prog w = .ok (.enter 109 args) w := enters_of Tryd.func109 (by kernel_rfl) rfl
theorem eg_wild : ∀ args w, (callFunc 118 args).run Tryd.prog w = .ok (.enter 118 args) w := enters_of Tryd.func118 (by kernel_rfl) rfl

set_option maxHeartbeats 400000 in
theorem Split_any (s : ByteArray) (m : Int) (w : World) (hs : s.size < 4294967281) (hm : w.cell? ⟨0, 0, none⟩ = some (.int .i64 m)) :
    Calls Tryd.prog 76 #[.string s] w (SplitPost isWord s w) := by
  go_enter Tryd.func76, Tryd.ntmps76
  go_wp2_with (go_at_call 108; refine (split_any _ _ eg_plain plain_any s m _ hs hm).mono ?_; rintro e w1 ⟨a, c, rfl, h1, h2, h3⟩)
  go_ret2
  exact ⟨a, c, rfl, h1, h2, h3⟩

set_option maxHeartbeats 400000 in
theorem Pattern_any (s : ByteArray) (m : Int) (w : World) (hs : s.size < 4294967281) (hm : w.cell? ⟨0, 0, none⟩ = some (.int .i64 m)) :
    Calls Tryd.prog 94 #[.string s] w fun e w' => e = .returned (.int .i64 (splitErr isWild s)) ∧ Below w.heap.size w w' := by
  go_enter Tryd.func94, Tryd.ntmps94
  go_wp2_with (go_at_call 108; refine (split_any _ _ eg_wild wild_any s m _ hs hm).mono ?_; rintro e w1 ⟨a, c, rfl, h1, h2, h3⟩)
  go_ret
  exact ⟨rfl, h3⟩

theorem Pattern_env (s : ByteArray) (w : World) (hs : s.size < 4294967281) (hE : Env w) :
    Calls Tryd.prog 94 #[.string s] w fun e w' => e = .returned (.int .i64 (splitErr isWild s)) ∧ Below w.heap.size w w' := by
  obtain ⟨m, hm⟩ := hE
  exact Pattern_any s m w hs hm
theorem Split_env (s : ByteArray) (w : World) (hs : s.size < 4294967281) (hE : Env w) : Calls Tryd.prog 76 #[.string s] w (SplitPost isWord s w) := by
  obtain ⟨m, hm⟩ := hE
  exact Split_any s m w hs hm

end Go.Proofs.YtapimpmpjighmaaDoor
