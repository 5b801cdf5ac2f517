/-
  Walk of package plan: alike.
-/
import Derived.Test.YtapimpmpjighmaaDoorPlanB
namespace Go.Proofs.YtapimpmpjighmaaDoor
open Go.RowKit
set_option maxRecDepth 100000

open Go.Maps Go.WideMaps in
/-- The counts' map behind the first k names. -/
def AlikeRel (l : List ByteArray) (w : World) (i : Value) (wr : World) : Prop :=
  ∃ (k : Nat) (D : DataW Unit), k ≤ l.length ∧ i = .int .i64 k ∧ wr.ownsMap Tryd.prog 9 (plainElem Tryd.prog 3) w.heap.size k D ∧ Tidy D ∧ (∀ s : ByteArray, has D (.string s.data.toList) = true ↔ s ∈ l.take k) ∧
    (decide (size D < k) = dup (l.take k)) ∧ size D ≤ k ∧ Below w.heap.size w wr

theorem strKey (s : ByteArray) : WideAt.IsKeyLit (.string s.data.toList) := trivial
theorem string_data_inj {s t : ByteArray} (h : Lit.string s.data.toList = Lit.string t.data.toList) : s = t := by
  simp only [Lit.string.injEq] at h
  exact toList_inj (by rw [ByteArray.toList_eq, ByteArray.toList_eq]; exact h)

open Go.Maps in
theorem alike_step {l : List ByteArray} {k : Nat} {D : DataW Unit} (hk : k < l.length) (ht : Tidy D) (hh : ∀ s : ByteArray, has D (.string s.data.toList) = true ↔ s ∈ l.take k) (hd : decide (size D < k) = dup (l.take k)) (hs : size D ≤ k) (d : DataW Unit) :
    Tidy (D.put (.string l[k].data.toList) d) ∧ (∀ s : ByteArray, has (D.put (.string l[k].data.toList) d) (.string s.data.toList) = true ↔ s ∈ l.take (k + 1)) ∧
      (decide (size (D.put (.string l[k].data.toList) d) < k + 1) = dup (l.take (k + 1))) ∧ size (D.put (.string l[k].data.toList) d) ≤ k + 1 := by
  refine ⟨ht.put (strKey _) d, fun s => ?_, ?_, ?_⟩
  · have ea : l.take (k + 1) = l.take k ++ [l[k]] := List.take_succ_eq_append_getElem hk
    by_cases e : s = l[k]
    · subst e
      rw [has_put_same ht.isMap (strKey _), ea]
      exact ⟨fun _ => List.mem_append_right _ (List.mem_cons_self ..), fun _ => rfl⟩
    · rw [has_put_other (fun h => e (string_data_inj h)), hh s, ea, List.mem_append]
      exact ⟨.inl, fun h => h.elim id fun h => absurd (List.mem_singleton.1 h) e⟩
  · rw [size_put ht]
    have hhk := hh l[k]
    unfold dup at hd ⊢
    have hn := nodup_take hk
    by_cases hm : l[k] ∈ l.take k
    · have : ¬ (l.take (k + 1)).Nodup := fun h => (hn.1 h).2 hm
      rw [hhk.2 hm]
      simp [this]
      omega
    · have hf : has D (.string l[k].data.toList) = false := by
        rw [← Bool.not_eq_true]
        exact fun h => hm (hhk.1 h)
      rw [hf]
      by_cases hnd : (l.take k).Nodup
      · have h2 := hn.2 ⟨hnd, hm⟩
        simp [hnd] at hd
        simp [h2]
        omega
      · have h2 : ¬ (l.take (k + 1)).Nodup := fun h => hnd (hn.1 h).1
        simp [hnd] at hd
        simp [h2]
        omega
  · rw [size_put ht]
    split <;> omega

open Go.Maps Go.WideMaps in
set_option maxHeartbeats 1000000 in
theorem alike_any (a : Option Addr) (c : Nat) (l : List ByteArray) (lo : Nat) (w : World) (hx : Sl w lo w.heap.size a (l.map Value.string)) (hl : l.length ≤ 1048576) (hsz : ∀ s ∈ l, s.size ≤ maxLen) :
    Calls Tryd.prog 86 #[.slice a l.length c] w fun e w' => e = .returned (.bool (dup l)) ∧ Below w.heap.size w w' := by
  have hmm := @run_makeMap Tryd.prog
  have HX := Lib.hid hx; clear hx
  have HZ := Lib.hid hsz; clear hsz
  go_enter Tryd.func86, Tryd.ntmps86
  go_wp2_with fail
  go_loopw [9] (fun i wr => AlikeRel l w i wr) (fun i _ => l.length - (intOf i).toNat)
  case atStart =>
    exact ⟨0, .map [], by omega, rfl, World.ownsMap_made _ _ _ _, tidy_empty, fun s => by simp [has], by simp [size, dup], by simp [size], (Below.refl _ _).alloc (Nat.le_refl _) _⟩
  case round =>
    obtain ⟨k, D, hk, rfl, hown, ht, hh, hd, hs, hB⟩ := hrel
    have HF := Lib.hid (And.intro ht (And.intro hh (And.intro hd hs))); clear ht hh hd hs
    have HO := Lib.hid hown; clear hown
    by_cases hlt : k < l.length
    · obtain ⟨b, o, rfl, _, hb, hc⟩ := HX.out.at_ (k := k) (by simpa using hlt)
      have e0 : wr.cell? ⟨b, o + k, none⟩ = some (.string l[k]) := (hB.cell (p := ⟨b, _, none⟩) hb).trans (hc k _ (by simp [hlt]))
      have hkey : keyOf Tryd.prog 9 (.string l[k]) = some (.string l[k].data.toList) := keyOf_string_mk Tryd.underlying9 (HZ.out _ (List.getElem_mem hlt))
      have HS := Lib.hid (fun d => alike_step hlt HF.out.1 HF.out.2.1 HF.out.2.2.1 HF.out.2.2.2 d); clear HF
      have HK := Lib.hid hkey; clear hkey
      have HB := Lib.hid hB; clear hB hc
      generalize hsk : l[k] = sk at *
      go_wp2_with (first
        | (at_lookup; refine wpList_lookup_own_int _ rfl _ _ 166 rfl 9 3 .i64 (string_keyed Tryd.underlying9) Tryd.underlying166 Tryd.underlying3 (by kernel_rfl) _ _ D rfl HO.out _ _ rfl HK.out ?_; intro cnt hat hwc; have HW := Lib.hid hat; clear hat hwc)
        | (at_mapUpdate; refine wpList_mapUpdate_own _ rfl _ _ _ 166 rfl 9 3 (string_keyed Tryd.underlying9) Tryd.underlying166 _ _ k D rfl HO.out (by unfold maxLen; omega) _ _ _ rfl rfl HK.out _ [] (plainElem_int Tryd.underlying3 (wrap64_wf _)) ?_; intro w1 hown1 hgrow1))
      obtain ⟨s1, s2, s3, s4⟩ := HS.out _
      exact ⟨⟨k + 1, _, hlt, by go_num, hown1, s1, s2, s3, s4, HB.out.grown hgrow1 HB.out.size (fun j hj => by cases hj; exact Nat.le_refl _)⟩, by simp [intOf]; omega⟩
    · obtain rfl : k = l.length := by omega
      have hd := HF.out.2.2.1
      rw [List.take_of_length_le (Nat.le_refl _)] at hd
      have HD := Lib.hid hd; clear hd
      go_wp2_with (at_len; refine wpList_len_own _ rfl _ 166 rfl 9 3 Tryd.underlying166 _ _ _ D rfl HO.out ?_)
      go_ret
      refine ⟨?_, hB⟩
      rw [← HD.out]
      refine congrArg (fun b => Ending.returned (Value.bool b)) ?_
      simp

end Go.Proofs.YtapimpmpjighmaaDoor
