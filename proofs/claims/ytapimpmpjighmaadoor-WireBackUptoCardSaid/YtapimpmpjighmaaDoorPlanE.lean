/-
  Walks: slices.Grow of a nil slice, slices.Concat of two, at strings; twice.
-/
import Derived.Test.YtapimpmpjighmaaDoorPlanC
import Derived.Test.YtapimpmpjighmaaDoorWalkB
namespace Go.Proofs.YtapimpmpjighmaaDoor
open Go.RowKit
set_option maxRecDepth 100000

set_option maxHeartbeats 1000000 in
theorem Grow_nil (n : Nat) (hn : n ≤ 4194304) (w : World) :
    Calls Tryd.prog 112 #[.slice none 0 0, .int .i64 n] w fun e w' => ∃ v, e = .returned v ∧ w'.ownsRow w.heap.size 9 1 v 0 [] ∧ Below w.heap.size w w' := by
  by_cases h0 : n = 0
  · subst h0
    go_enter Tryd.func112, Tryd.ntmps112
    go_wp2_with fail
    go_ret
    exact ⟨_, rfl, World.ownsRow_nil _ _ _ _, Below.refl _ _⟩
  · obtain ⟨i, hi, hz0, hz1, hz2⟩ := info_parts (P := Tryd.prog) infoStr
    have hrz : ∀ ty, ∃ v w', (Builtin.append_ #[84, 3] ty #[.slice none 0 0, .int .i64 (n : Int)]).run Tryd.prog w = .ok v w' ∧ ∃ cap, v = .slice (some ⟨w.heap.size, 0, none⟩) n cap ∧ n ≤ cap ∧ cap ≤ 9223372036854775807 ∧ (w'.ownsRow w.heap.size 9 1 (.slice (some ⟨w.heap.size, 0, none⟩) 0 cap) 0 []) ∧ Below w.heap.size w w' := fun ty => by
      have hfit : Builtin.nextslicecap (0 + n) 0 * i.bytes ≤ 281474976710656 := by
        refine growslice_fits (by omega) ?_
        rw [hz2]
        omega
      have h := Lib.run_append_grow_zeros w 84 3 ty 9 i _ .i64 .i64 Tryd.underlying84 Tryd.underlying3 hi hz0 none 0 0 [] (run_firstCells_none w.drew i.size 0 0 0) n (by omega) (by rw [hz1]; decide) (by omega) (by omega) (by rw [hz2]; omega) hfit
      rw [Nat.zero_add] at h
      have hG := grownCap_ge w n 0 9
      have hG2 := grownCap_le_maxLen w n 0 9 (by unfold maxLen; omega)
      refine ⟨_, _, h, _, rfl, hG, by unfold maxLen at hG2; omega, ?_, (Below.refl _ w).drew.alloc (Nat.le_refl _) _⟩
      refine ⟨rfl, .inr ⟨w.heap.size, _, _, rfl, Nat.le_refl _, heap_alloc_new w.drew _, by omega, hG2, ?_, rfl⟩⟩
      simp only [Array.size_append, size_zeroCells, List.size_toArray, List.length_nil]
      simp only [Value.cells, Array.size_singleton]
      omega
    go_enter Tryd.func112, Tryd.ntmps112
    obtain ⟨v, w1, hr, cap, rfl, hc1, hc2, hown, hB⟩ := hrz 84
    have HO := Lib.hid hown; clear hown hrz
    go_wp2_with (at_builtin; refine Lib.wpList_append_run _ rfl _ _ _ _ rfl _ _ rfl rfl _ _ hr ?_)
    all_goals go_ret
    all_goals exact ⟨_, rfl, HO.out, hB⟩

def CatRel1 (L : List (List ByteArray)) (w : World) (sz i : Value) (wr : World) : Prop :=
  ∃ k : Nat, k ≤ L.length ∧ i = .int .i64 k ∧ sz = .int .i64 ((L.take k).flatten.length : Nat) ∧ w = wr
def CatRel2 (L : List (List ByteArray)) (w : World) (v i : Value) (wr : World) : Prop :=
  ∃ k : Nat, k ≤ L.length ∧ i = .int .i64 k ∧ wr.ownsRow w.heap.size 9 1 v (L.take k).flatten.length ((L.take k).flatten.map Value.string) ∧ Below w.heap.size w wr

theorem flat_take {α : Type} {L : List (List α)} {k : Nat} (h : k < L.length) : (L.take (k + 1)).flatten = (L.take k).flatten ++ L[k] := by
  rw [List.take_succ_eq_append_getElem h, List.flatten_append]
  simp

theorem flat_le {α : Type} (L : List (List α)) (k : Nat) : (L.take k).flatten.length ≤ L.flatten.length := by
  have h : L.flatten = (L.take k).flatten ++ (L.drop k).flatten := by rw [← List.flatten_append, List.take_append_drop]
  rw [h, List.length_append]
  omega

set_option maxHeartbeats 1000000 in
/-- Concat of some slices of strings, at whatever addresses. -/
theorem Concat_any (L : List (List ByteArray)) (A : List (Option Addr × Nat)) (hA : A.length = L.length) (b o c : Nat) (w : World) (hL : L.length ≤ 4194304) (hn : L.flatten.length ≤ 4194304) (hb : b < w.heap.size)
    (hcells : ∀ k (h : k < L.length), w.cell? ⟨b, o + k, none⟩ = some (.slice (A[k]'(by omega)).1 L[k].length (A[k]'(by omega)).2))
    (hsl : ∀ k (h : k < L.length), Sl w 0 w.heap.size (A[k]'(by omega)).1 (L[k].map Value.string)) :
    Calls Tryd.prog 83 #[.slice (some ⟨b, o, none⟩) L.length c] w fun e w' => ∃ v, e = .returned v ∧ w'.ownsRow w.heap.size 9 1 v L.flatten.length (L.flatten.map Value.string) ∧ Below w.heap.size w w' := by
  have HC := Lib.hid hcells; clear hcells
  have HL := Lib.hid hsl; clear hsl
  go_enter Tryd.func83, Tryd.ntmps83
  go_wp2_with fail
  go_loopw [3, 11] (fun s i wr => CatRel1 L w s i wr) (fun _ i _ => L.length - (intOf i).toNat)
  case atStart => exact ⟨0, by omega, rfl, rfl, rfl⟩
  case round =>
    obtain ⟨k, hk, rfl, rfl, rfl⟩ := hrel
    have hle := flat_le L k
    by_cases hlt : k < L.length
    · have e0 := HC.out k hlt
      have hfl := flat_take hlt
      have hle2 := flat_le L (k + 1)
      rw [hfl, List.length_append] at hle2
      have HF : Hid ((L.take (k + 1)).flatten.length = (L.take k).flatten.length + L[k].length) := (by rw [hfl, List.length_append] : (L.take (k + 1)).flatten.length = (L.take k).flatten.length + L[k].length)
      clear hfl
      generalize hS : (L.take k).flatten.length = S at *
      generalize hx : L[k].length = X at *
      generalize hAk : (A[k]'(by omega)) = ak at *
      clear hAk hS hx
      go_wp2_with fail
      exact ⟨⟨k + 1, hlt, by go_num, by rw [HF.out]; go_num, rfl⟩, by simp [intOf]; omega⟩
    · obtain rfl : k = L.length := by omega
      have HT : Hid (L.take L.length = L) := List.take_length
      rw [HT.out] at hle
      rw [HT.out]
      obtain ⟨T, hT⟩ : ∃ T, L.flatten.length = T := ⟨_, rfl⟩
      have HTT := Lib.hid hT
      rw [hT] at hn hle ⊢
      clear hT
      go_wp2_with fail
      refine (Grow_nil _ hn _).mono ?_
      rintro e w1 ⟨v, rfl, hown, hB⟩
      go_wp2_with fail
      go_loopw [6, 27] (fun v i wr => CatRel2 L w v i wr) (fun _ i _ => L.length - (intOf i).toNat)
      case atStart => exact ⟨0, by omega, rfl, hown, hB⟩
      case round =>
        obtain ⟨k, hk, rfl, hown, hB⟩ := hrel
        by_cases hlt : k < L.length
        · have e0 := (hB.cell (p := ⟨b, o + k, none⟩) hb).trans (HC.out k hlt)
          have hs := (HL.out k hlt).below hB (Nat.le_refl _)
          have hle := HTT.out ▸ flat_le L (k + 1)
          have hfl := flat_take hlt
          rw [hfl, List.length_append] at hle
          have HFL := Lib.hid hfl; clear hfl
          have HO := Lib.hid hown; clear hown
          have HS := Lib.hid hs; clear hs
          have hsum : (L.take k).flatten.length + L[k].length ≤ 4294967296 := by omega
          have hbase := hB.size
          go_wp2_with (at_builtin; refine appendS rfl _ _ 84 rfl w.heap.size 9 infoStr Tryd.underlying84 rfl (by decide) (by decide) _ _ _ rfl HO.out _ _ _ rfl 0 w.heap.size (L[k].map Value.string) (by simp) HS.out (by simp [Value.oneCell']) hsum hbase ?_; intro v' w2 hown' hgrow)
          refine ⟨⟨k + 1, hlt, by go_num, ?_, below_own HO.out hgrow hB (Nat.le_refl _) hbase⟩, by simp [intOf]; omega⟩
          rw [HFL.out, List.length_append, List.map_append]
          exact hown'
        · obtain rfl : k = L.length := by omega
          rw [List.take_length] at hown
          have HO := Lib.hid hown; clear hown
          go_wp2_with fail
          go_ret
          exact ⟨_, rfl, by rw [← HTT.out]; exact HO.out, hB⟩

end Go.Proofs.YtapimpmpjighmaaDoor
