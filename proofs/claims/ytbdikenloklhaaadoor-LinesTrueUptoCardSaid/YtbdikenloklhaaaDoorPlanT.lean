/-
  Walk of the reference's twice.
-/
import Derived.Test.YtbdikenloklhaaaDoorPlanC
namespace Go.Proofs.YtbdikenloklhaaaDoor
open Go.RowKit
set_option maxRecDepth 100000

def TwiceRel (l : List ByteArray) (B : Nat) (w : World) (i : Value) (wr : World) : Prop :=
  ∃ k : Nat, k ≤ l.length ∧ i = .int .i64 k ∧ (l.take k).Nodup ∧ Below B w wr
def TwiceRel2 (l : List ByteArray) (x : ByteArray) (B : Nat) (w : World) (n : Nat) (i : Value) (wr : World) : Prop :=
  ∃ k : Nat, k ≤ n ∧ i = .int .i64 k ∧ (∀ j y, j < k → l[j]? = some y → y ≠ x) ∧ Below B w wr

set_option maxHeartbeats 1000000 in
theorem twice_any (a : Option Addr) (c : Nat) (l : List ByteArray) (lo : Nat) (w : World) (hx : Sl w lo w.heap.size a (l.map Value.string)) (hl : l.length ≤ 1048576) :
    Calls Tryd.prog 59 #[.slice a l.length c] w fun e w' => e = .returned (.bool (dup l)) ∧ Below w.heap.size w w' := by
  have HX := Lib.hid hx; clear hx
  go_enter Tryd.func59, Tryd.ntmps59
  go_wp2_with fail
  go_loopw [3] (fun i wr => TwiceRel l w.heap.size w i wr) (fun i _ => l.length - (intOf i).toNat)
  case atStart => exact ⟨0, by omega, rfl, by simp, Below.refl _ _⟩
  case round =>
    obtain ⟨k, hk, rfl, hnd, hB⟩ := hrel
    have HN := Lib.hid hnd; clear hnd
    by_cases hlt : k < l.length
    · obtain ⟨b, o, rfl, _, hb, hc⟩ := HX.out.at_ (k := k) (by simpa using hlt)
      have hcell : ∀ W, Below w.heap.size w W → ∀ j (h : j < l.length), W.cell? ⟨b, o + j, none⟩ = some (.string l[j]) := fun W hW j h => (hW.cell (p := ⟨b, _, none⟩) hb).trans (hc j _ (by simp [h]))
      have HC := Lib.hid hcell; clear hcell hc
      go_wp2_with fail
      go_loopw [4] (fun i wr => TwiceRel2 l l[k] w.heap.size w k i wr) (fun i _ => k - (intOf i).toNat)
      case atStart => exact ⟨0, by omega, rfl, fun j y hj => absurd hj (by omega), hB⟩
      case round =>
        obtain ⟨m, hm, rfl, hne, hB⟩ := hrel
        have HE := Lib.hid hne; clear hne
        by_cases hmk : m < k
        · have hml : m < l.length := by omega
          have e0 := HC.out _ hB k hlt
          have e1 := HC.out _ hB m hml
          go_wp2
          go_quiet (fail)
          all_goals go_wp2
          · have hq : l[k] = l[m] := toList_inj (by simp_all)
            have HD : dup l = true := by
              have : ¬ l.Nodup := fun h => (List.pairwise_iff_getElem.1 h) m k hml hlt hmk hq.symm
              simp [dup, this]
            go_ret
            exact ⟨by rw [HD]; rfl, below_draws hB _⟩
          · have hq : ¬ l[k] = l[m] := fun e => by simp_all
            exact ⟨⟨m + 1, by omega, by go_num, fun j y hj hy => by
              rcases Nat.lt_or_ge j m with h1 | h1
              · exact HE.out j y h1 hy
              · obtain rfl : j = m := by omega
                rw [List.getElem?_eq_getElem hml] at hy
                cases hy
                exact fun e => hq e.symm, below_draws hB _⟩, by simp [intOf]; omega⟩
        · obtain rfl : m = k := by omega
          have HD : Hid ((l.take (m + 1)).Nodup) := (nodup_take hlt).2 ⟨HN.out, fun h => by
            obtain ⟨j, h1, h2⟩ := mem_take_iff.1 h
            exact HE.out j _ h1 h2 rfl⟩
          go_wp2_with fail
          exact ⟨⟨m + 1, hlt, by go_num, HD.out, hB⟩, by simp [intOf]; omega⟩
    · obtain rfl : k = l.length := by omega
      have HD : Hid (dup l = false) := by
        have := HN.out
        rw [List.take_length] at this
        exact (by simp [dup, this] : dup l = false)
      go_wp2_with fail
      go_ret
      exact ⟨by rw [HD.out]; rfl, hB⟩

end Go.Proofs.YtbdikenloklhaaaDoor
