/-
  Walks of package plan: Name, alike; of the references: within, IsName, twice.
-/
import Derived.Test.YtapimpmpjighmaaDoorNames
import Derived.Test.YtapimpmpjighmaaDoorData
import Derived.Test.YtapimpmpjighmaaDoorWalkA
import Derived.Maps.OwnSet
import Derived.Maps.OwnOps
namespace Go.Proofs.YtapimpmpjighmaaDoor
open Go.RowKit
set_option maxRecDepth 100000

set_option maxHeartbeats 400000 in
theorem name1_any (r : Int) (w : World) :
    Calls Tryd.prog 114 #[.int .i32 r] w fun e w' => e = .returned (.bool (far r)) ∧ w = w' := by
  go_enter Tryd.func114, Tryd.ntmps114
  go_wp2
  all_goals go_ret
  all_goals refine ⟨?_, rfl⟩
  all_goals (refine congrArg (fun b => Ending.returned (Value.bool b)) ?_; rw [Bool.eq_iff_iff]; simp [far] <;> omega)

theorem eg_name1 : ∀ args w, (callFunc 114 args).run Tryd.prog w = .ok (.enter 114 args) w := enters_of Tryd.func114 (by kernel_rfl) rfl

theorem contains_far (s : ByteArray) (w : World) :
    Calls Tryd.prog 113 #[.string s, .func (.func 114) #[] #[]] w fun e w' => e = .returned (.bool (s.toList.any fun c => far (c.toNat : Int))) ∧ Below w.heap.size w w' :=
  (Tryd.strings_ContainsFunc_grows _ #[] eg_name1 (fun n => far (n : Int)) s w (fun W x _ _ => (name1_any x W).mono (by rintro e w' ⟨rfl, rfl⟩; exact ⟨rfl, Below.refl _ _⟩))).mono (by rintro e w' ⟨rfl, hb⟩; exact ⟨by rw [far_idx], hb⟩)

set_option maxHeartbeats 400000 in
theorem Name_any (s : ByteArray) (w : World) :
    Calls Tryd.prog 85 #[.string s] w fun e w' => e = .returned (.bool (nameP s)) ∧ Below w.heap.size w w' := by
  go_enter Tryd.func85, Tryd.ntmps85
  go_wp2_with (go_at_call 113; refine (contains_far _ _).mono ?_; rintro e w1 ⟨rfl, hb⟩)
  all_goals go_ret
  all_goals refine ⟨?_, by first | exact Below.refl _ _ | assumption⟩
  all_goals (refine congrArg (fun b => Ending.returned (Value.bool b)) ?_; unfold nameP; first | (simp [*]; done) | (simp [*]; omega))

set_option maxHeartbeats 400000 in
theorem within_any (n lo hi : Int) (w : World) :
    Calls Tryd.prog 40 #[.int .i64 n, .int .i64 lo, .int .i64 hi] w fun e w' => e = .returned (.bool (decide (lo ≤ n) && decide (n ≤ hi))) ∧ w = w' := by
  go_enter Tryd.func40, Tryd.ntmps40
  go_wp2
  all_goals go_ret
  all_goals refine ⟨?_, rfl⟩
  all_goals (refine congrArg (fun b => Ending.returned (Value.bool b)) ?_; rw [Bool.eq_iff_iff]; simp <;> omega)

def NameRel (s : ByteArray) (w : World) (i : Value) (wr : World) : Prop :=
  ∃ k : Nat, k ≤ s.size ∧ i = .int .i64 k ∧ w = wr ∧ ∀ j (h : j < s.size), j < k → far (s[j].toNat : Int) = false

theorem nameRel_any {s : ByteArray} (h : ∀ j (h : j < s.size), far (s[j].toNat : Int) = false) : (s.toList.any fun c => far (c.toNat : Int)) = false := by
  rw [List.any_eq_false]
  intro c hc
  obtain ⟨j, hj, rfl⟩ := List.mem_iff_getElem.1 hc
  have hs : j < s.size := by simpa [ByteArray.toList_eq] using hj
  have := h j hs
  rw [Bool.not_eq_true, ← this]
  simp only [ByteArray.toList_eq]
  rfl

set_option maxHeartbeats 800000 in
theorem IsName_any (s : ByteArray) (hs : s.size < 4294967281) (w : World) :
    Calls Tryd.prog 38 #[.string s] w fun e w' => e = .returned (.bool (nameP s)) ∧ w = w' := by
  go_enter Tryd.func38, Tryd.ntmps38
  go_wp2_with fail
  go_loopw [3] (fun i wr => NameRel s w i wr) (fun i _ => s.size - (intOf i).toNat)
  case atStart => exact ⟨0, by omega, rfl, rfl, fun j _ hj => absurd hj (by omega)⟩
  case round =>
    obtain ⟨k, hk, rfl, rfl, hall⟩ := hrel
    have HA := Lib.hid hall; clear hall
    by_cases hlt : k < s.size
    · by_cases hq : far (s[k].toNat : Int) = true
      · have HN : Hid (nameP s = false) := by
          have : (s.toList.any fun c => far (c.toNat : Int)) = true := by
            refine List.any_eq_true.2 ⟨s[k], ?_, hq⟩
            rw [ByteArray.toList_eq]
            exact List.mem_iff_getElem.2 ⟨k, by simpa using hlt, rfl⟩
          exact (by simp [nameP, this] : nameP s = false)
        have hq' : s[k].toNat < 97 ∨ 122 < s[k].toNat := by
          simp [far] at hq; omega
        clear hq
        go_wp2_with fail
        all_goals first
          | (go_ret; exact ⟨by rw [HN.out]; rfl, rfl⟩)
          | omega
      · have hq' : 97 ≤ s[k].toNat ∧ s[k].toNat ≤ 122 := by
          simp [far] at hq; omega
        have HQ : Hid (far (s[k].toNat : Int) = false) := (by simpa using hq : far (s[k].toNat : Int) = false)
        clear hq
        go_wp2_with fail
        exact ⟨⟨k + 1, hlt, by go_num, rfl, fun j h hj => by
          rcases Nat.lt_or_ge j k with h1 | h1
          · exact HA.out j h h1
          · obtain rfl : j = k := by omega
            exact HQ.out⟩, by simp [intOf]; omega⟩
    · obtain rfl : k = s.size := by omega
      have HN : Hid (nameP s = (decide (1 ≤ (s.size : Int)) && decide ((s.size : Int) ≤ 8))) := by
        have := nameRel_any (s := s) fun j h => HA.out j h h
        refine (?_ : nameP s = _)
        unfold nameP
        rw [this, Bool.not_false, Bool.and_true, Bool.eq_iff_iff]
        simp
        omega
      go_wp2_with fail
      refine (within_any _ _ _ _).mono ?_
      rintro e w1 ⟨rfl, rfl⟩
      go_wp2_with fail
      go_ret
      exact ⟨by rw [HN.out]; rfl, rfl⟩
end Go.Proofs.YtapimpmpjighmaaDoor
