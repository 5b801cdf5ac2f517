/-
  The law ReplyTells answers true.
-/
import Derived.Test.YtfbgmgadpjpdcaaGreatDoorReplyM
import Derived.Test.YtfbgmgadpjpdcaaGreatDoorBunCB
set_option linter.unusedSimpArgs false
set_option linter.unusedVariables false
namespace Go.Proofs.YtfbgmgadpjpdcaaGreatDoor
open Go Go.RowKit
set_option maxRecDepth 100000

theorem ack_small (p : PlanD) (s : StateD) (t : Int) : StateSmall (ackS p s t) ∧ StateInts (ackS p s t) := by
  by_cases h : ackErr p s t = 0
  · obtain ⟨h1, k, h2⟩ := ack_ok.1 h
    have := (ack_done h1 h2).2.2
    exact ⟨this.small, this.ints⟩
  · unfold ackS
    rw [if_neg h]
    exact ⟨zero_small, zero_ints⟩
theorem reject_small (p : PlanD) (s : StateD) (t : Int) (b : Bool) : StateSmall (rejectS p s t b) ∧ StateInts (rejectS p s t b) := by
  by_cases h : rejectErr p s t = 0
  · obtain ⟨h1, ⟨k, h2⟩, h3⟩ := reject_ok.1 h
    have := (reject_done h1 h2 h3 b).2.2.right
    exact ⟨this.small, this.ints⟩
  · unfold rejectS
    rw [if_neg h]
    exact ⟨zero_small, zero_ints⟩
theorem leave_small (p : PlanD) (s : StateD) (t : Int) : StateSmall (leaveS p s t) ∧ StateInts (leaveS p s t) := by
  by_cases h : leaveErr p s t = 0
  · have := (leave_left h).right
    exact ⟨this.small, this.ints⟩
  · unfold leaveS
    rw [if_neg h]
    exact ⟨zero_small, zero_ints⟩
end Go.Proofs.YtfbgmgadpjpdcaaGreatDoor
