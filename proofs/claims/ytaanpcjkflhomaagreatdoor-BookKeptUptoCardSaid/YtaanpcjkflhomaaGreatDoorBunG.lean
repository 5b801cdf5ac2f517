/-
  Walks of the reference: HeldOf; Held. Walk of the reference's CheckState.
  Two Outs, two takers, two states: are they the same? Walk of the reference's SameStates.
  Walk of state.Held. What the law's begin of states needs: Begin, Held and Check at the office.
-/
import Derived.Test.YtaanpcjkflhomaaGreatDoorBunA
import Derived.Test.YtaanpcjkflhomaaGreatDoorBunF
import Derived.Test.YtaanpcjkflhomaaGreatDoorStateE
import Derived.Test.YtaanpcjkflhomaaGreatDoorBunD
import Derived.Deep.RegionHeld3
import Derived.Deep.QuietTactic
import Derived.BigQuiet
import Derived.Deep.CutRange
import Derived.Test.YtaanpcjkflhomaaGreatDoorBunE
import Derived.IntWalk
import Derived.Test.YtaanpcjkflhomaaGreatDoorStateD
set_option linter.unusedSimpArgs false
set_option linter.unusedVariables false
namespace Go.Proofs.YtaanpcjkflhomaaGreatDoor
open Go.RowKit
set_option maxRecDepth 100000
end Go.Proofs.YtaanpcjkflhomaaGreatDoor
namespace Go.Proofs.YtaanpcjkflhomaaGreatDoor
open Go.RowKit
set_option maxRecDepth 100000
open Go.RowKit
set_option maxRecDepth 100000
end Go.Proofs.YtaanpcjkflhomaaGreatDoor
namespace Go.Proofs.YtaanpcjkflhomaaGreatDoor
open Go.RowKit
set_option maxRecDepth 100000
open Go.RowKit
set_option maxRecDepth 100000
end Go.Proofs.YtaanpcjkflhomaaGreatDoor
namespace Go.Proofs.YtaanpcjkflhomaaGreatDoor
open Go.RowKit
set_option maxRecDepth 100000
instance (n : Int) : Decidable (i64 n) := inferInstanceAs (Decidable (_ ∧ _))
theorem busy_ints : StateInts busyS := by
 refine ⟨by decide,by decide,by decide,by decide,by decide,?_,?_⟩
 ·intro x hx
  simp only [busyS,List.mem_cons,List.not_mem_nil,or_false] at hx
  rcases hx with rfl | rfl <;> decide
 ·intro x hx
  simp only [busyS,List.mem_singleton] at hx
  subst hx
  exact ⟨by decide,by decide,by decide⟩
end Go.Proofs.YtaanpcjkflhomaaGreatDoor
