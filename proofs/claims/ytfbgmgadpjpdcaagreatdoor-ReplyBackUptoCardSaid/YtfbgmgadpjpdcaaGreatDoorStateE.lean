/-
  Walk of the reference's formed: the rows of a state.
-/
import Derived.Test.YtfbgmgadpjpdcaaGreatDoorBunF
import Derived.Test.YtfbgmgadpjpdcaaGreatDoorBunE
import Derived.Deep.QuietTactic
import Derived.BigQuiet
import Derived.IntWalk
import Derived.Deep.CutRange
import Derived.Deep.RegionHeld3
import Derived.Test.YtfbgmgadpjpdcaaGreatDoorBunA
set_option linter.unusedSimpArgs false
set_option linter.unusedVariables false
namespace Go.Proofs.YtfbgmgadpjpdcaaGreatDoor
open Go.RowKit
set_option maxRecDepth 100000

theorem infoInt : (Tryz.prog.info? 3).map (fun i => (i.zero, i.size, i.bytes)) = some (some (.int .i64 0), 1, 8) := by kernel_rfl
end Go.Proofs.YtfbgmgadpjpdcaaGreatDoor
