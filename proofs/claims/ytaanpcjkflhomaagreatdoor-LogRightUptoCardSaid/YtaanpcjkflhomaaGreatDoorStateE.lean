/-
  Walk of the reference's formed: the rows of a state.
-/
import Derived.Test.YtaanpcjkflhomaaGreatDoorBunF
import Derived.Test.YtaanpcjkflhomaaGreatDoorBunE
import Derived.Deep.QuietTactic
import Derived.BigQuiet
import Derived.IntWalk
import Derived.Deep.CutRange
import Derived.Deep.RegionHeld3
import Derived.Test.YtaanpcjkflhomaaGreatDoorBunA
set_option maxHeartbeats 20000000
set_option maxRecDepth 100000
set_option linter.unusedSimpArgs false
set_option linter.unusedVariables false
namespace Go.Proofs.YtaanpcjkflhomaaGreatDoor
open Go.RowKit
theorem Ja:(Tryz.prog.info? 3).map (fun i=>(i.zero,i.size,i.bytes))=some (some (.int .i64 0),1,8):=by kernel_rfl
end Go.Proofs.YtaanpcjkflhomaaGreatDoor
