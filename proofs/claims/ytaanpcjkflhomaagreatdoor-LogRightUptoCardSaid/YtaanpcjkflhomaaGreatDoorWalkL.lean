/-
  The walks of the references laid, Fit.
-/
import Derived.Test.YtaanpcjkflhomaaGreatDoorBunB
set_option maxHeartbeats 20000000
set_option maxRecDepth 100000
set_option linter.unusedSimpArgs false
set_option linter.unusedVariables false
namespace Go.Proofs.YtaanpcjkflhomaaGreatDoor
open Go.RowKit
end Go.Proofs.YtaanpcjkflhomaaGreatDoor
