/-
  The walks of the references laid, Fit.
-/
import Derived.Test.YtaanpcjkflhomaaGreatDoorBunB
set_option linter.unusedSimpArgs false
set_option linter.unusedVariables false
namespace Go.Proofs.YtaanpcjkflhomaaGreatDoor
open Go.RowKit
set_option maxRecDepth 100000
end Go.Proofs.YtaanpcjkflhomaaGreatDoor
