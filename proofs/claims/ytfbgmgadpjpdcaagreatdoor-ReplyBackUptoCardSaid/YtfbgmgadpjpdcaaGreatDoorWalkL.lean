/-
  The walks of the references laid, Fit.
-/
import Derived.Test.YtfbgmgadpjpdcaaGreatDoorBunB
set_option linter.unusedSimpArgs false
set_option linter.unusedVariables false
namespace Go.Proofs.YtfbgmgadpjpdcaaGreatDoor
open Go.RowKit
set_option maxRecDepth 100000

end Go.Proofs.YtfbgmgadpjpdcaaGreatDoor
