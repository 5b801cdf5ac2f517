/-
  The walk of the reference push.
-/
import Derived.Test.YtfbgmgadpjpdcaaGreatDoorBunE
set_option linter.unusedSimpArgs false
set_option linter.unusedVariables false
namespace Go.Proofs.YtfbgmgadpjpdcaaGreatDoor
open Go.RowKit
set_option maxRecDepth 100000

end Go.Proofs.YtfbgmgadpjpdcaaGreatDoor
