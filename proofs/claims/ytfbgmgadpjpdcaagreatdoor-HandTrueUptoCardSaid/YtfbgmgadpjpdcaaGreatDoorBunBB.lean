/-
  The reference's arrive.
  The reference's LettersOf, walked.
  The law ArriveTells answers true.
-/
import Derived.Test.YtfbgmgadpjpdcaaGreatDoorBunA
import Derived.Test.YtfbgmgadpjpdcaaGreatDoorBunS
import Derived.Test.YtfbgmgadpjpdcaaGreatDoorBunH
import Derived.Test.YtfbgmgadpjpdcaaGreatDoorBunT
set_option linter.unusedSimpArgs false
set_option linter.unusedVariables false
namespace Go.Proofs.YtfbgmgadpjpdcaaGreatDoor
open Go Go.RowKit
set_option maxRecDepth 100000

end Go.Proofs.YtfbgmgadpjpdcaaGreatDoor

namespace Go.Proofs.YtfbgmgadpjpdcaaGreatDoor
open Go Go.RowKit
set_option maxRecDepth 100000

end Go.Proofs.YtfbgmgadpjpdcaaGreatDoor

namespace Go.Proofs.YtfbgmgadpjpdcaaGreatDoor
open Go Go.RowKit
set_option maxRecDepth 100000

end Go.Proofs.YtfbgmgadpjpdcaaGreatDoor
