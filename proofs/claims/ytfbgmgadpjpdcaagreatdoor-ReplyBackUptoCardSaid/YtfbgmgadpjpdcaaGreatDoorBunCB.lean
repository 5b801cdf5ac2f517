/-
  The reference's outAt, without, AckOf.
  The reference's AckOf.
  The reference's RejectOf.
-/
import Derived.Test.YtfbgmgadpjpdcaaGreatDoorBunCA
import Derived.Test.YtfbgmgadpjpdcaaGreatDoorBunG
import Derived.Test.YtfbgmgadpjpdcaaGreatDoorBunH
import Derived.Test.YtfbgmgadpjpdcaaGreatDoorLinesGA
import Derived.Test.YtfbgmgadpjpdcaaGreatDoorCuts
import Derived.Test.YtfbgmgadpjpdcaaGreatDoorBunA
import Derived.Test.YtfbgmgadpjpdcaaGreatDoorBunBB
set_option linter.unusedSimpArgs false
set_option linter.unusedVariables false
namespace Go.Proofs.YtfbgmgadpjpdcaaGreatDoor
open Go Go.RowKit
set_option maxRecDepth 100000

end Go.Proofs.YtfbgmgadpjpdcaaGreatDoor

namespace Go.Proofs.YtfbgmgadpjpdcaaGreatDoor
open Go Go.RowKit
set_option maxRecDepth 100000

end Go.Proofs.YtfbgmgadpjpdcaaGreatDoor

namespace Go.Proofs.YtfbgmgadpjpdcaaGreatDoor
open Go Go.RowKit
set_option maxRecDepth 100000

theorem HeldAt.setBelow {w : World} {lo : Nat} {v1 v2 v3 : Value} {rows : List RowD} {s : StateD} (h : HeldAt w lo v1 v2 v3 rows s) {b : Nat} {cs : Array Value} (hk : Bk w b 89 cs) (hb : b < lo) (i : Nat) (u : Value) : HeldAt (w.setCell ⟨b, i, none⟩ u) lo v1 v2 v3 rows s :=
  h.outsTo (KeepsT.set hk (ts := [89]) (by decide) i u) (ownsRow_setCell_below h.outs (a := ⟨b, i, none⟩) hb u)
end Go.Proofs.YtfbgmgadpjpdcaaGreatDoor
