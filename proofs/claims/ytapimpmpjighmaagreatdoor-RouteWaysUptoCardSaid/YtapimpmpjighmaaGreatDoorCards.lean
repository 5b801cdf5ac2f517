/-
  DERIVED. GIVEN WITH THE SEED: THE CARDS: each row of YtapimpmpjighmaaGreatDoorRows.lean that lists a variable, with what it lists TIED to the program's text (the seventh form; the later family's looks); each row that meets fmt, with fmt's text TOLD by the authors' own Lean function (tested against real Go, not proved from fmt's source: count such statements apart). THE CARD IS WHAT COUNTS. Prove the row's statement (the work); the ties are given (YtapimpmpjighmaaGreatDoorTie.lean); close each card by the builder's one call (the guide's Derived/Test/ToyasCard.lean, 'card_holds'). Laid BY PROGRAM, IN A SANDBOX (cutbox-door.mjs). By AI agents, Wed Nov 11 2026. No macro, syntax, notation, axiom, sorry.
-/
import Derived.Test.YtapimpmpjighmaaGreatDoorRows
import GoSem.ClaimSeven
namespace Go.Proofs.YtapimpmpjighmaaGreatDoor
namespace Rows

/-- THE TIED CARD OF 'mailcoachlaw.RouteTells'. -/
def routeTellsCard : Claim7 := { stood := { row := routeTellsRow, standIns := [], harness := (true, "a71008db59f65fff41d5be378b155ec9e953c365caac12ed7eb518112632113c"), looks := true }, kinds := [], alts := [], laidByText := true, laidKinds := [.data, .pinned], laidTests := true, laidLooks := .later }
def RouteTellsCardSaid : Prop := Claim7.holds Tryz.pinned (.plain (OpenSpec.ofChange routeTellsSpec)) routeTellsCard

/-- THE TIED CARD OF 'mailcoachlaw.RouteWays'. -/
def routeWaysCard : Claim7 := { stood := { row := routeWaysRow, standIns := [], harness := (true, "a71008db59f65fff41d5be378b155ec9e953c365caac12ed7eb518112632113c"), looks := true }, kinds := [], alts := [], laidByText := true, laidKinds := [.data, .pinned], laidTests := true, laidLooks := .later }
def RouteWaysCardSaid : Prop := Claim7.holds Tryz.pinned (.plain (OpenSpec.ofChange routeWaysSpec)) routeWaysCard

/-- THE TIED CARD OF 'mailcoachlaw.ArriveTells'. -/
def arriveTellsCard : Claim7 := { stood := { row := arriveTellsRow, standIns := [], harness := (true, "a71008db59f65fff41d5be378b155ec9e953c365caac12ed7eb518112632113c"), looks := true }, kinds := [], alts := [], laidByText := true, laidKinds := [.data, .pinned], laidTests := true, laidLooks := .later }
def ArriveTellsCardSaid : Prop := Claim7.holds Tryz.pinned (.plain (OpenSpec.ofChange arriveTellsSpec)) arriveTellsCard

/-- THE TIED CARD OF 'mailcoachlaw.ArriveTrue'. -/
def arriveTrueCard : Claim7 := { stood := { row := arriveTrueRow, standIns := [], harness := (true, "a71008db59f65fff41d5be378b155ec9e953c365caac12ed7eb518112632113c"), looks := true }, kinds := [], alts := [], laidByText := true, laidKinds := [.data, .pinned], laidTests := true, laidLooks := .later }
def ArriveTrueCardSaid : Prop := Claim7.holds Tryz.pinned (.plain (OpenSpec.ofChange arriveTrueSpec)) arriveTrueCard

/-- THE SECOND FORM's CARD OF 'mailcoachlaw.RouteTells'. -/
def routeTellsUptoCard : Claim7 := { stood := { row := routeTellsUptoRow, standIns := [], harness := (true, "a71008db59f65fff41d5be378b155ec9e953c365caac12ed7eb518112632113c"), looks := true }, kinds := [], alts := [], laidByText := true, laidKinds := [.data, .pinned], laidTests := true, laidLooks := .later }
def RouteTellsUptoCardSaid : Prop := Claim7.holds Tryz.pinned (.plain (OpenSpec.upto routeTellsSpec)) routeTellsUptoCard

/-- THE SECOND FORM's CARD OF 'mailcoachlaw.RouteWays'. -/
def routeWaysUptoCard : Claim7 := { stood := { row := routeWaysUptoRow, standIns := [], harness := (true, "a71008db59f65fff41d5be378b155ec9e953c365caac12ed7eb518112632113c"), looks := true }, kinds := [], alts := [], laidByText := true, laidKinds := [.data, .pinned], laidTests := true, laidLooks := .later }
def RouteWaysUptoCardSaid : Prop := Claim7.holds Tryz.pinned (.plain (OpenSpec.upto routeWaysSpec)) routeWaysUptoCard

/-- THE SECOND FORM's CARD OF 'mailcoachlaw.ArriveTells'. -/
def arriveTellsUptoCard : Claim7 := { stood := { row := arriveTellsUptoRow, standIns := [], harness := (true, "a71008db59f65fff41d5be378b155ec9e953c365caac12ed7eb518112632113c"), looks := true }, kinds := [], alts := [], laidByText := true, laidKinds := [.data, .pinned], laidTests := true, laidLooks := .later }
def ArriveTellsUptoCardSaid : Prop := Claim7.holds Tryz.pinned (.plain (OpenSpec.upto arriveTellsSpec)) arriveTellsUptoCard

/-- THE SECOND FORM's CARD OF 'mailcoachlaw.ArriveTrue'. -/
def arriveTrueUptoCard : Claim7 := { stood := { row := arriveTrueUptoRow, standIns := [], harness := (true, "a71008db59f65fff41d5be378b155ec9e953c365caac12ed7eb518112632113c"), looks := true }, kinds := [], alts := [], laidByText := true, laidKinds := [.data, .pinned], laidTests := true, laidLooks := .later }
def ArriveTrueUptoCardSaid : Prop := Claim7.holds Tryz.pinned (.plain (OpenSpec.upto arriveTrueSpec)) arriveTrueUptoCard
end Rows
end Go.Proofs.YtapimpmpjighmaaGreatDoor
