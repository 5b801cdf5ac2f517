/-
  DERIVED. GIVEN WITH THE SEED: THE CARDS: each row of YtapimpmpjighmaaDoorRows.lean that lists a variable, with what it lists TIED to the program's text (the seventh form; the later family's looks); each row that meets fmt, with fmt's text TOLD by the authors' own Lean function (tested against real Go, not proved from fmt's source: count such statements apart). THE CARD IS WHAT COUNTS. Prove the row's statement (the work); the ties are given (YtapimpmpjighmaaDoorTie.lean); close each card by the builder's one call (the guide's Derived/Test/ToyasCard.lean, 'card_holds'). Laid BY PROGRAM, IN A SANDBOX (cutbox-door.mjs). By AI agents, Wed Nov 11 2026. No macro, syntax, notation, axiom, sorry.
-/
import Derived.Test.YtapimpmpjighmaaDoorRows
import GoSem.ClaimSeven
namespace Go.Proofs.YtapimpmpjighmaaDoor
namespace Rows

/-- THE TIED CARD OF 'mailcoachlaw.WireWrites'. -/
def wireWritesCard : Claim7 := { stood := { row := wireWritesRow, standIns := [], harness := (true, "b1c615ceaf64775fe2f1d27aa0a5da35dce513d84a38204bf50c68b646b14c5e"), looks := true }, kinds := [], alts := [], laidByText := true, laidKinds := [.data, .pinned], laidTests := true, laidLooks := .later }
def WireWritesCardSaid : Prop := Claim7.holds Tryd.pinned (.plain (OpenSpec.ofChange wireWritesSpec)) wireWritesCard

/-- THE TIED CARD OF 'mailcoachlaw.WireBack'. -/
def wireBackCard : Claim7 := { stood := { row := wireBackRow, standIns := [], harness := (true, "b1c615ceaf64775fe2f1d27aa0a5da35dce513d84a38204bf50c68b646b14c5e"), looks := true }, kinds := [], alts := [], laidByText := true, laidKinds := [.data, .pinned], laidTests := true, laidLooks := .later }
def WireBackCardSaid : Prop := Claim7.holds Tryd.pinned (.plain (OpenSpec.ofChange wireBackSpec)) wireBackCard

/-- THE TIED CARD OF 'mailcoachlaw.TakersJoin'. -/
def takersJoinCard : Claim7 := { stood := { row := takersJoinRow, standIns := [], harness := (true, "b1c615ceaf64775fe2f1d27aa0a5da35dce513d84a38204bf50c68b646b14c5e"), looks := true }, kinds := [], alts := [], laidByText := true, laidKinds := [.data, .pinned], laidTests := true, laidLooks := .later }
def TakersJoinCardSaid : Prop := Claim7.holds Tryd.pinned (.plain (OpenSpec.ofChange takersJoinSpec)) takersJoinCard

/-- THE TIED CARD OF 'mailcoachlaw.TakersDeliver'. -/
def takersDeliverCard : Claim7 := { stood := { row := takersDeliverRow, standIns := [], harness := (true, "b1c615ceaf64775fe2f1d27aa0a5da35dce513d84a38204bf50c68b646b14c5e"), looks := true }, kinds := [], alts := [], laidByText := true, laidKinds := [.data, .pinned], laidTests := true, laidLooks := .later }
def TakersDeliverCardSaid : Prop := Claim7.holds Tryd.pinned (.plain (OpenSpec.ofChange takersDeliverSpec)) takersDeliverCard

/-- THE TIED CARD OF 'mailcoachlaw.TakersFair'. -/
def takersFairCard : Claim7 := { stood := { row := takersFairRow, standIns := [], harness := (true, "b1c615ceaf64775fe2f1d27aa0a5da35dce513d84a38204bf50c68b646b14c5e"), looks := true }, kinds := [], alts := [], laidByText := true, laidKinds := [.data, .pinned], laidTests := true, laidLooks := .later }
def TakersFairCardSaid : Prop := Claim7.holds Tryd.pinned (.plain (OpenSpec.ofChange takersFairSpec)) takersFairCard

/-- THE TIED CARD OF 'mailcoachlaw.TakersTrue'. -/
def takersTrueCard : Claim7 := { stood := { row := takersTrueRow, standIns := [], harness := (true, "b1c615ceaf64775fe2f1d27aa0a5da35dce513d84a38204bf50c68b646b14c5e"), looks := true }, kinds := [], alts := [], laidByText := true, laidKinds := [.data, .pinned], laidTests := true, laidLooks := .later }
def TakersTrueCardSaid : Prop := Claim7.holds Tryd.pinned (.plain (OpenSpec.ofChange takersTrueSpec)) takersTrueCard

/-- THE TIED CARD OF 'mailcoachlaw.RouteMore'. -/
def routeMoreCard : Claim7 := { stood := { row := routeMoreRow, standIns := [], harness := (true, "b1c615ceaf64775fe2f1d27aa0a5da35dce513d84a38204bf50c68b646b14c5e"), looks := true }, kinds := [], alts := [], laidByText := true, laidKinds := [.data, .pinned], laidTests := true, laidLooks := .later }
def RouteMoreCardSaid : Prop := Claim7.holds Tryd.pinned (.plain (OpenSpec.ofChange routeMoreSpec)) routeMoreCard

/-- THE TIED CARD OF 'mailcoachlaw.RouteTrue'. -/
def routeTrueCard : Claim7 := { stood := { row := routeTrueRow, standIns := [], harness := (true, "b1c615ceaf64775fe2f1d27aa0a5da35dce513d84a38204bf50c68b646b14c5e"), looks := true }, kinds := [], alts := [], laidByText := true, laidKinds := [.data, .pinned], laidTests := true, laidLooks := .later }
def RouteTrueCardSaid : Prop := Claim7.holds Tryd.pinned (.plain (OpenSpec.ofChange routeTrueSpec)) routeTrueCard

/-- THE SECOND FORM's CARD OF 'mailcoachlaw.WireWrites'. -/
def wireWritesUptoCard : Claim7 := { stood := { row := wireWritesUptoRow, standIns := [], harness := (true, "b1c615ceaf64775fe2f1d27aa0a5da35dce513d84a38204bf50c68b646b14c5e"), looks := true }, kinds := [], alts := [], laidByText := true, laidKinds := [.data, .pinned], laidTests := true, laidLooks := .later }
def WireWritesUptoCardSaid : Prop := Claim7.holds Tryd.pinned (.plain (OpenSpec.upto wireWritesSpec)) wireWritesUptoCard

/-- THE SECOND FORM's CARD OF 'mailcoachlaw.WireBack'. -/
def wireBackUptoCard : Claim7 := { stood := { row := wireBackUptoRow, standIns := [], harness := (true, "b1c615ceaf64775fe2f1d27aa0a5da35dce513d84a38204bf50c68b646b14c5e"), looks := true }, kinds := [], alts := [], laidByText := true, laidKinds := [.data, .pinned], laidTests := true, laidLooks := .later }
def WireBackUptoCardSaid : Prop := Claim7.holds Tryd.pinned (.plain (OpenSpec.upto wireBackSpec)) wireBackUptoCard

/-- THE SECOND FORM's CARD OF 'mailcoachlaw.TakersJoin'. -/
def takersJoinUptoCard : Claim7 := { stood := { row := takersJoinUptoRow, standIns := [], harness := (true, "b1c615ceaf64775fe2f1d27aa0a5da35dce513d84a38204bf50c68b646b14c5e"), looks := true }, kinds := [], alts := [], laidByText := true, laidKinds := [.data, .pinned], laidTests := true, laidLooks := .later }
def TakersJoinUptoCardSaid : Prop := Claim7.holds Tryd.pinned (.plain (OpenSpec.upto takersJoinSpec)) takersJoinUptoCard

/-- THE SECOND FORM's CARD OF 'mailcoachlaw.TakersDeliver'. -/
def takersDeliverUptoCard : Claim7 := { stood := { row := takersDeliverUptoRow, standIns := [], harness := (true, "b1c615ceaf64775fe2f1d27aa0a5da35dce513d84a38204bf50c68b646b14c5e"), looks := true }, kinds := [], alts := [], laidByText := true, laidKinds := [.data, .pinned], laidTests := true, laidLooks := .later }
def TakersDeliverUptoCardSaid : Prop := Claim7.holds Tryd.pinned (.plain (OpenSpec.upto takersDeliverSpec)) takersDeliverUptoCard

/-- THE SECOND FORM's CARD OF 'mailcoachlaw.TakersFair'. -/
def takersFairUptoCard : Claim7 := { stood := { row := takersFairUptoRow, standIns := [], harness := (true, "b1c615ceaf64775fe2f1d27aa0a5da35dce513d84a38204bf50c68b646b14c5e"), looks := true }, kinds := [], alts := [], laidByText := true, laidKinds := [.data, .pinned], laidTests := true, laidLooks := .later }
def TakersFairUptoCardSaid : Prop := Claim7.holds Tryd.pinned (.plain (OpenSpec.upto takersFairSpec)) takersFairUptoCard

/-- THE SECOND FORM's CARD OF 'mailcoachlaw.TakersTrue'. -/
def takersTrueUptoCard : Claim7 := { stood := { row := takersTrueUptoRow, standIns := [], harness := (true, "b1c615ceaf64775fe2f1d27aa0a5da35dce513d84a38204bf50c68b646b14c5e"), looks := true }, kinds := [], alts := [], laidByText := true, laidKinds := [.data, .pinned], laidTests := true, laidLooks := .later }
def TakersTrueUptoCardSaid : Prop := Claim7.holds Tryd.pinned (.plain (OpenSpec.upto takersTrueSpec)) takersTrueUptoCard

/-- THE SECOND FORM's CARD OF 'mailcoachlaw.RouteMore'. -/
def routeMoreUptoCard : Claim7 := { stood := { row := routeMoreUptoRow, standIns := [], harness := (true, "b1c615ceaf64775fe2f1d27aa0a5da35dce513d84a38204bf50c68b646b14c5e"), looks := true }, kinds := [], alts := [], laidByText := true, laidKinds := [.data, .pinned], laidTests := true, laidLooks := .later }
def RouteMoreUptoCardSaid : Prop := Claim7.holds Tryd.pinned (.plain (OpenSpec.upto routeMoreSpec)) routeMoreUptoCard

/-- THE SECOND FORM's CARD OF 'mailcoachlaw.RouteTrue'. -/
def routeTrueUptoCard : Claim7 := { stood := { row := routeTrueUptoRow, standIns := [], harness := (true, "b1c615ceaf64775fe2f1d27aa0a5da35dce513d84a38204bf50c68b646b14c5e"), looks := true }, kinds := [], alts := [], laidByText := true, laidKinds := [.data, .pinned], laidTests := true, laidLooks := .later }
def RouteTrueUptoCardSaid : Prop := Claim7.holds Tryd.pinned (.plain (OpenSpec.upto routeTrueSpec)) routeTrueUptoCard
end Rows
end Go.Proofs.YtapimpmpjighmaaDoor
