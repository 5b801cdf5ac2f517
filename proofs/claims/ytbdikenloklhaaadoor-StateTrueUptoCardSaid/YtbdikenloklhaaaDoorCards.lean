/-
  DERIVED. GIVEN WITH THE SEED: THE CARDS: each row of YtbdikenloklhaaaDoorRows.lean that lists a variable, with what it lists TIED to the program's text (the seventh form; the later family's looks); each row that meets fmt, with fmt's text TOLD by the authors' own Lean function (tested against real Go, not proved from fmt's source: count such statements apart). THE CARD IS WHAT COUNTS. Prove the row's statement (the work); the ties are given (YtbdikenloklhaaaDoorTie.lean); close each card by the builder's one call (the guide's Derived/Test/ToyasCard.lean, 'card_holds'). Laid BY PROGRAM, IN A SANDBOX (cutbox-door.mjs). By AI agents, Wed Nov 11 2026. No macro, syntax, notation, axiom, sorry.
-/
import Derived.Test.YtbdikenloklhaaaDoorRows
import GoSem.ClaimSeven
namespace Go.Proofs.YtbdikenloklhaaaDoor
namespace Rows

/-- THE TIED CARD OF 'mailcoachlaw.PlanChecks'. -/
def planChecksCard : Claim7 := { stood := { row := planChecksRow, standIns := [], harness := (true, "025c8d96f719e0585a599253f8c3e39c142137e7856d223caa2c03e9d2805d0f"), looks := true }, kinds := [], alts := [], laidByText := true, laidKinds := [.data, .pinned], laidTests := true, laidLooks := .later }
def PlanChecksCardSaid : Prop := Claim7.holds Tryd.pinned (.plain (OpenSpec.ofChange planChecksSpec)) planChecksCard

/-- THE TIED CARD OF 'mailcoachlaw.PlanFits'. -/
def planFitsCard : Claim7 := { stood := { row := planFitsRow, standIns := [], harness := (true, "025c8d96f719e0585a599253f8c3e39c142137e7856d223caa2c03e9d2805d0f"), looks := true }, kinds := [], alts := [], laidByText := true, laidKinds := [.data, .pinned], laidTests := true, laidLooks := .later }
def PlanFitsCardSaid : Prop := Claim7.holds Tryd.pinned (.plain (OpenSpec.ofChange planFitsSpec)) planFitsCard

/-- THE TIED CARD OF 'mailcoachlaw.WireWrites'. -/
def wireWritesCard : Claim7 := { stood := { row := wireWritesRow, standIns := [], harness := (true, "025c8d96f719e0585a599253f8c3e39c142137e7856d223caa2c03e9d2805d0f"), looks := true }, kinds := [], alts := [], laidByText := true, laidKinds := [.data, .pinned], laidTests := true, laidLooks := .later }
def WireWritesCardSaid : Prop := Claim7.holds Tryd.pinned (.plain (OpenSpec.ofChange wireWritesSpec)) wireWritesCard

/-- THE TIED CARD OF 'mailcoachlaw.WireBack'. -/
def wireBackCard : Claim7 := { stood := { row := wireBackRow, standIns := [], harness := (true, "025c8d96f719e0585a599253f8c3e39c142137e7856d223caa2c03e9d2805d0f"), looks := true }, kinds := [], alts := [], laidByText := true, laidKinds := [.data, .pinned], laidTests := true, laidLooks := .later }
def WireBackCardSaid : Prop := Claim7.holds Tryd.pinned (.plain (OpenSpec.ofChange wireBackSpec)) wireBackCard

/-- THE TIED CARD OF 'mailcoachlaw.LinesTells'. -/
def linesTellsCard : Claim7 := { stood := { row := linesTellsRow, standIns := [], harness := (true, "025c8d96f719e0585a599253f8c3e39c142137e7856d223caa2c03e9d2805d0f"), looks := true }, kinds := [], alts := [], laidByText := true, laidKinds := [.data, .pinned], laidTests := true, laidLooks := .later }
def LinesTellsCardSaid : Prop := Claim7.holds Tryd.pinned (.plain (OpenSpec.ofChange linesTellsSpec)) linesTellsCard

/-- THE TIED CARD OF 'mailcoachlaw.LinesSheds'. -/
def linesShedsCard : Claim7 := { stood := { row := linesShedsRow, standIns := [], harness := (true, "025c8d96f719e0585a599253f8c3e39c142137e7856d223caa2c03e9d2805d0f"), looks := true }, kinds := [], alts := [], laidByText := true, laidKinds := [.data, .pinned], laidTests := true, laidLooks := .later }
def LinesShedsCardSaid : Prop := Claim7.holds Tryd.pinned (.plain (OpenSpec.ofChange linesShedsSpec)) linesShedsCard

/-- THE TIED CARD OF 'mailcoachlaw.LinesTrue'. -/
def linesTrueCard : Claim7 := { stood := { row := linesTrueRow, standIns := [], harness := (true, "025c8d96f719e0585a599253f8c3e39c142137e7856d223caa2c03e9d2805d0f"), looks := true }, kinds := [], alts := [], laidByText := true, laidKinds := [.data, .pinned], laidTests := true, laidLooks := .later }
def LinesTrueCardSaid : Prop := Claim7.holds Tryd.pinned (.plain (OpenSpec.ofChange linesTrueSpec)) linesTrueCard

/-- THE TIED CARD OF 'mailcoachlaw.StateChecks'. -/
def stateChecksCard : Claim7 := { stood := { row := stateChecksRow, standIns := [], harness := (true, "025c8d96f719e0585a599253f8c3e39c142137e7856d223caa2c03e9d2805d0f"), looks := true }, kinds := [], alts := [], laidByText := true, laidKinds := [.data, .pinned], laidTests := true, laidLooks := .later }
def StateChecksCardSaid : Prop := Claim7.holds Tryd.pinned (.plain (OpenSpec.ofChange stateChecksSpec)) stateChecksCard

/-- THE TIED CARD OF 'mailcoachlaw.StateHeld'. -/
def stateHeldCard : Claim7 := { stood := { row := stateHeldRow, standIns := [], harness := (true, "025c8d96f719e0585a599253f8c3e39c142137e7856d223caa2c03e9d2805d0f"), looks := true }, kinds := [], alts := [], laidByText := true, laidKinds := [.data, .pinned], laidTests := true, laidLooks := .later }
def StateHeldCardSaid : Prop := Claim7.holds Tryd.pinned (.plain (OpenSpec.ofChange stateHeldSpec)) stateHeldCard

/-- THE TIED CARD OF 'mailcoachlaw.StateTrue'. -/
def stateTrueCard : Claim7 := { stood := { row := stateTrueRow, standIns := [], harness := (true, "025c8d96f719e0585a599253f8c3e39c142137e7856d223caa2c03e9d2805d0f"), looks := true }, kinds := [], alts := [], laidByText := true, laidKinds := [.data, .pinned], laidTests := true, laidLooks := .later }
def StateTrueCardSaid : Prop := Claim7.holds Tryd.pinned (.plain (OpenSpec.ofChange stateTrueSpec)) stateTrueCard

/-- THE SECOND FORM's CARD OF 'mailcoachlaw.PlanChecks'. -/
def planChecksUptoCard : Claim7 := { stood := { row := planChecksUptoRow, standIns := [], harness := (true, "025c8d96f719e0585a599253f8c3e39c142137e7856d223caa2c03e9d2805d0f"), looks := true }, kinds := [], alts := [], laidByText := true, laidKinds := [.data, .pinned], laidTests := true, laidLooks := .later }
def PlanChecksUptoCardSaid : Prop := Claim7.holds Tryd.pinned (.plain (OpenSpec.upto planChecksSpec)) planChecksUptoCard

/-- THE SECOND FORM's CARD OF 'mailcoachlaw.PlanFits'. -/
def planFitsUptoCard : Claim7 := { stood := { row := planFitsUptoRow, standIns := [], harness := (true, "025c8d96f719e0585a599253f8c3e39c142137e7856d223caa2c03e9d2805d0f"), looks := true }, kinds := [], alts := [], laidByText := true, laidKinds := [.data, .pinned], laidTests := true, laidLooks := .later }
def PlanFitsUptoCardSaid : Prop := Claim7.holds Tryd.pinned (.plain (OpenSpec.upto planFitsSpec)) planFitsUptoCard

/-- THE SECOND FORM's CARD OF 'mailcoachlaw.WireWrites'. -/
def wireWritesUptoCard : Claim7 := { stood := { row := wireWritesUptoRow, standIns := [], harness := (true, "025c8d96f719e0585a599253f8c3e39c142137e7856d223caa2c03e9d2805d0f"), looks := true }, kinds := [], alts := [], laidByText := true, laidKinds := [.data, .pinned], laidTests := true, laidLooks := .later }
def WireWritesUptoCardSaid : Prop := Claim7.holds Tryd.pinned (.plain (OpenSpec.upto wireWritesSpec)) wireWritesUptoCard

/-- THE SECOND FORM's CARD OF 'mailcoachlaw.WireBack'. -/
def wireBackUptoCard : Claim7 := { stood := { row := wireBackUptoRow, standIns := [], harness := (true, "025c8d96f719e0585a599253f8c3e39c142137e7856d223caa2c03e9d2805d0f"), looks := true }, kinds := [], alts := [], laidByText := true, laidKinds := [.data, .pinned], laidTests := true, laidLooks := .later }
def WireBackUptoCardSaid : Prop := Claim7.holds Tryd.pinned (.plain (OpenSpec.upto wireBackSpec)) wireBackUptoCard

/-- THE SECOND FORM's CARD OF 'mailcoachlaw.LinesTells'. -/
def linesTellsUptoCard : Claim7 := { stood := { row := linesTellsUptoRow, standIns := [], harness := (true, "025c8d96f719e0585a599253f8c3e39c142137e7856d223caa2c03e9d2805d0f"), looks := true }, kinds := [], alts := [], laidByText := true, laidKinds := [.data, .pinned], laidTests := true, laidLooks := .later }
def LinesTellsUptoCardSaid : Prop := Claim7.holds Tryd.pinned (.plain (OpenSpec.upto linesTellsSpec)) linesTellsUptoCard

/-- THE SECOND FORM's CARD OF 'mailcoachlaw.LinesSheds'. -/
def linesShedsUptoCard : Claim7 := { stood := { row := linesShedsUptoRow, standIns := [], harness := (true, "025c8d96f719e0585a599253f8c3e39c142137e7856d223caa2c03e9d2805d0f"), looks := true }, kinds := [], alts := [], laidByText := true, laidKinds := [.data, .pinned], laidTests := true, laidLooks := .later }
def LinesShedsUptoCardSaid : Prop := Claim7.holds Tryd.pinned (.plain (OpenSpec.upto linesShedsSpec)) linesShedsUptoCard

/-- THE SECOND FORM's CARD OF 'mailcoachlaw.LinesTrue'. -/
def linesTrueUptoCard : Claim7 := { stood := { row := linesTrueUptoRow, standIns := [], harness := (true, "025c8d96f719e0585a599253f8c3e39c142137e7856d223caa2c03e9d2805d0f"), looks := true }, kinds := [], alts := [], laidByText := true, laidKinds := [.data, .pinned], laidTests := true, laidLooks := .later }
def LinesTrueUptoCardSaid : Prop := Claim7.holds Tryd.pinned (.plain (OpenSpec.upto linesTrueSpec)) linesTrueUptoCard

/-- THE SECOND FORM's CARD OF 'mailcoachlaw.StateChecks'. -/
def stateChecksUptoCard : Claim7 := { stood := { row := stateChecksUptoRow, standIns := [], harness := (true, "025c8d96f719e0585a599253f8c3e39c142137e7856d223caa2c03e9d2805d0f"), looks := true }, kinds := [], alts := [], laidByText := true, laidKinds := [.data, .pinned], laidTests := true, laidLooks := .later }
def StateChecksUptoCardSaid : Prop := Claim7.holds Tryd.pinned (.plain (OpenSpec.upto stateChecksSpec)) stateChecksUptoCard

/-- THE SECOND FORM's CARD OF 'mailcoachlaw.StateHeld'. -/
def stateHeldUptoCard : Claim7 := { stood := { row := stateHeldUptoRow, standIns := [], harness := (true, "025c8d96f719e0585a599253f8c3e39c142137e7856d223caa2c03e9d2805d0f"), looks := true }, kinds := [], alts := [], laidByText := true, laidKinds := [.data, .pinned], laidTests := true, laidLooks := .later }
def StateHeldUptoCardSaid : Prop := Claim7.holds Tryd.pinned (.plain (OpenSpec.upto stateHeldSpec)) stateHeldUptoCard

/-- THE SECOND FORM's CARD OF 'mailcoachlaw.StateTrue'. -/
def stateTrueUptoCard : Claim7 := { stood := { row := stateTrueUptoRow, standIns := [], harness := (true, "025c8d96f719e0585a599253f8c3e39c142137e7856d223caa2c03e9d2805d0f"), looks := true }, kinds := [], alts := [], laidByText := true, laidKinds := [.data, .pinned], laidTests := true, laidLooks := .later }
def StateTrueUptoCardSaid : Prop := Claim7.holds Tryd.pinned (.plain (OpenSpec.upto stateTrueSpec)) stateTrueUptoCard
end Rows
end Go.Proofs.YtbdikenloklhaaaDoor
