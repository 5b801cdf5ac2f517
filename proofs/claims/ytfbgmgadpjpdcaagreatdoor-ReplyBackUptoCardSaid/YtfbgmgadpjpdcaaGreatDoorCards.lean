/-
  DERIVED. GIVEN WITH THE SEED: THE CARDS: each row of YtfbgmgadpjpdcaaGreatDoorRows.lean that lists a variable, with what it lists TIED to the program's text (the seventh form; the later family's looks); each row that meets fmt, with fmt's text TOLD by the authors' own Lean function (tested against real Go, not proved from fmt's source: count such statements apart). THE CARD IS WHAT COUNTS. Prove the row's statement (the work); the ties are given (YtfbgmgadpjpdcaaGreatDoorTie.lean); close each card by the builder's one call (the guide's Derived/Test/ToyasCard.lean, 'card_holds'). Laid BY PROGRAM, IN A SANDBOX (cutbox-door.mjs). By AI agents, Wed Nov 11 2026. No macro, syntax, notation, axiom, sorry.
-/
import Derived.Test.YtfbgmgadpjpdcaaGreatDoorRows
import GoSem.ClaimSeven
namespace Go.Proofs.YtfbgmgadpjpdcaaGreatDoor
namespace Rows

/-- THE TIED CARD OF 'mailcoachlaw.ArriveTells'. -/
def arriveTellsCard : Claim7 := { stood := { row := arriveTellsRow, standIns := [], harness := (true, "55a78d5a6772026bbda5df718d1e03a988802f7fccb0b3f79263d7cd69ed3464"), looks := true }, kinds := [], alts := [], laidByText := true, laidKinds := [.data, .pinned], laidTests := true, laidLooks := .later }
def ArriveTellsCardSaid : Prop := Claim7.holds Tryz.pinned (.plain (OpenSpec.ofChange arriveTellsSpec)) arriveTellsCard

/-- THE TIED CARD OF 'mailcoachlaw.ArriveTrue'. -/
def arriveTrueCard : Claim7 := { stood := { row := arriveTrueRow, standIns := [], harness := (true, "55a78d5a6772026bbda5df718d1e03a988802f7fccb0b3f79263d7cd69ed3464"), looks := true }, kinds := [], alts := [], laidByText := true, laidKinds := [.data, .pinned], laidTests := true, laidLooks := .later }
def ArriveTrueCardSaid : Prop := Claim7.holds Tryz.pinned (.plain (OpenSpec.ofChange arriveTrueSpec)) arriveTrueCard

/-- THE TIED CARD OF 'mailcoachlaw.HandTells'. -/
def handTellsCard : Claim7 := { stood := { row := handTellsRow, standIns := [], harness := (true, "55a78d5a6772026bbda5df718d1e03a988802f7fccb0b3f79263d7cd69ed3464"), looks := true }, kinds := [], alts := [], laidByText := true, laidKinds := [.data, .pinned], laidTests := true, laidLooks := .later }
def HandTellsCardSaid : Prop := Claim7.holds Tryz.pinned (.plain (OpenSpec.ofChange handTellsSpec)) handTellsCard

/-- THE TIED CARD OF 'mailcoachlaw.HandTrue'. -/
def handTrueCard : Claim7 := { stood := { row := handTrueRow, standIns := [], harness := (true, "55a78d5a6772026bbda5df718d1e03a988802f7fccb0b3f79263d7cd69ed3464"), looks := true }, kinds := [], alts := [], laidByText := true, laidKinds := [.data, .pinned], laidTests := true, laidLooks := .later }
def HandTrueCardSaid : Prop := Claim7.holds Tryz.pinned (.plain (OpenSpec.ofChange handTrueSpec)) handTrueCard

/-- THE TIED CARD OF 'mailcoachlaw.ReplyTells'. -/
def replyTellsCard : Claim7 := { stood := { row := replyTellsRow, standIns := [], harness := (true, "55a78d5a6772026bbda5df718d1e03a988802f7fccb0b3f79263d7cd69ed3464"), looks := true }, kinds := [], alts := [], laidByText := true, laidKinds := [.data, .pinned], laidTests := true, laidLooks := .later }
def ReplyTellsCardSaid : Prop := Claim7.holds Tryz.pinned (.plain (OpenSpec.ofChange replyTellsSpec)) replyTellsCard

/-- THE TIED CARD OF 'mailcoachlaw.ReplyLeaves'. -/
def replyLeavesCard : Claim7 := { stood := { row := replyLeavesRow, standIns := [], harness := (true, "55a78d5a6772026bbda5df718d1e03a988802f7fccb0b3f79263d7cd69ed3464"), looks := true }, kinds := [], alts := [], laidByText := true, laidKinds := [.data, .pinned], laidTests := true, laidLooks := .later }
def ReplyLeavesCardSaid : Prop := Claim7.holds Tryz.pinned (.plain (OpenSpec.ofChange replyLeavesSpec)) replyLeavesCard

/-- THE TIED CARD OF 'mailcoachlaw.ReplyTrue'. -/
def replyTrueCard : Claim7 := { stood := { row := replyTrueRow, standIns := [], harness := (true, "55a78d5a6772026bbda5df718d1e03a988802f7fccb0b3f79263d7cd69ed3464"), looks := true }, kinds := [], alts := [], laidByText := true, laidKinds := [.data, .pinned], laidTests := true, laidLooks := .later }
def ReplyTrueCardSaid : Prop := Claim7.holds Tryz.pinned (.plain (OpenSpec.ofChange replyTrueSpec)) replyTrueCard

/-- THE TIED CARD OF 'mailcoachlaw.ReplyBack'. -/
def replyBackCard : Claim7 := { stood := { row := replyBackRow, standIns := [], harness := (true, "55a78d5a6772026bbda5df718d1e03a988802f7fccb0b3f79263d7cd69ed3464"), looks := true }, kinds := [], alts := [], laidByText := true, laidKinds := [.data, .pinned], laidTests := true, laidLooks := .later }
def ReplyBackCardSaid : Prop := Claim7.holds Tryz.pinned (.plain (OpenSpec.ofChange replyBackSpec)) replyBackCard

/-- THE TIED CARD OF 'mailcoachlaw.BookTells'. -/
def bookTellsCard : Claim7 := { stood := { row := bookTellsRow, standIns := [], harness := (true, "55a78d5a6772026bbda5df718d1e03a988802f7fccb0b3f79263d7cd69ed3464"), looks := true }, kinds := [], alts := [], laidByText := true, laidKinds := [.data, .pinned], laidTests := true, laidLooks := .later }
def BookTellsCardSaid : Prop := Claim7.holds Tryz.pinned (.plain (OpenSpec.ofChange bookTellsSpec)) bookTellsCard

/-- THE TIED CARD OF 'mailcoachlaw.BookDrain'. -/
def bookDrainCard : Claim7 := { stood := { row := bookDrainRow, standIns := [], harness := (true, "55a78d5a6772026bbda5df718d1e03a988802f7fccb0b3f79263d7cd69ed3464"), looks := true }, kinds := [], alts := [], laidByText := true, laidKinds := [.data, .pinned], laidTests := true, laidLooks := .later }
def BookDrainCardSaid : Prop := Claim7.holds Tryz.pinned (.plain (OpenSpec.ofChange bookDrainSpec)) bookDrainCard

/-- THE TIED CARD OF 'mailcoachlaw.BookKept'. -/
def bookKeptCard : Claim7 := { stood := { row := bookKeptRow, standIns := [], harness := (true, "55a78d5a6772026bbda5df718d1e03a988802f7fccb0b3f79263d7cd69ed3464"), looks := true }, kinds := [], alts := [], laidByText := true, laidKinds := [.data, .pinned], laidTests := true, laidLooks := .later }
def BookKeptCardSaid : Prop := Claim7.holds Tryz.pinned (.plain (OpenSpec.ofChange bookKeptSpec)) bookKeptCard

/-- THE SECOND FORM's CARD OF 'mailcoachlaw.ArriveTells'. -/
def arriveTellsUptoCard : Claim7 := { stood := { row := arriveTellsUptoRow, standIns := [], harness := (true, "55a78d5a6772026bbda5df718d1e03a988802f7fccb0b3f79263d7cd69ed3464"), looks := true }, kinds := [], alts := [], laidByText := true, laidKinds := [.data, .pinned], laidTests := true, laidLooks := .later }
def ArriveTellsUptoCardSaid : Prop := Claim7.holds Tryz.pinned (.plain (OpenSpec.upto arriveTellsSpec)) arriveTellsUptoCard

/-- THE SECOND FORM's CARD OF 'mailcoachlaw.ArriveTrue'. -/
def arriveTrueUptoCard : Claim7 := { stood := { row := arriveTrueUptoRow, standIns := [], harness := (true, "55a78d5a6772026bbda5df718d1e03a988802f7fccb0b3f79263d7cd69ed3464"), looks := true }, kinds := [], alts := [], laidByText := true, laidKinds := [.data, .pinned], laidTests := true, laidLooks := .later }
def ArriveTrueUptoCardSaid : Prop := Claim7.holds Tryz.pinned (.plain (OpenSpec.upto arriveTrueSpec)) arriveTrueUptoCard

/-- THE SECOND FORM's CARD OF 'mailcoachlaw.HandTells'. -/
def handTellsUptoCard : Claim7 := { stood := { row := handTellsUptoRow, standIns := [], harness := (true, "55a78d5a6772026bbda5df718d1e03a988802f7fccb0b3f79263d7cd69ed3464"), looks := true }, kinds := [], alts := [], laidByText := true, laidKinds := [.data, .pinned], laidTests := true, laidLooks := .later }
def HandTellsUptoCardSaid : Prop := Claim7.holds Tryz.pinned (.plain (OpenSpec.upto handTellsSpec)) handTellsUptoCard

/-- THE SECOND FORM's CARD OF 'mailcoachlaw.HandTrue'. -/
def handTrueUptoCard : Claim7 := { stood := { row := handTrueUptoRow, standIns := [], harness := (true, "55a78d5a6772026bbda5df718d1e03a988802f7fccb0b3f79263d7cd69ed3464"), looks := true }, kinds := [], alts := [], laidByText := true, laidKinds := [.data, .pinned], laidTests := true, laidLooks := .later }
def HandTrueUptoCardSaid : Prop := Claim7.holds Tryz.pinned (.plain (OpenSpec.upto handTrueSpec)) handTrueUptoCard

/-- THE SECOND FORM's CARD OF 'mailcoachlaw.ReplyTells'. -/
def replyTellsUptoCard : Claim7 := { stood := { row := replyTellsUptoRow, standIns := [], harness := (true, "55a78d5a6772026bbda5df718d1e03a988802f7fccb0b3f79263d7cd69ed3464"), looks := true }, kinds := [], alts := [], laidByText := true, laidKinds := [.data, .pinned], laidTests := true, laidLooks := .later }
def ReplyTellsUptoCardSaid : Prop := Claim7.holds Tryz.pinned (.plain (OpenSpec.upto replyTellsSpec)) replyTellsUptoCard

/-- THE SECOND FORM's CARD OF 'mailcoachlaw.ReplyLeaves'. -/
def replyLeavesUptoCard : Claim7 := { stood := { row := replyLeavesUptoRow, standIns := [], harness := (true, "55a78d5a6772026bbda5df718d1e03a988802f7fccb0b3f79263d7cd69ed3464"), looks := true }, kinds := [], alts := [], laidByText := true, laidKinds := [.data, .pinned], laidTests := true, laidLooks := .later }
def ReplyLeavesUptoCardSaid : Prop := Claim7.holds Tryz.pinned (.plain (OpenSpec.upto replyLeavesSpec)) replyLeavesUptoCard

/-- THE SECOND FORM's CARD OF 'mailcoachlaw.ReplyTrue'. -/
def replyTrueUptoCard : Claim7 := { stood := { row := replyTrueUptoRow, standIns := [], harness := (true, "55a78d5a6772026bbda5df718d1e03a988802f7fccb0b3f79263d7cd69ed3464"), looks := true }, kinds := [], alts := [], laidByText := true, laidKinds := [.data, .pinned], laidTests := true, laidLooks := .later }
def ReplyTrueUptoCardSaid : Prop := Claim7.holds Tryz.pinned (.plain (OpenSpec.upto replyTrueSpec)) replyTrueUptoCard

/-- THE SECOND FORM's CARD OF 'mailcoachlaw.ReplyBack'. -/
def replyBackUptoCard : Claim7 := { stood := { row := replyBackUptoRow, standIns := [], harness := (true, "55a78d5a6772026bbda5df718d1e03a988802f7fccb0b3f79263d7cd69ed3464"), looks := true }, kinds := [], alts := [], laidByText := true, laidKinds := [.data, .pinned], laidTests := true, laidLooks := .later }
def ReplyBackUptoCardSaid : Prop := Claim7.holds Tryz.pinned (.plain (OpenSpec.upto replyBackSpec)) replyBackUptoCard

/-- THE SECOND FORM's CARD OF 'mailcoachlaw.BookTells'. -/
def bookTellsUptoCard : Claim7 := { stood := { row := bookTellsUptoRow, standIns := [], harness := (true, "55a78d5a6772026bbda5df718d1e03a988802f7fccb0b3f79263d7cd69ed3464"), looks := true }, kinds := [], alts := [], laidByText := true, laidKinds := [.data, .pinned], laidTests := true, laidLooks := .later }
def BookTellsUptoCardSaid : Prop := Claim7.holds Tryz.pinned (.plain (OpenSpec.upto bookTellsSpec)) bookTellsUptoCard

/-- THE SECOND FORM's CARD OF 'mailcoachlaw.BookDrain'. -/
def bookDrainUptoCard : Claim7 := { stood := { row := bookDrainUptoRow, standIns := [], harness := (true, "55a78d5a6772026bbda5df718d1e03a988802f7fccb0b3f79263d7cd69ed3464"), looks := true }, kinds := [], alts := [], laidByText := true, laidKinds := [.data, .pinned], laidTests := true, laidLooks := .later }
def BookDrainUptoCardSaid : Prop := Claim7.holds Tryz.pinned (.plain (OpenSpec.upto bookDrainSpec)) bookDrainUptoCard

/-- THE SECOND FORM's CARD OF 'mailcoachlaw.BookKept'. -/
def bookKeptUptoCard : Claim7 := { stood := { row := bookKeptUptoRow, standIns := [], harness := (true, "55a78d5a6772026bbda5df718d1e03a988802f7fccb0b3f79263d7cd69ed3464"), looks := true }, kinds := [], alts := [], laidByText := true, laidKinds := [.data, .pinned], laidTests := true, laidLooks := .later }
def BookKeptUptoCardSaid : Prop := Claim7.holds Tryz.pinned (.plain (OpenSpec.upto bookKeptSpec)) bookKeptUptoCard
end Rows
end Go.Proofs.YtfbgmgadpjpdcaaGreatDoor
