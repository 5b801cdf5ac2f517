/-
  DERIVED. GIVEN WITH THE SEED: THE CARDS: each row of YtaanpcjkflhomaaGreatDoorRows.lean that lists a variable, with what it lists TIED to the program's text (the seventh form; the later family's looks); each row that meets fmt, with fmt's text TOLD by the authors' own Lean function (tested against real Go, not proved from fmt's source: count such statements apart). THE CARD IS WHAT COUNTS. Prove the row's statement (the work); the ties are given (YtaanpcjkflhomaaGreatDoorTie.lean); close each card by the builder's one call (the guide's Derived/Test/ToyasCard.lean, 'card_holds'). Laid BY PROGRAM, IN A SANDBOX (cutbox-door.mjs). By AI agents, Wed Nov 11 2026. No macro, syntax, notation, axiom, sorry.
-/
import Derived.Test.YtaanpcjkflhomaaGreatDoorRows
import GoSem.ClaimSeven
namespace Go.Proofs.YtaanpcjkflhomaaGreatDoor
namespace Rows

/-- THE TIED CARD OF 'mailcoachlaw.ReplyTells'. -/
def replyTellsCard : Claim7 := { stood := { row := replyTellsRow, standIns := [], harness := (true, "83e3d97a49b2713775e3cbc57d48b406a8183509f246164946f8b1b6af844788"), looks := true }, kinds := [], alts := [], laidByText := true, laidKinds := [.data, .pinned], laidTests := true, laidLooks := .later }
def ReplyTellsCardSaid : Prop := Claim7.holds Tryz.pinned (.plain (OpenSpec.ofChange replyTellsSpec)) replyTellsCard

/-- THE TIED CARD OF 'mailcoachlaw.ReplyLeaves'. -/
def replyLeavesCard : Claim7 := { stood := { row := replyLeavesRow, standIns := [], harness := (true, "83e3d97a49b2713775e3cbc57d48b406a8183509f246164946f8b1b6af844788"), looks := true }, kinds := [], alts := [], laidByText := true, laidKinds := [.data, .pinned], laidTests := true, laidLooks := .later }
def ReplyLeavesCardSaid : Prop := Claim7.holds Tryz.pinned (.plain (OpenSpec.ofChange replyLeavesSpec)) replyLeavesCard

/-- THE TIED CARD OF 'mailcoachlaw.BookTells'. -/
def bookTellsCard : Claim7 := { stood := { row := bookTellsRow, standIns := [], harness := (true, "83e3d97a49b2713775e3cbc57d48b406a8183509f246164946f8b1b6af844788"), looks := true }, kinds := [], alts := [], laidByText := true, laidKinds := [.data, .pinned], laidTests := true, laidLooks := .later }
def BookTellsCardSaid : Prop := Claim7.holds Tryz.pinned (.plain (OpenSpec.ofChange bookTellsSpec)) bookTellsCard

/-- THE TIED CARD OF 'mailcoachlaw.BookDrain'. -/
def bookDrainCard : Claim7 := { stood := { row := bookDrainRow, standIns := [], harness := (true, "83e3d97a49b2713775e3cbc57d48b406a8183509f246164946f8b1b6af844788"), looks := true }, kinds := [], alts := [], laidByText := true, laidKinds := [.data, .pinned], laidTests := true, laidLooks := .later }
def BookDrainCardSaid : Prop := Claim7.holds Tryz.pinned (.plain (OpenSpec.ofChange bookDrainSpec)) bookDrainCard

/-- THE TIED CARD OF 'mailcoachlaw.BookKept'. -/
def bookKeptCard : Claim7 := { stood := { row := bookKeptRow, standIns := [], harness := (true, "83e3d97a49b2713775e3cbc57d48b406a8183509f246164946f8b1b6af844788"), looks := true }, kinds := [], alts := [], laidByText := true, laidKinds := [.data, .pinned], laidTests := true, laidLooks := .later }
def BookKeptCardSaid : Prop := Claim7.holds Tryz.pinned (.plain (OpenSpec.ofChange bookKeptSpec)) bookKeptCard

/-- THE TIED CARD OF 'mailcoachlaw.LogDoes'. -/
def logDoesCard : Claim7 := { stood := { row := logDoesRow, standIns := [], harness := (true, "83e3d97a49b2713775e3cbc57d48b406a8183509f246164946f8b1b6af844788"), looks := true }, kinds := [], alts := [], laidByText := true, laidKinds := [.data, .pinned], laidTests := true, laidLooks := .later }
def LogDoesCardSaid : Prop := Claim7.holds Tryz.pinned (.plain (OpenSpec.ofChange logDoesSpec)) logDoesCard

/-- THE TIED CARD OF 'mailcoachlaw.LogReplays'. -/
def logReplaysCard : Claim7 := { stood := { row := logReplaysRow, standIns := [], harness := (true, "83e3d97a49b2713775e3cbc57d48b406a8183509f246164946f8b1b6af844788"), looks := true }, kinds := [], alts := [], laidByText := true, laidKinds := [.data, .pinned], laidTests := true, laidLooks := .later }
def LogReplaysCardSaid : Prop := Claim7.holds Tryz.pinned (.plain (OpenSpec.ofChange logReplaysSpec)) logReplaysCard

/-- THE TIED CARD OF 'mailcoachlaw.LogRecovers'. -/
def logRecoversCard : Claim7 := { stood := { row := logRecoversRow, standIns := [], harness := (true, "83e3d97a49b2713775e3cbc57d48b406a8183509f246164946f8b1b6af844788"), looks := true }, kinds := [], alts := [], laidByText := true, laidKinds := [.data, .pinned], laidTests := true, laidLooks := .later }
def LogRecoversCardSaid : Prop := Claim7.holds Tryz.pinned (.plain (OpenSpec.ofChange logRecoversSpec)) logRecoversCard

/-- THE TIED CARD OF 'mailcoachlaw.LogKept'. -/
def logKeptCard : Claim7 := { stood := { row := logKeptRow, standIns := [], harness := (true, "83e3d97a49b2713775e3cbc57d48b406a8183509f246164946f8b1b6af844788"), looks := true }, kinds := [], alts := [], laidByText := true, laidKinds := [.data, .pinned], laidTests := true, laidLooks := .later }
def LogKeptCardSaid : Prop := Claim7.holds Tryz.pinned (.plain (OpenSpec.ofChange logKeptSpec)) logKeptCard

/-- THE TIED CARD OF 'mailcoachlaw.LogMore'. -/
def logMoreCard : Claim7 := { stood := { row := logMoreRow, standIns := [], harness := (true, "83e3d97a49b2713775e3cbc57d48b406a8183509f246164946f8b1b6af844788"), looks := true }, kinds := [], alts := [], laidByText := true, laidKinds := [.data, .pinned], laidTests := true, laidLooks := .later }
def LogMoreCardSaid : Prop := Claim7.holds Tryz.pinned (.plain (OpenSpec.ofChange logMoreSpec)) logMoreCard

/-- THE TIED CARD OF 'mailcoachlaw.LogRight'. -/
def logRightCard : Claim7 := { stood := { row := logRightRow, standIns := [], harness := (true, "83e3d97a49b2713775e3cbc57d48b406a8183509f246164946f8b1b6af844788"), looks := true }, kinds := [], alts := [], laidByText := true, laidKinds := [.data, .pinned], laidTests := true, laidLooks := .later }
def LogRightCardSaid : Prop := Claim7.holds Tryz.pinned (.plain (OpenSpec.ofChange logRightSpec)) logRightCard

/-- THE TIED CARD OF 'mailcoachlaw.RestStates'. -/
def restStatesCard : Claim7 := { stood := { row := restStatesRow, standIns := [], harness := (true, "83e3d97a49b2713775e3cbc57d48b406a8183509f246164946f8b1b6af844788"), looks := true }, kinds := [], alts := [], laidByText := true, laidKinds := [.data, .pinned], laidTests := true, laidLooks := .later }
def RestStatesCardSaid : Prop := Claim7.holds Tryz.pinned (.plain (OpenSpec.ofChange restStatesSpec)) restStatesCard

/-- THE SECOND FORM's CARD OF 'mailcoachlaw.ReplyTells'. -/
def replyTellsUptoCard : Claim7 := { stood := { row := replyTellsUptoRow, standIns := [], harness := (true, "83e3d97a49b2713775e3cbc57d48b406a8183509f246164946f8b1b6af844788"), looks := true }, kinds := [], alts := [], laidByText := true, laidKinds := [.data, .pinned], laidTests := true, laidLooks := .later }
def ReplyTellsUptoCardSaid : Prop := Claim7.holds Tryz.pinned (.plain (OpenSpec.upto replyTellsSpec)) replyTellsUptoCard

/-- THE SECOND FORM's CARD OF 'mailcoachlaw.ReplyLeaves'. -/
def replyLeavesUptoCard : Claim7 := { stood := { row := replyLeavesUptoRow, standIns := [], harness := (true, "83e3d97a49b2713775e3cbc57d48b406a8183509f246164946f8b1b6af844788"), looks := true }, kinds := [], alts := [], laidByText := true, laidKinds := [.data, .pinned], laidTests := true, laidLooks := .later }
def ReplyLeavesUptoCardSaid : Prop := Claim7.holds Tryz.pinned (.plain (OpenSpec.upto replyLeavesSpec)) replyLeavesUptoCard

/-- THE SECOND FORM's CARD OF 'mailcoachlaw.BookTells'. -/
def bookTellsUptoCard : Claim7 := { stood := { row := bookTellsUptoRow, standIns := [], harness := (true, "83e3d97a49b2713775e3cbc57d48b406a8183509f246164946f8b1b6af844788"), looks := true }, kinds := [], alts := [], laidByText := true, laidKinds := [.data, .pinned], laidTests := true, laidLooks := .later }
def BookTellsUptoCardSaid : Prop := Claim7.holds Tryz.pinned (.plain (OpenSpec.upto bookTellsSpec)) bookTellsUptoCard

/-- THE SECOND FORM's CARD OF 'mailcoachlaw.BookDrain'. -/
def bookDrainUptoCard : Claim7 := { stood := { row := bookDrainUptoRow, standIns := [], harness := (true, "83e3d97a49b2713775e3cbc57d48b406a8183509f246164946f8b1b6af844788"), looks := true }, kinds := [], alts := [], laidByText := true, laidKinds := [.data, .pinned], laidTests := true, laidLooks := .later }
def BookDrainUptoCardSaid : Prop := Claim7.holds Tryz.pinned (.plain (OpenSpec.upto bookDrainSpec)) bookDrainUptoCard

/-- THE SECOND FORM's CARD OF 'mailcoachlaw.BookKept'. -/
def bookKeptUptoCard : Claim7 := { stood := { row := bookKeptUptoRow, standIns := [], harness := (true, "83e3d97a49b2713775e3cbc57d48b406a8183509f246164946f8b1b6af844788"), looks := true }, kinds := [], alts := [], laidByText := true, laidKinds := [.data, .pinned], laidTests := true, laidLooks := .later }
def BookKeptUptoCardSaid : Prop := Claim7.holds Tryz.pinned (.plain (OpenSpec.upto bookKeptSpec)) bookKeptUptoCard

/-- THE SECOND FORM's CARD OF 'mailcoachlaw.LogDoes'. -/
def logDoesUptoCard : Claim7 := { stood := { row := logDoesUptoRow, standIns := [], harness := (true, "83e3d97a49b2713775e3cbc57d48b406a8183509f246164946f8b1b6af844788"), looks := true }, kinds := [], alts := [], laidByText := true, laidKinds := [.data, .pinned], laidTests := true, laidLooks := .later }
def LogDoesUptoCardSaid : Prop := Claim7.holds Tryz.pinned (.plain (OpenSpec.upto logDoesSpec)) logDoesUptoCard

/-- THE SECOND FORM's CARD OF 'mailcoachlaw.LogReplays'. -/
def logReplaysUptoCard : Claim7 := { stood := { row := logReplaysUptoRow, standIns := [], harness := (true, "83e3d97a49b2713775e3cbc57d48b406a8183509f246164946f8b1b6af844788"), looks := true }, kinds := [], alts := [], laidByText := true, laidKinds := [.data, .pinned], laidTests := true, laidLooks := .later }
def LogReplaysUptoCardSaid : Prop := Claim7.holds Tryz.pinned (.plain (OpenSpec.upto logReplaysSpec)) logReplaysUptoCard

/-- THE SECOND FORM's CARD OF 'mailcoachlaw.LogRecovers'. -/
def logRecoversUptoCard : Claim7 := { stood := { row := logRecoversUptoRow, standIns := [], harness := (true, "83e3d97a49b2713775e3cbc57d48b406a8183509f246164946f8b1b6af844788"), looks := true }, kinds := [], alts := [], laidByText := true, laidKinds := [.data, .pinned], laidTests := true, laidLooks := .later }
def LogRecoversUptoCardSaid : Prop := Claim7.holds Tryz.pinned (.plain (OpenSpec.upto logRecoversSpec)) logRecoversUptoCard

/-- THE SECOND FORM's CARD OF 'mailcoachlaw.LogKept'. -/
def logKeptUptoCard : Claim7 := { stood := { row := logKeptUptoRow, standIns := [], harness := (true, "83e3d97a49b2713775e3cbc57d48b406a8183509f246164946f8b1b6af844788"), looks := true }, kinds := [], alts := [], laidByText := true, laidKinds := [.data, .pinned], laidTests := true, laidLooks := .later }
def LogKeptUptoCardSaid : Prop := Claim7.holds Tryz.pinned (.plain (OpenSpec.upto logKeptSpec)) logKeptUptoCard

/-- THE SECOND FORM's CARD OF 'mailcoachlaw.LogMore'. -/
def logMoreUptoCard : Claim7 := { stood := { row := logMoreUptoRow, standIns := [], harness := (true, "83e3d97a49b2713775e3cbc57d48b406a8183509f246164946f8b1b6af844788"), looks := true }, kinds := [], alts := [], laidByText := true, laidKinds := [.data, .pinned], laidTests := true, laidLooks := .later }
def LogMoreUptoCardSaid : Prop := Claim7.holds Tryz.pinned (.plain (OpenSpec.upto logMoreSpec)) logMoreUptoCard

/-- THE SECOND FORM's CARD OF 'mailcoachlaw.LogRight'. -/
def logRightUptoCard : Claim7 := { stood := { row := logRightUptoRow, standIns := [], harness := (true, "83e3d97a49b2713775e3cbc57d48b406a8183509f246164946f8b1b6af844788"), looks := true }, kinds := [], alts := [], laidByText := true, laidKinds := [.data, .pinned], laidTests := true, laidLooks := .later }
def LogRightUptoCardSaid : Prop := Claim7.holds Tryz.pinned (.plain (OpenSpec.upto logRightSpec)) logRightUptoCard

/-- THE SECOND FORM's CARD OF 'mailcoachlaw.RestStates'. -/
def restStatesUptoCard : Claim7 := { stood := { row := restStatesUptoRow, standIns := [], harness := (true, "83e3d97a49b2713775e3cbc57d48b406a8183509f246164946f8b1b6af844788"), looks := true }, kinds := [], alts := [], laidByText := true, laidKinds := [.data, .pinned], laidTests := true, laidLooks := .later }
def RestStatesUptoCardSaid : Prop := Claim7.holds Tryz.pinned (.plain (OpenSpec.upto restStatesSpec)) restStatesUptoCard
end Rows
end Go.Proofs.YtaanpcjkflhomaaGreatDoor
