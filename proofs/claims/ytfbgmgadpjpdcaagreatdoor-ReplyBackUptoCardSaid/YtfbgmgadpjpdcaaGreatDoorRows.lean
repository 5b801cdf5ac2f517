/-
  NARROWER THAN 'FOR EVERY INPUT', by the rows' own cells (each row's printed sentence says how): ArriveTells: laid · ArriveTrue: laid · HandTells: laid · HandTrue: laid · ReplyTells: laid · ReplyLeaves: laid · ReplyTrue: laid · ReplyBack: laid · BookTells: laid · BookDrain: laid · BookKept: laid.
  DERIVED. THE GIVEN ROWS OF THIS SEAT. 11 by the template 'for every input the law returns true; each argument reads behind the call as it read before'; 0 by the template 'total and deterministic' (their statements: YtfbgmgadpjpdcaaGreatDoorTotals.lean).
  GIVEN WITH THE SEED: the statements are not yours to turn. If you find one false, say at which input.
  Laid BY PROGRAM, IN A SANDBOX (cutbox-rows.mjs): the forced cells as the released guide's own fill.sh prints them over the translation 178dd929f915d1fe… (all of the seat's roots in one cut). By AI agents, Wed Nov 11 2026. No macro, syntax, notation, axiom, sorry.
-/
import Derived.Test.YtfbgmgadpjpdcaaGreatDoorChecked
import GoSem.PinnedTables
import GoSem.Claim
import GoSem.ClaimJoined
import GoSem.ClaimMapViews
import Derived.JoinedTies
import Derived.KernelRfl
namespace Go.Proofs.YtfbgmgadpjpdcaaGreatDoor
/- THE CELL 'sum', in the pinned program and in every row, IS THE sha256 OF THE DUMP (.gsa) THAT YtfbgmgadpjpdcaaGreatDoorProg.lean LOADS. Nothing in Lean hashes anything: it is a label: what it is worth is what the hold of that sum in a sandbox is worth. -/
noncomputable def Tryz.pinned : Pinned := { name := "ytfbgmgadpjpdcaagreatdoor", sum := "178dd929f915d1fe720bf958b2090889002b06a949fc126b47b33b5b0c76bd19", checked := Tryz.checked }
namespace Rows
def none {H : Type} : Left H := { results := [], args := [] }

/- WHAT THE LISTED PACKAGE-LEVEL VARIABLES READ AS WHEN THE CALL BEGINS. Each datum BY PROGRAM (the guide's laid-datum.mjs) off the statement by which the dump's own 'gosem.cut.vars' lays the variable. In a bare row this is a premise. The card (YtfbgmgadpjpdcaaGreatDoorCards.lean) ties it to the program's text. -/
def laid_unicode_utf8_acceptRanges {H : Type} : DataW H := .agg [.agg [.lit (.int .u8 128), .lit (.int .u8 191)], .agg [.lit (.int .u8 160), .lit (.int .u8 191)], .agg [.lit (.int .u8 128), .lit (.int .u8 159)], .agg [.lit (.int .u8 144), .lit (.int .u8 191)], .agg [.lit (.int .u8 128), .lit (.int .u8 143)], .agg [.lit (.int .u8 0), .lit (.int .u8 0)], .agg [.lit (.int .u8 0), .lit (.int .u8 0)], .agg [.lit (.int .u8 0), .lit (.int .u8 0)], .agg [.lit (.int .u8 0), .lit (.int .u8 0)], .agg [.lit (.int .u8 0), .lit (.int .u8 0)], .agg [.lit (.int .u8 0), .lit (.int .u8 0)], .agg [.lit (.int .u8 0), .lit (.int .u8 0)], .agg [.lit (.int .u8 0), .lit (.int .u8 0)], .agg [.lit (.int .u8 0), .lit (.int .u8 0)], .agg [.lit (.int .u8 0), .lit (.int .u8 0)], .agg [.lit (.int .u8 0), .lit (.int .u8 0)]]
/-- One of Go's own tables, pinned by name: the form's constant. -/
def laid_unicode_utf8_first : DataW Unit := Go.Pinned.utf8First

/-- 'mailcoachlaw.ArriveTells': WHATEVER THE INPUT: true; the input reads as it did. -/
def arriveTellsSpec : ChangeSpec := { name := "arriveTells", fn := fun _ => fun
  | [d1, d2, d3] => { results := [.lit (.bool true)], args := [d1, d2, d3] }
  | _ => none }
def arriveTellsRow : OpenClaim := { program := "ytfbgmgadpjpdcaagreatdoor", sum := "178dd929f915d1fe720bf958b2090889002b06a949fc126b47b33b5b0c76bd19", func := "mailcoach/mailcoachlaw.ArriveTells", spec := "arriveTells", inPlace := ["internal/bytealg.CountString", "internal/bytealg.IndexByteString", "internal/bytealg.IndexString", "slices.overlaps[mailcoach/api.Item]"], unfollowed := true, recurses := true, named := ["unicode/utf8.first", "unicode/utf8.acceptRanges", "internal/bytealg.MaxLen"], apart := false, laid := [("unicode/utf8.acceptRanges", laid_unicode_utf8_acceptRanges), ("unicode/utf8.first", laid_unicode_utf8_first)] }
def ArriveTellsSaid : Prop := arriveTellsRow.holds Tryz.pinned (OpenSpec.ofChange arriveTellsSpec)

/-- ITS FALSE NEIGHBOUR: 'it returns false'. Refute it at one input. -/
def arriveTellsWrong : ChangeSpec := { name := "arriveTells", fn := fun _ => fun
  | [d1, d2, d3] => { results := [.lit (.bool false)], args := [d1, d2, d3] }
  | _ => none }
def ArriveTellsWrongFalsely : Prop := arriveTellsRow.holds Tryz.pinned (OpenSpec.ofChange arriveTellsWrong)

/-- 'mailcoachlaw.ArriveTrue': WHATEVER THE INPUT: true; the input reads as it did. -/
def arriveTrueSpec : ChangeSpec := { name := "arriveTrue", fn := fun _ => fun
  | [d1, d2, d3, d4] => { results := [.lit (.bool true)], args := [d1, d2, d3, d4] }
  | _ => none }
def arriveTrueRow : OpenClaim := { program := "ytfbgmgadpjpdcaagreatdoor", sum := "178dd929f915d1fe720bf958b2090889002b06a949fc126b47b33b5b0c76bd19", func := "mailcoach/mailcoachlaw.ArriveTrue", spec := "arriveTrue", inPlace := ["internal/bytealg.CountString", "internal/bytealg.IndexByteString", "internal/bytealg.IndexString", "slices.overlaps[mailcoach/api.Item]"], unfollowed := true, recurses := true, named := ["unicode/utf8.first", "unicode/utf8.acceptRanges", "internal/bytealg.MaxLen"], apart := false, laid := [("unicode/utf8.acceptRanges", laid_unicode_utf8_acceptRanges), ("unicode/utf8.first", laid_unicode_utf8_first)] }
def ArriveTrueSaid : Prop := arriveTrueRow.holds Tryz.pinned (OpenSpec.ofChange arriveTrueSpec)

/-- ITS FALSE NEIGHBOUR: 'it returns false'. Refute it at one input. -/
def arriveTrueWrong : ChangeSpec := { name := "arriveTrue", fn := fun _ => fun
  | [d1, d2, d3, d4] => { results := [.lit (.bool false)], args := [d1, d2, d3, d4] }
  | _ => none }
def ArriveTrueWrongFalsely : Prop := arriveTrueRow.holds Tryz.pinned (OpenSpec.ofChange arriveTrueWrong)

/-- 'mailcoachlaw.HandTells': WHATEVER THE INPUT: true; the input reads as it did. -/
def handTellsSpec : ChangeSpec := { name := "handTells", fn := fun _ => fun
  | [d1, d2, d3, d4, d5] => { results := [.lit (.bool true)], args := [d1, d2, d3, d4, d5] }
  | _ => none }
def handTellsRow : OpenClaim := { program := "ytfbgmgadpjpdcaagreatdoor", sum := "178dd929f915d1fe720bf958b2090889002b06a949fc126b47b33b5b0c76bd19", func := "mailcoach/mailcoachlaw.HandTells", spec := "handTells", inPlace := ["internal/bytealg.CountString", "internal/bytealg.IndexByteString", "internal/bytealg.IndexString", "slices.overlaps[mailcoach/api.Item]"], unfollowed := true, recurses := true, named := ["unicode/utf8.first", "unicode/utf8.acceptRanges", "internal/bytealg.MaxLen"], apart := false, laid := [("unicode/utf8.acceptRanges", laid_unicode_utf8_acceptRanges), ("unicode/utf8.first", laid_unicode_utf8_first)] }
def HandTellsSaid : Prop := handTellsRow.holds Tryz.pinned (OpenSpec.ofChange handTellsSpec)

/-- ITS FALSE NEIGHBOUR: 'it returns false'. Refute it at one input. -/
def handTellsWrong : ChangeSpec := { name := "handTells", fn := fun _ => fun
  | [d1, d2, d3, d4, d5] => { results := [.lit (.bool false)], args := [d1, d2, d3, d4, d5] }
  | _ => none }
def HandTellsWrongFalsely : Prop := handTellsRow.holds Tryz.pinned (OpenSpec.ofChange handTellsWrong)

/-- 'mailcoachlaw.HandTrue': WHATEVER THE INPUT: true; the input reads as it did. -/
def handTrueSpec : ChangeSpec := { name := "handTrue", fn := fun _ => fun
  | [d1, d2, d3, d4, d5, d6] => { results := [.lit (.bool true)], args := [d1, d2, d3, d4, d5, d6] }
  | _ => none }
def handTrueRow : OpenClaim := { program := "ytfbgmgadpjpdcaagreatdoor", sum := "178dd929f915d1fe720bf958b2090889002b06a949fc126b47b33b5b0c76bd19", func := "mailcoach/mailcoachlaw.HandTrue", spec := "handTrue", inPlace := ["internal/bytealg.CountString", "internal/bytealg.IndexByteString", "internal/bytealg.IndexString", "slices.overlaps[mailcoach/api.Item]"], unfollowed := true, recurses := true, named := ["unicode/utf8.first", "unicode/utf8.acceptRanges", "internal/bytealg.MaxLen"], apart := false, laid := [("unicode/utf8.acceptRanges", laid_unicode_utf8_acceptRanges), ("unicode/utf8.first", laid_unicode_utf8_first)] }
def HandTrueSaid : Prop := handTrueRow.holds Tryz.pinned (OpenSpec.ofChange handTrueSpec)

/-- ITS FALSE NEIGHBOUR: 'it returns false'. Refute it at one input. -/
def handTrueWrong : ChangeSpec := { name := "handTrue", fn := fun _ => fun
  | [d1, d2, d3, d4, d5, d6] => { results := [.lit (.bool false)], args := [d1, d2, d3, d4, d5, d6] }
  | _ => none }
def HandTrueWrongFalsely : Prop := handTrueRow.holds Tryz.pinned (OpenSpec.ofChange handTrueWrong)

/-- 'mailcoachlaw.ReplyTells': WHATEVER THE INPUT: true; the input reads as it did. -/
def replyTellsSpec : ChangeSpec := { name := "replyTells", fn := fun _ => fun
  | [d1, d2, d3, d4] => { results := [.lit (.bool true)], args := [d1, d2, d3, d4] }
  | _ => none }
def replyTellsRow : OpenClaim := { program := "ytfbgmgadpjpdcaagreatdoor", sum := "178dd929f915d1fe720bf958b2090889002b06a949fc126b47b33b5b0c76bd19", func := "mailcoach/mailcoachlaw.ReplyTells", spec := "replyTells", inPlace := ["internal/bytealg.CountString", "internal/bytealg.IndexByteString", "internal/bytealg.IndexString", "slices.overlaps[mailcoach/api.Item]"], unfollowed := true, recurses := true, named := ["unicode/utf8.first", "unicode/utf8.acceptRanges", "internal/bytealg.MaxLen"], apart := false, laid := [("unicode/utf8.acceptRanges", laid_unicode_utf8_acceptRanges), ("unicode/utf8.first", laid_unicode_utf8_first)] }
def ReplyTellsSaid : Prop := replyTellsRow.holds Tryz.pinned (OpenSpec.ofChange replyTellsSpec)

/-- ITS FALSE NEIGHBOUR: 'it returns false'. Refute it at one input. -/
def replyTellsWrong : ChangeSpec := { name := "replyTells", fn := fun _ => fun
  | [d1, d2, d3, d4] => { results := [.lit (.bool false)], args := [d1, d2, d3, d4] }
  | _ => none }
def ReplyTellsWrongFalsely : Prop := replyTellsRow.holds Tryz.pinned (OpenSpec.ofChange replyTellsWrong)

/-- 'mailcoachlaw.ReplyLeaves': WHATEVER THE INPUT: true; the input reads as it did. -/
def replyLeavesSpec : ChangeSpec := { name := "replyLeaves", fn := fun _ => fun
  | [d1, d2, d3] => { results := [.lit (.bool true)], args := [d1, d2, d3] }
  | _ => none }
def replyLeavesRow : OpenClaim := { program := "ytfbgmgadpjpdcaagreatdoor", sum := "178dd929f915d1fe720bf958b2090889002b06a949fc126b47b33b5b0c76bd19", func := "mailcoach/mailcoachlaw.ReplyLeaves", spec := "replyLeaves", inPlace := ["slices.overlaps[mailcoach/api.Item]", "internal/bytealg.CountString", "internal/bytealg.IndexByteString", "internal/bytealg.IndexString"], unfollowed := true, recurses := true, named := ["unicode/utf8.first", "unicode/utf8.acceptRanges", "internal/bytealg.MaxLen"], apart := false, laid := [("unicode/utf8.acceptRanges", laid_unicode_utf8_acceptRanges), ("unicode/utf8.first", laid_unicode_utf8_first)] }
def ReplyLeavesSaid : Prop := replyLeavesRow.holds Tryz.pinned (OpenSpec.ofChange replyLeavesSpec)

/-- ITS FALSE NEIGHBOUR: 'it returns false'. Refute it at one input. -/
def replyLeavesWrong : ChangeSpec := { name := "replyLeaves", fn := fun _ => fun
  | [d1, d2, d3] => { results := [.lit (.bool false)], args := [d1, d2, d3] }
  | _ => none }
def ReplyLeavesWrongFalsely : Prop := replyLeavesRow.holds Tryz.pinned (OpenSpec.ofChange replyLeavesWrong)

/-- 'mailcoachlaw.ReplyTrue': WHATEVER THE INPUT: true; the input reads as it did. -/
def replyTrueSpec : ChangeSpec := { name := "replyTrue", fn := fun _ => fun
  | [d1, d2, d3, d4, d5] => { results := [.lit (.bool true)], args := [d1, d2, d3, d4, d5] }
  | _ => none }
def replyTrueRow : OpenClaim := { program := "ytfbgmgadpjpdcaagreatdoor", sum := "178dd929f915d1fe720bf958b2090889002b06a949fc126b47b33b5b0c76bd19", func := "mailcoach/mailcoachlaw.ReplyTrue", spec := "replyTrue", inPlace := ["internal/bytealg.CountString", "internal/bytealg.IndexByteString", "internal/bytealg.IndexString", "slices.overlaps[mailcoach/api.Item]"], unfollowed := true, recurses := true, named := ["unicode/utf8.first", "unicode/utf8.acceptRanges", "internal/bytealg.MaxLen"], apart := false, laid := [("unicode/utf8.acceptRanges", laid_unicode_utf8_acceptRanges), ("unicode/utf8.first", laid_unicode_utf8_first)] }
def ReplyTrueSaid : Prop := replyTrueRow.holds Tryz.pinned (OpenSpec.ofChange replyTrueSpec)

/-- ITS FALSE NEIGHBOUR: 'it returns false'. Refute it at one input. -/
def replyTrueWrong : ChangeSpec := { name := "replyTrue", fn := fun _ => fun
  | [d1, d2, d3, d4, d5] => { results := [.lit (.bool false)], args := [d1, d2, d3, d4, d5] }
  | _ => none }
def ReplyTrueWrongFalsely : Prop := replyTrueRow.holds Tryz.pinned (OpenSpec.ofChange replyTrueWrong)

/-- 'mailcoachlaw.ReplyBack': WHATEVER THE INPUT: true; the input reads as it did. -/
def replyBackSpec : ChangeSpec := { name := "replyBack", fn := fun _ => fun
  | [d1, d2, d3, d4] => { results := [.lit (.bool true)], args := [d1, d2, d3, d4] }
  | _ => none }
def replyBackRow : OpenClaim := { program := "ytfbgmgadpjpdcaagreatdoor", sum := "178dd929f915d1fe720bf958b2090889002b06a949fc126b47b33b5b0c76bd19", func := "mailcoach/mailcoachlaw.ReplyBack", spec := "replyBack", inPlace := ["internal/bytealg.CountString", "internal/bytealg.IndexByteString", "internal/bytealg.IndexString", "slices.overlaps[mailcoach/api.Item]"], unfollowed := true, recurses := true, named := ["unicode/utf8.first", "unicode/utf8.acceptRanges", "internal/bytealg.MaxLen"], apart := false, laid := [("unicode/utf8.acceptRanges", laid_unicode_utf8_acceptRanges), ("unicode/utf8.first", laid_unicode_utf8_first)] }
def ReplyBackSaid : Prop := replyBackRow.holds Tryz.pinned (OpenSpec.ofChange replyBackSpec)

/-- ITS FALSE NEIGHBOUR: 'it returns false'. Refute it at one input. -/
def replyBackWrong : ChangeSpec := { name := "replyBack", fn := fun _ => fun
  | [d1, d2, d3, d4] => { results := [.lit (.bool false)], args := [d1, d2, d3, d4] }
  | _ => none }
def ReplyBackWrongFalsely : Prop := replyBackRow.holds Tryz.pinned (OpenSpec.ofChange replyBackWrong)

/-- 'mailcoachlaw.BookTells': WHATEVER THE INPUT: true; the input reads as it did. -/
def bookTellsSpec : ChangeSpec := { name := "bookTells", fn := fun _ => fun
  | [d1, d2, d3] => { results := [.lit (.bool true)], args := [d1, d2, d3] }
  | _ => none }
def bookTellsRow : OpenClaim := { program := "ytfbgmgadpjpdcaagreatdoor", sum := "178dd929f915d1fe720bf958b2090889002b06a949fc126b47b33b5b0c76bd19", func := "mailcoach/mailcoachlaw.BookTells", spec := "bookTells", inPlace := ["internal/bytealg.CountString", "internal/bytealg.IndexByteString", "internal/bytealg.IndexString", "slices.overlaps[mailcoach/api.Item]"], unfollowed := true, recurses := true, named := ["unicode/utf8.first", "unicode/utf8.acceptRanges", "internal/bytealg.MaxLen"], apart := false, laid := [("unicode/utf8.acceptRanges", laid_unicode_utf8_acceptRanges), ("unicode/utf8.first", laid_unicode_utf8_first)] }
def BookTellsSaid : Prop := bookTellsRow.holds Tryz.pinned (OpenSpec.ofChange bookTellsSpec)

/-- ITS FALSE NEIGHBOUR: 'it returns false'. Refute it at one input. -/
def bookTellsWrong : ChangeSpec := { name := "bookTells", fn := fun _ => fun
  | [d1, d2, d3] => { results := [.lit (.bool false)], args := [d1, d2, d3] }
  | _ => none }
def BookTellsWrongFalsely : Prop := bookTellsRow.holds Tryz.pinned (OpenSpec.ofChange bookTellsWrong)

/-- 'mailcoachlaw.BookDrain': WHATEVER THE INPUT: true; the input reads as it did. -/
def bookDrainSpec : ChangeSpec := { name := "bookDrain", fn := fun _ => fun
  | [d1, d2, d3, d4] => { results := [.lit (.bool true)], args := [d1, d2, d3, d4] }
  | _ => none }
def bookDrainRow : OpenClaim := { program := "ytfbgmgadpjpdcaagreatdoor", sum := "178dd929f915d1fe720bf958b2090889002b06a949fc126b47b33b5b0c76bd19", func := "mailcoach/mailcoachlaw.BookDrain", spec := "bookDrain", inPlace := ["internal/bytealg.CountString", "internal/bytealg.IndexByteString", "internal/bytealg.IndexString", "slices.overlaps[mailcoach/api.Item]"], unfollowed := true, recurses := true, named := ["unicode/utf8.first", "unicode/utf8.acceptRanges", "internal/bytealg.MaxLen"], apart := false, laid := [("unicode/utf8.acceptRanges", laid_unicode_utf8_acceptRanges), ("unicode/utf8.first", laid_unicode_utf8_first)] }
def BookDrainSaid : Prop := bookDrainRow.holds Tryz.pinned (OpenSpec.ofChange bookDrainSpec)

/-- ITS FALSE NEIGHBOUR: 'it returns false'. Refute it at one input. -/
def bookDrainWrong : ChangeSpec := { name := "bookDrain", fn := fun _ => fun
  | [d1, d2, d3, d4] => { results := [.lit (.bool false)], args := [d1, d2, d3, d4] }
  | _ => none }
def BookDrainWrongFalsely : Prop := bookDrainRow.holds Tryz.pinned (OpenSpec.ofChange bookDrainWrong)

/-- 'mailcoachlaw.BookKept': WHATEVER THE INPUT: true; the input reads as it did. -/
def bookKeptSpec : ChangeSpec := { name := "bookKept", fn := fun _ => fun
  | [d1, d2, d3] => { results := [.lit (.bool true)], args := [d1, d2, d3] }
  | _ => none }
def bookKeptRow : OpenClaim := { program := "ytfbgmgadpjpdcaagreatdoor", sum := "178dd929f915d1fe720bf958b2090889002b06a949fc126b47b33b5b0c76bd19", func := "mailcoach/mailcoachlaw.BookKept", spec := "bookKept", inPlace := ["internal/bytealg.CountString", "internal/bytealg.IndexByteString", "internal/bytealg.IndexString", "slices.overlaps[mailcoach/api.Item]"], unfollowed := true, recurses := true, named := ["unicode/utf8.first", "unicode/utf8.acceptRanges", "internal/bytealg.MaxLen"], apart := false, laid := [("unicode/utf8.acceptRanges", laid_unicode_utf8_acceptRanges), ("unicode/utf8.first", laid_unicode_utf8_first)] }
def BookKeptSaid : Prop := bookKeptRow.holds Tryz.pinned (OpenSpec.ofChange bookKeptSpec)

/-- ITS FALSE NEIGHBOUR: 'it returns false'. Refute it at one input. -/
def bookKeptWrong : ChangeSpec := { name := "bookKept", fn := fun _ => fun
  | [d1, d2, d3] => { results := [.lit (.bool false)], args := [d1, d2, d3] }
  | _ => none }
def BookKeptWrongFalsely : Prop := bookKeptRow.holds Tryz.pinned (OpenSpec.ofChange bookKeptWrong)

/- THE SECOND FORM. 'bulk': how many values and letters a reading holds, each counted each time it is reached (what is shared counts as often as it is met; a slice's spare places count too). A statement '..UptoSaid' is the law's where the arguments, and the package variables that the reading takes, are together of bulk at most 1048576: NARROWER than '..Said'. Prove '..Said' where nothing that the law and all that it calls make is longer than what came in: it says more and counts as full. Else prove '..UptoSaid'. A law counts once. -/
mutual
def uptoBulk {H : Type} : DataW H → Nat
  | .lit (.string bytes) => bytes.length + 1
  | .lit _ => 1
  | .nil => 1
  | .ptr d => uptoBulk d + 1
  | .slice elems spare => uptoBulkAll elems + uptoBulkAll spare + 1
  | .agg parts => uptoBulkAll parts + 1
  | .iface _ d => uptoBulk d + 1
  | .map entries => uptoBulkEntries entries + 1
  | .held _ => 1
def uptoBulkAll {H : Type} : List (DataW H) → Nat
  | [] => 0
  | d :: r => uptoBulk d + uptoBulkAll r
def uptoBulkEntries {H : Type} : List (Lit × DataW H) → Nat
  | [] => 0
  | x :: r => uptoBulkEntry x + uptoBulkEntries r
def uptoBulkEntry {H : Type} : Lit × DataW H → Nat
  | (.string bytes, d) => bytes.length + uptoBulk d + 1
  | (_, d) => uptoBulk d + 1
 end
def uptoSmall : (H : Type) → List (DataW H) → Bool := fun _ ds => decide (uptoBulkAll ds ≤ 1048576)
def OpenSpec.upto (s : _root_.Go.ChangeSpec) : _root_.Go.OpenSpec := { _root_.Go.OpenSpec.ofChange s with cond := some uptoSmall }

/-- 'mailcoachlaw.ArriveTells', WHERE WHAT IT READS IS OF BULK AT MOST 1048576: true; the input reads as it did. -/
def arriveTellsUptoRow : OpenClaim := { program := "ytfbgmgadpjpdcaagreatdoor", sum := "178dd929f915d1fe720bf958b2090889002b06a949fc126b47b33b5b0c76bd19", func := "mailcoach/mailcoachlaw.ArriveTells", spec := "arriveTells", inPlace := ["internal/bytealg.CountString", "internal/bytealg.IndexByteString", "internal/bytealg.IndexString", "slices.overlaps[mailcoach/api.Item]"], unfollowed := true, recurses := true, named := ["unicode/utf8.first", "unicode/utf8.acceptRanges", "internal/bytealg.MaxLen"], apart := false, laid := [("unicode/utf8.acceptRanges", laid_unicode_utf8_acceptRanges), ("unicode/utf8.first", laid_unicode_utf8_first)], narrowed := true }
def ArriveTellsUptoSaid : Prop := arriveTellsUptoRow.holds Tryz.pinned (OpenSpec.upto arriveTellsSpec)

/-- 'mailcoachlaw.ArriveTrue', WHERE WHAT IT READS IS OF BULK AT MOST 1048576: true; the input reads as it did. -/
def arriveTrueUptoRow : OpenClaim := { program := "ytfbgmgadpjpdcaagreatdoor", sum := "178dd929f915d1fe720bf958b2090889002b06a949fc126b47b33b5b0c76bd19", func := "mailcoach/mailcoachlaw.ArriveTrue", spec := "arriveTrue", inPlace := ["internal/bytealg.CountString", "internal/bytealg.IndexByteString", "internal/bytealg.IndexString", "slices.overlaps[mailcoach/api.Item]"], unfollowed := true, recurses := true, named := ["unicode/utf8.first", "unicode/utf8.acceptRanges", "internal/bytealg.MaxLen"], apart := false, laid := [("unicode/utf8.acceptRanges", laid_unicode_utf8_acceptRanges), ("unicode/utf8.first", laid_unicode_utf8_first)], narrowed := true }
def ArriveTrueUptoSaid : Prop := arriveTrueUptoRow.holds Tryz.pinned (OpenSpec.upto arriveTrueSpec)

/-- 'mailcoachlaw.HandTells', WHERE WHAT IT READS IS OF BULK AT MOST 1048576: true; the input reads as it did. -/
def handTellsUptoRow : OpenClaim := { program := "ytfbgmgadpjpdcaagreatdoor", sum := "178dd929f915d1fe720bf958b2090889002b06a949fc126b47b33b5b0c76bd19", func := "mailcoach/mailcoachlaw.HandTells", spec := "handTells", inPlace := ["internal/bytealg.CountString", "internal/bytealg.IndexByteString", "internal/bytealg.IndexString", "slices.overlaps[mailcoach/api.Item]"], unfollowed := true, recurses := true, named := ["unicode/utf8.first", "unicode/utf8.acceptRanges", "internal/bytealg.MaxLen"], apart := false, laid := [("unicode/utf8.acceptRanges", laid_unicode_utf8_acceptRanges), ("unicode/utf8.first", laid_unicode_utf8_first)], narrowed := true }
def HandTellsUptoSaid : Prop := handTellsUptoRow.holds Tryz.pinned (OpenSpec.upto handTellsSpec)

/-- 'mailcoachlaw.HandTrue', WHERE WHAT IT READS IS OF BULK AT MOST 1048576: true; the input reads as it did. -/
def handTrueUptoRow : OpenClaim := { program := "ytfbgmgadpjpdcaagreatdoor", sum := "178dd929f915d1fe720bf958b2090889002b06a949fc126b47b33b5b0c76bd19", func := "mailcoach/mailcoachlaw.HandTrue", spec := "handTrue", inPlace := ["internal/bytealg.CountString", "internal/bytealg.IndexByteString", "internal/bytealg.IndexString", "slices.overlaps[mailcoach/api.Item]"], unfollowed := true, recurses := true, named := ["unicode/utf8.first", "unicode/utf8.acceptRanges", "internal/bytealg.MaxLen"], apart := false, laid := [("unicode/utf8.acceptRanges", laid_unicode_utf8_acceptRanges), ("unicode/utf8.first", laid_unicode_utf8_first)], narrowed := true }
def HandTrueUptoSaid : Prop := handTrueUptoRow.holds Tryz.pinned (OpenSpec.upto handTrueSpec)

/-- 'mailcoachlaw.ReplyTells', WHERE WHAT IT READS IS OF BULK AT MOST 1048576: true; the input reads as it did. -/
def replyTellsUptoRow : OpenClaim := { program := "ytfbgmgadpjpdcaagreatdoor", sum := "178dd929f915d1fe720bf958b2090889002b06a949fc126b47b33b5b0c76bd19", func := "mailcoach/mailcoachlaw.ReplyTells", spec := "replyTells", inPlace := ["internal/bytealg.CountString", "internal/bytealg.IndexByteString", "internal/bytealg.IndexString", "slices.overlaps[mailcoach/api.Item]"], unfollowed := true, recurses := true, named := ["unicode/utf8.first", "unicode/utf8.acceptRanges", "internal/bytealg.MaxLen"], apart := false, laid := [("unicode/utf8.acceptRanges", laid_unicode_utf8_acceptRanges), ("unicode/utf8.first", laid_unicode_utf8_first)], narrowed := true }
def ReplyTellsUptoSaid : Prop := replyTellsUptoRow.holds Tryz.pinned (OpenSpec.upto replyTellsSpec)

/-- 'mailcoachlaw.ReplyLeaves', WHERE WHAT IT READS IS OF BULK AT MOST 1048576: true; the input reads as it did. -/
def replyLeavesUptoRow : OpenClaim := { program := "ytfbgmgadpjpdcaagreatdoor", sum := "178dd929f915d1fe720bf958b2090889002b06a949fc126b47b33b5b0c76bd19", func := "mailcoach/mailcoachlaw.ReplyLeaves", spec := "replyLeaves", inPlace := ["slices.overlaps[mailcoach/api.Item]", "internal/bytealg.CountString", "internal/bytealg.IndexByteString", "internal/bytealg.IndexString"], unfollowed := true, recurses := true, named := ["unicode/utf8.first", "unicode/utf8.acceptRanges", "internal/bytealg.MaxLen"], apart := false, laid := [("unicode/utf8.acceptRanges", laid_unicode_utf8_acceptRanges), ("unicode/utf8.first", laid_unicode_utf8_first)], narrowed := true }
def ReplyLeavesUptoSaid : Prop := replyLeavesUptoRow.holds Tryz.pinned (OpenSpec.upto replyLeavesSpec)

/-- 'mailcoachlaw.ReplyTrue', WHERE WHAT IT READS IS OF BULK AT MOST 1048576: true; the input reads as it did. -/
def replyTrueUptoRow : OpenClaim := { program := "ytfbgmgadpjpdcaagreatdoor", sum := "178dd929f915d1fe720bf958b2090889002b06a949fc126b47b33b5b0c76bd19", func := "mailcoach/mailcoachlaw.ReplyTrue", spec := "replyTrue", inPlace := ["internal/bytealg.CountString", "internal/bytealg.IndexByteString", "internal/bytealg.IndexString", "slices.overlaps[mailcoach/api.Item]"], unfollowed := true, recurses := true, named := ["unicode/utf8.first", "unicode/utf8.acceptRanges", "internal/bytealg.MaxLen"], apart := false, laid := [("unicode/utf8.acceptRanges", laid_unicode_utf8_acceptRanges), ("unicode/utf8.first", laid_unicode_utf8_first)], narrowed := true }
def ReplyTrueUptoSaid : Prop := replyTrueUptoRow.holds Tryz.pinned (OpenSpec.upto replyTrueSpec)

/-- 'mailcoachlaw.ReplyBack', WHERE WHAT IT READS IS OF BULK AT MOST 1048576: true; the input reads as it did. -/
def replyBackUptoRow : OpenClaim := { program := "ytfbgmgadpjpdcaagreatdoor", sum := "178dd929f915d1fe720bf958b2090889002b06a949fc126b47b33b5b0c76bd19", func := "mailcoach/mailcoachlaw.ReplyBack", spec := "replyBack", inPlace := ["internal/bytealg.CountString", "internal/bytealg.IndexByteString", "internal/bytealg.IndexString", "slices.overlaps[mailcoach/api.Item]"], unfollowed := true, recurses := true, named := ["unicode/utf8.first", "unicode/utf8.acceptRanges", "internal/bytealg.MaxLen"], apart := false, laid := [("unicode/utf8.acceptRanges", laid_unicode_utf8_acceptRanges), ("unicode/utf8.first", laid_unicode_utf8_first)], narrowed := true }
def ReplyBackUptoSaid : Prop := replyBackUptoRow.holds Tryz.pinned (OpenSpec.upto replyBackSpec)

/-- 'mailcoachlaw.BookTells', WHERE WHAT IT READS IS OF BULK AT MOST 1048576: true; the input reads as it did. -/
def bookTellsUptoRow : OpenClaim := { program := "ytfbgmgadpjpdcaagreatdoor", sum := "178dd929f915d1fe720bf958b2090889002b06a949fc126b47b33b5b0c76bd19", func := "mailcoach/mailcoachlaw.BookTells", spec := "bookTells", inPlace := ["internal/bytealg.CountString", "internal/bytealg.IndexByteString", "internal/bytealg.IndexString", "slices.overlaps[mailcoach/api.Item]"], unfollowed := true, recurses := true, named := ["unicode/utf8.first", "unicode/utf8.acceptRanges", "internal/bytealg.MaxLen"], apart := false, laid := [("unicode/utf8.acceptRanges", laid_unicode_utf8_acceptRanges), ("unicode/utf8.first", laid_unicode_utf8_first)], narrowed := true }
def BookTellsUptoSaid : Prop := bookTellsUptoRow.holds Tryz.pinned (OpenSpec.upto bookTellsSpec)

/-- 'mailcoachlaw.BookDrain', WHERE WHAT IT READS IS OF BULK AT MOST 1048576: true; the input reads as it did. -/
def bookDrainUptoRow : OpenClaim := { program := "ytfbgmgadpjpdcaagreatdoor", sum := "178dd929f915d1fe720bf958b2090889002b06a949fc126b47b33b5b0c76bd19", func := "mailcoach/mailcoachlaw.BookDrain", spec := "bookDrain", inPlace := ["internal/bytealg.CountString", "internal/bytealg.IndexByteString", "internal/bytealg.IndexString", "slices.overlaps[mailcoach/api.Item]"], unfollowed := true, recurses := true, named := ["unicode/utf8.first", "unicode/utf8.acceptRanges", "internal/bytealg.MaxLen"], apart := false, laid := [("unicode/utf8.acceptRanges", laid_unicode_utf8_acceptRanges), ("unicode/utf8.first", laid_unicode_utf8_first)], narrowed := true }
def BookDrainUptoSaid : Prop := bookDrainUptoRow.holds Tryz.pinned (OpenSpec.upto bookDrainSpec)

/-- 'mailcoachlaw.BookKept', WHERE WHAT IT READS IS OF BULK AT MOST 1048576: true; the input reads as it did. -/
def bookKeptUptoRow : OpenClaim := { program := "ytfbgmgadpjpdcaagreatdoor", sum := "178dd929f915d1fe720bf958b2090889002b06a949fc126b47b33b5b0c76bd19", func := "mailcoach/mailcoachlaw.BookKept", spec := "bookKept", inPlace := ["internal/bytealg.CountString", "internal/bytealg.IndexByteString", "internal/bytealg.IndexString", "slices.overlaps[mailcoach/api.Item]"], unfollowed := true, recurses := true, named := ["unicode/utf8.first", "unicode/utf8.acceptRanges", "internal/bytealg.MaxLen"], apart := false, laid := [("unicode/utf8.acceptRanges", laid_unicode_utf8_acceptRanges), ("unicode/utf8.first", laid_unicode_utf8_first)], narrowed := true }
def BookKeptUptoSaid : Prop := bookKeptUptoRow.holds Tryz.pinned (OpenSpec.upto bookKeptSpec)

end Rows
end Go.Proofs.YtfbgmgadpjpdcaaGreatDoor
