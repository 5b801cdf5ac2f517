/-
  NARROWER THAN 'FOR EVERY INPUT', by the rows' own cells (each row's printed sentence says how): ReplyTells: laid · ReplyLeaves: laid · BookTells: laid · BookDrain: laid · BookKept: laid · LogDoes: laid · LogReplays: laid · LogRecovers: laid · LogKept: laid · LogMore: laid · LogRight: laid · RestStates: laid.
  DERIVED. THE GIVEN ROWS OF THIS SEAT. 12 by the template 'for every input the law returns true; each argument reads behind the call as it read before'; 0 by the template 'total and deterministic' (their statements: YtaanpcjkflhomaaGreatDoorTotals.lean).
  GIVEN WITH THE SEED: the statements are not yours to turn. If you find one false, say at which input.
  Laid BY PROGRAM, IN A SANDBOX (cutbox-rows.mjs): the forced cells as the released guide's own fill.sh prints them over the translation ceb51c7b4405e4dc… (all of the seat's roots in one cut). By AI agents, Wed Nov 11 2026. No macro, syntax, notation, axiom, sorry.
-/
import Derived.Test.YtaanpcjkflhomaaGreatDoorChecked
import GoSem.PinnedTables
import GoSem.Claim
import GoSem.ClaimJoined
import GoSem.ClaimMapViews
import Derived.JoinedTies
import Derived.KernelRfl
namespace Go.Proofs.YtaanpcjkflhomaaGreatDoor
/- THE CELL 'sum', in the pinned program and in every row, IS THE sha256 OF THE DUMP (.gsa) THAT YtaanpcjkflhomaaGreatDoorProg.lean LOADS. Nothing in Lean hashes anything: it is a label: what it is worth is what the hold of that sum in a sandbox is worth. -/
noncomputable def Tryz.pinned : Pinned := { name := "ytaanpcjkflhomaagreatdoor", sum := "ceb51c7b4405e4dc6d6f8210531d3dead1e033af9c5e64edace40591f2a68ddc", checked := Tryz.checked }
namespace Rows
def none {H : Type} : Left H := { results := [], args := [] }

/- WHAT THE LISTED PACKAGE-LEVEL VARIABLES READ AS WHEN THE CALL BEGINS. Each datum BY PROGRAM (the guide's laid-datum.mjs) off the statement by which the dump's own 'gosem.cut.vars' lays the variable. In a bare row this is a premise. The card (YtaanpcjkflhomaaGreatDoorCards.lean) ties it to the program's text. -/
def laid_unicode_utf8_acceptRanges {H : Type} : DataW H := .agg [.agg [.lit (.int .u8 128), .lit (.int .u8 191)], .agg [.lit (.int .u8 160), .lit (.int .u8 191)], .agg [.lit (.int .u8 128), .lit (.int .u8 159)], .agg [.lit (.int .u8 144), .lit (.int .u8 191)], .agg [.lit (.int .u8 128), .lit (.int .u8 143)], .agg [.lit (.int .u8 0), .lit (.int .u8 0)], .agg [.lit (.int .u8 0), .lit (.int .u8 0)], .agg [.lit (.int .u8 0), .lit (.int .u8 0)], .agg [.lit (.int .u8 0), .lit (.int .u8 0)], .agg [.lit (.int .u8 0), .lit (.int .u8 0)], .agg [.lit (.int .u8 0), .lit (.int .u8 0)], .agg [.lit (.int .u8 0), .lit (.int .u8 0)], .agg [.lit (.int .u8 0), .lit (.int .u8 0)], .agg [.lit (.int .u8 0), .lit (.int .u8 0)], .agg [.lit (.int .u8 0), .lit (.int .u8 0)], .agg [.lit (.int .u8 0), .lit (.int .u8 0)]]
/-- One of Go's own tables, pinned by name: the form's constant. -/
def laid_unicode_utf8_first : DataW Unit := Go.Pinned.utf8First

/-- 'mailcoachlaw.ReplyTells': WHATEVER THE INPUT: true; the input reads as it did. -/
def replyTellsSpec : ChangeSpec := { name := "replyTells", fn := fun _ => fun
  | [d1, d2, d3, d4] => { results := [.lit (.bool true)], args := [d1, d2, d3, d4] }
  | _ => none }
def replyTellsRow : OpenClaim := { program := "ytaanpcjkflhomaagreatdoor", sum := "ceb51c7b4405e4dc6d6f8210531d3dead1e033af9c5e64edace40591f2a68ddc", func := "mailcoach/mailcoachlaw.ReplyTells", spec := "replyTells", inPlace := ["internal/bytealg.CountString", "internal/bytealg.IndexByteString", "internal/bytealg.IndexString", "slices.overlaps[mailcoach/api.Item]"], unfollowed := true, recurses := true, named := ["unicode/utf8.first", "unicode/utf8.acceptRanges", "internal/bytealg.MaxLen"], apart := false, laid := [("unicode/utf8.acceptRanges", laid_unicode_utf8_acceptRanges), ("unicode/utf8.first", laid_unicode_utf8_first)] }
def ReplyTellsSaid : Prop := replyTellsRow.holds Tryz.pinned (OpenSpec.ofChange replyTellsSpec)

/-- ITS FALSE NEIGHBOUR: 'it returns false'. Refute it at one input. -/
def replyTellsWrong : ChangeSpec := { name := "replyTells", fn := fun _ => fun
  | [d1, d2, d3, d4] => { results := [.lit (.bool false)], args := [d1, d2, d3, d4] }
  | _ => none }
def ReplyTellsWrongFalsely : Prop := replyTellsRow.holds Tryz.pinned (OpenSpec.ofChange replyTellsWrong)

/-- 'mailcoachlaw.ReplyLeaves': WHATEVER THE INPUT: true; the input reads as it did. -/
def replyLeavesSpec : ChangeSpec := { name := "replyLeaves", fn := fun _ => fun
  | [d1, d2, d3] => { results := [.lit (.bool true)], args := [d1, d2, d3] }
  | _ => none }
def replyLeavesRow : OpenClaim := { program := "ytaanpcjkflhomaagreatdoor", sum := "ceb51c7b4405e4dc6d6f8210531d3dead1e033af9c5e64edace40591f2a68ddc", func := "mailcoach/mailcoachlaw.ReplyLeaves", spec := "replyLeaves", inPlace := ["slices.overlaps[mailcoach/api.Item]", "internal/bytealg.CountString", "internal/bytealg.IndexByteString", "internal/bytealg.IndexString"], unfollowed := true, recurses := true, named := ["unicode/utf8.first", "unicode/utf8.acceptRanges", "internal/bytealg.MaxLen"], apart := false, laid := [("unicode/utf8.acceptRanges", laid_unicode_utf8_acceptRanges), ("unicode/utf8.first", laid_unicode_utf8_first)] }
def ReplyLeavesSaid : Prop := replyLeavesRow.holds Tryz.pinned (OpenSpec.ofChange replyLeavesSpec)

/-- ITS FALSE NEIGHBOUR: 'it returns false'. Refute it at one input. -/
def replyLeavesWrong : ChangeSpec := { name := "replyLeaves", fn := fun _ => fun
  | [d1, d2, d3] => { results := [.lit (.bool false)], args := [d1, d2, d3] }
  | _ => none }
def ReplyLeavesWrongFalsely : Prop := replyLeavesRow.holds Tryz.pinned (OpenSpec.ofChange replyLeavesWrong)

/-- 'mailcoachlaw.BookTells': WHATEVER THE INPUT: true; the input reads as it did. -/
def bookTellsSpec : ChangeSpec := { name := "bookTells", fn := fun _ => fun
  | [d1, d2, d3] => { results := [.lit (.bool true)], args := [d1, d2, d3] }
  | _ => none }
def bookTellsRow : OpenClaim := { program := "ytaanpcjkflhomaagreatdoor", sum := "ceb51c7b4405e4dc6d6f8210531d3dead1e033af9c5e64edace40591f2a68ddc", func := "mailcoach/mailcoachlaw.BookTells", spec := "bookTells", inPlace := ["internal/bytealg.CountString", "internal/bytealg.IndexByteString", "internal/bytealg.IndexString", "slices.overlaps[mailcoach/api.Item]"], unfollowed := true, recurses := true, named := ["unicode/utf8.first", "unicode/utf8.acceptRanges", "internal/bytealg.MaxLen"], apart := false, laid := [("unicode/utf8.acceptRanges", laid_unicode_utf8_acceptRanges), ("unicode/utf8.first", laid_unicode_utf8_first)] }
def BookTellsSaid : Prop := bookTellsRow.holds Tryz.pinned (OpenSpec.ofChange bookTellsSpec)

/-- ITS FALSE NEIGHBOUR: 'it returns false'. Refute it at one input. -/
def bookTellsWrong : ChangeSpec := { name := "bookTells", fn := fun _ => fun
  | [d1, d2, d3] => { results := [.lit (.bool false)], args := [d1, d2, d3] }
  | _ => none }
def BookTellsWrongFalsely : Prop := bookTellsRow.holds Tryz.pinned (OpenSpec.ofChange bookTellsWrong)

/-- 'mailcoachlaw.BookDrain': WHATEVER THE INPUT: true; the input reads as it did. -/
def bookDrainSpec : ChangeSpec := { name := "bookDrain", fn := fun _ => fun
  | [d1, d2, d3, d4] => { results := [.lit (.bool true)], args := [d1, d2, d3, d4] }
  | _ => none }
def bookDrainRow : OpenClaim := { program := "ytaanpcjkflhomaagreatdoor", sum := "ceb51c7b4405e4dc6d6f8210531d3dead1e033af9c5e64edace40591f2a68ddc", func := "mailcoach/mailcoachlaw.BookDrain", spec := "bookDrain", inPlace := ["internal/bytealg.CountString", "internal/bytealg.IndexByteString", "internal/bytealg.IndexString", "slices.overlaps[mailcoach/api.Item]"], unfollowed := true, recurses := true, named := ["unicode/utf8.first", "unicode/utf8.acceptRanges", "internal/bytealg.MaxLen"], apart := false, laid := [("unicode/utf8.acceptRanges", laid_unicode_utf8_acceptRanges), ("unicode/utf8.first", laid_unicode_utf8_first)] }
def BookDrainSaid : Prop := bookDrainRow.holds Tryz.pinned (OpenSpec.ofChange bookDrainSpec)

/-- ITS FALSE NEIGHBOUR: 'it returns false'. Refute it at one input. -/
def bookDrainWrong : ChangeSpec := { name := "bookDrain", fn := fun _ => fun
  | [d1, d2, d3, d4] => { results := [.lit (.bool false)], args := [d1, d2, d3, d4] }
  | _ => none }
def BookDrainWrongFalsely : Prop := bookDrainRow.holds Tryz.pinned (OpenSpec.ofChange bookDrainWrong)

/-- 'mailcoachlaw.BookKept': WHATEVER THE INPUT: true; the input reads as it did. -/
def bookKeptSpec : ChangeSpec := { name := "bookKept", fn := fun _ => fun
  | [d1, d2, d3] => { results := [.lit (.bool true)], args := [d1, d2, d3] }
  | _ => none }
def bookKeptRow : OpenClaim := { program := "ytaanpcjkflhomaagreatdoor", sum := "ceb51c7b4405e4dc6d6f8210531d3dead1e033af9c5e64edace40591f2a68ddc", func := "mailcoach/mailcoachlaw.BookKept", spec := "bookKept", inPlace := ["internal/bytealg.CountString", "internal/bytealg.IndexByteString", "internal/bytealg.IndexString", "slices.overlaps[mailcoach/api.Item]"], unfollowed := true, recurses := true, named := ["unicode/utf8.first", "unicode/utf8.acceptRanges", "internal/bytealg.MaxLen"], apart := false, laid := [("unicode/utf8.acceptRanges", laid_unicode_utf8_acceptRanges), ("unicode/utf8.first", laid_unicode_utf8_first)] }
def BookKeptSaid : Prop := bookKeptRow.holds Tryz.pinned (OpenSpec.ofChange bookKeptSpec)

/-- ITS FALSE NEIGHBOUR: 'it returns false'. Refute it at one input. -/
def bookKeptWrong : ChangeSpec := { name := "bookKept", fn := fun _ => fun
  | [d1, d2, d3] => { results := [.lit (.bool false)], args := [d1, d2, d3] }
  | _ => none }
def BookKeptWrongFalsely : Prop := bookKeptRow.holds Tryz.pinned (OpenSpec.ofChange bookKeptWrong)

/-- 'mailcoachlaw.LogDoes': WHATEVER THE INPUT: true; the input reads as it did. -/
def logDoesSpec : ChangeSpec := { name := "logDoes", fn := fun _ => fun
  | [d1, d2, d3] => { results := [.lit (.bool true)], args := [d1, d2, d3] }
  | _ => none }
def logDoesRow : OpenClaim := { program := "ytaanpcjkflhomaagreatdoor", sum := "ceb51c7b4405e4dc6d6f8210531d3dead1e033af9c5e64edace40591f2a68ddc", func := "mailcoach/mailcoachlaw.LogDoes", spec := "logDoes", inPlace := ["internal/bytealg.CountString", "internal/bytealg.IndexByteString", "internal/bytealg.IndexString", "slices.overlaps[mailcoach/api.Item]"], unfollowed := true, recurses := true, named := ["unicode/utf8.first", "unicode/utf8.acceptRanges", "internal/bytealg.MaxLen"], apart := false, laid := [("unicode/utf8.acceptRanges", laid_unicode_utf8_acceptRanges), ("unicode/utf8.first", laid_unicode_utf8_first)] }
def LogDoesSaid : Prop := logDoesRow.holds Tryz.pinned (OpenSpec.ofChange logDoesSpec)

/-- ITS FALSE NEIGHBOUR: 'it returns false'. Refute it at one input. -/
def logDoesWrong : ChangeSpec := { name := "logDoes", fn := fun _ => fun
  | [d1, d2, d3] => { results := [.lit (.bool false)], args := [d1, d2, d3] }
  | _ => none }
def LogDoesWrongFalsely : Prop := logDoesRow.holds Tryz.pinned (OpenSpec.ofChange logDoesWrong)

/-- 'mailcoachlaw.LogReplays': WHATEVER THE INPUT: true; the input reads as it did. -/
def logReplaysSpec : ChangeSpec := { name := "logReplays", fn := fun _ => fun
  | [d1, d2] => { results := [.lit (.bool true)], args := [d1, d2] }
  | _ => none }
def logReplaysRow : OpenClaim := { program := "ytaanpcjkflhomaagreatdoor", sum := "ceb51c7b4405e4dc6d6f8210531d3dead1e033af9c5e64edace40591f2a68ddc", func := "mailcoach/mailcoachlaw.LogReplays", spec := "logReplays", inPlace := ["internal/bytealg.CountString", "internal/bytealg.IndexByteString", "internal/bytealg.IndexString", "slices.overlaps[mailcoach/api.Item]"], unfollowed := true, recurses := true, named := ["unicode/utf8.first", "unicode/utf8.acceptRanges", "internal/bytealg.MaxLen"], apart := false, laid := [("unicode/utf8.acceptRanges", laid_unicode_utf8_acceptRanges), ("unicode/utf8.first", laid_unicode_utf8_first)] }
def LogReplaysSaid : Prop := logReplaysRow.holds Tryz.pinned (OpenSpec.ofChange logReplaysSpec)

/-- ITS FALSE NEIGHBOUR: 'it returns false'. Refute it at one input. -/
def logReplaysWrong : ChangeSpec := { name := "logReplays", fn := fun _ => fun
  | [d1, d2] => { results := [.lit (.bool false)], args := [d1, d2] }
  | _ => none }
def LogReplaysWrongFalsely : Prop := logReplaysRow.holds Tryz.pinned (OpenSpec.ofChange logReplaysWrong)

/-- 'mailcoachlaw.LogRecovers': WHATEVER THE INPUT: true; the input reads as it did. -/
def logRecoversSpec : ChangeSpec := { name := "logRecovers", fn := fun _ => fun
  | [d1, d2] => { results := [.lit (.bool true)], args := [d1, d2] }
  | _ => none }
def logRecoversRow : OpenClaim := { program := "ytaanpcjkflhomaagreatdoor", sum := "ceb51c7b4405e4dc6d6f8210531d3dead1e033af9c5e64edace40591f2a68ddc", func := "mailcoach/mailcoachlaw.LogRecovers", spec := "logRecovers", inPlace := ["internal/bytealg.CountString", "internal/bytealg.IndexByteString", "internal/bytealg.IndexString", "slices.overlaps[mailcoach/api.Item]"], unfollowed := true, recurses := true, named := ["unicode/utf8.first", "unicode/utf8.acceptRanges", "internal/bytealg.MaxLen"], apart := false, laid := [("unicode/utf8.acceptRanges", laid_unicode_utf8_acceptRanges), ("unicode/utf8.first", laid_unicode_utf8_first)] }
def LogRecoversSaid : Prop := logRecoversRow.holds Tryz.pinned (OpenSpec.ofChange logRecoversSpec)

/-- ITS FALSE NEIGHBOUR: 'it returns false'. Refute it at one input. -/
def logRecoversWrong : ChangeSpec := { name := "logRecovers", fn := fun _ => fun
  | [d1, d2] => { results := [.lit (.bool false)], args := [d1, d2] }
  | _ => none }
def LogRecoversWrongFalsely : Prop := logRecoversRow.holds Tryz.pinned (OpenSpec.ofChange logRecoversWrong)

/-- 'mailcoachlaw.LogKept': WHATEVER THE INPUT: true; the input reads as it did. -/
def logKeptSpec : ChangeSpec := { name := "logKept", fn := fun _ => fun
  | [d1, d2, d3] => { results := [.lit (.bool true)], args := [d1, d2, d3] }
  | _ => none }
def logKeptRow : OpenClaim := { program := "ytaanpcjkflhomaagreatdoor", sum := "ceb51c7b4405e4dc6d6f8210531d3dead1e033af9c5e64edace40591f2a68ddc", func := "mailcoach/mailcoachlaw.LogKept", spec := "logKept", inPlace := ["internal/bytealg.CountString", "internal/bytealg.IndexByteString", "internal/bytealg.IndexString", "slices.overlaps[mailcoach/api.Item]"], unfollowed := true, recurses := true, named := ["unicode/utf8.first", "unicode/utf8.acceptRanges", "internal/bytealg.MaxLen"], apart := false, laid := [("unicode/utf8.acceptRanges", laid_unicode_utf8_acceptRanges), ("unicode/utf8.first", laid_unicode_utf8_first)] }
def LogKeptSaid : Prop := logKeptRow.holds Tryz.pinned (OpenSpec.ofChange logKeptSpec)

/-- ITS FALSE NEIGHBOUR: 'it returns false'. Refute it at one input. -/
def logKeptWrong : ChangeSpec := { name := "logKept", fn := fun _ => fun
  | [d1, d2, d3] => { results := [.lit (.bool false)], args := [d1, d2, d3] }
  | _ => none }
def LogKeptWrongFalsely : Prop := logKeptRow.holds Tryz.pinned (OpenSpec.ofChange logKeptWrong)

/-- 'mailcoachlaw.LogMore': WHATEVER THE INPUT: true; the input reads as it did. -/
def logMoreSpec : ChangeSpec := { name := "logMore", fn := fun _ => fun
  | [d1, d2, d3] => { results := [.lit (.bool true)], args := [d1, d2, d3] }
  | _ => none }
def logMoreRow : OpenClaim := { program := "ytaanpcjkflhomaagreatdoor", sum := "ceb51c7b4405e4dc6d6f8210531d3dead1e033af9c5e64edace40591f2a68ddc", func := "mailcoach/mailcoachlaw.LogMore", spec := "logMore", inPlace := ["internal/bytealg.CountString", "internal/bytealg.IndexByteString", "internal/bytealg.IndexString", "slices.overlaps[mailcoach/api.Item]"], unfollowed := true, recurses := true, named := ["unicode/utf8.first", "unicode/utf8.acceptRanges", "internal/bytealg.MaxLen"], apart := false, laid := [("unicode/utf8.acceptRanges", laid_unicode_utf8_acceptRanges), ("unicode/utf8.first", laid_unicode_utf8_first)] }
def LogMoreSaid : Prop := logMoreRow.holds Tryz.pinned (OpenSpec.ofChange logMoreSpec)

/-- ITS FALSE NEIGHBOUR: 'it returns false'. Refute it at one input. -/
def logMoreWrong : ChangeSpec := { name := "logMore", fn := fun _ => fun
  | [d1, d2, d3] => { results := [.lit (.bool false)], args := [d1, d2, d3] }
  | _ => none }
def LogMoreWrongFalsely : Prop := logMoreRow.holds Tryz.pinned (OpenSpec.ofChange logMoreWrong)

/-- 'mailcoachlaw.LogRight': WHATEVER THE INPUT: true; the input reads as it did. -/
def logRightSpec : ChangeSpec := { name := "logRight", fn := fun _ => fun
  | [d1, d2, d3, d4, d5] => { results := [.lit (.bool true)], args := [d1, d2, d3, d4, d5] }
  | _ => none }
def logRightRow : OpenClaim := { program := "ytaanpcjkflhomaagreatdoor", sum := "ceb51c7b4405e4dc6d6f8210531d3dead1e033af9c5e64edace40591f2a68ddc", func := "mailcoach/mailcoachlaw.LogRight", spec := "logRight", inPlace := ["internal/bytealg.CountString", "internal/bytealg.IndexByteString", "internal/bytealg.IndexString", "slices.overlaps[mailcoach/api.Item]"], unfollowed := true, recurses := true, named := ["unicode/utf8.first", "unicode/utf8.acceptRanges", "internal/bytealg.MaxLen"], apart := false, laid := [("unicode/utf8.acceptRanges", laid_unicode_utf8_acceptRanges), ("unicode/utf8.first", laid_unicode_utf8_first)] }
def LogRightSaid : Prop := logRightRow.holds Tryz.pinned (OpenSpec.ofChange logRightSpec)

/-- ITS FALSE NEIGHBOUR: 'it returns false'. Refute it at one input. -/
def logRightWrong : ChangeSpec := { name := "logRight", fn := fun _ => fun
  | [d1, d2, d3, d4, d5] => { results := [.lit (.bool false)], args := [d1, d2, d3, d4, d5] }
  | _ => none }
def LogRightWrongFalsely : Prop := logRightRow.holds Tryz.pinned (OpenSpec.ofChange logRightWrong)

/-- 'mailcoachlaw.RestStates': WHATEVER THE INPUT: true; the input reads as it did. -/
def restStatesSpec : ChangeSpec := { name := "restStates", fn := fun _ => fun
  | [d1, d2, d3] => { results := [.lit (.bool true)], args := [d1, d2, d3] }
  | _ => none }
def restStatesRow : OpenClaim := { program := "ytaanpcjkflhomaagreatdoor", sum := "ceb51c7b4405e4dc6d6f8210531d3dead1e033af9c5e64edace40591f2a68ddc", func := "mailcoach/mailcoachlaw.RestStates", spec := "restStates", inPlace := ["internal/bytealg.CountString", "internal/bytealg.IndexByteString", "internal/bytealg.IndexString", "slices.overlaps[mailcoach/api.Item]"], unfollowed := true, recurses := true, named := ["unicode/utf8.first", "unicode/utf8.acceptRanges", "internal/bytealg.MaxLen"], apart := false, laid := [("unicode/utf8.acceptRanges", laid_unicode_utf8_acceptRanges), ("unicode/utf8.first", laid_unicode_utf8_first)] }
def RestStatesSaid : Prop := restStatesRow.holds Tryz.pinned (OpenSpec.ofChange restStatesSpec)

/-- ITS FALSE NEIGHBOUR: 'it returns false'. Refute it at one input. -/
def restStatesWrong : ChangeSpec := { name := "restStates", fn := fun _ => fun
  | [d1, d2, d3] => { results := [.lit (.bool false)], args := [d1, d2, d3] }
  | _ => none }
def RestStatesWrongFalsely : Prop := restStatesRow.holds Tryz.pinned (OpenSpec.ofChange restStatesWrong)

/- THE SECOND FORM. 'bulk': how many values and letters a reading holds, each counted each time it is reached (what is shared counts as often as it is met; a slice's spare places count too). A statement '..UptoSaid' is the law's where the arguments, and the package variables that the reading takes, are together of bulk at most 1048576: NARROWER than '..Said'. Prove '..Said' where nothing that the law and all that it calls make is longer than what came in: it says more and counts as full. Else prove '..UptoSaid'. A law counts once. -/
mutual
def uptoBulk {H : Type} : DataW H → Nat
  | .lit (.string bytes) => bytes.length + 1
  | .lit _ => 1
  | .nil => 1
  | .ptr d => uptoBulk d + 1
  | .slice elems spare => uptoBulkAll elems + uptoBulkAll spare + 1
  | .agg parts => uptoBulkAll parts + 1
  | .iface _ d => uptoBulk d + 1
  | .map entries => uptoBulkEntries entries + 1
  | .held _ => 1
def uptoBulkAll {H : Type} : List (DataW H) → Nat
  | [] => 0
  | d :: r => uptoBulk d + uptoBulkAll r
def uptoBulkEntries {H : Type} : List (Lit × DataW H) → Nat
  | [] => 0
  | x :: r => uptoBulkEntry x + uptoBulkEntries r
def uptoBulkEntry {H : Type} : Lit × DataW H → Nat
  | (.string bytes, d) => bytes.length + uptoBulk d + 1
  | (_, d) => uptoBulk d + 1
 end
def uptoSmall : (H : Type) → List (DataW H) → Bool := fun _ ds => decide (uptoBulkAll ds ≤ 1048576)
def OpenSpec.upto (s : _root_.Go.ChangeSpec) : _root_.Go.OpenSpec := { _root_.Go.OpenSpec.ofChange s with cond := some uptoSmall }

/-- 'mailcoachlaw.ReplyTells', WHERE WHAT IT READS IS OF BULK AT MOST 1048576: true; the input reads as it did. -/
def replyTellsUptoRow : OpenClaim := { program := "ytaanpcjkflhomaagreatdoor", sum := "ceb51c7b4405e4dc6d6f8210531d3dead1e033af9c5e64edace40591f2a68ddc", func := "mailcoach/mailcoachlaw.ReplyTells", spec := "replyTells", inPlace := ["internal/bytealg.CountString", "internal/bytealg.IndexByteString", "internal/bytealg.IndexString", "slices.overlaps[mailcoach/api.Item]"], unfollowed := true, recurses := true, named := ["unicode/utf8.first", "unicode/utf8.acceptRanges", "internal/bytealg.MaxLen"], apart := false, laid := [("unicode/utf8.acceptRanges", laid_unicode_utf8_acceptRanges), ("unicode/utf8.first", laid_unicode_utf8_first)], narrowed := true }
def ReplyTellsUptoSaid : Prop := replyTellsUptoRow.holds Tryz.pinned (OpenSpec.upto replyTellsSpec)

/-- 'mailcoachlaw.ReplyLeaves', WHERE WHAT IT READS IS OF BULK AT MOST 1048576: true; the input reads as it did. -/
def replyLeavesUptoRow : OpenClaim := { program := "ytaanpcjkflhomaagreatdoor", sum := "ceb51c7b4405e4dc6d6f8210531d3dead1e033af9c5e64edace40591f2a68ddc", func := "mailcoach/mailcoachlaw.ReplyLeaves", spec := "replyLeaves", inPlace := ["slices.overlaps[mailcoach/api.Item]", "internal/bytealg.CountString", "internal/bytealg.IndexByteString", "internal/bytealg.IndexString"], unfollowed := true, recurses := true, named := ["unicode/utf8.first", "unicode/utf8.acceptRanges", "internal/bytealg.MaxLen"], apart := false, laid := [("unicode/utf8.acceptRanges", laid_unicode_utf8_acceptRanges), ("unicode/utf8.first", laid_unicode_utf8_first)], narrowed := true }
def ReplyLeavesUptoSaid : Prop := replyLeavesUptoRow.holds Tryz.pinned (OpenSpec.upto replyLeavesSpec)

/-- 'mailcoachlaw.BookTells', WHERE WHAT IT READS IS OF BULK AT MOST 1048576: true; the input reads as it did. -/
def bookTellsUptoRow : OpenClaim := { program := "ytaanpcjkflhomaagreatdoor", sum := "ceb51c7b4405e4dc6d6f8210531d3dead1e033af9c5e64edace40591f2a68ddc", func := "mailcoach/mailcoachlaw.BookTells", spec := "bookTells", inPlace := ["internal/bytealg.CountString", "internal/bytealg.IndexByteString", "internal/bytealg.IndexString", "slices.overlaps[mailcoach/api.Item]"], unfollowed := true, recurses := true, named := ["unicode/utf8.first", "unicode/utf8.acceptRanges", "internal/bytealg.MaxLen"], apart := false, laid := [("unicode/utf8.acceptRanges", laid_unicode_utf8_acceptRanges), ("unicode/utf8.first", laid_unicode_utf8_first)], narrowed := true }
def BookTellsUptoSaid : Prop := bookTellsUptoRow.holds Tryz.pinned (OpenSpec.upto bookTellsSpec)

/-- 'mailcoachlaw.BookDrain', WHERE WHAT IT READS IS OF BULK AT MOST 1048576: true; the input reads as it did. -/
def bookDrainUptoRow : OpenClaim := { program := "ytaanpcjkflhomaagreatdoor", sum := "ceb51c7b4405e4dc6d6f8210531d3dead1e033af9c5e64edace40591f2a68ddc", func := "mailcoach/mailcoachlaw.BookDrain", spec := "bookDrain", inPlace := ["internal/bytealg.CountString", "internal/bytealg.IndexByteString", "internal/bytealg.IndexString", "slices.overlaps[mailcoach/api.Item]"], unfollowed := true, recurses := true, named := ["unicode/utf8.first", "unicode/utf8.acceptRanges", "internal/bytealg.MaxLen"], apart := false, laid := [("unicode/utf8.acceptRanges", laid_unicode_utf8_acceptRanges), ("unicode/utf8.first", laid_unicode_utf8_first)], narrowed := true }
def BookDrainUptoSaid : Prop := bookDrainUptoRow.holds Tryz.pinned (OpenSpec.upto bookDrainSpec)

/-- 'mailcoachlaw.BookKept', WHERE WHAT IT READS IS OF BULK AT MOST 1048576: true; the input reads as it did. -/
def bookKeptUptoRow : OpenClaim := { program := "ytaanpcjkflhomaagreatdoor", sum := "ceb51c7b4405e4dc6d6f8210531d3dead1e033af9c5e64edace40591f2a68ddc", func := "mailcoach/mailcoachlaw.BookKept", spec := "bookKept", inPlace := ["internal/bytealg.CountString", "internal/bytealg.IndexByteString", "internal/bytealg.IndexString", "slices.overlaps[mailcoach/api.Item]"], unfollowed := true, recurses := true, named := ["unicode/utf8.first", "unicode/utf8.acceptRanges", "internal/bytealg.MaxLen"], apart := false, laid := [("unicode/utf8.acceptRanges", laid_unicode_utf8_acceptRanges), ("unicode/utf8.first", laid_unicode_utf8_first)], narrowed := true }
def BookKeptUptoSaid : Prop := bookKeptUptoRow.holds Tryz.pinned (OpenSpec.upto bookKeptSpec)

/-- 'mailcoachlaw.LogDoes', WHERE WHAT IT READS IS OF BULK AT MOST 1048576: true; the input reads as it did. -/
def logDoesUptoRow : OpenClaim := { program := "ytaanpcjkflhomaagreatdoor", sum := "ceb51c7b4405e4dc6d6f8210531d3dead1e033af9c5e64edace40591f2a68ddc", func := "mailcoach/mailcoachlaw.LogDoes", spec := "logDoes", inPlace := ["internal/bytealg.CountString", "internal/bytealg.IndexByteString", "internal/bytealg.IndexString", "slices.overlaps[mailcoach/api.Item]"], unfollowed := true, recurses := true, named := ["unicode/utf8.first", "unicode/utf8.acceptRanges", "internal/bytealg.MaxLen"], apart := false, laid := [("unicode/utf8.acceptRanges", laid_unicode_utf8_acceptRanges), ("unicode/utf8.first", laid_unicode_utf8_first)], narrowed := true }
def LogDoesUptoSaid : Prop := logDoesUptoRow.holds Tryz.pinned (OpenSpec.upto logDoesSpec)

/-- 'mailcoachlaw.LogReplays', WHERE WHAT IT READS IS OF BULK AT MOST 1048576: true; the input reads as it did. -/
def logReplaysUptoRow : OpenClaim := { program := "ytaanpcjkflhomaagreatdoor", sum := "ceb51c7b4405e4dc6d6f8210531d3dead1e033af9c5e64edace40591f2a68ddc", func := "mailcoach/mailcoachlaw.LogReplays", spec := "logReplays", inPlace := ["internal/bytealg.CountString", "internal/bytealg.IndexByteString", "internal/bytealg.IndexString", "slices.overlaps[mailcoach/api.Item]"], unfollowed := true, recurses := true, named := ["unicode/utf8.first", "unicode/utf8.acceptRanges", "internal/bytealg.MaxLen"], apart := false, laid := [("unicode/utf8.acceptRanges", laid_unicode_utf8_acceptRanges), ("unicode/utf8.first", laid_unicode_utf8_first)], narrowed := true }
def LogReplaysUptoSaid : Prop := logReplaysUptoRow.holds Tryz.pinned (OpenSpec.upto logReplaysSpec)

/-- 'mailcoachlaw.LogRecovers', WHERE WHAT IT READS IS OF BULK AT MOST 1048576: true; the input reads as it did. -/
def logRecoversUptoRow : OpenClaim := { program := "ytaanpcjkflhomaagreatdoor", sum := "ceb51c7b4405e4dc6d6f8210531d3dead1e033af9c5e64edace40591f2a68ddc", func := "mailcoach/mailcoachlaw.LogRecovers", spec := "logRecovers", inPlace := ["internal/bytealg.CountString", "internal/bytealg.IndexByteString", "internal/bytealg.IndexString", "slices.overlaps[mailcoach/api.Item]"], unfollowed := true, recurses := true, named := ["unicode/utf8.first", "unicode/utf8.acceptRanges", "internal/bytealg.MaxLen"], apart := false, laid := [("unicode/utf8.acceptRanges", laid_unicode_utf8_acceptRanges), ("unicode/utf8.first", laid_unicode_utf8_first)], narrowed := true }
def LogRecoversUptoSaid : Prop := logRecoversUptoRow.holds Tryz.pinned (OpenSpec.upto logRecoversSpec)

/-- 'mailcoachlaw.LogKept', WHERE WHAT IT READS IS OF BULK AT MOST 1048576: true; the input reads as it did. -/
def logKeptUptoRow : OpenClaim := { program := "ytaanpcjkflhomaagreatdoor", sum := "ceb51c7b4405e4dc6d6f8210531d3dead1e033af9c5e64edace40591f2a68ddc", func := "mailcoach/mailcoachlaw.LogKept", spec := "logKept", inPlace := ["internal/bytealg.CountString", "internal/bytealg.IndexByteString", "internal/bytealg.IndexString", "slices.overlaps[mailcoach/api.Item]"], unfollowed := true, recurses := true, named := ["unicode/utf8.first", "unicode/utf8.acceptRanges", "internal/bytealg.MaxLen"], apart := false, laid := [("unicode/utf8.acceptRanges", laid_unicode_utf8_acceptRanges), ("unicode/utf8.first", laid_unicode_utf8_first)], narrowed := true }
def LogKeptUptoSaid : Prop := logKeptUptoRow.holds Tryz.pinned (OpenSpec.upto logKeptSpec)

/-- 'mailcoachlaw.LogMore', WHERE WHAT IT READS IS OF BULK AT MOST 1048576: true; the input reads as it did. -/
def logMoreUptoRow : OpenClaim := { program := "ytaanpcjkflhomaagreatdoor", sum := "ceb51c7b4405e4dc6d6f8210531d3dead1e033af9c5e64edace40591f2a68ddc", func := "mailcoach/mailcoachlaw.LogMore", spec := "logMore", inPlace := ["internal/bytealg.CountString", "internal/bytealg.IndexByteString", "internal/bytealg.IndexString", "slices.overlaps[mailcoach/api.Item]"], unfollowed := true, recurses := true, named := ["unicode/utf8.first", "unicode/utf8.acceptRanges", "internal/bytealg.MaxLen"], apart := false, laid := [("unicode/utf8.acceptRanges", laid_unicode_utf8_acceptRanges), ("unicode/utf8.first", laid_unicode_utf8_first)], narrowed := true }
def LogMoreUptoSaid : Prop := logMoreUptoRow.holds Tryz.pinned (OpenSpec.upto logMoreSpec)

/-- 'mailcoachlaw.LogRight', WHERE WHAT IT READS IS OF BULK AT MOST 1048576: true; the input reads as it did. -/
def logRightUptoRow : OpenClaim := { program := "ytaanpcjkflhomaagreatdoor", sum := "ceb51c7b4405e4dc6d6f8210531d3dead1e033af9c5e64edace40591f2a68ddc", func := "mailcoach/mailcoachlaw.LogRight", spec := "logRight", inPlace := ["internal/bytealg.CountString", "internal/bytealg.IndexByteString", "internal/bytealg.IndexString", "slices.overlaps[mailcoach/api.Item]"], unfollowed := true, recurses := true, named := ["unicode/utf8.first", "unicode/utf8.acceptRanges", "internal/bytealg.MaxLen"], apart := false, laid := [("unicode/utf8.acceptRanges", laid_unicode_utf8_acceptRanges), ("unicode/utf8.first", laid_unicode_utf8_first)], narrowed := true }
def LogRightUptoSaid : Prop := logRightUptoRow.holds Tryz.pinned (OpenSpec.upto logRightSpec)

/-- 'mailcoachlaw.RestStates', WHERE WHAT IT READS IS OF BULK AT MOST 1048576: true; the input reads as it did. -/
def restStatesUptoRow : OpenClaim := { program := "ytaanpcjkflhomaagreatdoor", sum := "ceb51c7b4405e4dc6d6f8210531d3dead1e033af9c5e64edace40591f2a68ddc", func := "mailcoach/mailcoachlaw.RestStates", spec := "restStates", inPlace := ["internal/bytealg.CountString", "internal/bytealg.IndexByteString", "internal/bytealg.IndexString", "slices.overlaps[mailcoach/api.Item]"], unfollowed := true, recurses := true, named := ["unicode/utf8.first", "unicode/utf8.acceptRanges", "internal/bytealg.MaxLen"], apart := false, laid := [("unicode/utf8.acceptRanges", laid_unicode_utf8_acceptRanges), ("unicode/utf8.first", laid_unicode_utf8_first)], narrowed := true }
def RestStatesUptoSaid : Prop := restStatesUptoRow.holds Tryz.pinned (OpenSpec.upto restStatesSpec)

end Rows
end Go.Proofs.YtaanpcjkflhomaaGreatDoor
