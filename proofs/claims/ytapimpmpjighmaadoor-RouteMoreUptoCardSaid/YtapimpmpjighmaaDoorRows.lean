/-
  NARROWER THAN 'FOR EVERY INPUT', by the rows' own cells (each row's printed sentence says how): WireWrites: laid · WireBack: laid · TakersJoin: laid · TakersDeliver: laid · TakersFair: laid · TakersTrue: laid · RouteMore: laid · RouteTrue: laid.
  DERIVED. THE GIVEN ROWS OF THIS SEAT. 8 by the template 'for every input the law returns true; each argument reads behind the call as it read before'; 0 by the template 'total and deterministic' (their statements: YtapimpmpjighmaaDoorTotals.lean).
  GIVEN WITH THE SEED: the statements are not yours to turn. If you find one false, say at which input.
  Laid BY PROGRAM, IN A SANDBOX (cutbox-rows.mjs): the forced cells as the released guide's own fill.sh prints them over the translation d388b193fb37fea0… (all of the seat's roots in one cut). By AI agents, Wed Nov 11 2026. No macro, syntax, notation, axiom, sorry.
-/
import Derived.Test.YtapimpmpjighmaaDoorChecked
import GoSem.PinnedTables
import GoSem.Claim
import GoSem.ClaimJoined
import GoSem.ClaimMapViews
import Derived.JoinedTies
import Derived.KernelRfl
namespace Go.Proofs.YtapimpmpjighmaaDoor
/- THE CELL 'sum', in the pinned program and in every row, IS THE sha256 OF THE DUMP (.gsa) THAT YtapimpmpjighmaaDoorProg.lean LOADS. Nothing in Lean hashes anything: it is a label: what it is worth is what the hold of that sum in a sandbox is worth. -/
noncomputable def Tryd.pinned : Pinned := { name := "ytapimpmpjighmaadoor", sum := "d388b193fb37fea0dfe9678be0201bb9da8515df49c6682a55f91d35bad90d87", checked := Tryd.checked }
namespace Rows
def none {H : Type} : Left H := { results := [], args := [] }

/- WHAT THE LISTED PACKAGE-LEVEL VARIABLES READ AS WHEN THE CALL BEGINS. Each datum BY PROGRAM (the guide's laid-datum.mjs) off the statement by which the dump's own 'gosem.cut.vars' lays the variable. In a bare row this is a premise. The card (YtapimpmpjighmaaDoorCards.lean) ties it to the program's text. -/
def laid_unicode_utf8_acceptRanges {H : Type} : DataW H := .agg [.agg [.lit (.int .u8 128), .lit (.int .u8 191)], .agg [.lit (.int .u8 160), .lit (.int .u8 191)], .agg [.lit (.int .u8 128), .lit (.int .u8 159)], .agg [.lit (.int .u8 144), .lit (.int .u8 191)], .agg [.lit (.int .u8 128), .lit (.int .u8 143)], .agg [.lit (.int .u8 0), .lit (.int .u8 0)], .agg [.lit (.int .u8 0), .lit (.int .u8 0)], .agg [.lit (.int .u8 0), .lit (.int .u8 0)], .agg [.lit (.int .u8 0), .lit (.int .u8 0)], .agg [.lit (.int .u8 0), .lit (.int .u8 0)], .agg [.lit (.int .u8 0), .lit (.int .u8 0)], .agg [.lit (.int .u8 0), .lit (.int .u8 0)], .agg [.lit (.int .u8 0), .lit (.int .u8 0)], .agg [.lit (.int .u8 0), .lit (.int .u8 0)], .agg [.lit (.int .u8 0), .lit (.int .u8 0)], .agg [.lit (.int .u8 0), .lit (.int .u8 0)]]
/-- One of Go's own tables, pinned by name: the form's constant. -/
def laid_unicode_utf8_first : DataW Unit := Go.Pinned.utf8First

/-- 'mailcoachlaw.WireWrites': WHATEVER THE INPUT: true; the input reads as it did. -/
def wireWritesSpec : ChangeSpec := { name := "wireWrites", fn := fun _ => fun
  | [d1, d2] => { results := [.lit (.bool true)], args := [d1, d2] }
  | _ => none }
def wireWritesRow : OpenClaim := { program := "ytapimpmpjighmaadoor", sum := "d388b193fb37fea0dfe9678be0201bb9da8515df49c6682a55f91d35bad90d87", func := "mailcoach/mailcoachlaw.WireWrites", spec := "wireWrites", inPlace := ["internal/bytealg.CountString", "internal/bytealg.IndexByteString", "internal/bytealg.IndexString"], unfollowed := true, recurses := true, named := ["unicode/utf8.first", "unicode/utf8.acceptRanges", "internal/bytealg.MaxLen"], apart := false, laid := [("unicode/utf8.acceptRanges", laid_unicode_utf8_acceptRanges), ("unicode/utf8.first", laid_unicode_utf8_first)] }
def WireWritesSaid : Prop := wireWritesRow.holds Tryd.pinned (OpenSpec.ofChange wireWritesSpec)

/-- ITS FALSE NEIGHBOUR: 'it returns false'. Refute it at one input. -/
def wireWritesWrong : ChangeSpec := { name := "wireWrites", fn := fun _ => fun
  | [d1, d2] => { results := [.lit (.bool false)], args := [d1, d2] }
  | _ => none }
def WireWritesWrongFalsely : Prop := wireWritesRow.holds Tryd.pinned (OpenSpec.ofChange wireWritesWrong)

/-- 'mailcoachlaw.WireBack': WHATEVER THE INPUT: true; the input reads as it did. -/
def wireBackSpec : ChangeSpec := { name := "wireBack", fn := fun _ => fun
  | [d1, d2] => { results := [.lit (.bool true)], args := [d1, d2] }
  | _ => none }
def wireBackRow : OpenClaim := { program := "ytapimpmpjighmaadoor", sum := "d388b193fb37fea0dfe9678be0201bb9da8515df49c6682a55f91d35bad90d87", func := "mailcoach/mailcoachlaw.WireBack", spec := "wireBack", inPlace := ["internal/bytealg.CountString", "internal/bytealg.IndexByteString", "internal/bytealg.IndexString"], unfollowed := true, recurses := true, named := ["unicode/utf8.first", "unicode/utf8.acceptRanges", "internal/bytealg.MaxLen"], apart := false, laid := [("unicode/utf8.acceptRanges", laid_unicode_utf8_acceptRanges), ("unicode/utf8.first", laid_unicode_utf8_first)] }
def WireBackSaid : Prop := wireBackRow.holds Tryd.pinned (OpenSpec.ofChange wireBackSpec)

/-- ITS FALSE NEIGHBOUR: 'it returns false'. Refute it at one input. -/
def wireBackWrong : ChangeSpec := { name := "wireBack", fn := fun _ => fun
  | [d1, d2] => { results := [.lit (.bool false)], args := [d1, d2] }
  | _ => none }
def WireBackWrongFalsely : Prop := wireBackRow.holds Tryd.pinned (OpenSpec.ofChange wireBackWrong)

/-- 'mailcoachlaw.TakersJoin': WHATEVER THE INPUT: true; the input reads as it did. -/
def takersJoinSpec : ChangeSpec := { name := "takersJoin", fn := fun _ => fun
  | [d1, d2, d3, d4] => { results := [.lit (.bool true)], args := [d1, d2, d3, d4] }
  | _ => none }
def takersJoinRow : OpenClaim := { program := "ytapimpmpjighmaadoor", sum := "d388b193fb37fea0dfe9678be0201bb9da8515df49c6682a55f91d35bad90d87", func := "mailcoach/mailcoachlaw.TakersJoin", spec := "takersJoin", inPlace := ["internal/bytealg.CountString", "internal/bytealg.IndexByteString", "internal/bytealg.IndexString"], unfollowed := true, recurses := true, named := ["unicode/utf8.first", "unicode/utf8.acceptRanges", "internal/bytealg.MaxLen"], apart := false, laid := [("unicode/utf8.acceptRanges", laid_unicode_utf8_acceptRanges), ("unicode/utf8.first", laid_unicode_utf8_first)] }
def TakersJoinSaid : Prop := takersJoinRow.holds Tryd.pinned (OpenSpec.ofChange takersJoinSpec)

/-- ITS FALSE NEIGHBOUR: 'it returns false'. Refute it at one input. -/
def takersJoinWrong : ChangeSpec := { name := "takersJoin", fn := fun _ => fun
  | [d1, d2, d3, d4] => { results := [.lit (.bool false)], args := [d1, d2, d3, d4] }
  | _ => none }
def TakersJoinWrongFalsely : Prop := takersJoinRow.holds Tryd.pinned (OpenSpec.ofChange takersJoinWrong)

/-- 'mailcoachlaw.TakersDeliver': WHATEVER THE INPUT: true; the input reads as it did. -/
def takersDeliverSpec : ChangeSpec := { name := "takersDeliver", fn := fun _ => fun
  | [d1, d2, d3] => { results := [.lit (.bool true)], args := [d1, d2, d3] }
  | _ => none }
def takersDeliverRow : OpenClaim := { program := "ytapimpmpjighmaadoor", sum := "d388b193fb37fea0dfe9678be0201bb9da8515df49c6682a55f91d35bad90d87", func := "mailcoach/mailcoachlaw.TakersDeliver", spec := "takersDeliver", inPlace := ["internal/bytealg.CountString", "internal/bytealg.IndexByteString", "internal/bytealg.IndexString"], unfollowed := true, recurses := true, named := ["unicode/utf8.first", "unicode/utf8.acceptRanges", "internal/bytealg.MaxLen"], apart := false, laid := [("unicode/utf8.acceptRanges", laid_unicode_utf8_acceptRanges), ("unicode/utf8.first", laid_unicode_utf8_first)] }
def TakersDeliverSaid : Prop := takersDeliverRow.holds Tryd.pinned (OpenSpec.ofChange takersDeliverSpec)

/-- ITS FALSE NEIGHBOUR: 'it returns false'. Refute it at one input. -/
def takersDeliverWrong : ChangeSpec := { name := "takersDeliver", fn := fun _ => fun
  | [d1, d2, d3] => { results := [.lit (.bool false)], args := [d1, d2, d3] }
  | _ => none }
def TakersDeliverWrongFalsely : Prop := takersDeliverRow.holds Tryd.pinned (OpenSpec.ofChange takersDeliverWrong)

/-- 'mailcoachlaw.TakersFair': WHATEVER THE INPUT: true; the input reads as it did. -/
def takersFairSpec : ChangeSpec := { name := "takersFair", fn := fun _ => fun
  | [d1, d2, d3, d4, d5] => { results := [.lit (.bool true)], args := [d1, d2, d3, d4, d5] }
  | _ => none }
def takersFairRow : OpenClaim := { program := "ytapimpmpjighmaadoor", sum := "d388b193fb37fea0dfe9678be0201bb9da8515df49c6682a55f91d35bad90d87", func := "mailcoach/mailcoachlaw.TakersFair", spec := "takersFair", inPlace := ["internal/bytealg.CountString", "internal/bytealg.IndexByteString", "internal/bytealg.IndexString"], unfollowed := true, recurses := true, named := ["unicode/utf8.first", "unicode/utf8.acceptRanges", "internal/bytealg.MaxLen"], apart := false, laid := [("unicode/utf8.acceptRanges", laid_unicode_utf8_acceptRanges), ("unicode/utf8.first", laid_unicode_utf8_first)] }
def TakersFairSaid : Prop := takersFairRow.holds Tryd.pinned (OpenSpec.ofChange takersFairSpec)

/-- ITS FALSE NEIGHBOUR: 'it returns false'. Refute it at one input. -/
def takersFairWrong : ChangeSpec := { name := "takersFair", fn := fun _ => fun
  | [d1, d2, d3, d4, d5] => { results := [.lit (.bool false)], args := [d1, d2, d3, d4, d5] }
  | _ => none }
def TakersFairWrongFalsely : Prop := takersFairRow.holds Tryd.pinned (OpenSpec.ofChange takersFairWrong)

/-- 'mailcoachlaw.TakersTrue': WHATEVER THE INPUT: true; the input reads as it did. -/
def takersTrueSpec : ChangeSpec := { name := "takersTrue", fn := fun _ => fun
  | [d1, d2, d3, d4] => { results := [.lit (.bool true)], args := [d1, d2, d3, d4] }
  | _ => none }
def takersTrueRow : OpenClaim := { program := "ytapimpmpjighmaadoor", sum := "d388b193fb37fea0dfe9678be0201bb9da8515df49c6682a55f91d35bad90d87", func := "mailcoach/mailcoachlaw.TakersTrue", spec := "takersTrue", inPlace := ["internal/bytealg.CountString", "internal/bytealg.IndexByteString", "internal/bytealg.IndexString"], unfollowed := true, recurses := true, named := ["unicode/utf8.first", "unicode/utf8.acceptRanges", "internal/bytealg.MaxLen"], apart := false, laid := [("unicode/utf8.acceptRanges", laid_unicode_utf8_acceptRanges), ("unicode/utf8.first", laid_unicode_utf8_first)] }
def TakersTrueSaid : Prop := takersTrueRow.holds Tryd.pinned (OpenSpec.ofChange takersTrueSpec)

/-- ITS FALSE NEIGHBOUR: 'it returns false'. Refute it at one input. -/
def takersTrueWrong : ChangeSpec := { name := "takersTrue", fn := fun _ => fun
  | [d1, d2, d3, d4] => { results := [.lit (.bool false)], args := [d1, d2, d3, d4] }
  | _ => none }
def TakersTrueWrongFalsely : Prop := takersTrueRow.holds Tryd.pinned (OpenSpec.ofChange takersTrueWrong)

/-- 'mailcoachlaw.RouteMore': WHATEVER THE INPUT: true; the input reads as it did. -/
def routeMoreSpec : ChangeSpec := { name := "routeMore", fn := fun _ => fun
  | [d1, d2, d3, d4] => { results := [.lit (.bool true)], args := [d1, d2, d3, d4] }
  | _ => none }
def routeMoreRow : OpenClaim := { program := "ytapimpmpjighmaadoor", sum := "d388b193fb37fea0dfe9678be0201bb9da8515df49c6682a55f91d35bad90d87", func := "mailcoach/mailcoachlaw.RouteMore", spec := "routeMore", inPlace := ["internal/bytealg.CountString", "internal/bytealg.IndexByteString", "internal/bytealg.IndexString"], unfollowed := true, recurses := true, named := ["unicode/utf8.first", "unicode/utf8.acceptRanges", "internal/bytealg.MaxLen"], apart := false, laid := [("unicode/utf8.acceptRanges", laid_unicode_utf8_acceptRanges), ("unicode/utf8.first", laid_unicode_utf8_first)] }
def RouteMoreSaid : Prop := routeMoreRow.holds Tryd.pinned (OpenSpec.ofChange routeMoreSpec)

/-- ITS FALSE NEIGHBOUR: 'it returns false'. Refute it at one input. -/
def routeMoreWrong : ChangeSpec := { name := "routeMore", fn := fun _ => fun
  | [d1, d2, d3, d4] => { results := [.lit (.bool false)], args := [d1, d2, d3, d4] }
  | _ => none }
def RouteMoreWrongFalsely : Prop := routeMoreRow.holds Tryd.pinned (OpenSpec.ofChange routeMoreWrong)

/-- 'mailcoachlaw.RouteTrue': WHATEVER THE INPUT: true; the input reads as it did. -/
def routeTrueSpec : ChangeSpec := { name := "routeTrue", fn := fun _ => fun
  | [d1, d2, d3, d4] => { results := [.lit (.bool true)], args := [d1, d2, d3, d4] }
  | _ => none }
def routeTrueRow : OpenClaim := { program := "ytapimpmpjighmaadoor", sum := "d388b193fb37fea0dfe9678be0201bb9da8515df49c6682a55f91d35bad90d87", func := "mailcoach/mailcoachlaw.RouteTrue", spec := "routeTrue", inPlace := ["internal/bytealg.CountString", "internal/bytealg.IndexByteString", "internal/bytealg.IndexString"], unfollowed := true, recurses := true, named := ["unicode/utf8.first", "unicode/utf8.acceptRanges", "internal/bytealg.MaxLen"], apart := false, laid := [("unicode/utf8.acceptRanges", laid_unicode_utf8_acceptRanges), ("unicode/utf8.first", laid_unicode_utf8_first)] }
def RouteTrueSaid : Prop := routeTrueRow.holds Tryd.pinned (OpenSpec.ofChange routeTrueSpec)

/-- ITS FALSE NEIGHBOUR: 'it returns false'. Refute it at one input. -/
def routeTrueWrong : ChangeSpec := { name := "routeTrue", fn := fun _ => fun
  | [d1, d2, d3, d4] => { results := [.lit (.bool false)], args := [d1, d2, d3, d4] }
  | _ => none }
def RouteTrueWrongFalsely : Prop := routeTrueRow.holds Tryd.pinned (OpenSpec.ofChange routeTrueWrong)

/- THE SECOND FORM. 'bulk': how many values and letters a reading holds, each counted each time it is reached (what is shared counts as often as it is met; a slice's spare places count too). A statement '..UptoSaid' is the law's where the arguments, and the package variables that the reading takes, are together of bulk at most 1048576: NARROWER than '..Said'. Prove '..Said' where nothing that the law and all that it calls make is longer than what came in: it says more and counts as full. Else prove '..UptoSaid'. A law counts once. -/
mutual
def uptoBulk {H : Type} : DataW H → Nat
  | .lit (.string bytes) => bytes.length + 1
  | .lit _ => 1
  | .nil => 1
  | .ptr d => uptoBulk d + 1
  | .slice elems spare => uptoBulkAll elems + uptoBulkAll spare + 1
  | .agg parts => uptoBulkAll parts + 1
  | .iface _ d => uptoBulk d + 1
  | .map entries => uptoBulkEntries entries + 1
  | .held _ => 1
def uptoBulkAll {H : Type} : List (DataW H) → Nat
  | [] => 0
  | d :: r => uptoBulk d + uptoBulkAll r
def uptoBulkEntries {H : Type} : List (Lit × DataW H) → Nat
  | [] => 0
  | x :: r => uptoBulkEntry x + uptoBulkEntries r
def uptoBulkEntry {H : Type} : Lit × DataW H → Nat
  | (.string bytes, d) => bytes.length + uptoBulk d + 1
  | (_, d) => uptoBulk d + 1
 end
def uptoSmall : (H : Type) → List (DataW H) → Bool := fun _ ds => decide (uptoBulkAll ds ≤ 1048576)
def OpenSpec.upto (s : _root_.Go.ChangeSpec) : _root_.Go.OpenSpec := { _root_.Go.OpenSpec.ofChange s with cond := some uptoSmall }

/-- 'mailcoachlaw.WireWrites', WHERE WHAT IT READS IS OF BULK AT MOST 1048576: true; the input reads as it did. -/
def wireWritesUptoRow : OpenClaim := { program := "ytapimpmpjighmaadoor", sum := "d388b193fb37fea0dfe9678be0201bb9da8515df49c6682a55f91d35bad90d87", func := "mailcoach/mailcoachlaw.WireWrites", spec := "wireWrites", inPlace := ["internal/bytealg.CountString", "internal/bytealg.IndexByteString", "internal/bytealg.IndexString"], unfollowed := true, recurses := true, named := ["unicode/utf8.first", "unicode/utf8.acceptRanges", "internal/bytealg.MaxLen"], apart := false, laid := [("unicode/utf8.acceptRanges", laid_unicode_utf8_acceptRanges), ("unicode/utf8.first", laid_unicode_utf8_first)], narrowed := true }
def WireWritesUptoSaid : Prop := wireWritesUptoRow.holds Tryd.pinned (OpenSpec.upto wireWritesSpec)

/-- 'mailcoachlaw.WireBack', WHERE WHAT IT READS IS OF BULK AT MOST 1048576: true; the input reads as it did. -/
def wireBackUptoRow : OpenClaim := { program := "ytapimpmpjighmaadoor", sum := "d388b193fb37fea0dfe9678be0201bb9da8515df49c6682a55f91d35bad90d87", func := "mailcoach/mailcoachlaw.WireBack", spec := "wireBack", inPlace := ["internal/bytealg.CountString", "internal/bytealg.IndexByteString", "internal/bytealg.IndexString"], unfollowed := true, recurses := true, named := ["unicode/utf8.first", "unicode/utf8.acceptRanges", "internal/bytealg.MaxLen"], apart := false, laid := [("unicode/utf8.acceptRanges", laid_unicode_utf8_acceptRanges), ("unicode/utf8.first", laid_unicode_utf8_first)], narrowed := true }
def WireBackUptoSaid : Prop := wireBackUptoRow.holds Tryd.pinned (OpenSpec.upto wireBackSpec)

/-- 'mailcoachlaw.TakersJoin', WHERE WHAT IT READS IS OF BULK AT MOST 1048576: true; the input reads as it did. -/
def takersJoinUptoRow : OpenClaim := { program := "ytapimpmpjighmaadoor", sum := "d388b193fb37fea0dfe9678be0201bb9da8515df49c6682a55f91d35bad90d87", func := "mailcoach/mailcoachlaw.TakersJoin", spec := "takersJoin", inPlace := ["internal/bytealg.CountString", "internal/bytealg.IndexByteString", "internal/bytealg.IndexString"], unfollowed := true, recurses := true, named := ["unicode/utf8.first", "unicode/utf8.acceptRanges", "internal/bytealg.MaxLen"], apart := false, laid := [("unicode/utf8.acceptRanges", laid_unicode_utf8_acceptRanges), ("unicode/utf8.first", laid_unicode_utf8_first)], narrowed := true }
def TakersJoinUptoSaid : Prop := takersJoinUptoRow.holds Tryd.pinned (OpenSpec.upto takersJoinSpec)

/-- 'mailcoachlaw.TakersDeliver', WHERE WHAT IT READS IS OF BULK AT MOST 1048576: true; the input reads as it did. -/
def takersDeliverUptoRow : OpenClaim := { program := "ytapimpmpjighmaadoor", sum := "d388b193fb37fea0dfe9678be0201bb9da8515df49c6682a55f91d35bad90d87", func := "mailcoach/mailcoachlaw.TakersDeliver", spec := "takersDeliver", inPlace := ["internal/bytealg.CountString", "internal/bytealg.IndexByteString", "internal/bytealg.IndexString"], unfollowed := true, recurses := true, named := ["unicode/utf8.first", "unicode/utf8.acceptRanges", "internal/bytealg.MaxLen"], apart := false, laid := [("unicode/utf8.acceptRanges", laid_unicode_utf8_acceptRanges), ("unicode/utf8.first", laid_unicode_utf8_first)], narrowed := true }
def TakersDeliverUptoSaid : Prop := takersDeliverUptoRow.holds Tryd.pinned (OpenSpec.upto takersDeliverSpec)

/-- 'mailcoachlaw.TakersFair', WHERE WHAT IT READS IS OF BULK AT MOST 1048576: true; the input reads as it did. -/
def takersFairUptoRow : OpenClaim := { program := "ytapimpmpjighmaadoor", sum := "d388b193fb37fea0dfe9678be0201bb9da8515df49c6682a55f91d35bad90d87", func := "mailcoach/mailcoachlaw.TakersFair", spec := "takersFair", inPlace := ["internal/bytealg.CountString", "internal/bytealg.IndexByteString", "internal/bytealg.IndexString"], unfollowed := true, recurses := true, named := ["unicode/utf8.first", "unicode/utf8.acceptRanges", "internal/bytealg.MaxLen"], apart := false, laid := [("unicode/utf8.acceptRanges", laid_unicode_utf8_acceptRanges), ("unicode/utf8.first", laid_unicode_utf8_first)], narrowed := true }
def TakersFairUptoSaid : Prop := takersFairUptoRow.holds Tryd.pinned (OpenSpec.upto takersFairSpec)

/-- 'mailcoachlaw.TakersTrue', WHERE WHAT IT READS IS OF BULK AT MOST 1048576: true; the input reads as it did. -/
def takersTrueUptoRow : OpenClaim := { program := "ytapimpmpjighmaadoor", sum := "d388b193fb37fea0dfe9678be0201bb9da8515df49c6682a55f91d35bad90d87", func := "mailcoach/mailcoachlaw.TakersTrue", spec := "takersTrue", inPlace := ["internal/bytealg.CountString", "internal/bytealg.IndexByteString", "internal/bytealg.IndexString"], unfollowed := true, recurses := true, named := ["unicode/utf8.first", "unicode/utf8.acceptRanges", "internal/bytealg.MaxLen"], apart := false, laid := [("unicode/utf8.acceptRanges", laid_unicode_utf8_acceptRanges), ("unicode/utf8.first", laid_unicode_utf8_first)], narrowed := true }
def TakersTrueUptoSaid : Prop := takersTrueUptoRow.holds Tryd.pinned (OpenSpec.upto takersTrueSpec)

/-- 'mailcoachlaw.RouteMore', WHERE WHAT IT READS IS OF BULK AT MOST 1048576: true; the input reads as it did. -/
def routeMoreUptoRow : OpenClaim := { program := "ytapimpmpjighmaadoor", sum := "d388b193fb37fea0dfe9678be0201bb9da8515df49c6682a55f91d35bad90d87", func := "mailcoach/mailcoachlaw.RouteMore", spec := "routeMore", inPlace := ["internal/bytealg.CountString", "internal/bytealg.IndexByteString", "internal/bytealg.IndexString"], unfollowed := true, recurses := true, named := ["unicode/utf8.first", "unicode/utf8.acceptRanges", "internal/bytealg.MaxLen"], apart := false, laid := [("unicode/utf8.acceptRanges", laid_unicode_utf8_acceptRanges), ("unicode/utf8.first", laid_unicode_utf8_first)], narrowed := true }
def RouteMoreUptoSaid : Prop := routeMoreUptoRow.holds Tryd.pinned (OpenSpec.upto routeMoreSpec)

/-- 'mailcoachlaw.RouteTrue', WHERE WHAT IT READS IS OF BULK AT MOST 1048576: true; the input reads as it did. -/
def routeTrueUptoRow : OpenClaim := { program := "ytapimpmpjighmaadoor", sum := "d388b193fb37fea0dfe9678be0201bb9da8515df49c6682a55f91d35bad90d87", func := "mailcoach/mailcoachlaw.RouteTrue", spec := "routeTrue", inPlace := ["internal/bytealg.CountString", "internal/bytealg.IndexByteString", "internal/bytealg.IndexString"], unfollowed := true, recurses := true, named := ["unicode/utf8.first", "unicode/utf8.acceptRanges", "internal/bytealg.MaxLen"], apart := false, laid := [("unicode/utf8.acceptRanges", laid_unicode_utf8_acceptRanges), ("unicode/utf8.first", laid_unicode_utf8_first)], narrowed := true }
def RouteTrueUptoSaid : Prop := routeTrueUptoRow.holds Tryd.pinned (OpenSpec.upto routeTrueSpec)

end Rows
end Go.Proofs.YtapimpmpjighmaaDoor
