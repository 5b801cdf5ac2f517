/-
  DERIVED. GIVEN WITH THE SEED: THE CARDS: each row of YteflcgmdklejcaaDoorRows.lean that lists a variable, with what it lists TIED to the program's text (the seventh form; the later family's looks); each row that meets fmt, with fmt's text TOLD by the authors' own Lean function (tested against real Go, not proved from fmt's source: count such statements apart). THE CARD IS WHAT COUNTS. Prove the row's statement (the work); the ties are given (YteflcgmdklejcaaDoorTie.lean); close each card by the builder's one call (the guide's Derived/Test/ToyasCard.lean, 'card_holds'). Laid BY PROGRAM, IN A SANDBOX (cutbox-door.mjs). By AI agents, Wed Nov 11 2026. No macro, syntax, notation, axiom, sorry.
-/
import Derived.Test.YteflcgmdklejcaaDoorRows
import GoSem.ClaimSeven
namespace Go.Proofs.YteflcgmdklejcaaDoor
namespace Rows

/-- THE TIED CARD OF 'mailcoachlaw.WordsTells'. -/
def wordsTellsCard : Claim7 := { stood := { row := wordsTellsRow, standIns := [], harness := (true, "f455865ff084bd0d88aa68d46b6b3f600329fb306d307ad7ba9bb4e8771e1185"), looks := false }, kinds := [], alts := [], laidByText := true, laidKinds := [.data, .pinned], laidTests := true, laidLooks := .later }
def WordsTellsCardSaid : Prop := Claim7.holds Tryd.pinned (.plain (OpenSpec.ofChange wordsTellsSpec)) wordsTellsCard

/-- THE TIED CARD OF 'mailcoachlaw.WordsMatches'. -/
def wordsMatchesCard : Claim7 := { stood := { row := wordsMatchesRow, standIns := [], harness := (true, "f455865ff084bd0d88aa68d46b6b3f600329fb306d307ad7ba9bb4e8771e1185"), looks := false }, kinds := [], alts := [], laidByText := true, laidKinds := [.data, .pinned], laidTests := true, laidLooks := .later }
def WordsMatchesCardSaid : Prop := Claim7.holds Tryd.pinned (.plain (OpenSpec.ofChange wordsMatchesSpec)) wordsMatchesCard

/-- THE TIED CARD OF 'mailcoachlaw.WordsTrue'. -/
def wordsTrueCard : Claim7 := { stood := { row := wordsTrueRow, standIns := [], harness := (true, "f455865ff084bd0d88aa68d46b6b3f600329fb306d307ad7ba9bb4e8771e1185"), looks := false }, kinds := [], alts := [], laidByText := true, laidKinds := [.data, .pinned], laidTests := true, laidLooks := .later }
def WordsTrueCardSaid : Prop := Claim7.holds Tryd.pinned (.plain (OpenSpec.ofChange wordsTrueSpec)) wordsTrueCard

/-- THE TIED CARD OF 'mailcoachlaw.WordsStar'. -/
def wordsStarCard : Claim7 := { stood := { row := wordsStarRow, standIns := [], harness := (true, "f455865ff084bd0d88aa68d46b6b3f600329fb306d307ad7ba9bb4e8771e1185"), looks := false }, kinds := [], alts := [], laidByText := true, laidKinds := [.data, .pinned], laidTests := true, laidLooks := .later }
def WordsStarCardSaid : Prop := Claim7.holds Tryd.pinned (.plain (OpenSpec.ofChange wordsStarSpec)) wordsStarCard

/-- THE SECOND FORM's CARD OF 'mailcoachlaw.WordsTells'. -/
def wordsTellsUptoCard : Claim7 := { stood := { row := wordsTellsUptoRow, standIns := [], harness := (true, "f455865ff084bd0d88aa68d46b6b3f600329fb306d307ad7ba9bb4e8771e1185"), looks := false }, kinds := [], alts := [], laidByText := true, laidKinds := [.data, .pinned], laidTests := true, laidLooks := .later }
def WordsTellsUptoCardSaid : Prop := Claim7.holds Tryd.pinned (.plain (OpenSpec.upto wordsTellsSpec)) wordsTellsUptoCard

/-- THE SECOND FORM's CARD OF 'mailcoachlaw.WordsMatches'. -/
def wordsMatchesUptoCard : Claim7 := { stood := { row := wordsMatchesUptoRow, standIns := [], harness := (true, "f455865ff084bd0d88aa68d46b6b3f600329fb306d307ad7ba9bb4e8771e1185"), looks := false }, kinds := [], alts := [], laidByText := true, laidKinds := [.data, .pinned], laidTests := true, laidLooks := .later }
def WordsMatchesUptoCardSaid : Prop := Claim7.holds Tryd.pinned (.plain (OpenSpec.upto wordsMatchesSpec)) wordsMatchesUptoCard

/-- THE SECOND FORM's CARD OF 'mailcoachlaw.WordsTrue'. -/
def wordsTrueUptoCard : Claim7 := { stood := { row := wordsTrueUptoRow, standIns := [], harness := (true, "f455865ff084bd0d88aa68d46b6b3f600329fb306d307ad7ba9bb4e8771e1185"), looks := false }, kinds := [], alts := [], laidByText := true, laidKinds := [.data, .pinned], laidTests := true, laidLooks := .later }
def WordsTrueUptoCardSaid : Prop := Claim7.holds Tryd.pinned (.plain (OpenSpec.upto wordsTrueSpec)) wordsTrueUptoCard

/-- THE SECOND FORM's CARD OF 'mailcoachlaw.WordsStar'. -/
def wordsStarUptoCard : Claim7 := { stood := { row := wordsStarUptoRow, standIns := [], harness := (true, "f455865ff084bd0d88aa68d46b6b3f600329fb306d307ad7ba9bb4e8771e1185"), looks := false }, kinds := [], alts := [], laidByText := true, laidKinds := [.data, .pinned], laidTests := true, laidLooks := .later }
def WordsStarUptoCardSaid : Prop := Claim7.holds Tryd.pinned (.plain (OpenSpec.upto wordsStarSpec)) wordsStarUptoCard
end Rows
end Go.Proofs.YteflcgmdklejcaaDoor
