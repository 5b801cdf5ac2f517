/-
  The laws' letters.
-/
import Derived.Test.YtbdikenloklhaaaDoorLinesG
import Derived.Test.YtbdikenloklhaaaDoorOffice
namespace Go.Proofs.YtbdikenloklhaaaDoor
open Go.RowKit
set_option maxRecDepth 100000

def letterP (n : Int) (b : ByteArray) : ItemD := ⟨n, ⟨#[120, 46, 121]⟩, b, false, 0⟩
theorem xy_key : splitErr isWord ⟨#[120, 46, 121]⟩ = 0 := by rw [splitErr_list, ByteArray.toList_eq]; decide
theorem letter_fine {n : Int} {b : ByteArray} (h0 : 0 ≤ n) (h1 : n < 1048576) (hb : b.size ≤ 12) : itemFine (letterP n b) = true := by
  simp [itemFine, letterP, xy_key, h0, h1, hb]
theorem letter_small {n : Int} {b : ByteArray} (h0 : 0 ≤ n) (h1 : n < 1048576) (hb : b.size ≤ 12) : ItemSmall (letterP n b) := by
  unfold ItemSmall letterP
  refine ⟨?_, ?_, ?_, ?_, ?_, ?_⟩
  · show (⟨#[120, 46, 121]⟩ : ByteArray).size ≤ 1048576; decide
  · show b.size ≤ 1048576; omega
  · show -9223372036854775808 ≤ n; omega
  · show n ≤ 9223372036854775807; omega
  · show (-9223372036854775808 : Int) ≤ 0; decide
  · show (0 : Int) ≤ 9223372036854775807; decide

set_option maxHeartbeats 400000 in
theorem letter_any (n : Int) (b : ByteArray) (w : World) : Calls Tryd.prog 87 #[.int .i64 n, .string b] w fun e w' => e = .returned (.agg (vItem (letterP n b)).toArray) ∧ Below w.heap.size w w' := by
  go_enter Tryd.func87, Tryd.ntmps87
  go_wp2_with fail
  exact bodyPost_ret (v := .agg (vItem (letterP n b)).toArray) (by simp [results, Tryd.results87, go_sem, vItem, letterP]) rfl ⟨rfl, (Below.refl _ _).alloc (Nat.le_refl _) _⟩

def bOne : ByteArray := ⟨#[111, 110, 101]⟩
def bFour : ByteArray := ⟨#[102, 111, 117, 114]⟩
def bTwo : ByteArray := ⟨#[116, 119, 111]⟩
def line2 : List ItemD := [letterP 1 bOne, letterP 4 bFour]
def line3 : List ItemD := [letterP 1 bOne, letterP 2 bTwo, letterP 4 bFour]
theorem f1 : itemFine (letterP 1 bOne) = true := letter_fine (by decide) (by decide) (by decide)
theorem f2 : itemFine (letterP 2 bTwo) = true := letter_fine (by decide) (by decide) (by decide)
theorem f4 : itemFine (letterP 4 bFour) = true := letter_fine (by decide) (by decide) (by decide)
theorem line2_fine : lineFine line2 = true := by
  simp [lineFine, line2, lineFrom, f1, f4]
  simp [letterP]
theorem line3_fine : lineFine line3 = true := by
  simp [lineFine, line3, lineFrom, f1, f2, f4]
  simp [letterP]
theorem begun_push2 : pushErr line2 (letterP 2 bTwo) = 0 ∧ pushOut line2 (letterP 2 bTwo) = line3 := by
  have := push_ok line2_fine f2 (by simp [line2, letterP])
  refine ⟨this.1, this.2.trans ?_⟩
  simp [line2, line3, letterP, pushL]
theorem begun_push4 : pushErr line2 (letterP 4 ⟨#[120]⟩) = 6 ∧ pushOut line2 (letterP 4 ⟨#[120]⟩) = [] :=
  push_there line2_fine (letter_fine (by decide) (by decide) (by decide)) (by simp [line2, letterP])
theorem begun_shed : shedErr line3 1 = 0 ∧ shedStay line3 1 = [letterP 4 bFour] ∧ shedOff line3 1 = [letterP 1 bOne, letterP 2 bTwo] := by
  have := shed_ok (limit := 1) line3_fine (by decide)
  exact ⟨this.1, this.2.1.trans rfl, this.2.2.trans rfl⟩
def badP : ItemD := ⟨1, ⟨#[]⟩, bOne, false, 0⟩
theorem bad_err : lineErr [badP] = 1 := by
  have h : splitErr isWord ⟨#[]⟩ = 1 := by rw [splitErr_list, ByteArray.toList_eq]; decide
  have : itemFine badP = false := by simp [itemFine, badP, h]
  simp [lineErr, lineFine, lineFrom, this]
theorem line_small {l : List ItemD} (h1 : l.length ≤ 1048576) (h2 : ∀ x ∈ l, ItemSmall x) : LineSmall l := ⟨h1, h2⟩
theorem s1 : ItemSmall (letterP 1 bOne) := letter_small (by decide) (by decide) (by decide)
theorem s2 : ItemSmall (letterP 2 bTwo) := letter_small (by decide) (by decide) (by decide)
theorem s4 : ItemSmall (letterP 4 bFour) := letter_small (by decide) (by decide) (by decide)
theorem line2_small : LineSmall line2 := ⟨by decide, by simp [line2, s1, s4]⟩
theorem line3_small : LineSmall line3 := ⟨by decide, by simp [line3, s1, s2, s4]⟩
theorem bad_small : LineSmall [badP] := ⟨by decide, by simp [ItemSmall, badP, bOne]; decide⟩

set_option maxHeartbeats 400000 in
theorem letter_lit (n : Int) (b : ByteArray) (w : World) : Calls Tryd.prog 87 #[.int .i64 n, .string b] w fun e w' => e = .returned (.agg #[.int .i64 n, .string ⟨#[120, 46, 121]⟩, .string b, .bool false, .int .i64 0]) ∧ Below w.heap.size w w' := letter_any n b w

end Go.Proofs.YtbdikenloklhaaaDoor
