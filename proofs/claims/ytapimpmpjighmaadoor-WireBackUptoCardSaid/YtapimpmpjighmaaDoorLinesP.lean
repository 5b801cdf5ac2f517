/-
  Letters and lines of letters: plain.
-/
import Derived.Test.YtapimpmpjighmaaDoorData
import Derived.Test.YtapimpmpjighmaaDoorWalkA
namespace Go.Proofs.YtapimpmpjighmaaDoor
open Go.RowKit

def itemFine (x : ItemD) : Bool := decide (splitErr isWord x.key = 0) && decide (0 ≤ x.seq) && decide (x.seq < 1048576) && decide (x.body.size ≤ 12) && decide (0 ≤ x.deaths) && decide (x.deaths ≤ 2)
def lineFrom (last : Int) : List ItemD → Bool
  | [] => true
  | x :: r => itemFine x && decide (last < x.seq) && lineFrom x.seq r
def lineFine (l : List ItemD) : Bool := lineFrom (-1) l
def lineErr (l : List ItemD) : Int := if lineFine l = true then 0 else 1
def lastAt (l : List ItemD) (k : Nat) : Int := if k = 0 then -1 else match l[k - 1]? with
  | some x => x.seq
  | none => -1

theorem itemFine_seq {x : ItemD} (h : itemFine x = true) : 0 ≤ x.seq ∧ x.seq < 1048576 := by
  simp only [itemFine, Bool.and_eq_true, decide_eq_true_eq] at h
  exact ⟨h.1.1.1.1.2, h.1.1.1.2⟩
theorem lastAt_zero (l : List ItemD) : lastAt l 0 = -1 := rfl
theorem lastAt_succ {l : List ItemD} {k : Nat} (h : k < l.length) : lastAt l (k + 1) = l[k].seq := by
  simp [lastAt, h]
theorem lineFrom_drop {l : List ItemD} {k : Nat} (h : k < l.length) (last : Int) : lineFrom last (l.drop k) = (itemFine l[k] && decide (last < l[k].seq) && lineFrom l[k].seq (l.drop (k + 1))) := by
  rw [List.drop_eq_getElem_cons h]
  rfl
theorem line_bad1 {l : List ItemD} {k : Nat} (h : k < l.length) {last : Int} (hl : lineFrom last (l.drop k) = lineFine l) (hf : itemFine l[k] = false) : lineFine l = false := by
  rw [← hl, lineFrom_drop h, hf]; rfl
theorem line_bad2 {l : List ItemD} {k : Nat} (h : k < l.length) {last : Int} (hl : lineFrom last (l.drop k) = lineFine l) (hf : l[k].seq ≤ last) : lineFine l = false := by
  rw [← hl, lineFrom_drop h, decide_eq_false (by omega), Bool.and_false]; rfl
theorem line_step {l : List ItemD} {k : Nat} (h : k < l.length) {last : Int} (hl : lineFrom last (l.drop k) = lineFine l) (hf : itemFine l[k] = true) (hs : last < l[k].seq) : lineFrom (lastAt l (k + 1)) (l.drop (k + 1)) = lineFine l := by
  rw [← hl, lineFrom_drop h, hf, decide_eq_true hs, lastAt_succ h]; rfl
theorem line_done {l : List ItemD} {last : Int} (hl : lineFrom last (l.drop l.length) = lineFine l) : lineFine l = true := by
  rw [← hl, List.drop_length]; rfl

/-- What a right line is. -/
theorem lineFrom_right : ∀ {l : List ItemD} {last : Int}, lineFrom last l = true → (∀ x ∈ l, itemFine x = true ∧ last < x.seq) ∧ l.Pairwise fun x y => x.seq < y.seq
  | [], _, _ => ⟨(fun x hx => by cases hx), List.Pairwise.nil⟩
  | x :: r, last, h => by
    simp only [lineFrom, Bool.and_eq_true, decide_eq_true_eq] at h
    obtain ⟨h1, h2⟩ := lineFrom_right h.2
    refine ⟨fun y hy => ?_, List.pairwise_cons.2 ⟨fun y hy => (h1 y hy).2, h2⟩⟩
    rcases List.mem_cons.1 hy with rfl | hy
    · exact h.1
    · exact ⟨(h1 y hy).1, by have := (h1 y hy).2; omega⟩
theorem lineFrom_of : ∀ {l : List ItemD} {last : Int}, (∀ x ∈ l, itemFine x = true ∧ last < x.seq) → (l.Pairwise fun x y => x.seq < y.seq) → lineFrom last l = true
  | [], _, _, _ => rfl
  | x :: r, last, h1, h2 => by
    obtain ⟨h3, h4⟩ := List.pairwise_cons.1 h2
    obtain ⟨h5, h6⟩ := h1 x (List.mem_cons_self ..)
    simp only [lineFrom, Bool.and_eq_true, decide_eq_true_eq]
    exact ⟨⟨h5, h6⟩, lineFrom_of (fun y hy => ⟨(h1 y (List.mem_cons_of_mem _ hy)).1, h3 y hy⟩) h4⟩
theorem lineFine_iff {l : List ItemD} : lineFine l = true ↔ (∀ x ∈ l, itemFine x = true) ∧ l.Pairwise fun x y => x.seq < y.seq := by
  constructor
  · intro h
    exact ⟨fun x hx => ((lineFrom_right h).1 x hx).1, (lineFrom_right h).2⟩
  · rintro ⟨h1, h2⟩
    exact lineFrom_of (fun x hx => ⟨h1 x hx, by have := (itemFine_seq (h1 x hx)).1; omega⟩) h2

/-- A letter to where it stands. -/
def pushL (l : List ItemD) (x : ItemD) : List ItemD := match l with
  | [] => [x]
  | y :: r => if x.seq < y.seq then x :: y :: r else y :: pushL r x
def pushErr (l : List ItemD) (x : ItemD) : Int := if lineFine l = false ∨ itemFine x = false then 1 else if l.any (fun y => decide (y.seq = x.seq)) then 6 else 0
def pushOut (l : List ItemD) (x : ItemD) : List ItemD := if pushErr l x = 0 then pushL l x else []
def shedErr (l : List ItemD) (limit : Int) : Int := if lineFine l = false then 1 else if limit < 0 then 3 else 0
/-- How many are shed. -/
def shedN (l : List ItemD) (limit : Int) : Nat := ((l.length : Int) - limit).toNat
def shedStay (l : List ItemD) (limit : Int) : List ItemD := if shedErr l limit = 0 then l.drop (shedN l limit) else []
def shedOff (l : List ItemD) (limit : Int) : List ItemD := if shedErr l limit = 0 then l.take (shedN l limit) else []

end Go.Proofs.YtapimpmpjighmaaDoor
