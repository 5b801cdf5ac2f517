/-
  What the bound of the second form gives: how long a text of the arguments can be.
-/
import Derived.Test.YtapimpmpjighmaaDoorRows
namespace Go.Proofs.YtapimpmpjighmaaDoor

theorem bulk_part {H : Type} {d : DataW H} : ∀ {l : List (DataW H)}, d ∈ l → Rows.uptoBulk d ≤ Rows.uptoBulkAll l
  | [], h => by cases h
  | x :: r, h => by
    simp only [Rows.uptoBulkAll]
    rcases List.mem_cons.1 h with rfl | h
    · omega
    · have := bulk_part h; omega

theorem bulk_text {H : Type} (bytes : List UInt8) : Rows.uptoBulk (DataW.lit (H := H) (.string bytes)) = bytes.length + 1 := by
  simp [Rows.uptoBulk]

theorem bulk_small {H : Type} {l : List (DataW H)} (hk : Rows.uptoSmall H l = true) : Rows.uptoBulkAll l ≤ 1048576 := of_decide_eq_true hk

/-- A text among the arguments is shorter than the bound. -/
theorem text_small {H : Type} {l : List (DataW H)} (hk : Rows.uptoSmall H l = true) {bytes : List UInt8} (h : DataW.lit (.string bytes) ∈ l) : bytes.length ≤ 1048576 := by
  have h1 := bulk_part h
  have h2 := bulk_small hk
  rw [bulk_text] at h1
  omega

/-- Each argument is small. -/
theorem bulk_in {H : Type} {l : List (DataW H)} (hk : Rows.uptoSmall H l = true) {d : DataW H} (hd : d ∈ l) : Rows.uptoBulk d ≤ 1048576 := by
  have h1 := bulk_part hd
  have h2 := bulk_small hk
  omega

end Go.Proofs.YtapimpmpjighmaaDoor
