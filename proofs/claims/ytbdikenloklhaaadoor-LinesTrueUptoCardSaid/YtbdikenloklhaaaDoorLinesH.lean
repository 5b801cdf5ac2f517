/-
  linesBegun answers true.
-/
import Derived.Test.YtbdikenloklhaaaDoorLinesK
namespace Go.Proofs.YtbdikenloklhaaaDoor
open Go.RowKit
set_option maxRecDepth 100000

theorem bp2 (b : Nat) (w : World) (hE : Env w) (hs : Sl w 0 w.heap.size (some ⟨b, 0, none⟩) (line2.flatMap vItem)) :
    Calls Tryd.prog 26 #[.slice (some ⟨b, 0, none⟩) 2 2, .agg #[.int .i64 2, .string ⟨#[120, 46, 121]⟩, .string ⟨#[116, 119, 111]⟩, .bool false, .int .i64 0]] w fun e w' => ∃ a c, e = .returned (.tuple #[.slice a 3 c, .int .i64 0]) ∧ Sl w' w.heap.size w'.heap.size a (line3.flatMap vItem) ∧ 3 ≤ c ∧ Below w.heap.size w w' := by
  have h := Push_any (some ⟨b, 0, none⟩) 2 line2 (letterP 2 bTwo) 0 w hE hs line2_small s2
  unfold PushPost at h
  rw [begun_push2.1, begun_push2.2] at h
  exact h
theorem bp4 (b : Nat) (w : World) (hE : Env w) (hs : Sl w 0 w.heap.size (some ⟨b, 0, none⟩) (line2.flatMap vItem)) :
    Calls Tryd.prog 26 #[.slice (some ⟨b, 0, none⟩) 2 2, .agg #[.int .i64 4, .string ⟨#[120, 46, 121]⟩, .string ⟨#[120]⟩, .bool false, .int .i64 0]] w fun e w' => ∃ a c, e = .returned (.tuple #[.slice a 0 c, .int .i64 6]) ∧ Below w.heap.size w w' := by
  have h := Push_any (some ⟨b, 0, none⟩) 2 line2 (letterP 4 ⟨#[120]⟩) 0 w hE hs line2_small (letter_small (by decide) (by decide) (by decide))
  unfold PushPost at h
  rw [begun_push4.1, begun_push4.2] at h
  refine h.mono ?_
  rintro e w' ⟨a, c, rfl, _, _, hb⟩
  exact ⟨a, c, rfl, hb⟩
theorem bshed (a : Option Addr) (c : Nat) (w : World) (hE : Env w) (hs : Sl w 0 w.heap.size a (line3.flatMap vItem)) (hc : 3 ≤ c) :
    Calls Tryd.prog 32 #[.slice a 3 c, .int .i64 1] w fun e w' => ∃ a c b d, e = .returned (.tuple #[.slice a 1 c, .slice b 2 d, .int .i64 0]) ∧ Sl w' w.heap.size w'.heap.size a ([letterP 4 bFour].flatMap vItem) ∧ Below w.heap.size w w' := by
  have h := Shed_any a c line3 1 0 w hE hs line3_small hc (by decide)
  unfold ShedPost at h
  rw [begun_shed.1, begun_shed.2.1, begun_shed.2.2] at h
  refine h.mono ?_
  rintro e w' ⟨a, c, b, d, rfl, h1, _, _, _, hb⟩
  exact ⟨a, c, b, d, rfl, h1, hb⟩
theorem bck2 (b : Nat) (w : World) (hE : Env w) (hs : Sl w 0 w.heap.size (some ⟨b, 0, none⟩) (line2.flatMap vItem)) :
    Calls Tryd.prog 29 #[.slice (some ⟨b, 0, none⟩) 2 2] w fun e w' => e = .returned (.int .i64 0) ∧ Below w.heap.size w w' := by
  have h := LCheck_any (some ⟨b, 0, none⟩) 2 line2 0 w hE hs line2_small
  rw [show lineErr line2 = 0 by simp [lineErr, line2_fine]] at h
  exact h
theorem bckx (b : Nat) (w : World) (hE : Env w) (hs : Sl w 0 w.heap.size (some ⟨b, 0, none⟩) ([badP].flatMap vItem)) :
    Calls Tryd.prog 29 #[.slice (some ⟨b, 0, none⟩) 1 1] w fun e w' => e = .returned (.int .i64 1) ∧ Below w.heap.size w w' := by
  have h := LCheck_any (some ⟨b, 0, none⟩) 1 [badP] 0 w hE hs bad_small
  rw [bad_err] at h
  exact h

theorem sl_lit {w W : World} {t : TypeId} {cs : Array Value} {us : List Value} (hu : us = cs.toList) (h : Below (w.heap.size + 1) (w.alloc (.cells cs t)) W) : Sl W 0 W.heap.size (some ⟨w.heap.size, 0, none⟩) us :=
  sl_of_bk ((Bk.new w t cs).below h (by omega)) (Nat.zero_le _) (by have := h.size; simp at this; omega) hu
theorem below_lit {B : Nat} {w0 w W : World} {o : Obj} (h0 : Below B w0 w) (hB : B ≤ w.heap.size) (h : Below (w.heap.size + 1) (w.alloc o) W) : Below B w0 W := (h0.alloc hB o).trans (h.mono (by omega))

set_option maxHeartbeats 4000000 in
theorem linesBegun_any (w : World) (hE : Env w) : Calls Tryd.prog 28 #[] w fun e w' => e = .returned (.bool true) ∧ Below w.heap.size w w' := by
  have HE := Lib.hid hE; clear hE
  go_enter Tryd.func28, Tryd.ntmps28
  go_wp2_with fail
  refine (letter_lit 1 _ _).mono ?_
  rintro e w1 ⟨rfl, hb1⟩
  have H1 := Lib.hid hb1; clear hb1
  go_wp2_with fail
  refine (letter_lit 4 _ _).mono ?_
  rintro e w2 ⟨rfl, hb2⟩
  have H2 := Lib.hid (H1.out.trans (hb2.mono H1.out.size)); clear hb2 H1
  go_wp2_with fail
  obtain ⟨W3, hW3⟩ : ∃ W3, w2.alloc (.cells #[.int .i64 1, .string ⟨#[120, 46, 121]⟩, .string ⟨#[111, 110, 101]⟩, .bool false, .int .i64 0, .int .i64 4, .string ⟨#[120, 46, 121]⟩, .string ⟨#[102, 111, 117, 114]⟩, .bool false, .int .i64 0] 45) = W3 := ⟨_, rfl⟩
  have hz : W3.heap.size = w2.heap.size + 1 := by rw [← hW3]; simp
  have HALL : Hid (∀ W, Below W3.heap.size W3 W → Sl W 0 W.heap.size (some ⟨w2.heap.size, 0, none⟩) (line2.flatMap vItem) ∧ Below w.heap.size w W ∧ Env W) := fun W hW => by
    rw [hz, ← hW3] at hW
    have hb := below_lit H2.out H2.out.size hW
    exact ⟨sl_lit rfl hW, hb, below_env hb HE.out⟩
  rw [hW3]
  clear hW3 H2
  have HZ := Lib.hid hz; clear hz
  refine (letter_lit 2 _ _).mono ?_
  rintro e w4 ⟨rfl, hb4⟩
  have H4 := Lib.hid hb4; clear hb4
  go_wp2_with fail
  refine (bp2 _ _ (HALL.out _ H4.out).2.2 (HALL.out _ H4.out).1).mono ?_
  rintro e w5 ⟨a1, c1, rfl, hs1, hc1, hb5⟩
  have HS1 := Lib.hid (And.intro hs1 hc1)
  have H5 := Lib.hid (H4.out.trans (hb5.mono H4.out.size)); clear hs1 hc1 hb5 H4
  go_wp2_with fail
  refine (letter_lit 4 _ _).mono ?_
  rintro e w6 ⟨rfl, hb6⟩
  have H56 := Lib.hid hb6
  have H6 := Lib.hid (H5.out.trans (hb6.mono H5.out.size)); clear hb6
  go_wp2_with fail
  refine (bp4 _ _ (HALL.out _ H6.out).2.2 (HALL.out _ H6.out).1).mono ?_
  rintro e w7 ⟨a2, c2, rfl, hb7⟩
  have H57 := Lib.hid (H56.out.trans (hb7.mono H56.out.size))
  have H7 := Lib.hid (H6.out.trans (hb7.mono H6.out.size)); clear hb7 H6 H56
  go_wp2_with fail
  refine (bshed a1 c1 _ (HALL.out _ H7.out).2.2 ((HS1.out.1.below H57.out (Nat.le_refl _)).wider (Nat.zero_le _) H57.out.size) HS1.out.2).mono ?_
  rintro e w8 ⟨a3, c3, a4, c4, rfl, hs3, hb8⟩
  have HS3 := Lib.hid hs3
  have H58 := Lib.hid (H57.out.trans (hb8.mono H57.out.size))
  have H8 := Lib.hid (H7.out.trans (hb8.mono H7.out.size)); clear hb8 hs3 H7 H57
  go_wp2_with fail
  refine (letter_lit 1 _ _).mono ?_
  rintro e w9 ⟨rfl, hb9⟩
  have H89 := Lib.hid hb9
  have H59 := Lib.hid (H58.out.trans (hb9.mono H58.out.size))
  have H9 := Lib.hid (H8.out.trans (hb9.mono H8.out.size)); clear hb9 H8 H58
  go_wp2_with fail
  have hbk := Bk.new w9 45 #[.int .i64 1, .string ⟨#[]⟩, .string ⟨#[111, 110, 101]⟩, .bool false, .int .i64 0]
  have hal : Below w9.heap.size w9 (w9.alloc (.cells #[.int .i64 1, .string ⟨#[]⟩, .string ⟨#[111, 110, 101]⟩, .bool false, .int .i64 0] 45)) := (Below.refl _ _).alloc (Nat.le_refl _) _
  have hsz : (w9.alloc (.cells #[.int .i64 1, .string ⟨#[]⟩, .string ⟨#[111, 110, 101]⟩, .bool false, .int .i64 0] 45)).heap.size = w9.heap.size + 1 := by simp
  generalize w9.alloc (.cells #[.int .i64 1, .string ⟨#[]⟩, .string ⟨#[111, 110, 101]⟩, .bool false, .int .i64 0] 45) = WA at *
  obtain ⟨b1, o1, ha1, _, hb1, hc1⟩ := sl_elem (enc := vItem) vItem_len (by decide) HS1.out.1 (k := 1) (by decide)
  obtain ⟨b3, o3, ha3, _, hb3, hc3⟩ := sl_elem (enc := vItem) vItem_len (by decide) HS3.out (k := 0) (by decide)
  have HX : Hid (∀ W, Below WA.heap.size WA W → ((W.cell? ⟨w9.heap.size, 0, none⟩ = some (.int .i64 1) ∧ W.cell? ⟨w9.heap.size, 1, none⟩ = some (.string ⟨#[]⟩) ∧ W.cell? ⟨w9.heap.size, 2, none⟩ = some (.string ⟨#[111, 110, 101]⟩) ∧ W.cell? ⟨w9.heap.size, 3, none⟩ = some (.bool false) ∧ W.cell? ⟨w9.heap.size, 4, none⟩ = some (.int .i64 0)) ∧
      W.cell? ⟨b1, o1 + 5 + 2, none⟩ = some (.string ⟨#[116, 119, 111]⟩) ∧ W.cell? ⟨b3, o3, none⟩ = some (.int .i64 4)) ∧ Below W3.heap.size W3 W) := fun W hW => by
    have k := hbk.below hW (by omega)
    have h9 : Below w9.heap.size w9 W := hal.trans (hW.mono hal.size)
    have h5 : Below w5.heap.size w5 W := H59.out.trans (h9.mono H59.out.size)
    have h8 : Below w8.heap.size w8 W := H89.out.trans (h9.mono H89.out.size)
    refine ⟨⟨⟨?_, ?_, ?_, ?_, ?_⟩, ?_, ?_⟩, H9.out.trans (h9.mono H9.out.size)⟩
    · have := k.cell 0; simpa using this
    · have := k.cell 1; simpa using this
    · have := k.cell 2; simpa using this
    · have := k.cell 3; simpa using this
    · have := k.cell 4; simpa using this
    · exact (h5.cell (p := ⟨b1, _, none⟩) hb1).trans (hc1 2 _ rfl)
    · exact (h8.cell (p := ⟨b3, _, none⟩) hb3).trans (hc3 0 _ rfl)
  clear hbk hal hsz hc1 hc3 hb1 hb3 HS1 HS3
  subst ha1 ha3
  refine (bck2 _ _ (HALL.out _ (HX.out _ (Below.refl _ _)).2).2.2 (HALL.out _ (HX.out _ (Below.refl _ _)).2).1).mono ?_
  rintro e wb ⟨rfl, hbb⟩
  have HB := Lib.hid hbb; clear hbb
  obtain ⟨⟨⟨e0, e1, e2, e3, e4⟩, _, _⟩, _⟩ := HX.out _ HB.out
  go_wp2_with fail
  refine (bckx _ _ (below_env (((HALL.out _ (HX.out _ HB.out).2).2.1).alloc (HALL.out _ (HX.out _ HB.out).2).2.1.size _) HE.out) (sl_lit rfl (Below.refl _ _))).mono ?_
  rintro e wc ⟨rfl, hbc⟩
  have HC : Hid (Below WA.heap.size WA wc) := (HB.out.alloc HB.out.size _).trans (hbc.mono (HB.out.alloc HB.out.size _).size)
  clear hbc e0 e1 e2 e3 e4
  obtain ⟨⟨_, f1, f2⟩, _⟩ := HX.out _ HC.out
  go_wp2_with fail
  go_ret
  exact ⟨rfl, (HALL.out _ (HX.out _ HC.out).2).2.1⟩

end Go.Proofs.YtbdikenloklhaaaDoor
