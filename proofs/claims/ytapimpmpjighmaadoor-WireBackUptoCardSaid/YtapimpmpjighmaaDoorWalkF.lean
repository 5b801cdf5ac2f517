/-
  The walk of words.Fit: the words of the pattern are gone through by a range over strings.SplitSeq; a row of bools is laid anew for each.
-/
import Derived.Test.YtapimpmpjighmaaDoorIterA
import Derived.Test.YtapimpmpjighmaaDoorWalkLP
import Derived.LoopTactic
namespace Go.Proofs.YtapimpmpjighmaaDoor
open Go Go.RowKit Go.Shelf
set_option maxRecDepth 100000
attribute [local go_sem] Oper.semAt_some

theorem infoBool : (Tryd.prog.info? 4).map (fun i => (i.zero, i.size, i.bytes)) = some (some (.bool false), 1, 1) := by kernel_rfl

/-- Block g is a row of N bools, f of the place. -/
def BRow (W : World) (g N : Nat) (f : Nat → Bool) : Prop := ∃ cs, Bk W g 4 cs ∧ cs.size = N ∧ ∀ j, j < N → cs[j]? = some (.bool (f j))

theorem BRow.cell {W : World} {g N : Nat} {f : Nat → Bool} (h : BRow W g N f) {j : Nat} (hj : j < N) : W.cell? ⟨g, j, none⟩ = some (.bool (f j)) := by
  obtain ⟨cs, hb, _, hc⟩ := h
  rw [hb.cell, hc j hj]
theorem BRow.frozen {W : World} {g N : Nat} {f : Nat → Bool} (h : BRow W g N f) (j : Nat) : W.frozen? ⟨g, j, none⟩ = false := by
  obtain ⟨cs, hb, _, _⟩ := h
  exact hb.frozen j
theorem BRow.lt {W : World} {g N : Nat} {f : Nat → Bool} (h : BRow W g N f) : g < W.heap.size := by
  obtain ⟨cs, hb, _, _⟩ := h
  exact hb.lt
theorem BRow.alloc {W : World} {g N : Nat} {f : Nat → Bool} (h : BRow W g N f) (o : Obj) : BRow (W.alloc o) g N f := by
  obtain ⟨cs, hb, h1, h2⟩ := h
  exact ⟨cs, hb.alloc o, h1, h2⟩
theorem BRow.far {W : World} {g N : Nat} {f : Nat → Bool} (h : BRow W g N f) {p : Addr} (hp : g ≠ p.block) (u : Value) : BRow (W.setCell p u) g N f := by
  obtain ⟨cs, hb, h1, h2⟩ := h
  exact ⟨cs, hb.far hp u, h1, h2⟩
theorem BRow.grown {W W' : World} {g N : Nat} {f : Nat → Bool} {row : Option Nat} (h : BRow W g N f) (hg : W.grownBy W' row) (hne : some g ≠ row) : BRow W' g N f := by
  obtain ⟨cs, hb, h1, h2⟩ := h
  exact ⟨cs, hb.grown hg hne, h1, h2⟩
theorem BRow.below {W W' : World} {B g N : Nat} {f : Nat → Bool} (h : BRow W g N f) (hb' : Below B W W') (hg : g < B) : BRow W' g N f := by
  obtain ⟨cs, hb, h1, h2⟩ := h
  exact ⟨cs, hb.below hb' hg, h1, h2⟩
theorem BRow.set_ {W : World} {g N : Nat} {f f' : Nat → Bool} (h : BRow W g N f) {i : Nat} {b : Bool} (hi : f' i = b) (hf : ∀ j, j < N → j ≠ i → f' j = f j) : BRow (W.setCell ⟨g, i, none⟩ (.bool b)) g N f' := by
  obtain ⟨cs, hb, h1, h2⟩ := h
  refine ⟨_, hb.set_ i _, by simp [h1], fun j hj => ?_⟩
  by_cases e : i = j
  · subst e
    rw [Array.getElem?_setIfInBounds_self_of_lt (by omega), hi]
  · rw [Array.getElem?_setIfInBounds_ne e, h2 j hj, hf j hj (fun e' => e e'.symm)]
theorem BRow.congr {W : World} {g N : Nat} {f f' : Nat → Bool} (h : BRow W g N f) (hf : ∀ j, j < N → f' j = f j) : BRow W g N f' := by
  obtain ⟨cs, hb, h1, h2⟩ := h
  exact ⟨cs, hb, h1, fun j hj => by rw [h2 j hj, hf j hj]⟩
theorem BRow.new (W : World) (N : Nat) (cs : Array Value) (f : Nat → Bool) {g : Nat} (hg : g = W.heap.size) (h1 : cs.size = N) (h2 : ∀ j, j < N → cs[j]? = some (.bool (f j))) : BRow (W.alloc (.cells cs 4)) g N f :=
  ⟨cs, Bk.new_at W _ _ hg, h1, h2⟩

/-- What holds of the call's own memory between two words of the pattern. -/
def FitI (w : World) (k : ByteArray) (bs B : Nat) (pre : List ByteArray) (W : World) : Prop :=
  ∃ g, w.heap.size + 2 ≤ g ∧ g ≠ bs ∧ BRow W g ((parts k).length + 1) (rowP (tl pre) (tl (parts k))) ∧
    Bk W (w.heap.size + 3) 154 #[.slice (some ⟨g, 0, none⟩) ((parts k).length + 1) ((parts k).length + 1)] ∧
    Bk W (w.heap.size + 1) 84 #[.slice (some ⟨w.heap.size, 0, none⟩) (parts k).length (parts k).length] ∧
    Sl W w.heap.size (w.heap.size + 1) (some ⟨w.heap.size, 0, none⟩) ((parts k).map Value.string) ∧ B ≤ W.heap.size ∧ Below w.heap.size w W

theorem fitI_own (w : World) (k : ByteArray) (bs B : Nat) (hbs : w.heap.size + 4 ≤ bs) (hB : w.heap.size + 4 ≤ B) : OwnAt (fun r => r = bs) B (FitI w k bs B) := by
  rintro pre W W' row ⟨g, h1, h2, h3, h4, h5, h6, h7, h8⟩ hg hr
  have key : ∀ r t cs, Bk W r t cs → r ≠ bs → some r ≠ row := by
    intro r t cs hb hne e
    rcases hr r e.symm with h | ⟨_, o, ho, hc⟩
    · exact hne h
    · unfold Bk at hb
      rw [hb] at ho
      cases ho
      cases hc
  have hlow : ∀ r, row = some r → w.heap.size + 4 ≤ r := by
    intro r e
    rcases hr r e with h | ⟨h, _⟩
    · omega
    · omega
  obtain ⟨cs, hb, hc1, hc2⟩ := h3
  refine ⟨g, h1, h2, ⟨cs, hb.grown hg (key _ _ _ hb h2), hc1, hc2⟩, h4.grown hg (key _ _ _ h4 (by omega)), h5.grown hg (key _ _ _ h5 (by omega)), ?_, by have := hg.size; omega, ?_⟩
  · exact h6.keep fun q hq => World.cell?_of_block (hg.block _ (by omega) (fun e => by have := hlow _ e.symm; omega))
  · exact h8.grown hg h8.size (fun r e => by have := hlow r e; omega)

def InRel (w : World) (k : ByteArray) (ps : List (List UInt8)) (x : List UInt8) (g gn : Nat) (Rd : Nat → Prop) (W2 : World) (i : Value) (wr : World) : Prop :=
  ∃ j : Nat, j ≤ (parts k).length + 1 ∧ i = .int .i64 j ∧ BRow wr g ((parts k).length + 1) (rowP ps (tl (parts k))) ∧
    BRow wr gn ((parts k).length + 1) (fun q => decide (q < j) && rowP (ps ++ [x]) (tl (parts k)) q) ∧
    Bk wr (w.heap.size + 3) 154 #[.slice (some ⟨g, 0, none⟩) ((parts k).length + 1) ((parts k).length + 1)] ∧
    Bk wr (w.heap.size + 1) 84 #[.slice (some ⟨w.heap.size, 0, none⟩) (parts k).length (parts k).length] ∧
    Sl wr w.heap.size (w.heap.size + 1) (some ⟨w.heap.size, 0, none⟩) ((parts k).map Value.string) ∧
    KeepsOthers W2 wr ∧ KpAt Rd W2 wr ∧ Below w.heap.size w wr

theorem InRel.store {w : World} {k : ByteArray} {ps : List (List UInt8)} {x : List UInt8} {g gn j : Nat} {Rd : Nat → Prop} {W2 wr : World} {b : Bool} {jj : Int} (hg : gn ≠ g ∧ w.heap.size + 4 ≤ gn ∧ ¬ Rd gn)
    (S3 : BRow wr g ((parts k).length + 1) (rowP ps (tl (parts k)))) (S4 : BRow wr gn ((parts k).length + 1) (fun q => decide (q < j) && rowP (ps ++ [x]) (tl (parts k)) q))
    (S5 : Bk wr (w.heap.size + 3) 154 #[.slice (some ⟨g, 0, none⟩) ((parts k).length + 1) ((parts k).length + 1)])
    (S6 : Bk wr (w.heap.size + 1) 84 #[.slice (some ⟨w.heap.size, 0, none⟩) (parts k).length (parts k).length])
    (S7 : Sl wr w.heap.size (w.heap.size + 1) (some ⟨w.heap.size, 0, none⟩) ((parts k).map Value.string)) (S8 : KeepsOthers W2 wr) (S9 : KpAt Rd W2 wr) (S10 : Below w.heap.size w wr)
    (hj : j < (parts k).length + 1) (hb : rowP (ps ++ [x]) (tl (parts k)) j = b) (hjj : jj = (j : Int) + 1) : InRel w k ps x g gn Rd W2 (.int .i64 jj) (wr.setCell ⟨gn, j, none⟩ (.bool b)) :=
  ⟨j + 1, hj, by rw [hjj]; go_num, S3.far (fun e => hg.1 e.symm) _, S4.set_ (by simp [hb]) (fun q _ hne => by
    have : decide (q < j + 1) = decide (q < j) := by rw [Bool.eq_iff_iff]; simp; omega
    simp only [this]), S5.far (by simp; omega) _, S6.far (by simp; omega) _,
    S7.keep (fun q hq => World.cell?_setCell_other _ _ _ _ (fun e => by subst e; simp at hq; omega)), S8.trans (KeepsOthers.setCell _ _ _), S9.setCell hg.2.2 _, S10.setCell (p := ⟨gn, j, none⟩) (by simp; omega) _⟩

theorem InRel.skip {w : World} {k : ByteArray} {ps : List (List UInt8)} {x : List UInt8} {g gn j : Nat} {Rd : Nat → Prop} {W2 wr : World} {jj : Int}
    (S3 : BRow wr g ((parts k).length + 1) (rowP ps (tl (parts k)))) (S4 : BRow wr gn ((parts k).length + 1) (fun q => decide (q < j) && rowP (ps ++ [x]) (tl (parts k)) q))
    (S5 : Bk wr (w.heap.size + 3) 154 #[.slice (some ⟨g, 0, none⟩) ((parts k).length + 1) ((parts k).length + 1)])
    (S6 : Bk wr (w.heap.size + 1) 84 #[.slice (some ⟨w.heap.size, 0, none⟩) (parts k).length (parts k).length])
    (S7 : Sl wr w.heap.size (w.heap.size + 1) (some ⟨w.heap.size, 0, none⟩) ((parts k).map Value.string)) (S8 : KeepsOthers W2 wr) (S9 : KpAt Rd W2 wr) (S10 : Below w.heap.size w wr)
    (hj : j < (parts k).length + 1) (hb : rowP (ps ++ [x]) (tl (parts k)) j = false) (hjj : jj = (j : Int) + 1) : InRel w k ps x g gn Rd W2 (.int .i64 jj) wr :=
  ⟨j + 1, hj, by rw [hjj]; go_num, S3, S4.congr (fun q _ => by
      by_cases e : q = j
      · subst e; simp [hb]
      · congr 1; rw [Bool.eq_iff_iff]; simp; omega), S5, S6, S7, S8, S9, S10⟩

set_option maxHeartbeats 2000000 in
theorem Fit_any (p k : ByteArray) (m : Int) (w : World) (hp : p.size ≤ 4294967280) (hk : k.size ≤ 4294967280) (hm : w.cell? ⟨0, 0, none⟩ = some (.int .i64 m)) :
    Calls Tryd.prog 110 #[.string p, .string k] w fun e w' => e = .returned (.bool (fitP p k)) ∧ Below w.heap.size w w' := by
  have hkl := parts_len_le k
  have hmk := fun W => run_make1 (P := Tryd.prog) Tryd.underlying154 infoBool rfl ((parts k).length + 1) (((parts k).length : Int) + 1) (by omega) (by omega) (by omega) W
  refine (callsIn_wide (n := 4)).1 ?_
  refine callsIn_of_wp_marks Tryd.func110 rfl trivial ?_ rfl
  simp only [Tryd.ntmps110, List.size_toArray, List.length_cons, List.length_nil, Nat.reduceAdd, Nat.reduceSub, Array.replicate_succ, Array.replicate_zero, List.push_toArray, List.append_toArray, List.nil_append, List.cons_append]
  gi_wp2_with (refine ⟨trivial, ?_⟩; gi_at_call 126; refine (callsIn_wide.2 (lib_split k m _ (by omega) hm)).mono ?_; rintro e w1 ⟨rfl, rfl⟩)
  clear hm hmk
  obtain ⟨W0, hW0⟩ : ∃ W0, (((w.alloc (.cells ((parts k).map Value.string).toArray 9)).alloc (.cells #[.slice (some ⟨w.heap.size, 0, none⟩) (parts k).length (parts k).length] 84)).alloc
      (.cells ((Array.replicate ((parts k).length + 1) (.bool false)).setIfInBounds 0 (.bool true)) 4)).alloc (.cells #[.slice (some ⟨w.heap.size + 1 + 1, 0, none⟩) ((parts k).length + 1) ((parts k).length + 1)] 154) = W0 := ⟨_, rfl⟩
  rw [hW0]
  have hz0 : W0.heap.size = w.heap.size + 4 := by rw [← hW0]; simp
  have i0 : ∀ bs, w.heap.size + 4 ≤ bs → FitI w k bs (w.heap.size + 4) [] W0 := by
    intro bs hbs
    rw [← hW0]
    refine ⟨w.heap.size + 2, Nat.le_refl _, by omega, ?_, Bk.new_at _ _ _ (by simp), ?_, ?_, by simp, ?_⟩
    · refine BRow.alloc (BRow.new _ _ _ _ (by simp) (by simp) (fun j hj => ?_)) _
      rw [show rowP (tl ([] : List ByteArray)) (tl (parts k)) j = decide (j = 0) from rowP_nil _ _ (by rw [show (tl (parts k)).length = (parts k).length from List.length_map _]; omega)]
      cases j with
      | zero => rw [Array.getElem?_setIfInBounds_self_of_lt (by simp)]; rfl
      | succ j => rw [Array.getElem?_setIfInBounds_ne (by omega), Array.getElem?_replicate, if_pos hj]; rfl
    · exact ((Bk.new_at _ _ _ (by simp)).alloc _).alloc _
    · have hs := Sl.new w ((parts k).map Value.string) 9 (w.heap.size + 1) (by omega)
      exact hs.keep fun q hq => by
        rw [World.cell?_alloc_lt _ _ q (by simp; omega), World.cell?_alloc_lt _ _ q (by simp; omega), World.cell?_alloc_lt _ _ q (by simp; omega)]
    · exact ((((Below.refl _ w).alloc (Nat.le_refl _) _).alloc (by simp) _).alloc (by simp; omega) _).alloc (by simp; omega) _
  clear hW0
  have HI0 := Lib.hid i0; clear i0
  have HZ0 := Lib.hid hz0; clear hz0
  refine ⟨trivial, ?_⟩
  refine (callsIn_wide.2 (SplitSeq_any p ⟨#[46]⟩ W0)).mono ?_
  rintro e W1 ⟨bs, bsep, bsave, rfl, hn1, hn2, hl1, hl2, hl3, hl4, hl5, hl6, hc1, hf1, hc2, hc3, hb1⟩
  have HC := Lib.hid (show True ∧ True from ⟨trivial, trivial⟩); clear HC
  have hI1 : FitI w k bs W1.heap.size [] W1 := by
    obtain ⟨g, h1, h2, h3, h4, h5, h6, h7, h8⟩ := HI0.out bs (by have := HZ0.out; omega)
    have hz := HZ0.out
    refine ⟨g, h1, h2, h3.below hb1 h3.lt, h4.below hb1 h4.lt, h5.below hb1 h5.lt, h6.below hb1 (by omega), Nat.le_refl _, h8.trans (hb1.mono h8.size)⟩
  have HI1 := Lib.hid hI1; clear hI1
  have hst := splitSeq_stops 3 (by omega) bsep bs bsave p (by omega) W1 hn1 hn2 hl2 hl3 hl4 hc1 hf1 hc2 hc3
  have HST := Lib.hid hst; clear hst hc1 hf1 hc2 hc3
  have hN : Hid (bs < W1.heap.size ∧ bsep < W1.heap.size ∧ bsave < W1.heap.size ∧ w.heap.size + 4 ≤ bs ∧ w.heap.size + 4 ≤ bsep ∧ w.heap.size + 4 ≤ bsave ∧ w.heap.size + 4 ≤ W1.heap.size) := by
    have hz := HZ0.out
    have := hb1.size
    exact ⟨hl2, hl3, hl4, by omega, by omega, by omega, by omega⟩
  clear hn1 hn2 hl1 hl2 hl3 hl4 hl5 hl6 HI0 HZ0 hb1
  gi_wp2
  have hRd : ∀ r, (r = bs ∨ r = bsep ∨ r = bsave) → r < W1.heap.size := by
    intro r hr
    have := hN.out
    omega
  have HRd := Lib.hid hRd; clear hRd
  refine wpIn_range_box (n := 4) (Bx := fun r => r = bs) (Kp := KpAt fun r => r = bs ∨ r = bsep ∨ r = bsave) rfl (by decide) (gf := 156) (lb := #[.pointer (some ⟨bsep, 0, none⟩), .pointer (some ⟨bs, 0, none⟩), .pointer (some ⟨bsave, 0, none⟩)]) rfl trivial (enters_of Tryd.func156 (by kernel_rfl) rfl)
    HST.out (by rintro r rfl; exact hN.out.1) (fun h k => KpAt.trans h k) (fun W l o o' hl _ _ _ => KpAt.putObj (B := W1.heap.size) HRd.out W l o' hl)
    (Below.refl _ _) (fun _ => rfl) (FitI w k bs W1.heap.size) (fun _ _ _ => False) (fitI_own w k bs _ hN.out.2.2.2.1 hN.out.2.2.2.2.2.2) (fun _ _ _ _ _ h _ _ => h) HI1.out ?round ?done ?stop
  case stop =>
    rintro D c pre W _ _ h _
    exact h.elim
  case done =>
    rintro D ys W hD rfl ⟨g, h1, h2, h3, h4, h5, h6, h7, h8⟩ hK
    have c1 := h4.cell 0
    have c2 := h5.cell 0
    have c3 := h3.cell (j := (parts k).length) (by omega)
    simp only [List.getElem?_toArray, List.getElem?_cons_zero] at c1 c2
    have HK := Lib.hid hK; clear hK
    have hfit : rowP (tl (parts p)) (tl (parts k)) (parts k).length = fitP p k := by
      have := rowP_all (tl (parts p)) (tl (parts k))
      rw [show (tl (parts k)).length = (parts k).length from List.length_map _] at this
      exact this
    have HF := Lib.hid hfit; clear hfit
    gi_wp2
    refine ⟨by simp, .inl ⟨_, _, rfl, run_takeDeferred HK.out, ?_⟩⟩
    refine ⟨_, results_tmp rfl _ _ _, ?_, ?_⟩
    · rw [← HF.out]; rfl
    · exact h8.grown (grownBy_putObj' _ D (.deferred none)) h8.size (fun r e => by cases e; have := hN.out; omega)
  case round =>
    intro l pre x W K hlen hK
    gi_wp2
    intro W2 hI2
    obtain ⟨g, h1, h2, h3, h4, h5, h6, h7, h8⟩ := hI2
    have c1 := h4.cell 0
    have c2 := h5.cell 0
    simp only [List.getElem?_toArray, List.getElem?_cons_zero] at c1 c2
    have hlt := h3.lt
    have hlp : ∀ r, (r = bs ∨ r = bsep ∨ r = bsave) → r < W2.heap.size := fun r hr => Nat.lt_of_lt_of_le (HRd.out r hr) h7
    obtain ⟨gn, hgn⟩ : ∃ gn, gn = W2.heap.size := ⟨_, rfl⟩
    obtain ⟨W3, hmk, start⟩ : ∃ W3, (Instr.makeSlice 154 (.int .i64 (((parts k).length : Int) + 1)) (.int .i64 (((parts k).length : Int) + 1))).run Tryd.prog W2 = .ok (.slice (some ⟨gn, 0, none⟩) ((parts k).length + 1) ((parts k).length + 1)) W3 ∧
        InRel w k (tl pre) x.toList g gn (fun r => r = bs ∨ r = bsep ∨ r = bsave) W2 (.int .i64 0) W3 :=
      ⟨_, by rw [hgn]; exact run_make1 Tryd.underlying154 infoBool rfl ((parts k).length + 1) (((parts k).length : Int) + 1) (by omega) (by omega) (by omega) W2,
        0, by omega, rfl, h3.alloc _, BRow.new _ _ _ _ hgn (by simp) (fun q hq => by rw [List.getElem?_toArray, List.getElem?_replicate, if_pos hq]; simp), h4.alloc _, h5.alloc _,
        h6.keep (fun q hq => World.cell?_alloc_lt _ _ q (by omega)), KeepsOthers.alloc _ _, (KpAt.refl _ _).alloc hlp (Nat.le_refl _) _, h8.alloc h8.size _⟩
    have c3 : W3.cell? ⟨w.heap.size + 3, 0, none⟩ = some (.slice (some ⟨g, 0, none⟩) ((parts k).length + 1) ((parts k).length + 1)) := by
      obtain ⟨j, s1, s2, s3, s4, s5, s6, s7, s8, s9, s10⟩ := start
      exact s5.cell 0
    have START := Lib.hid start; clear start
    have HW2 := Lib.hid h7
    have HGN : Hid (gn ≠ g ∧ w.heap.size + 2 ≤ gn ∧ w.heap.size + 4 ≤ gn ∧ w.heap.size + 2 ≤ g ∧ gn ≠ bs ∧ gn ≠ bsep ∧ gn ≠ bsave) := by
      have := hN.out
      have := hlp bs (.inl rfl)
      have := hlp bsep (.inr (.inl rfl))
      have := hlp bsave (.inr (.inr rfl))
      exact ⟨by omega, by omega, by omega, by omega, by omega, by omega, by omega⟩
    clear hgn hlt hlp h3 h4 h5 h6 h7 h8 h1 h2 c2
    gi_wp2
    gi_loopw [27] (fun i wr => InRel w k (tl pre) x.toList g gn (fun r => r = bs ∨ r = bsep ∨ r = bsave) W2 i wr) (fun i _ => (parts k).length + 1 - (intOf i).toNat)
    case atStart => exact START.out
    case round =>
      obtain ⟨j, s1, rfl, s3, s4, s5, s6, s7, s8, s9, s10⟩ := hrel
      have S4 := Lib.hid s4
      have S3 := Lib.hid s3
      have d1 := s5.cell 0
      have d2 := s6.cell 0
      simp only [List.getElem?_toArray, List.getElem?_cons_zero] at d1 d2
      have S5 := Lib.hid s5; clear s5
      have S6 := Lib.hid s6; clear s6
      have S7 := Lib.hid s7; clear s7
      have S8 := Lib.hid s8; clear s8
      have S9 := Lib.hid s9; clear s9
      by_cases hlt : j < (parts k).length + 1
      · have d3 := s3.cell hlt
        have d4 := s4.frozen j
        obtain ⟨b5, d5⟩ : ∃ b5, wr.cell? ⟨gn, j, none⟩ = some (.bool b5) := ⟨_, s4.cell hlt⟩
        clear s3 s4
        have HG : Hid (gn ≠ g ∧ w.heap.size + 4 ≤ gn ∧ ¬ (gn = bs ∨ gn = bsep ∨ gn = bsave)) := by
          have := HGN.out
          exact ⟨by omega, by omega, by omega⟩
        by_cases hx : x.toList = [35]
        · have hx' : (x.toList == [35]) = true := by simp [hx]
          cases j with
          | zero =>
            have hr : rowP (tl pre ++ [x.toList]) (tl (parts k)) 0 = rowP (tl pre) (tl (parts k)) 0 := by rw [hx]; exact rowP_hash0 _ _
            have HR := Lib.hid hr; clear hr hx
            generalize hq : rowP (tl pre) (tl (parts k)) 0 = q at d3
            have HQ := Lib.hid hq; clear hq
            cases q
            all_goals
              gi_wp2
              exact ⟨InRel.store HG.out S3.out S4.out S5.out S6.out S7.out S8.out S9.out s10 hlt (by rw [HR.out, HQ.out]) (by simp), by simp [intOf]; try omega⟩
          | succ i =>
            have hi : i < (parts k).length := by omega
            have hr : rowP (tl pre ++ [x.toList]) (tl (parts k)) (i + 1) = (rowP (tl pre) (tl (parts k)) (i + 1) || rowP (tl pre ++ [x.toList]) (tl (parts k)) i) := by
              rw [hx]; exact rowP_hash _ _ _ (by rw [show (tl (parts k)).length = (parts k).length from List.length_map _]; exact hi)
            have HR := Lib.hid hr; clear hr hx
            have d6 : wr.cell? ⟨gn, i, none⟩ = some (.bool (rowP (tl pre ++ [x.toList]) (tl (parts k)) i)) := by
              have := S4.out.cell (j := i) (by omega)
              simpa using this
            generalize hq2 : rowP (tl pre ++ [x.toList]) (tl (parts k)) i = q2 at d6
            have HQ2 := Lib.hid hq2; clear hq2
            generalize hq : rowP (tl pre) (tl (parts k)) (i + 1) = q at d3
            have HQ := Lib.hid hq; clear hq
            cases q
            all_goals
              gi_wp2
              exact ⟨InRel.store HG.out S3.out S4.out S5.out S6.out S7.out S8.out S9.out s10 hlt (by rw [HR.out, HQ.out, HQ2.out]; rfl) (by simp), by simp [intOf]; try omega⟩
        · have hx' : (x.toList == [35]) = false := by simp [hx]
          cases j with
          | zero =>
            have hr : rowP (tl pre ++ [x.toList]) (tl (parts k)) 0 = false := rowP_word0 hx _ _
            have HR := Lib.hid hr; clear hr hx
            gi_wp2
            exact ⟨InRel.skip S3.out S4.out S5.out S6.out S7.out S8.out S9.out s10 hlt HR.out (by simp), by simp [intOf]; try omega⟩
          | succ i =>
            have hi : i < (parts k).length := by omega
            have hr : rowP (tl pre ++ [x.toList]) (tl (parts k)) (i + 1) = (rowP (tl pre) (tl (parts k)) i && (x.toList == [42] || x.toList == (parts k)[i].toList)) := by
              have := rowP_word hx (tl pre) (tl (parts k)) i (by rw [show (tl (parts k)).length = (parts k).length from List.length_map _]; exact hi)
              rw [this]
              simp [tl]
            have HR := Lib.hid hr; clear hr hx
            have d6 := S3.out.cell (j := i) (by omega)
            generalize hq : rowP (tl pre) (tl (parts k)) i = q at d6
            have HQ := Lib.hid hq; clear hq
            generalize rowP (tl pre) (tl (parts k)) (i + 1) = q3 at d3
            obtain ⟨b7, o7, e7, _, d7⟩ := sl_string S7.out hi
            have d8 : wr.cell? ⟨w.heap.size, i, none⟩ = some (.string (parts k)[i]) := by
              simp only [Option.some.injEq, Addr.mk.injEq] at e7
              obtain ⟨rfl, rfl, _⟩ := e7
              simpa using d7
            clear d7 e7
            gi_wp2
            all_goals exact ⟨InRel.store HG.out S3.out S4.out S5.out S6.out S7.out S8.out S9.out s10 hlt (by rw [HR.out, HQ.out]; clear S8 S9 S7 HR HQ; cases q <;> simp_all) (by simp), by simp [intOf]; try omega⟩
      · obtain rfl : j = (parts k).length + 1 := by omega
        have d8 := S5.out.frozen 0
        have S4' : BRow wr gn ((parts k).length + 1) (rowP (tl (pre ++ [x])) (tl (parts k))) := S4.out.congr fun q hq => by
          rw [decide_eq_true hq, Bool.true_and]; simp [tl]
        have HS4 := Lib.hid S4'; clear S4'
        clear s3 s4
        gi_wp2
        have hg := HGN.out
        have hbs := hN.out
        refine ⟨S8.out.trans (KeepsOthers.setCell _ _ _), S9.out.setCell (q := ⟨w.heap.size + 3, 0, none⟩) (by simp; omega) _, gn, hg.2.1, hg.2.2.2.2.1, HS4.out.far (by simp; omega) _, S5.out.set_ 0 _, S6.out.far (by simp) _,
          S7.out.keep (fun q hq => World.cell?_setCell_other _ _ _ _ (fun e => by subst e; simp at hq; omega)), ?_, s10.setCell (p := ⟨w.heap.size + 3, 0, none⟩) (by simp) _⟩
        have e1 : (wr.setCell ⟨w.heap.size + 3, 0, none⟩ (.slice (some ⟨gn, 0, none⟩) ((parts k).length + 1) ((parts k).length + 1))).heap.size = wr.heap.size := by simp [World.setCell]
        rw [show w.heap.size + 1 + 1 + 1 = w.heap.size + 3 from rfl, e1]
        exact Nat.le_trans HW2.out S8.out.size
end Go.Proofs.YtapimpmpjighmaaDoor
