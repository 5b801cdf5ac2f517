/-
  A range over a function whose iterator writes boxes of its own (a captured variable that it assigns): a law beside the library's, with the same book-keeping.
  strings.SplitSeq at the point: the iterator's contract: it hands out the words of the text, one behind the other. Conditions: the text is shorter than 2^32.
-/
import Derived.RangeFuncFrom
import Derived.RangeFuncNested
import Derived.RangeFuncBound
import Derived.RangeFuncCalls
import Derived.RangeFuncLeaves
import Derived.Shelf.Abstract
import Derived.Shelf.RegionOpen
import Derived.WalkKit
import Derived.OwnWalkIn
import Derived.TacticsInMore
import Derived.LoopNIn
import Derived.LoopIn
import Derived.Test.YtapimpmpjighmaaDoorWalkA
import Derived.Lib.CutLaws
namespace Go.Proofs.YtapimpmpjighmaaDoor
open Go Go.RowKit Go.Shelf

/-- J abides the iterator's own steps: new blocks, a walk's own object, a write to a box of the iterator's (Bx). -/
def AbidesAt {β : Type} (Bx : Nat → Prop) (B : Nat) (J : β → World → Prop) : Prop :=
  ∀ s W W' row, J s W → W.grownBy W' row → (∀ r, row = some r → Bx r ∨ (B ≤ r ∧ ∃ o : Obj, W.heap[r]? = some o ∧ o.isWalk = true)) → J s W'

/-- The caller's invariant abides new blocks, the law's own records, and writes to the iterator's boxes. -/
def OwnAt {β : Type} (Bx : Nat → Prop) (B : Nat) (I : β → World → Prop) : Prop :=
  ∀ s W W' row, I s W → W.grownBy W' row → (∀ r, row = some r → Bx r ∨ (B ≤ r ∧ ∃ o : Obj, W.heap[r]? = some o ∧ o.isCells = false)) → I s W'

def SeqBox {α : Type} (F : Fence) (n : Nat) (P : Program) (g : Nat) (lb : Array Value) (encs : α → Array Value) (Bx : Nat → Prop) (Kp : World → World → Prop) (S Sp : List α → Prop) (N : Nat) (w : World) : Prop :=
  ∀ (l : Nat) (J Jx : List α → World → Prop) (W : World), Below w.heap.size w W → AbidesAt Bx W.heap.size J → AbidesAt Bx W.heap.size Jx →
    (∀ pre x W1, J pre W1 → pre.length < N → YieldAt F (n - 1) P l (encs x) W1 fun e W' =>
      (e = .returned (.bool true) ∧ J (pre ++ [x]) W' ∧ Kp W1 W') ∨ (e = .returned (.bool false) ∧ Jx (pre ++ [x]) W')) →
    J [] W →
    CallsIn F n P g (#[.func (.yield l) #[] #[]] ++ lb) W fun e W' => (∃ v, e = .returned v) ∧ ((∃ xs, S xs ∧ J xs W') ∨ (∃ pre, Sp pre ∧ Jx pre W'))

theorem OwnAt.putObj {β : Type} {Bx : Nat → Prop} {B : Nat} {I : β → World → Prop} (h : OwnAt Bx B I) {s : β} {W : World} {l : Nat} {o : Obj} (o' : Obj) (hs : I s W) (hB : B ≤ l) (hl : W.heap[l]? = some o) (ho : o.isCells = false) : I s (W.putObj l o') :=
  h s W _ (some l) hs (grownBy_putObj' W l o') (fun r e => by cases e; exact .inr ⟨hB, o, hl, ho⟩)
theorem OwnAt.alloc {β : Type} {Bx : Nat → Prop} {B : Nat} {I : β → World → Prop} (h : OwnAt Bx B I) {s : β} {W : World} (o : Obj) (hs : I s W) : I s (W.alloc o) :=
  h s W _ none hs (World.grownBy_alloc W o none) (fun r e => by cases e)
theorem OwnAt.and {β : Type} {Bx : Nat → Prop} {B : Nat} {I I' : β → World → Prop} (h : OwnAt Bx B I) (h' : OwnAt Bx B I') : OwnAt Bx B (fun s W => I s W ∧ I' s W) := fun s W W' row hs hg hr => ⟨h s W W' row hs.1 hg hr, h' s W W' row hs.2 hg hr⟩

theorem keeps_at {W W' : World} {row : Option Nat} {Bx : Nat → Prop} {B : Nat} (hg : W.grownBy W' row) (hrow : ∀ r, row = some r → Bx r ∨ (B ≤ r ∧ ∃ o : Obj, W.heap[r]? = some o ∧ o.isWalk = true))
    {k : Nat} {o : Obj} (hk : W.heap[k]? = some o) (hw : o.isWalk = false) (hnb : ¬ Bx k) : W'.heap[k]? = W.heap[k]? := by
  refine hg.block k (Array.getElem?_eq_some_iff.1 hk).1 ?_
  intro e
  rcases hrow k e.symm with hb | ⟨_, o', ho', hw'⟩
  · exact hnb hb
  · rw [hk] at ho'; cases ho'; rw [hw] at hw'; cases hw'

variable {F : Fence} {n : Nat} {P : Program}

theorem wpIn_range_box {α : Type} {g : Operand} {ps : Array Tmp} {assign body : Code} {Q : Exit → Act → World → Prop} {a : Act} {w : World}
    (hro : F.round = none) (h1 : 1 ≤ n) {gf : Nat} {lb : Array Value} (hg : a.eval g = .func (.func gf) #[] lb) (hFg : F.fn gf) (eg : ∀ args w, (callFunc gf args).run P w = .ok (.enter gf args) w)
    {encs : α → Array Value} {Bx : Nat → Prop} {Kp : World → World → Prop} {S Sp : List α → Prop} {N : Nat} {w0 : World} (hseq : SeqBox F (n - 1) P gf lb encs Bx Kp S Sp N w0)
    (hBx : ∀ r, Bx r → r < w.heap.size)
    (hKt : ∀ {A B C : World}, Kp A B → Kp B C → Kp A C) (hKb : ∀ (W : World) (l : Nat) (o o' : Obj), w.heap.size ≤ l → W.heap[l]? = some o → o.isCells = false → o.isWalk = false → Kp W (W.putObj l o')) (hb0 : Below w0.heap.size w0 w) (hps : ∀ x, (encs x).size = ps.size)
    (I : List α → World → Prop) (Ix : Code → List α → World → Prop) (hI : OwnAt Bx w.heap.size I) (hIx : ∀ c, OwnAt Bx w.heap.size (Ix c)) (h0 : I [] w)
    (hround : ∀ (l : Nat) (pre : List α) (x : α) (W : World) (K : Act → World → Prop), pre.length < N →
      (∀ a₁, (∀ W2, I pre W2 → body.wpIn (F.inRound l) (n - 1 - 1) P (ownPostK Kp I Ix (pre ++ [x]) W2) a₁ W2) → K a₁ W) →
      assign.wpIn (F.inRound l) (n - 1 - 1) P (Exit.then K (fun _ _ _ => False)) { tmps := (ps.zip (encs x)).foldl (fun t (p, v) => t.setIfInBounds p v) a.tmps, defers := [] } W)
    (hdone : ∀ (D : Nat) (xs : List α) (W : World), w.heap.size ≤ D → S xs → I xs W → W.heap[D]? = some (.deferred (some [])) → Q .normal { a with defers := { target := .collected D, args := #[] } :: a.defers } W)
    (hstop : ∀ (D : Nat) (c : Code) (pre : List α) (W : World), w.heap.size ≤ D → Sp pre → Ix c pre W → W.heap[D]? = some (.deferred (some [])) → c.wpIn F n P Q { a with defers := { target := .collected D, args := #[] } :: a.defers } W) :
    (Code.rangeFunc g ps assign body).wpIn F n P Q a w := by
  refine wpIn_rangeFunc ?_
  intro fn hfn
  rw [hro]
  obtain ⟨rec, hrec⟩ : ∃ rec : LoopState → Option Code → Loop, rec = fun st pe => { state := st, pending := pe, fn, tmps := a.tmps, params := ps, assign, body, defers := w.heap.size } := ⟨_, rfl⟩
  obtain ⟨W1, hW1⟩ : ∃ W1, (w.alloc (.deferred (some []))).alloc (.loop (rec .ready none)) = W1 := ⟨_, rfl⟩
  have hL1 : W1.heap[w.heap.size + 1]? = some (.loop (rec .ready none)) := by
    rw [← hW1]; have := World.alloc_heap_new (w.alloc (.deferred (some []))) (.loop (rec .ready none)); rwa [World.size_alloc] at this
  have hK1 : W1.heap[w.heap.size]? = some (.deferred (some [])) := by
    rw [← hW1]; exact (Below.heap_alloc _ _ _ (by simp)).trans (World.alloc_heap_new w _)
  have hI1 : I [] W1 := by rw [← hW1]; exact hI.alloc _ (hI.alloc _ h0)
  have hb1 : Below w0.heap.size w0 W1 := by
    rw [← hW1]; exact hb0.trans ((((Below.refl _ w).alloc (Nat.le_refl _) _).alloc (by simp) _).mono hb0.size)
  have hz1 : W1.heap.size = w.heap.size + 2 := by rw [← hW1]; simp
  have hnl : ¬ Bx (w.heap.size + 1) := fun h => by have := hBx _ h; omega
  have hnk : ¬ Bx w.heap.size := fun h => by have := hBx _ h; omega
  refine ⟨w.heap.size + 1, [{ target := .collected w.heap.size, args := #[] }], W1, { target := .fn (.func gf) lb, args := #[.func (.yield (w.heap.size + 1)) #[] #[]] }, W1, gf,
    #[.func (.yield (w.heap.size + 1)) #[] #[]] ++ lb, W1, ?_, ?_, ?_, ?_, fun _ => h1, ?_⟩
  · rw [← hW1, hrec]; exact run_enterLoop_outer _ _ _ _ _
  · simp only [resolve, hg]
    simp [go_sem]
  · intro f' hf'; simp [Target.leads] at hf'; subst hf'; exact hFg
  · simp [invoke, go_sem, eg]
  · have hnw : ∀ {A : World} {row : Option Nat}, (∀ r, row = some r → Bx r ∨ (W1.heap.size ≤ r ∧ ∃ o : Obj, A.heap[r]? = some o ∧ o.isWalk = true)) → (∀ r, row = some r → Bx r ∨ (w.heap.size ≤ r ∧ ∃ o : Obj, A.heap[r]? = some o ∧ o.isCells = false)) :=
      fun hr r e => by
        rcases hr r e with hb | ⟨hB, o, ho, hw⟩
        · exact .inl hb
        · exact .inr ⟨by omega, o, ho, Obj.not_cells_of_walk hw⟩
    refine (hseq (w.heap.size + 1)
      (fun pre W => I pre W ∧ W.heap[w.heap.size + 1]? = some (.loop (rec .ready none)) ∧ W.heap[w.heap.size]? = some (.deferred (some [])))
      (fun pre W => ∃ c, Ix c pre W ∧ W.heap[w.heap.size + 1]? = some (.loop (rec .done (some c))) ∧ W.heap[w.heap.size]? = some (.deferred (some [])))
      W1 hb1
      (fun s A B row hs hg' hr => ⟨hI s A B row hs.1 hg' (hnw hr), (keeps_at hg' hr hs.2.1 rfl hnl).trans hs.2.1, (keeps_at hg' hr hs.2.2 rfl hnk).trans hs.2.2⟩)
      (fun s A B row hs hg' hr => by
        obtain ⟨c, hc, hl, hk⟩ := hs
        exact ⟨c, hIx c s A B row hc hg' (hnw hr), (keeps_at hg' hr hl rfl hnl).trans hl, (keeps_at hg' hr hk rfl hnk).trans hk⟩)
      ?_ ⟨hI1, hL1, hK1⟩).mono ?_
    · rintro pre x W ⟨hi, hl, hk⟩ hlen
      have hlt : w.heap.size + 1 < W.heap.size := (Array.getElem?_eq_some_iff.1 hl).1
      have hy := run_yield (P := P) (args := encs x) hl (by rw [hrec]; exact hps x)
      rw [hrec] at hy
      refine ⟨fn, _, assign, body, hy, roundIn_of_wpIn hfn (hround _ pre x W _ hlen fun a₁ hbody => ⟨_, run_beginRound hl (by rw [hrec]), ?_⟩)⟩
      have hl2 : (W.putObj (w.heap.size + 1) (.loop { rec .ready none with state := .busy })).heap[w.heap.size + 1]? = some (.loop { rec .ready none with state := .busy }) := World.putObj_heap_same hlt
      have hk2 : (W.putObj (w.heap.size + 1) (.loop { rec .ready none with state := .busy })).heap[w.heap.size]? = some (.deferred (some [])) := (World.putObj_heap_other (by omega)).trans hk
      have hw2 : Kp W (W.putObj (w.heap.size + 1) (.loop { rec .ready none with state := .busy })) := hKb _ _ _ _ (by omega) hl rfl rfl
      refine wpIn_mono (hbody _ (hI.putObj _ hi (by omega) hl rfl)) ?_
      have fin : ∀ (jump : Option Code) (W3 : World), KeepsOthers (W.putObj (w.heap.size + 1) (.loop { rec .ready none with state := .busy })) W3 →
          (Instr.endRound (w.heap.size + 1) jump).run P W3 = .ok (.bool jump.isNone) (W3.putObj (w.heap.size + 1) (.loop (rec (if jump.isNone then .ready else .done) jump))) ∧
          W3.heap[w.heap.size + 1]? = some (.loop { rec .ready none with state := .busy }) ∧
          (W3.putObj (w.heap.size + 1) (.loop (rec (if jump.isNone then .ready else .done) jump))).heap[w.heap.size + 1]? = some (.loop (rec (if jump.isNone then .ready else .done) jump)) ∧
          (W3.putObj (w.heap.size + 1) (.loop (rec (if jump.isNone then .ready else .done) jump))).heap[w.heap.size]? = some (.deferred (some [])) := fun jump W3 hk3 => by
        have hl3 := hk3.same _ _ hl2 rfl
        have := run_endRound (P := P) jump hl3
        rw [hrec] at this ⊢
        exact ⟨this, by rw [hrec] at hl3; exact hl3, World.putObj_heap_same (Array.getElem?_eq_some_iff.1 hl3).1, (World.putObj_heap_other (by omega)).trans (hk3.same _ _ hk2 rfl)⟩
      rintro e a3 W3 hp
      cases e with
      | normal =>
        obtain ⟨hk3, hkp3, hi3⟩ := hp
        obtain ⟨hr, hl3, hl4, hk4⟩ := fin none W3 hk3
        exact ⟨_, _, hr, .inl ⟨rfl, ⟨hI.putObj _ hi3 (by omega) hl3 rfl, hl4, hk4⟩, hKt (hKt hw2 hkp3) (hKb _ _ _ _ (by omega) hl3 rfl rfl)⟩⟩
      | ret =>
        obtain ⟨hk3, hi3⟩ := hp
        obtain ⟨hr, hl3, hl4, hk4⟩ := fin (some .ret) W3 hk3
        exact ⟨_, _, hr, .inr ⟨rfl, .ret, (hIx _).putObj _ hi3 (by omega) hl3 rfl, hl4, hk4⟩⟩
      | exit id =>
        obtain ⟨hk3, hi3⟩ := hp
        obtain ⟨hr, hl3, hl4, hk4⟩ := fin (some (.exit id)) W3 hk3
        exact ⟨_, _, hr, .inr ⟨rfl, .exit id, (hIx _).putObj _ hi3 (by omega) hl3 rfl, hl4, hk4⟩⟩
      | goto t =>
        obtain ⟨hk3, hi3⟩ := hp
        obtain ⟨hr, hl3, hl4, hk4⟩ := fin (some (.goto t)) W3 hk3
        exact ⟨_, _, hr, .inr ⟨rfl, .goto t, (hIx _).putObj _ hi3 (by omega) hl3 rfl, hl4, hk4⟩⟩
      | panic ch => exact hp.elim
      | outgrown => exact hp.elim
    · rintro e W2 ⟨⟨v, rfl⟩, (⟨xs, hS, hi, hl, hk⟩ | ⟨pre, hSp, c, hi, hl, hk⟩)⟩
      · exact ⟨none, _, by have := run_endLoop (P := P) hl (by rw [hrec]; simp); rw [hrec] at this; exact this, hdone _ xs _ (Nat.le_refl _) hS (hI.putObj _ hi (by omega) hl rfl) ((World.putObj_heap_other (by omega)).trans hk)⟩
      · exact ⟨some c, _, by have := run_endLoop (P := P) hl (by rw [hrec]; simp); rw [hrec] at this; exact this, hstop _ c pre _ (Nat.le_refl _) hSp ((hIx c).putObj _ hi (by omega) hl rfl) ((World.putObj_heap_other (by omega)).trans hk)⟩

end Go.Proofs.YtapimpmpjighmaaDoor

namespace Go.Proofs.YtapimpmpjighmaaDoor
open Go Go.RowKit Go.Shelf
set_option maxRecDepth 100000
attribute [local go_sem] Oper.semAt_some

theorem index_byte : ∀ l : List UInt8, Lib.index l [46] = Lib.indexByte l 46
  | [] => rfl
  | b :: l => by
    rw [index_cons, Lib.indexByte]
    by_cases h : b = 46
    · simp [h]
    · rw [index_byte l]; simp [h]

theorem parts_miss (s : ByteArray) (h : Lib.indexByte s.data.toList 46 = -1) : parts s = [s] :=
  Lib.splitB_miss _ _ _ _ (by rw [← index_byte] at h; exact h)
theorem parts_hit (s : ByteArray) (i : Nat) (h : Lib.indexByte s.data.toList 46 = (i : Int)) : parts s = s.extract 0 i :: parts (s.extract (i + 1) s.size) := by
  rw [← index_byte] at h
  have hB : Lib.indexB s ⟨#[46]⟩ = (i : Int) := h
  unfold parts
  rw [Lib.countB_hit s ⟨#[46]⟩ i (by decide) hB, Nat.add_comm 1, Lib.splitB_hit _ _ _ _ i hB]
  rfl

theorem grownBy_setCell (w : World) (p : Addr) (u : Value) : w.grownBy (w.setCell p u) (some p.block) :=
  ⟨rfl, rfl, rfl, by simp [World.setCell], fun k _ hne => Below.heap_setCell _ _ _ _ (fun e => hne (by rw [e]))⟩

/-- What a round leaves alone: these blocks. -/
def KpAt (Rd : Nat → Prop) (W W' : World) : Prop := ∀ r, Rd r → W'.heap[r]? = W.heap[r]?
theorem KpAt.refl (Rd : Nat → Prop) (W : World) : KpAt Rd W W := fun _ _ => rfl
theorem KpAt.trans {Rd : Nat → Prop} {A B C : World} (h : KpAt Rd A B) (k : KpAt Rd B C) : KpAt Rd A C := fun r hr => (k r hr).trans (h r hr)
theorem KpAt.putObj {Rd : Nat → Prop} {B : Nat} (hR : ∀ r, Rd r → r < B) (W : World) (l : Nat) (o' : Obj) (hl : B ≤ l) : KpAt Rd W (W.putObj l o') :=
  fun r hr => World.putObj_heap_other (by have := hR r hr; omega)
theorem KpAt.alloc {Rd : Nat → Prop} {W W' : World} (h : KpAt Rd W W') {B : Nat} (hR : ∀ r, Rd r → r < B) (hB : B ≤ W'.heap.size) (o : Obj) : KpAt Rd W (W'.alloc o) :=
  fun r hr => (Below.heap_alloc _ _ _ (by have := hR r hr; omega)).trans (h r hr)
theorem KpAt.setCell {Rd : Nat → Prop} {W W' : World} (h : KpAt Rd W W') {q : Addr} (hq : ¬ Rd q.block) (u : Value) : KpAt Rd W (W'.setCell q u) :=
  fun r hr => (Below.heap_setCell _ _ _ _ (fun e => hq (e ▸ hr))).trans (h r hr)
theorem KpAt.cell {Rd : Nat → Prop} {W W' : World} (h : KpAt Rd W W') {p : Addr} (hp : Rd p.block) : W'.cell? p = W.cell? p := World.cell?_of_block (h _ hp)
theorem KpAt.frozen {Rd : Nat → Prop} {W W' : World} (h : KpAt Rd W W') {p : Addr} (hp : Rd p.block) : W'.frozen? p = W.frozen? p := World.frozen?_of_block (h _ hp)

theorem indexByte_cases (t : ByteArray) : Lib.indexByte t.data.toList 46 = -1 ∨ ∃ i : Nat, Lib.indexByte t.data.toList 46 = (i : Int) ∧ i < t.size := by
  rw [← index_byte]
  rcases Lib.indexB_cases t ⟨#[46]⟩ with h | ⟨i, h, hl⟩
  · exact .inl h
  · exact .inr ⟨i, h, by have : (⟨#[46]⟩ : ByteArray).size = 1 := rfl; omega⟩

def textAt (bs : Nat) (w : World) : Nat := match w.cell? ⟨bs, 0, none⟩ with | some (.string s) => s.size | _ => 0

/-- The iterator between two rounds. -/
def SeqRel (s : ByteArray) (bsep bs bsave : Nat) (J : List ByteArray → World → Prop) (wr : World) : Prop :=
  ∃ (pre : List ByteArray) (t : ByteArray), parts s = pre ++ parts t ∧ t.size ≤ s.size ∧ wr.cell? ⟨bs, 0, none⟩ = some (.string t) ∧ wr.frozen? ⟨bs, 0, none⟩ = false ∧
    wr.cell? ⟨bsep, 0, none⟩ = some (.string ⟨#[46]⟩) ∧ wr.cell? ⟨bsave, 0, none⟩ = some (.int .i64 0) ∧ J pre wr

set_option maxHeartbeats 1000000 in
theorem splitSeq1_in (n : Nat) (hn : 1 ≤ n) (l bsep bs bsave : Nat) (s : ByteArray) (hsz : s.size ≤ 4294967296) (J Jx : List ByteArray → World → Prop) (W : World)
    (hne1 : bs ≠ bsep) (hne2 : bs ≠ bsave)
    (hJ : AbidesAt (fun r => r = bs) W.heap.size J)
    (hY : ∀ pre x W1, J pre W1 → pre.length < (parts s).length → YieldAt Fence.wide (n - 1) Tryd.prog l #[.string x] W1 fun e W' =>
      (e = .returned (.bool true) ∧ J (pre ++ [x]) W' ∧ KpAt (fun r => r = bs ∨ r = bsep ∨ r = bsave) W1 W') ∨ (e = .returned (.bool false) ∧ Jx (pre ++ [x]) W'))
    (hc1 : W.cell? ⟨bs, 0, none⟩ = some (.string s)) (hf1 : W.frozen? ⟨bs, 0, none⟩ = false) (hc2 : W.cell? ⟨bsep, 0, none⟩ = some (.string ⟨#[46]⟩)) (hc3 : W.cell? ⟨bsave, 0, none⟩ = some (.int .i64 0)) (h0 : J [] W) :
    CallsIn Fence.wide n Tryd.prog 156 #[.func (.yield l) #[] #[], .pointer (some ⟨bsep, 0, none⟩), .pointer (some ⟨bs, 0, none⟩), .pointer (some ⟨bsave, 0, none⟩)] W fun e W' =>
      (∃ v, e = .returned v) ∧ ((∃ xs, xs = parts s ∧ J xs W') ∨ (∃ pre, pre <+: parts s ∧ Jx pre W')) := by
  have HY := Lib.hid hY; clear hY
  have HJ := Lib.hid hJ; clear hJ
  have H1 := Lib.hid hne1; clear hne1
  have H2 := Lib.hid hne2; clear hne2
  refine callsIn_of_wp Tryd.func156 rfl trivial ?_ rfl
  simp only [Tryd.ntmps156, List.size_toArray, List.length_cons, List.length_nil, Nat.reduceAdd, Nat.reduceSub, Array.replicate_succ, Array.replicate_zero, List.push_toArray, List.append_toArray, List.nil_append, List.cons_append]
  gi_wp2
  gi_loopw [7] (fun _ wr => SeqRel s bsep bs bsave J wr) (fun _ wr => textAt bs wr)
  case atStart => exact ⟨[], s, rfl, Nat.le_refl _, hc1, hf1, hc2, hc3, h0⟩
  case round =>
    obtain ⟨pre, t, hp, ht, hd1, hg1, hd2, hd3, hJs⟩ := hrel
    have HP := Lib.hid hp; clear hp
    have HJs := Lib.hid hJs; clear hJs
    rcases indexByte_cases t with hm | ⟨i, hi, hlt⟩
    · have hlen : pre.length < (parts s).length := by rw [HP.out, parts_miss t hm]; simp
      obtain ⟨fn, tmps, assign, body, hy, hR⟩ := HY.out pre t wr HJs.out hlen
      have HI := Lib.hid hm; clear hm
      gi_wp2_with (refine ⟨trivial, ?_⟩; gi_at_call 155; refine (callsIn_wide.2 (Tryd.strings_Index_one t 46 _)).mono ?_; rw [HI.out]; rintro e w' ⟨rfl, rfl⟩)
      refine hR.mono ?_
      rintro e W3 (⟨rfl, hJ3, hk3⟩ | ⟨rfl, hJx3⟩)
      · gi_wp2
        go_end0
        exact ⟨⟨_, rfl⟩, .inl ⟨pre ++ [t], by rw [HP.out, parts_miss t HI.out], hJ3⟩⟩
      · gi_wp2
        go_end0
        exact ⟨⟨_, rfl⟩, .inr ⟨pre ++ [t], by rw [HP.out, parts_miss t HI.out]; exact List.prefix_rfl, hJx3⟩⟩
    · have hlen : pre.length < (parts s).length := by rw [HP.out, parts_hit t i hi]; simp
      obtain ⟨fn, tmps, assign, body, hy, hR⟩ := HY.out pre (t.extract 0 i) wr HJs.out hlen
      have HI := Lib.hid hi; clear hi
      gi_wp2_with (refine ⟨trivial, ?_⟩; gi_at_call 155; refine (callsIn_wide.2 (Tryd.strings_Index_one t 46 _)).mono ?_; rw [HI.out]; rintro e w' ⟨rfl, rfl⟩)
      refine hR.mono ?_
      rintro e W3 (⟨rfl, hJ3, hk3⟩ | ⟨rfl, hJx3⟩)
      · have e1 : W3.cell? ⟨bs, 0, none⟩ = some (.string t) := (hk3.cell (p := ⟨bs, 0, none⟩) (.inl rfl)).trans hd1
        have e2 : W3.frozen? ⟨bs, 0, none⟩ = false := (hk3.frozen (p := ⟨bs, 0, none⟩) (.inl rfl)).trans hg1
        have e3 : W3.cell? ⟨bsep, 0, none⟩ = some (.string ⟨#[46]⟩) := (hk3.cell (p := ⟨bsep, 0, none⟩) (.inr (.inl rfl))).trans hd2
        have e4 : W3.cell? ⟨bsave, 0, none⟩ = some (.int .i64 0) := (hk3.cell (p := ⟨bsave, 0, none⟩) (.inr (.inr rfl))).trans hd3
        have HK3 := Lib.hid hk3; clear hk3
        have HJ3 := Lib.hid hJ3; clear hJ3
        gi_wp2
        go_roundw
        case rel =>
          refine ⟨pre ++ [t.extract 0 i], t.extract (i + 1) t.size, by rw [HP.out, parts_hit t i HI.out]; simp, by simp; omega, World.cell?_setCell_same' _ _ _ (by rw [e1]; rfl), by rw [World.frozen?_setCell]; exact e2, ?_, ?_, ?_⟩
          · rw [World.cell?_setCell_other _ _ _ _ (fun h => H1.out (congrArg Addr.block h))]; exact e3
          · rw [World.cell?_setCell_other _ _ _ _ (fun h => H2.out (congrArg Addr.block h))]; exact e4
          · exact HJ.out _ _ _ (some bs) HJ3.out (grownBy_setCell _ _ _) (fun r e => .inl (by cases e; rfl))
        case measure =>
          have m1 : textAt bs w' = t.size := by simp [textAt, hd1]
          have m2 : textAt bs (W3.setCell ⟨bs, 0, none⟩ (.string (t.extract (i + 1) t.size))) = (t.extract (i + 1) t.size).size := by
            have := World.cell?_setCell_same' W3 ⟨bs, 0, none⟩ (.string (t.extract (i + 1) t.size)) (by rw [e1]; rfl)
            simp [textAt, this]
          rw [m1, m2]
          simp
          omega
      · gi_wp2
        refine bodyPost_ret (results_none rfl _ _ _) rfl ?_
        exact ⟨⟨_, rfl⟩, .inr ⟨pre ++ [t.extract 0 i], ⟨parts (t.extract (i + 1) t.size), by rw [HP.out, parts_hit t i HI.out]; simp⟩, hJx3⟩⟩

theorem splitSeq_stops (n : Nat) (hn : 1 ≤ n) (bsep bs bsave : Nat) (s : ByteArray) (hsz : s.size ≤ 4294967296) (w : World) (hne1 : bs ≠ bsep) (hne2 : bs ≠ bsave) (h1 : bs < w.heap.size) (h2 : bsep < w.heap.size) (h3 : bsave < w.heap.size)
    (hc1 : w.cell? ⟨bs, 0, none⟩ = some (.string s)) (hf1 : w.frozen? ⟨bs, 0, none⟩ = false) (hc2 : w.cell? ⟨bsep, 0, none⟩ = some (.string ⟨#[46]⟩)) (hc3 : w.cell? ⟨bsave, 0, none⟩ = some (.int .i64 0)) :
    SeqBox Fence.wide n Tryd.prog 156 #[.pointer (some ⟨bsep, 0, none⟩), .pointer (some ⟨bs, 0, none⟩), .pointer (some ⟨bsave, 0, none⟩)] (fun x : ByteArray => #[.string x])
      (fun r => r = bs) (KpAt fun r => r = bs ∨ r = bsep ∨ r = bsave) (fun xs => xs = parts s) (fun pre => pre <+: parts s) (parts s).length w :=
  fun l J Jx W hW hJ _ hY h0 =>
    splitSeq1_in n hn l bsep bs bsave s hsz J Jx W hne1 hne2 hJ hY ((hW.cell (p := ⟨bs, 0, none⟩) h1).trans hc1) ((hW.frozen (p := ⟨bs, 0, none⟩) h1).trans hf1) ((hW.cell (p := ⟨bsep, 0, none⟩) h2).trans hc2) ((hW.cell (p := ⟨bsave, 0, none⟩) h3).trans hc3) h0

set_option maxHeartbeats 400000 in
theorem SplitSeq_any (s sep : ByteArray) (w : World) :
    Calls Tryd.prog 128 #[.string s, .string sep] w fun e w' => ∃ bs bsep bsave, e = .returned (.func (.func 156) #[] #[.pointer (some ⟨bsep, 0, none⟩), .pointer (some ⟨bs, 0, none⟩), .pointer (some ⟨bsave, 0, none⟩)]) ∧
      bs ≠ bsep ∧ bs ≠ bsave ∧ w.heap.size ≤ bs ∧ bs < w'.heap.size ∧ bsep < w'.heap.size ∧ bsave < w'.heap.size ∧ w.heap.size ≤ bsep ∧ w.heap.size ≤ bsave ∧
      w'.cell? ⟨bs, 0, none⟩ = some (.string s) ∧ w'.frozen? ⟨bs, 0, none⟩ = false ∧ w'.cell? ⟨bsep, 0, none⟩ = some (.string sep) ∧ w'.cell? ⟨bsave, 0, none⟩ = some (.int .i64 0) ∧ Below w.heap.size w w' := by
  have hmf : ∀ (fn : Fn) (first cap : Array Value) (w : World), (Instr.makeFunc fn first cap).run Tryd.prog w = .ok (.func fn first cap) w := fun _ _ _ _ => rfl
  go_enter Tryd.func128, Tryd.ntmps128
  go_wp2
  go_ret
  have q0 : Bk (((w.alloc (.cells #[.string s] 9)).alloc (.cells #[.string sep] 9)).alloc (.cells #[.int .i64 0] 3)) w.heap.size 9 #[.string s] := ((Bk.new w _ _).alloc _).alloc _
  have q1 : Bk (((w.alloc (.cells #[.string s] 9)).alloc (.cells #[.string sep] 9)).alloc (.cells #[.int .i64 0] 3)) (w.heap.size + 1) 9 #[.string sep] := (Bk.new_at _ _ _ (by simp)).alloc _
  have q2 : Bk (((w.alloc (.cells #[.string s] 9)).alloc (.cells #[.string sep] 9)).alloc (.cells #[.int .i64 0] 3)) (w.heap.size + 2) 3 #[.int .i64 0] := Bk.new_at _ _ _ (by simp)
  exact ⟨w.heap.size, w.heap.size + 1, w.heap.size + 2, rfl, by omega, by omega, Nat.le_refl _, q0.lt, q1.lt, q2.lt, by omega, by omega, q0.cell 0, q0.frozen 0, q1.cell 0, q2.cell 0,
    (((Below.refl _ w).alloc (Nat.le_refl _) _).alloc (by simp) _).alloc (by simp; omega) _⟩
end Go.Proofs.YtapimpmpjighmaaDoor
