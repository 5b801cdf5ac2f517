/-
  Walk of the reference's PlanFrom.
-/
import Derived.Test.YtapimpmpjighmaaDoorWireH
import Derived.Test.YtapimpmpjighmaaDoorWireE
import Derived.Test.YtapimpmpjighmaaDoorPlanR
namespace Go.Proofs.YtapimpmpjighmaaDoor
open Go.RowKit
set_option maxRecDepth 100000

def postE (s : ByteArray) : PostD × ByteArray := (⟨(textE s).1, ((byteE (textE s).2).1 : Int)⟩, (byteE (textE s).2).2)
def queueE (s : ByteArray) : QueueD × ByteArray := (⟨(textE s).1, ((byteE (textE s).2).1 : Int), ((byteE (byteE (textE s).2).2).1 : Int) - 1⟩, (byteE (byteE (textE s).2).2).2)
def bindE (s : ByteArray) : BindD × ByteArray := (⟨((byteE s).1 : Int), decide ((byteE (byteE s).2).1 = 1), ((byteE (byteE (byteE s).2).2).1 : Int), (textE (byteE (byteE (byteE s).2).2).2).1⟩, (textE (byteE (byteE (byteE s).2).2).2).2)
def iterE {α : Type} (f : ByteArray → α × ByteArray) : Nat → ByteArray → List α × ByteArray
  | 0, s => ([], s)
  | n + 1, s => ((f s).1 :: (iterE f n (f s).2).1, (iterE f n (f s).2).2)
def listE {α : Type} (f : ByteArray → α × ByteArray) (s : ByteArray) : List α × ByteArray := iterE f (byteE s).1 (byteE s).2
def planE (s : ByteArray) : PlanD := ⟨(listE postE s).1, (listE queueE (listE postE s).2).1, (listE bindE (listE queueE (listE postE s).2).2).1⟩
theorem beq_one (n : Nat) : ((n : Int) == 1) = decide (n = 1) := by rw [Bool.eq_iff_iff]; simp; omega
theorem byteE_le (s : ByteArray) : (byteE s).1 ≤ 255 := by
  unfold byteE
  split
  · rename_i h
    have := (s[0]).toNat_lt
    show (s[0]).toNat ≤ 255; omega
  · show (0 : Nat) ≤ 255; omega
theorem iterE_next {α : Type} {f : ByteArray → α × ByteArray} {N m : Nat} {s0 sj : ByteArray} {done : List α} (h : iterE f N s0 = (done ++ (iterE f (m + 1) sj).1, (iterE f (m + 1) sj).2)) : iterE f N s0 = ((done ++ [(f sj).1]) ++ (iterE f m (f sj).2).1, (iterE f m (f sj).2).2) := by
  rw [h]; simp [iterE]

/-- Blocks from lo to hi are as they were. -/
def Between (lo hi : Nat) (W W' : World) : Prop := ∀ k, lo ≤ k → k < hi → W'.heap[k]? = W.heap[k]?
theorem Between.refl (lo hi : Nat) (W : World) : Between lo hi W W := fun _ _ _ => rfl
theorem Between.trans {lo hi : Nat} {a b c : World} (h : Between lo hi a b) (k : Between lo hi b c) : Between lo hi a c := fun i h1 h2 => (k i h1 h2).trans (h i h1 h2)
theorem Between.mono_hi {lo hi hi2 : Nat} {W W' : World} (hb : Between lo hi W W') (h : hi2 ≤ hi) : Between lo hi2 W W' := fun k h1 h2 => hb k h1 (by omega)
theorem Between.sl {lo hi : Nat} {W W' : World} {a : Option Addr} {us : List Value} (hb : Between lo hi W W') (h : Sl W lo hi a us) : Sl W' lo hi a us := by
  rcases h with h | ⟨b, o, rfl, h1, h2, hc⟩
  · exact .inl h
  · exact .inr ⟨b, o, rfl, h1, h2, fun j u hu => (World.cell?_of_block (hb b h1 h2)).trans (hc j u hu)⟩

/-- Where PlanFrom stands: its result's variable, the ear, its plan; the row that grows, from block b on; what lay there before. -/
structure FrAt (w X : World) (v0 v1 v2 : Value) (s : ByteArray) (b : Nat) (ty : TypeId) (size n : Nat) (v : Value) (us : List Value) (Xb : World) : Prop where
  res : Bk X w.heap.size 26 #[.slice none 0 0, .slice none 0 0, .slice none 0 0]
  ear : EarAt X (w.heap.size + 1) s
  plan : Bk X (w.heap.size + 1 + 1) 26 #[v0, v1, v2]
  row : X.ownsRow b ty size v n us
  below : Below w.heap.size w X
  old : Between (w.heap.size + 3) b Xb X
  lo : w.heap.size + 3 ≤ b
  hi : b ≤ X.heap.size
section
variable {w X Y : World} {v0 v1 v2 v : Value} {s r : ByteArray} {b size n : Nat} {ty : TypeId} {us : List Value} {Xb : World}
theorem FrAt.read (h : FrAt w X v0 v1 v2 s b ty size n v us Xb) (hg : X.grownBy Y (some (w.heap.size + 1))) (he : EarAt Y (w.heap.size + 1) r) : FrAt w Y v0 v1 v2 r b ty size n v us Xb :=
  have hlo := h.lo
  ⟨h.res.grown hg (by simp), he, h.plan.grown hg (by simp), h.row.kept hg (gw_ne h.row (by omega)), h.below.grown hg h.below.size (fun k hk => by cases hk; omega), h.old.trans (fun k h1 h2 => hg.block k (by have := h.hi; omega) (by simp; omega)), h.lo, Nat.le_trans h.hi hg.size⟩
theorem FrAt.alloc (h : FrAt w X v0 v1 v2 s b ty size n v us Xb) (o : Obj) : FrAt w (X.alloc o) v0 v1 v2 s b ty size n v us Xb :=
  ⟨h.res.alloc o, Bk.alloc h.ear o, h.plan.alloc o, h.row.alloc o, h.below.alloc h.below.size o, h.old.trans (fun k _ h2 => Below.heap_alloc X o k (by have := h.hi; omega)), h.lo, by have := h.hi; simp; omega⟩
theorem FrAt.later (h : FrAt w X v0 v1 v2 s b ty size n v us Xb) (hb : Below X.heap.size X Y) : FrAt w Y v0 v1 v2 s b ty size n v us Xb :=
  ⟨h.res.below hb h.res.lt, Bk.below h.ear hb (Bk.lt h.ear), h.plan.below hb h.plan.lt, own_below h.row hb, h.below.trans (hb.mono h.below.size), h.old.trans (fun k _ h2 => hb.block k (by have := h.hi; omega)), h.lo, Nat.le_trans h.hi hb.size⟩
/-- A store into a block of another's, behind the row's base, that is no block of the row. -/
theorem FrAt.put (h : FrAt w X v0 v1 v2 s b ty size n v us Xb) {k : Nat} {t : TypeId} {cs : Array Value} (hk : Bk X k t cs) (hb : b ≤ k) (hne : v.ownBlock ≠ some k) (i : Nat) (u : Value) : FrAt w (X.setCell ⟨k, i, none⟩ u) v0 v1 v2 s b ty size n v us Xb :=
  have hlo := h.lo
  ⟨h.res.far (p := ⟨k, i, none⟩) (by show w.heap.size ≠ k; omega) u, Bk.far h.ear (p := ⟨k, i, none⟩) (by show w.heap.size + 1 ≠ k; omega) u, h.plan.far (p := ⟨k, i, none⟩) (by show w.heap.size + 1 + 1 ≠ k; omega) u, h.row.kept (gw_set X k i u) (.inr hne), h.below.setCell (p := ⟨k, i, none⟩) (by show w.heap.size ≤ k; omega) u,
    h.old.trans (fun j h1 h2 => Below.heap_setCell X ⟨k, i, none⟩ u j (by show j ≠ k; omega)), h.lo, by have := h.hi; simpa [World.setCell] using this⟩
/-- The row has grown; it is stored in the plan's field. -/
theorem FrAt.grow {n2 : Nat} {v' : Value} {us2 : List Value} (h : FrAt w X v0 v1 v2 s b ty size n v us Xb) (hown : Y.ownsRow b ty size v' n2 us2) (hg : X.grownBy Y v.ownBlock) : FrAt w Y v0 v1 v2 s b ty size n2 v' us2 Xb :=
  have hlo := h.lo
  have hlt := fun k (e : v.ownBlock = some k) => (h.row.lt k e).1
  ⟨h.res.grown hg (fun e => by have := hlt _ e.symm; omega), Bk.grown h.ear hg (fun e => by have := hlt _ e.symm; omega), h.plan.grown hg (fun e => by have := hlt _ e.symm; omega), hown, h.below.grown hg h.below.size (fun k hk => by have := hlt k hk; omega), h.old.trans (fun k h1 h2 => hg.block k (by have := h.hi; omega) (fun e => by have := hlt _ e.symm; omega)), h.lo, Nat.le_trans h.hi hg.size⟩
theorem FrAt.set (h : FrAt w X v0 v1 v2 s b ty size n v us Xb) (i : Nat) (u : Value) {u0 u1 u2 : Value} (hu : (#[v0, v1, v2] : Array Value).setIfInBounds i u = #[u0, u1, u2]) : FrAt w (X.setCell ⟨w.heap.size + 1 + 1, i, none⟩ u) u0 u1 u2 s b ty size n v us Xb :=
  have hlo := h.lo
  ⟨h.res.far (p := ⟨w.heap.size + 1 + 1, i, none⟩) (by show w.heap.size ≠ w.heap.size + 1 + 1; omega) u, Bk.far h.ear (p := ⟨w.heap.size + 1 + 1, i, none⟩) (by show w.heap.size + 1 ≠ w.heap.size + 1 + 1; omega) u, hu ▸ h.plan.set_ i u, h.row.kept (gw_set X _ i u) (gw_ne h.row (by omega)), h.below.setCell (p := ⟨w.heap.size + 1 + 1, i, none⟩) (by show w.heap.size ≤ w.heap.size + 1 + 1; omega) u,
    h.old.trans (fun j h1 h2 => Below.heap_setCell X ⟨w.heap.size + 1 + 1, i, none⟩ u j (by show j ≠ w.heap.size + 1 + 1; omega)), h.lo, by have := h.hi; simpa [World.setCell] using this⟩
end

def FRel {α : Type} (f : ByteArray → α × ByteArray) (vx : α → List Value) (ty : TypeId) (size : Nat) (w : World) (V : Value → Array Value) (b : Nat) (Xb : World) (N : Nat) (s0 : ByteArray) (i : Value) (wr : World) : Prop :=
  ∃ (m : Nat) (done : List α) (sj : ByteArray) (v v0 v1 v2 : Value), m ≤ N ∧ i = .int .i64 m ∧ done.length = N - m ∧ iterE f N s0 = (done ++ (iterE f m sj).1, (iterE f m sj).2) ∧ V v = #[v0, v1, v2] ∧ FrAt w wr v0 v1 v2 sj b ty size done.length v (done.flatMap vx) Xb

theorem FrAt.next {w X : World} {v0 v1 v2 v : Value} {s : ByteArray} {b size n size2 : Nat} {ty ty2 : TypeId} {us : List Value} {Xb : World} (h : FrAt w X v0 v1 v2 s b ty size n v us Xb) : FrAt w X v0 v1 v2 s X.heap.size ty2 size2 0 (.slice none 0 0) [] X :=
  ⟨h.res, h.ear, h.plan, World.ownsRow_nil _ _ _ _, h.below, Between.refl _ _ _, Nat.le_trans h.lo h.hi, Nat.le_refl _⟩
theorem FrAt.sl {w X : World} {v0 v1 v2 : Value} {s : ByteArray} {b size n c : Nat} {a : Option Addr} {ty : TypeId} {us : List Value} {Xb : World} (h : FrAt w X v0 v1 v2 s b ty size n (.slice a n c) us Xb) : Sl X (w.heap.size + 3) X.heap.size a us := (Sl.of_own h.row).wider h.lo (Nat.le_refl _)
theorem FrAt.facts {w X : World} {v0 v1 v2 v : Value} {s : ByteArray} {b size n : Nat} {ty : TypeId} {us : List Value} {Xb : World} (h : FrAt w X v0 v1 v2 s b ty size n v us Xb) : (X.cell? ⟨w.heap.size + 1 + 1, 0, none⟩ = some v0 ∧ X.cell? ⟨w.heap.size + 1 + 1, 1, none⟩ = some v1 ∧ X.cell? ⟨w.heap.size + 1 + 1, 2, none⟩ = some v2) ∧
    (X.frozen? ⟨w.heap.size + 1 + 1, 0, none⟩ = false ∧ X.frozen? ⟨w.heap.size + 1 + 1, 1, none⟩ = false ∧ X.frozen? ⟨w.heap.size + 1 + 1, 2, none⟩ = false) ∧ w.heap.size + 1 + 1 < X.heap.size :=
  ⟨⟨h.plan.cell 0, h.plan.cell 1, h.plan.cell 2⟩, ⟨h.plan.frozen 0, h.plan.frozen 1, h.plan.frozen 2⟩, h.plan.lt⟩

theorem textE_small (s : ByteArray) : (textE s).1.size ≤ 255 := by
  unfold textE
  have := byteE_le s
  show ((byteE s).2.extract 0 (min (byteE s).1 (byteE s).2.size)).size ≤ 255
  rw [ByteArray.size_extract]; omega
theorem iterE_small {α : Type} {f : ByteArray → α × ByteArray} {P : α → Prop} (hf : ∀ s, P (f s).1) : ∀ (n : Nat) (s : ByteArray), (iterE f n s).1.length = n ∧ ∀ x ∈ (iterE f n s).1, P x
  | 0, s => ⟨rfl, fun x hx => by cases hx⟩
  | n + 1, s => by
    obtain ⟨h1, h2⟩ := iterE_small hf n (f s).2
    refine ⟨by simp [iterE, h1], fun x hx => ?_⟩
    simp only [iterE, List.mem_cons] at hx
    rcases hx with rfl | hx
    · exact hf s
    · exact h2 x hx
theorem listE_small {α : Type} {f : ByteArray → α × ByteArray} {P : α → Prop} (hf : ∀ s, P (f s).1) (s : ByteArray) : (listE f s).1.length ≤ 1048576 ∧ ∀ x ∈ (listE f s).1, P x := by
  have h := iterE_small hf (byteE s).1 (byteE s).2
  have e := byteE_le s
  unfold listE
  exact ⟨by omega, h.2⟩
theorem postE_small (t : ByteArray) : (postE t).1.name.size ≤ 1048576 := by
  have := textE_small t
  have e : (postE t).1.name = (textE t).1 := rfl
  rw [e]; omega
theorem queueE_small (t : ByteArray) : (queueE t).1.name.size ≤ 1048576 := by
  have := textE_small t
  have e : (queueE t).1.name = (textE t).1 := rfl
  rw [e]; omega
theorem bindE_small (t : ByteArray) : (bindE t).1.pattern.size ≤ 1048576 := by
  have := textE_small (byteE (byteE (byteE t).2).2).2
  have e : (bindE t).1.pattern = (textE (byteE (byteE (byteE t).2).2).2).1 := rfl
  rw [e]; omega
theorem planE_small (s : ByteArray) : PlanSmall (planE s) := by
  have h1 := listE_small (P := fun x : PostD => x.name.size ≤ 1048576) postE_small s
  have h2 := listE_small (P := fun x : QueueD => x.name.size ≤ 1048576) queueE_small (listE postE s).2
  have h3 := listE_small (P := fun x : BindD => x.pattern.size ≤ 1048576) bindE_small (listE queueE (listE postE s).2).2
  unfold planE
  generalize listE postE s = x at *
  generalize listE queueE x.2 = y at *
  generalize listE bindE y.2 = z at *
  exact ⟨h1.1, h2.1, h3.1, h1.2, h2.2, h3.2⟩
/-- What PlanBytes promises. -/
def BytesSays : Prop := ∀ (p : PlanD) (a1 a2 a3 : Option Addr) (c1 c2 c3 : Nat) (W : World), PlanAt W 0 W.heap.size a1 a2 a3 p → PlanSmall p → checkP p = 0 → Calls Tryd.prog 13 #[planV p a1 a2 a3 c1 c2 c3] W fun e w' => e = .returned (.string (writeS p)) ∧ Below W.heap.size W w'
theorem FrAt.res_facts {w X : World} {v0 v1 v2 v : Value} {s : ByteArray} {b size n : Nat} {ty : TypeId} {us : List Value} {Xb : World} (h : FrAt w X v0 v1 v2 s b ty size n v us Xb) : (X.cell? ⟨w.heap.size, 0, none⟩ = some (.slice none 0 0) ∧ X.cell? ⟨w.heap.size, 1, none⟩ = some (.slice none 0 0) ∧ X.cell? ⟨w.heap.size, 2, none⟩ = some (.slice none 0 0)) ∧
    (X.frozen? ⟨w.heap.size, 0, none⟩ = false ∧ X.frozen? ⟨w.heap.size, 1, none⟩ = false ∧ X.frozen? ⟨w.heap.size, 2, none⟩ = false) ∧ w.heap.size < X.heap.size :=
  ⟨⟨h.res.cell 0, h.res.cell 1, h.res.cell 2⟩, ⟨h.res.frozen 0, h.res.frozen 1, h.res.frozen 2⟩, h.res.lt⟩
theorem below_set3 {B : Nat} {w X : World} (h : Below B w X) (u0 u1 u2 : Value) : Below B w (((X.setCell ⟨B, 0, none⟩ u0).setCell ⟨B, 1, none⟩ u1).setCell ⟨B, 2, none⟩ u2) :=
  ((h.setCell (p := ⟨B, 0, none⟩) (Nat.le_refl _) u0).setCell (p := ⟨B, 1, none⟩) (Nat.le_refl _) u1).setCell (p := ⟨B, 2, none⟩) (Nat.le_refl _) u2
theorem slw3 {W : World} {B hi : Nat} {a : Option Addr} {us : List Value} (h : Sl W (B + 3) hi a us) (u0 u1 u2 : Value) : Sl (((W.setCell ⟨B, 0, none⟩ u0).setCell ⟨B, 1, none⟩ u1).setCell ⟨B, 2, none⟩ u2) (B + 3) hi a us :=
  slw_far (slw_far (slw_far h (p := ⟨B, 0, none⟩) (by show B < B + 3; omega) _) (p := ⟨B, 1, none⟩) (by show B < B + 3; omega) _) (p := ⟨B, 2, none⟩) (by show B < B + 3; omega) _

def FromPost (s : ByteArray) (w : World) (e : Ending) (w' : World) : Prop :=
  ∃ a1 a2 a3 c1 c2 c3 q, e = .returned (.tuple #[planV q a1 a2 a3 c1 c2 c3, .bool (decide (checkP (planE s) = 0 ∧ writeS (planE s) = s))]) ∧ q = (if checkP (planE s) = 0 ∧ writeS (planE s) = s then planE s else zeroP) ∧ PlanAt w' w.heap.size w'.heap.size a1 a2 a3 q ∧ PlanSmall q ∧ Below w.heap.size w w'

set_option maxHeartbeats 8000000 in
theorem PlanFrom_walk (hPB : BytesSays) (s : ByteArray) (w : World) :
    Calls Tryd.prog 17 #[.string s] w (FromPost s w) := by
  have HPB := Lib.hid hPB; clear hPB
  go_enter Tryd.func17, Tryd.ntmps17
  go_wp2_with fail
  obtain ⟨W0, hW0⟩ : ∃ W0, (((w.alloc (.cells #[.slice none 0 0, .slice none 0 0, .slice none 0 0] 26)).alloc (.cells #[.string s] 106)).alloc (.cells #[.slice none 0 0, .slice none 0 0, .slice none 0 0] 26)) = W0 := ⟨_, rfl⟩
  have hz0 : W0.heap.size = w.heap.size + 3 := by rw [← hW0]; simp
  have h0 : FrAt w W0 (.slice none 0 0) (.slice none 0 0) (.slice none 0 0) s (w.heap.size + 3) 81 2 0 (.slice none 0 0) [] W0 := by
    rw [← hW0]
    exact ⟨((Bk.new _ _ _).alloc _).alloc _, Bk.alloc (Bk.new_at _ _ _ (by simp)) _, Bk.new_at _ _ _ (by simp), World.ownsRow_nil _ _ _ _, (((Below.refl _ _).alloc (Nat.le_refl _) _).alloc (by simp) _).alloc (by simp; omega) _, Between.refl _ _ _, Nat.le_refl _, by simp⟩
  rw [hW0]
  clear hW0
  have F := Lib.hid h0
  clear h0
  refine (earByte_any (w.heap.size + 1) s W0 F.out.ear).mono ?_
  rintro e wb ⟨rfl, hgr, he⟩
  have G := Lib.hid (F.out.read hgr he)
  have hN := byteE_le s
  have HIT : Hid (listE postE s = iterE postE (byteE s).1 (byteE s).2) := (rfl : listE postE s = _)
  clear hgr he F
  generalize byteE s = nb at *
  obtain ⟨N, s0⟩ := nb
  dsimp only at G hN HIT
  go_wp2_with fail
  go_loopw [6, 7] (fun i _ wr => FRel postE vPost 81 2 w (fun v => #[v, .slice none 0 0, .slice none 0 0]) (w.heap.size + 3) W0 N s0 i wr) (fun i _ _ => (intOf i).toNat)
  case atStart => exact ⟨N, [], s0, .slice none 0 0, _, _, _, Nat.le_refl _, rfl, by simp, by simp, rfl, G.out⟩
  case round =>
    clear G
    obtain ⟨m, done, sj, v, v0, v1, v2, hm, rfl, hd, hit, hV, hF⟩ := hrel
    simp only [Array.mk.injEq, List.cons.injEq, and_true] at hV
    obtain ⟨rfl, rfl, rfl⟩ := hV
    have HF := Lib.hid hF
    have HI := Lib.hid hit
    have HD := Lib.hid hd
    clear hF hit hd
    rcases m with _ | m
    · have hpe := HIT.out.trans HI.out
      simp only [iterE, List.append_nil] at hpe
      obtain ⟨b1, e1, rfl, _⟩ := own_slice HF.out.row
      obtain ⟨L1, hL1⟩ : ∃ L, L = done := ⟨_, rfl⟩
      subst hL1
      obtain ⟨WS1, hWS1⟩ : ∃ W, W = wr := ⟨_, rfl⟩
      subst hWS1
      have HS1 := Lib.hid HF.out.sl
      have F := Lib.hid (HF.out.next (ty2 := 83) (size2 := 3))
      have HW1 : Hid (w.heap.size + 3 ≤ WS1.heap.size) := HF.out.hi
      have HPE1 := Lib.hid hpe
      have HDN1 : Hid (L1.length ≤ 255) := (by have := HD.out; omega : L1.length ≤ 255)
      clear HF HI HD HIT hpe hm
      have hsj : sj = (listE postE s).2 := by rw [HPE1.out]
      subst hsj
      go_wp2_with fail
      refine (earByte_any (w.heap.size + 1) (listE postE s).2 WS1 F.out.ear).mono ?_
      rintro e wb ⟨rfl, hgr, he⟩
      have G := Lib.hid (F.out.read hgr he)
      have hN := byteE_le (listE postE s).2
      have HIT : Hid (listE queueE (listE postE s).2 = iterE queueE (byteE (listE postE s).2).1 (byteE (listE postE s).2).2) := (rfl : listE queueE (listE postE s).2 = _)
      clear hgr he F
      generalize byteE (listE postE s).2 = nb at *
      obtain ⟨N, s0⟩ := nb
      dsimp only at G hN HIT
      go_wp2_with fail
      go_loopw [8, 9] (fun i _ wr => FRel queueE vQueue 83 3 w (fun v => #[.slice b1 L1.length e1, v, .slice none 0 0]) WS1.heap.size WS1 N s0 i wr) (fun i _ _ => (intOf i).toNat)
      case atStart => exact ⟨N, [], s0, .slice none 0 0, _, _, _, Nat.le_refl _, rfl, by simp, by simp, rfl, G.out⟩
      case round =>
        clear G
        obtain ⟨m, done, sj, v, v0, v1, v2, hm, rfl, hd, hit, hV, hF⟩ := hrel
        simp only [Array.mk.injEq, List.cons.injEq, and_true] at hV
        obtain ⟨rfl, rfl, rfl⟩ := hV
        have HF := Lib.hid hF
        have HI := Lib.hid hit
        have HD := Lib.hid hd
        clear hF hit hd
        rcases m with _ | m
        · have hpe := HIT.out.trans HI.out
          simp only [iterE, List.append_nil] at hpe
          obtain ⟨b2, e2, rfl, _⟩ := own_slice HF.out.row
          obtain ⟨L2, hL2⟩ : ∃ L, L = done := ⟨_, rfl⟩
          subst hL2
          obtain ⟨WS2, hWS2⟩ : ∃ W, W = wr := ⟨_, rfl⟩
          subst hWS2
          have HS2 := Lib.hid HF.out.sl
          have HS1 := Lib.hid (HF.out.old.sl HS1.out)
          have F := Lib.hid (HF.out.next (ty2 := 64) (size2 := 4))
          have HW2 : Hid (WS1.heap.size ≤ WS2.heap.size) := HF.out.hi
          have HPE2 := Lib.hid hpe
          have HDN2 : Hid (L2.length ≤ 255) := (by have := HD.out; omega : L2.length ≤ 255)
          clear HF HI HD HIT hpe hm
          have hsj : sj = (listE queueE (listE postE s).2).2 := by rw [HPE2.out]
          subst hsj
          go_wp2_with fail
          refine (earByte_any (w.heap.size + 1) (listE queueE (listE postE s).2).2 WS2 F.out.ear).mono ?_
          rintro e wb ⟨rfl, hgr, he⟩
          have G := Lib.hid (F.out.read hgr he)
          have hN := byteE_le (listE queueE (listE postE s).2).2
          have HIT : Hid (listE bindE (listE queueE (listE postE s).2).2 = iterE bindE (byteE (listE queueE (listE postE s).2).2).1 (byteE (listE queueE (listE postE s).2).2).2) := (rfl : listE bindE (listE queueE (listE postE s).2).2 = _)
          clear hgr he F
          generalize byteE (listE queueE (listE postE s).2).2 = nb at *
          obtain ⟨N, s0⟩ := nb
          dsimp only at G hN HIT
          go_wp2_with fail
          go_loopw [10, 11] (fun i _ wr => FRel bindE vBind 64 4 w (fun v => #[.slice b1 L1.length e1, .slice b2 L2.length e2, v]) WS2.heap.size WS2 N s0 i wr) (fun i _ _ => (intOf i).toNat)
          case atStart => exact ⟨N, [], s0, .slice none 0 0, _, _, _, Nat.le_refl _, rfl, by simp, by simp, rfl, G.out⟩
          case round =>
            clear G
            obtain ⟨m, done, sj, v, v0, v1, v2, hm, rfl, hd, hit, hV, hF⟩ := hrel
            simp only [Array.mk.injEq, List.cons.injEq, and_true] at hV
            obtain ⟨rfl, rfl, rfl⟩ := hV
            have HF := Lib.hid hF
            have HI := Lib.hid hit
            have HD := Lib.hid hd
            clear hF hit hd
            rcases m with _ | m
            · have hpe := HIT.out.trans HI.out
              simp only [iterE, List.append_nil] at hpe
              obtain ⟨b3, e3, rfl, _⟩ := own_slice HF.out.row
              obtain ⟨L3, hL3⟩ : ∃ L, L = done := ⟨_, rfl⟩
              subst hL3
              obtain ⟨WS3, hWS3⟩ : ∃ W, W = wr := ⟨_, rfl⟩
              subst hWS3
              have HS3 := Lib.hid HF.out.sl
              have HS1 := Lib.hid ((HF.out.old.mono_hi HW2.out).sl HS1.out)
              have HS2 := Lib.hid (HF.out.old.sl HS2.out)
              have F := Lib.hid (HF.out.next (ty2 := 81) (size2 := 2))
              have HW3 : Hid (WS2.heap.size ≤ WS3.heap.size) := HF.out.hi
              have HPE3 := Lib.hid hpe
              have HDN3 : Hid (L3.length ≤ 255) := (by have := HD.out; omega : L3.length ≤ 255)
              clear HF HI HD HIT hpe hm
              have hsj : sj = (listE bindE (listE queueE (listE postE s).2).2).2 := by rw [HPE3.out]
              subst hsj
              have F3 := F
              have HPL : Hid (planE s = ⟨L1, L2, L3⟩) := by
                refine (?_ : planE s = ⟨L1, L2, L3⟩)
                unfold planE
                rw [HPE1.out, HPE2.out, HPE3.out]
              have hpsm := planE_small s
              rw [HPL.out] at hpsm
              have HPS := Lib.hid hpsm
              have HWW : Hid (WS1.heap.size ≤ WS3.heap.size ∧ WS2.heap.size ≤ WS3.heap.size) := (⟨Nat.le_trans HW2.out HW3.out, HW3.out⟩ : _ ∧ _)
              have hdead : ∀ X, (∃ b' ty' size' n' v' us' Xb', FrAt w X (.slice b1 L1.length e1) (.slice b2 L2.length e2) (.slice b3 L3.length e3) (listE bindE (listE queueE (listE postE s).2).2).2 b' ty' size' n' v' us' Xb') → (decide (checkP (planE s) = 0 ∧ writeS (planE s) = s)) = false → FromPost s w (.returned (.tuple #[planV zeroP none none none 0 0 0, .bool false])) (((X.setCell ⟨w.heap.size, 0, none⟩ (.slice none 0 0)).setCell ⟨w.heap.size, 1, none⟩ (.slice none 0 0)).setCell ⟨w.heap.size, 2, none⟩ (.slice none 0 0)) := by
                rintro X ⟨b', ty', size', n', v', us', Xb', hF⟩ hno
                refine ⟨none, none, none, 0, 0, 0, zeroP, by rw [hno], ?_, ⟨Sl.nil _ _ _ _, Sl.nil _ _ _ _, Sl.nil _ _ _ _⟩, zeroP_small, below_set3 hF.below _ _ _⟩
                rw [if_neg (of_decide_eq_false hno)]
              have HDEAD := Lib.hid hdead
              obtain ⟨⟨pc0, pc1, pc2⟩, ⟨pf0, pf1, pf2⟩, plt⟩ := F.out.facts
              clear hpsm hdead
              go_wp2_with fail
              clear pc0 pc1 pc2 pf0 pf1 pf2 plt
              refine (CheckPlan_any ⟨L1, L2, L3⟩ b1 b2 b3 e1 e2 e3 0 WS3 ⟨HS1.out.wider (Nat.zero_le _) HWW.out.1, HS2.out.wider (Nat.zero_le _) HWW.out.2, HS3.out.wider (Nat.zero_le _) (Nat.le_refl _)⟩ HPS.out).mono ?_
              rintro e WC ⟨rfl, hbc⟩
              have FC := Lib.hid (F.out.later hbc)
              have HBC := Lib.hid hbc
              clear hbc
              obtain ⟨⟨pc0, pc1, pc2⟩, ⟨pf0, pf1, pf2⟩, plt⟩ := FC.out.facts
              obtain ⟨⟨rc0, rc1, rc2⟩, ⟨rf0, rf1, rf2⟩, rlt⟩ := FC.out.res_facts
              by_cases hc : checkP ⟨L1, L2, L3⟩ = 0
              · have HC := Lib.hid hc
                rw [hc]
                clear hc
                go_wp2_with fail
                have hpat : PlanAt WC 0 WC.heap.size b1 b2 b3 ⟨L1, L2, L3⟩ := ⟨(HS1.out.below HBC.out HWW.out.1).wider (Nat.zero_le _) (Nat.le_trans HWW.out.1 HBC.out.size), (HS2.out.below HBC.out HWW.out.2).wider (Nat.zero_le _) (Nat.le_trans HWW.out.2 HBC.out.size), (HS3.out.below HBC.out (Nat.le_refl _)).wider (Nat.zero_le _) HBC.out.size⟩
                refine (HPB.out ⟨L1, L2, L3⟩ b1 b2 b3 e1 e2 e3 WC hpat HPS.out HC.out).mono ?_
                clear hpat pc0 pc1 pc2 pf0 pf1 pf2 plt rc0 rc1 rc2 rf0 rf1 rf2 rlt
                rintro e WD ⟨rfl, hbd⟩
                have FD := Lib.hid (FC.out.later hbd)
                have HBD := Lib.hid (HBC.out.trans (hbd.mono HBC.out.size))
                clear hbd
                obtain ⟨⟨pc0, pc1, pc2⟩, ⟨pf0, pf1, pf2⟩, plt⟩ := FD.out.facts
                obtain ⟨⟨rc0, rc1, rc2⟩, ⟨rf0, rf1, rf2⟩, rlt⟩ := FD.out.res_facts
                by_cases hs : writeS ⟨L1, L2, L3⟩ = s
                · have HYES : Hid ((decide (checkP (planE s) = 0 ∧ writeS (planE s) = s)) = true) := (by rw [HPL.out]; exact decide_eq_true ⟨HC.out, hs⟩ : decide (checkP (planE s) = 0 ∧ writeS (planE s) = s) = true)
                  have hsb : ((writeS ⟨L1, L2, L3⟩).toList == s.toList) = true := by rw [hs]; simp
                  have hsb2 : ((writeS ⟨L1, L2, L3⟩).toList != s.toList) = false := by rw [hs]; simp
                  clear hs
                  generalize writeS ⟨L1, L2, L3⟩ = ws at *
                  go_wp2_with fail
                  refine bodyPost_ret (v := .tuple #[planV ⟨L1, L2, L3⟩ b1 b2 b3 e1 e2 e3, .bool true]) (by simp [results, Tryd.results17, go_sem, planV, rc0, rc1, rc2, rlt]) rfl ⟨b1, b2, b3, e1, e2, e3, ⟨L1, L2, L3⟩, by rw [HYES.out], ?_, ⟨?_, ?_, ?_⟩, HPS.out, below_set3 FD.out.below _ _ _⟩
                  · rw [if_pos (of_decide_eq_true HYES.out), HPL.out]
                  · exact (slw3 (HS1.out.below HBD.out HWW.out.1) _ _ _).wider (by omega) (by have := HWW.out.1; have := HBD.out.size; simp [World.setCell]; omega)
                  · exact (slw3 (HS2.out.below HBD.out HWW.out.2) _ _ _).wider (by omega) (by have := HWW.out.2; have := HBD.out.size; simp [World.setCell]; omega)
                  · exact (slw3 (HS3.out.below HBD.out (Nat.le_refl _)) _ _ _).wider (by omega) (by have := HBD.out.size; simp [World.setCell]; omega)
                · have HNO : Hid ((decide (checkP (planE s) = 0 ∧ writeS (planE s) = s)) = false) := (by rw [HPL.out]; exact decide_eq_false (fun h => hs h.2) : decide (checkP (planE s) = 0 ∧ writeS (planE s) = s) = false)
                  have hne : (writeS ⟨L1, L2, L3⟩).toList ≠ s.toList := fun e => hs (toList_inj e)
                  have hsb : ((writeS ⟨L1, L2, L3⟩).toList == s.toList) = false := by simpa using hne
                  have hsb2 : ((writeS ⟨L1, L2, L3⟩).toList != s.toList) = true := by simpa using hne
                  clear hs hne
                  generalize writeS ⟨L1, L2, L3⟩ = ws at *
                  go_wp2_with fail
                  exact bodyPost_ret (v := .tuple #[planV zeroP none none none 0 0 0, .bool false]) (by simp [results, Tryd.results17, go_sem, planV, zeroP, rc0, rc1, rc2, rlt]) rfl (HDEAD.out _ ⟨_, _, _, _, _, _, _, FD.out⟩ HNO.out)
              · have HNO : Hid ((decide (checkP (planE s) = 0 ∧ writeS (planE s) = s)) = false) := (by rw [HPL.out]; exact decide_eq_false (fun h => hc h.1) : decide (checkP (planE s) = 0 ∧ writeS (planE s) = s) = false)
                have b0 : (checkP ⟨L1, L2, L3⟩ != 0) = true := by simp [hc]
                clear hc
                go_wp2_with fail
                exact bodyPost_ret (v := .tuple #[planV zeroP none none none 0 0 0, .bool false]) (by simp [results, Tryd.results17, go_sem, planV, zeroP, rc0, rc1, rc2, rlt]) rfl (HDEAD.out _ ⟨_, _, _, _, _, _, _, FC.out⟩ HNO.out)
            · have HNX := Lib.hid (iterE_next HI.out)
              go_wp2_with fail
              refine (earByte_any (w.heap.size + 1) sj wr HF.out.ear).mono ?_
              rintro e y1 ⟨rfl, hgr, he⟩
              have Y1 := Lib.hid (HF.out.read hgr he)
              have hsz := hgr.size
              clear hgr he
              have kx := Bk.new y1 64 #[.int .i64 ((byteE sj).1 : Nat), .bool false, .int .i64 0, .string ⟨#[]⟩]
              have Z1 := Lib.hid (Y1.out.alloc (.cells #[.int .i64 ((byteE sj).1 : Nat), .bool false, .int .i64 0, .string ⟨#[]⟩] 64))
              have hzz : (y1.alloc (.cells #[.int .i64 ((byteE sj).1 : Nat), .bool false, .int .i64 0, .string ⟨#[]⟩] 64)).heap.size = y1.heap.size + 1 := by simp
              have hxne : v.ownBlock ≠ some y1.heap.size := fun e => by have := (HF.out.row.lt _ e).2; omega
              have hxb : WS2.heap.size ≤ y1.heap.size := Y1.out.hi
              have hxe : y1.heap.size ≠ w.heap.size + 1 := by have := Y1.out.lo; omega
              go_wp2_with fail
              refine (earByte_any (w.heap.size + 1) (byteE sj).2 (y1.alloc (.cells #[.int .i64 ((byteE sj).1 : Nat), .bool false, .int .i64 0, .string ⟨#[]⟩] 64)) Z1.out.ear).mono ?_
              rintro e y2 ⟨rfl, hgr, he⟩
              have Y2 := Lib.hid (Z1.out.read hgr he)
              have kx2 := kx.grown hgr (by simpa using hxe)
              have hxl2 := kx2.lt
              have g0 : y2.cell? ⟨y1.heap.size, 0, none⟩ = some _ := kx2.cell 0
              have g1 : y2.cell? ⟨y1.heap.size, 1, none⟩ = some _ := kx2.cell 1
              have g2 : y2.cell? ⟨y1.heap.size, 2, none⟩ = some _ := kx2.cell 2
              have g3 : y2.cell? ⟨y1.heap.size, 3, none⟩ = some _ := kx2.cell 3
              have f0 := kx2.frozen 0
              have f1 := kx2.frozen 1
              have f2 := kx2.frozen 2
              have f3 := kx2.frozen 3
              have Z2 := Lib.hid (Y2.out.put kx2 hxb hxne 1 (.bool (((byteE (byteE sj).2).1 : Int) == 1)))
              have kx := kx2.set_ 1 (.bool (((byteE (byteE sj).2).1 : Int) == 1))
              simp only [List.setIfInBounds_toArray, List.set_cons_zero, List.set_cons_succ] at kx
              clear hgr he kx2
              go_wp2_with fail
              refine (earByte_any (w.heap.size + 1) (byteE (byteE sj).2).2 (y2.setCell ⟨y1.heap.size, 1, none⟩ (.bool (((byteE (byteE sj).2).1 : Int) == 1))) Z2.out.ear).mono ?_
              rintro e y3 ⟨rfl, hgr, he⟩
              have Y3 := Lib.hid (Z2.out.read hgr he)
              have kx3 := kx.grown hgr (by simpa using hxe)
              have hxl3 := kx3.lt
              have g0 : y3.cell? ⟨y1.heap.size, 0, none⟩ = some _ := kx3.cell 0
              have g1 : y3.cell? ⟨y1.heap.size, 1, none⟩ = some _ := kx3.cell 1
              have g2 : y3.cell? ⟨y1.heap.size, 2, none⟩ = some _ := kx3.cell 2
              have g3 : y3.cell? ⟨y1.heap.size, 3, none⟩ = some _ := kx3.cell 3
              have f0 := kx3.frozen 0
              have f1 := kx3.frozen 1
              have f2 := kx3.frozen 2
              have f3 := kx3.frozen 3
              have Z3 := Lib.hid (Y3.out.put kx3 hxb hxne 2 (.int .i64 ((byteE (byteE (byteE sj).2).2).1 : Nat)))
              have kx := kx3.set_ 2 (.int .i64 ((byteE (byteE (byteE sj).2).2).1 : Nat))
              simp only [List.setIfInBounds_toArray, List.set_cons_zero, List.set_cons_succ] at kx
              clear hgr he kx3
              go_wp2_with fail
              refine (earText_any (w.heap.size + 1) (byteE (byteE (byteE sj).2).2).2 (y3.setCell ⟨y1.heap.size, 2, none⟩ (.int .i64 ((byteE (byteE (byteE sj).2).2).1 : Nat))) Z3.out.ear).mono ?_
              rintro e y4 ⟨rfl, hgr, he⟩
              have Y4 := Lib.hid (Z3.out.read hgr he)
              have kx4 := kx.grown hgr (by simpa using hxe)
              have hxl4 := kx4.lt
              have g0 : y4.cell? ⟨y1.heap.size, 0, none⟩ = some _ := kx4.cell 0
              have g1 : y4.cell? ⟨y1.heap.size, 1, none⟩ = some _ := kx4.cell 1
              have g2 : y4.cell? ⟨y1.heap.size, 2, none⟩ = some _ := kx4.cell 2
              have g3 : y4.cell? ⟨y1.heap.size, 3, none⟩ = some _ := kx4.cell 3
              have f0 := kx4.frozen 0
              have f1 := kx4.frozen 1
              have f2 := kx4.frozen 2
              have f3 := kx4.frozen 3
              have Z4 := Lib.hid (Y4.out.put kx4 hxb hxne 3 (.string (textE (byteE (byteE (byteE sj).2).2).2).1))
              have kx := kx4.set_ 3 (.string (textE (byteE (byteE (byteE sj).2).2).2).1)
              simp only [List.setIfInBounds_toArray, List.set_cons_zero, List.set_cons_succ] at kx
              clear hgr he kx4
              go_upto_region 23 with fail
              obtain ⟨X3, hX3⟩ : ∃ X3, (y4.setCell ⟨y1.heap.size, 3, none⟩ (.string (textE (byteE (byteE (byteE sj).2).2).2).1)) = X3 := ⟨_, rfl⟩
              rw [hX3] at Z4 kx
              rw [hX3]
              clear hX3 g0 f0 g1 f1 g2 f2 g3 f3
              have ZZ := Z4
              obtain ⟨⟨pc0, pc1, pc2⟩, ⟨pf0, pf1, pf2⟩, plt⟩ := ZZ.out.facts
              have g0 : X3.cell? ⟨y1.heap.size, 0, none⟩ = some _ := kx.cell 0
              have g1 : X3.cell? ⟨y1.heap.size, 1, none⟩ = some _ := kx.cell 1
              have g2 : X3.cell? ⟨y1.heap.size, 2, none⟩ = some _ := kx.cell 2
              have g3 : X3.cell? ⟨y1.heap.size, 3, none⟩ = some _ := kx.cell 3
              have hbase := ZZ.out.hi
              have hdl : done.length ≤ 255 := by have := HD.out; omega
              go_wp2_with (at_builtin; go_loud (refine append1 rfl _ _ 24 rfl WS2.heap.size 64 infoBind Tryd.underlying24 rfl (by decide) (by decide) X3 _ _ _ rfl ZZ.out.row [.int .i64 ((byteE sj).1 : Nat), .bool (((byteE (byteE sj).2).1 : Int) == 1), .int .i64 ((byteE (byteE (byteE sj).2).2).1 : Nat), .string (textE (byteE (byteE (byteE sj).2).2).2).1] rfl rfl rfl (by simp [Value.oneCell']) (by omega) hbase ?_); intro v2 w2 hown2 hgrow; obtain ⟨a2, cp2, rfl, _⟩ := own_slice hown2; have FG := Lib.hid (ZZ.out.grow hown2 hgrow); obtain ⟨⟨qc0, qc1, qc2⟩, ⟨qf0, qf1, qf2⟩, qlt⟩ := FG.out.facts; clear hown2 hgrow)
              have FE := Lib.hid (FG.out.set 2 (.slice a2 (done.length + 1) cp2) rfl)
              exact ⟨⟨m, done ++ [(bindE sj).1], (bindE sj).2, _, _, _, _, by omega, by go_num, by rw [List.length_append, HD.out, List.length_singleton]; omega, HNX.out, rfl, by have h := FE.out; rw [List.length_append, List.flatMap_append]; simpa [vBind, bindE, beq_one] using h⟩, by simp [intOf]⟩
        · have HNX := Lib.hid (iterE_next HI.out)
          go_wp2_with fail
          refine (earText_any (w.heap.size + 1) sj wr HF.out.ear).mono ?_
          rintro e y1 ⟨rfl, hgr, he⟩
          have Y1 := Lib.hid (HF.out.read hgr he)
          have hsz := hgr.size
          clear hgr he
          have kx := Bk.new y1 83 #[.string (textE sj).1, .int .i64 0, .int .i64 0]
          have Z1 := Lib.hid (Y1.out.alloc (.cells #[.string (textE sj).1, .int .i64 0, .int .i64 0] 83))
          have hzz : (y1.alloc (.cells #[.string (textE sj).1, .int .i64 0, .int .i64 0] 83)).heap.size = y1.heap.size + 1 := by simp
          have hxne : v.ownBlock ≠ some y1.heap.size := fun e => by have := (HF.out.row.lt _ e).2; omega
          have hxb : WS1.heap.size ≤ y1.heap.size := Y1.out.hi
          have hxe : y1.heap.size ≠ w.heap.size + 1 := by have := Y1.out.lo; omega
          go_wp2_with fail
          refine (earByte_any (w.heap.size + 1) (textE sj).2 (y1.alloc (.cells #[.string (textE sj).1, .int .i64 0, .int .i64 0] 83)) Z1.out.ear).mono ?_
          rintro e y2 ⟨rfl, hgr, he⟩
          have Y2 := Lib.hid (Z1.out.read hgr he)
          have kx2 := kx.grown hgr (by simpa using hxe)
          have hxl2 := kx2.lt
          have g0 : y2.cell? ⟨y1.heap.size, 0, none⟩ = some _ := kx2.cell 0
          have g1 : y2.cell? ⟨y1.heap.size, 1, none⟩ = some _ := kx2.cell 1
          have g2 : y2.cell? ⟨y1.heap.size, 2, none⟩ = some _ := kx2.cell 2
          have f0 := kx2.frozen 0
          have f1 := kx2.frozen 1
          have f2 := kx2.frozen 2
          have Z2 := Lib.hid (Y2.out.put kx2 hxb hxne 1 (.int .i64 ((byteE (textE sj).2).1 : Nat)))
          have kx := kx2.set_ 1 (.int .i64 ((byteE (textE sj).2).1 : Nat))
          simp only [List.setIfInBounds_toArray, List.set_cons_zero, List.set_cons_succ] at kx
          clear hgr he kx2
          go_wp2_with fail
          refine (earByte_any (w.heap.size + 1) (byteE (textE sj).2).2 (y2.setCell ⟨y1.heap.size, 1, none⟩ (.int .i64 ((byteE (textE sj).2).1 : Nat))) Z2.out.ear).mono ?_
          rintro e y3 ⟨rfl, hgr, he⟩
          have Y3 := Lib.hid (Z2.out.read hgr he)
          have kx3 := kx.grown hgr (by simpa using hxe)
          have hxl3 := kx3.lt
          have g0 : y3.cell? ⟨y1.heap.size, 0, none⟩ = some _ := kx3.cell 0
          have g1 : y3.cell? ⟨y1.heap.size, 1, none⟩ = some _ := kx3.cell 1
          have g2 : y3.cell? ⟨y1.heap.size, 2, none⟩ = some _ := kx3.cell 2
          have f0 := kx3.frozen 0
          have f1 := kx3.frozen 1
          have f2 := kx3.frozen 2
          have Z3 := Lib.hid (Y3.out.put kx3 hxb hxne 2 (.int .i64 (((byteE (byteE (textE sj).2).2).1 : Int) - 1)))
          have kx := kx3.set_ 2 (.int .i64 (((byteE (byteE (textE sj).2).2).1 : Int) - 1))
          simp only [List.setIfInBounds_toArray, List.set_cons_zero, List.set_cons_succ] at kx
          clear hgr he kx3
          have hwd : IntKind.i64.wrap (((byteE (byteE (textE sj).2).2).1 : Int) - 1) = ((byteE (byteE (textE sj).2).2).1 : Int) - 1 := IntWalk.i64_in _ (by have := byteE_le (byteE (textE sj).2).2; omega)
          go_upto_region 15 with fail
          obtain ⟨X3, hX3⟩ : ∃ X3, (y3.setCell ⟨y1.heap.size, 2, none⟩ (.int .i64 (((byteE (byteE (textE sj).2).2).1 : Int) - 1))) = X3 := ⟨_, rfl⟩
          rw [hX3] at Z3 kx
          rw [hX3]
          clear hX3 g0 f0 g1 f1 g2 f2
          have ZZ := Z3
          obtain ⟨⟨pc0, pc1, pc2⟩, ⟨pf0, pf1, pf2⟩, plt⟩ := ZZ.out.facts
          have g0 : X3.cell? ⟨y1.heap.size, 0, none⟩ = some _ := kx.cell 0
          have g1 : X3.cell? ⟨y1.heap.size, 1, none⟩ = some _ := kx.cell 1
          have g2 : X3.cell? ⟨y1.heap.size, 2, none⟩ = some _ := kx.cell 2
          have hbase := ZZ.out.hi
          have hdl : done.length ≤ 255 := by have := HD.out; omega
          go_wp2_with (at_builtin; go_loud (refine append1 rfl _ _ 23 rfl WS1.heap.size 83 infoQueue Tryd.underlying23 rfl (by decide) (by decide) X3 _ _ _ rfl ZZ.out.row [.string (textE sj).1, .int .i64 ((byteE (textE sj).2).1 : Nat), .int .i64 (((byteE (byteE (textE sj).2).2).1 : Int) - 1)] rfl rfl rfl (by simp [Value.oneCell']) (by omega) hbase ?_); intro v2 w2 hown2 hgrow; obtain ⟨a2, cp2, rfl, _⟩ := own_slice hown2; have FG := Lib.hid (ZZ.out.grow hown2 hgrow); obtain ⟨⟨qc0, qc1, qc2⟩, ⟨qf0, qf1, qf2⟩, qlt⟩ := FG.out.facts; clear hown2 hgrow)
          have FE := Lib.hid (FG.out.set 1 (.slice a2 (done.length + 1) cp2) rfl)
          exact ⟨⟨m, done ++ [(queueE sj).1], (queueE sj).2, _, _, _, _, by omega, by go_num, by rw [List.length_append, HD.out, List.length_singleton]; omega, HNX.out, rfl, by have h := FE.out; rw [List.length_append, List.flatMap_append]; simpa [vQueue, queueE, beq_one] using h⟩, by simp [intOf]⟩
    · have HNX := Lib.hid (iterE_next HI.out)
      go_wp2_with fail
      refine (earText_any (w.heap.size + 1) sj wr HF.out.ear).mono ?_
      rintro e y1 ⟨rfl, hgr, he⟩
      have Y1 := Lib.hid (HF.out.read hgr he)
      have hsz := hgr.size
      clear hgr he
      have kx := Bk.new y1 81 #[.string (textE sj).1, .int .i64 0]
      have Z1 := Lib.hid (Y1.out.alloc (.cells #[.string (textE sj).1, .int .i64 0] 81))
      have hzz : (y1.alloc (.cells #[.string (textE sj).1, .int .i64 0] 81)).heap.size = y1.heap.size + 1 := by simp
      have hxne : v.ownBlock ≠ some y1.heap.size := fun e => by have := (HF.out.row.lt _ e).2; omega
      have hxb : (w.heap.size + 3) ≤ y1.heap.size := Y1.out.hi
      have hxe : y1.heap.size ≠ w.heap.size + 1 := by have := Y1.out.lo; omega
      go_wp2_with fail
      refine (earByte_any (w.heap.size + 1) (textE sj).2 (y1.alloc (.cells #[.string (textE sj).1, .int .i64 0] 81)) Z1.out.ear).mono ?_
      rintro e y2 ⟨rfl, hgr, he⟩
      have Y2 := Lib.hid (Z1.out.read hgr he)
      have kx2 := kx.grown hgr (by simpa using hxe)
      have hxl2 := kx2.lt
      have g0 : y2.cell? ⟨y1.heap.size, 0, none⟩ = some _ := kx2.cell 0
      have g1 : y2.cell? ⟨y1.heap.size, 1, none⟩ = some _ := kx2.cell 1
      have f0 := kx2.frozen 0
      have f1 := kx2.frozen 1
      have Z2 := Lib.hid (Y2.out.put kx2 hxb hxne 1 (.int .i64 ((byteE (textE sj).2).1 : Nat)))
      have kx := kx2.set_ 1 (.int .i64 ((byteE (textE sj).2).1 : Nat))
      simp only [List.setIfInBounds_toArray, List.set_cons_zero, List.set_cons_succ] at kx
      clear hgr he kx2
      go_upto_region 8 with fail
      obtain ⟨X3, hX3⟩ : ∃ X3, (y2.setCell ⟨y1.heap.size, 1, none⟩ (.int .i64 ((byteE (textE sj).2).1 : Nat))) = X3 := ⟨_, rfl⟩
      rw [hX3] at Z2 kx
      rw [hX3]
      clear hX3 g0 f0 g1 f1
      have ZZ := Z2
      obtain ⟨⟨pc0, pc1, pc2⟩, ⟨pf0, pf1, pf2⟩, plt⟩ := ZZ.out.facts
      have g0 : X3.cell? ⟨y1.heap.size, 0, none⟩ = some _ := kx.cell 0
      have g1 : X3.cell? ⟨y1.heap.size, 1, none⟩ = some _ := kx.cell 1
      have hbase := ZZ.out.hi
      have hdl : done.length ≤ 255 := by have := HD.out; omega
      go_wp2_with (at_builtin; go_loud (refine append1 rfl _ _ 22 rfl (w.heap.size + 3) 81 infoPost Tryd.underlying22 rfl (by decide) (by decide) X3 _ _ _ rfl ZZ.out.row [.string (textE sj).1, .int .i64 ((byteE (textE sj).2).1 : Nat)] rfl rfl rfl (by simp [Value.oneCell']) (by omega) hbase ?_); intro v2 w2 hown2 hgrow; obtain ⟨a2, cp2, rfl, _⟩ := own_slice hown2; have FG := Lib.hid (ZZ.out.grow hown2 hgrow); obtain ⟨⟨qc0, qc1, qc2⟩, ⟨qf0, qf1, qf2⟩, qlt⟩ := FG.out.facts; clear hown2 hgrow)
      have FE := Lib.hid (FG.out.set 0 (.slice a2 (done.length + 1) cp2) rfl)
      exact ⟨⟨m, done ++ [(postE sj).1], (postE sj).2, _, _, _, _, by omega, by go_num, by rw [List.length_append, HD.out, List.length_singleton]; omega, HNX.out, rfl, by have h := FE.out; rw [List.length_append, List.flatMap_append]; simpa [vPost, postE, beq_one] using h⟩, by simp [intOf]⟩

end Go.Proofs.YtapimpmpjighmaaDoor
