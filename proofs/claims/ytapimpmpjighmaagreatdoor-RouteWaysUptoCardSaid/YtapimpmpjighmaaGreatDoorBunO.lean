/-
  route.posts: the walk.
  route.Of: the walk.
  route.Asked, route.Posts, route.Queues.
  route.Way: what it computes; the roads in memory.
  Parts of a function's code, found by a function; a region that draws its order within a round of a loop.
  The plain law of routes: the posts and the queues to which a key comes. No program in sight.
  The plain law of ways: the way found round by round is the least of the shortest. No program in sight.
-/
import Derived.Test.YtapimpmpjighmaaGreatDoorBunN
import Derived.Deep.RegionHeld3
import Derived.Recover
import Derived.Test.YtapimpmpjighmaaGreatDoorBunF
import Derived.OrdersHeld
import Derived.OrdersIn
import Derived.TacticsIn
set_option linter.unusedSimpArgs false
set_option linter.unusedVariables false
namespace Go.Proofs.YtapimpmpjighmaaGreatDoor
open Go Go.RowKit Go.Shelf Go.Sort
set_option maxRecDepth 100000
attribute [local go_sem] Oper.semAt_some

/-- A region that throws nothing. -/
def RQ0 (Q : Exit → Act → World → Prop) : Exit → Act → World → Prop
  | .panic _, _, _ => False
  | e, a, W => Q e a W
theorem RQ0.normal {Q : Exit → Act → World → Prop} {a : Act} {W : World} (h : Q .normal a W) : RQ0 Q .normal a W := h
theorem region_calm {P : Program} {id : Nat} {ops : Array Oper} {b : Bool} {Q : Exit → Act → World → Prop} {a : Act} {w : World} (h : (Code.region id ops b).wp P (RQ0 Q) a w) : (Code.region id ops b).wp P Q a w :=
  Code.wp_mono (fun e a W h => by cases e <;> first | exact h.elim | exact h) h
theorem PlanAt.keep' {w w' : World} {B : Nat} {a1 a2 a3 : Option Addr} {p : PlanD} (h : PlanAt w 0 B a1 a2 a3 p) (hc : ∀ q : Addr, q.block < B → w'.cell? q = w.cell? q) : PlanAt w' 0 B a1 a2 a3 p := ⟨h.posts.keep hc, h.queues.keep hc, h.binds.keep hc⟩
theorem IntsO.grown' {w w' : World} {base : Nat} {v : Value} {xs : List Int} (h : IntsO w base v xs) (hb : Below w.heap.size w w') : IntsO w' base v xs := by
  refine ⟨h.1, ?_⟩
  rcases h.2 with h1 | ⟨g, cap, cur, h1, h2, h3, h4⟩
  · exact .inl h1
  · exact .inr ⟨g, cap, cur, h1, h2, (hb.block g (Array.getElem?_eq_some_iff.1 h3).1).trans h3, h4⟩
theorem Bk.row {w w' : World} {g : Nat} {t : TypeId} {cs : Array Value} {row : Option Nat} (h : Bk w g t cs) (hg : w.grownBy w' row) (hr : ∀ r, row = some r → ∃ o : Obj, w.heap[r]? = some o ∧ o.isCells = false) : Bk w' g t cs :=
  h.grown hg fun e => by
    obtain ⟨o, ho, hc⟩ := hr g e.symm
    rw [show w.heap[g]? = _ from h] at ho
    cases ho
    cases hc
theorem IntsO.row {w w' : World} {base : Nat} {v : Value} {xs : List Int} {row : Option Nat} (h : IntsO w base v xs) (hg : w.grownBy w' row) (hr : ∀ r, row = some r → ∃ o : Obj, w.heap[r]? = some o ∧ o.isCells = false) : IntsO w' base v xs := by
  refine ⟨h.1, ?_⟩
  rcases h.2 with h1 | ⟨g, cap, cur, h1, h2, h3, h4⟩
  · exact .inl h1
  · refine .inr ⟨g, cap, cur, h1, h2, (hg.block g (Array.getElem?_eq_some_iff.1 h3).1 fun e => ?_).trans h3, h4⟩
    obtain ⟨o, ho, hc⟩ := hr g e.symm
    rw [h3] at ho
    cases ho
    cases hc

theorem onTo_len (p : PlanD) (x : Int) (key : ByteArray) : ∀ j, (onTo p x key j).length ≤ j
  | 0 => by simp [onTo]
  | j + 1 => by
    have := onTo_len p x key j
    rw [onTo]
    split
    · split
      · simp; omega
      · omega
    · omega
theorem onL_len (p : PlanD) (x : Int) (key : ByteArray) : (onL p x key).length ≤ p.binds.length := onTo_len p x key _

/-- A box that holds a slice of one's own, which grows while an iterator reads its own blocks. -/
def Col (base bo bp B1 : Nat) (Rd : Nat → Prop) (w : World) (P : Array Value) (Ds : List Nat) (xs : List Int) (W : World) : Prop :=
  ∃ v, Bk W bp 26 P ∧ Bk W bo 27 #[v] ∧ IntsO W base v xs ∧ (∀ r, v.ownBlock = some r → ¬ Rd r) ∧ Below base w W ∧ MarksOk base W Ds ∧ B1 ≤ W.heap.size
theorem Col.size {base bo bp B1 : Nat} {Rd : Nat → Prop} {w W : World} {P : Array Value} {Ds : List Nat} {xs : List Int} (h : Col base bo bp B1 Rd w P Ds xs W) : B1 ≤ W.heap.size := by
  obtain ⟨v, _, _, _, _, _, _, h⟩ := h
  exact h
theorem col_row {base bo bp B1 : Nat} {Rd : Nat → Prop} {w W W' : World} {P : Array Value} {Ds : List Nat} {xs : List Int} {row : Option Nat} (h : Col base bo bp B1 Rd w P Ds xs W) (hbB : base ≤ B1) (hD : ∀ D ∈ Ds, D < B1) (hg : W.grownBy W' row)
    (hr : ∀ r, row = some r → B1 ≤ r ∧ ∃ o : Obj, W.heap[r]? = some o ∧ o.isCells = false) : Col base bo bp B1 Rd w P Ds xs W' := by
  obtain ⟨v, h1, h2, h3, h4, h5, h6, h7⟩ := h
  refine ⟨v, h1.row hg fun r e => (hr r e).2, h2.row hg fun r e => (hr r e).2, h3.row hg fun r e => (hr r e).2, h4, h5.grown hg (by omega) (fun r e => Nat.le_trans hbB (hr r e).1), h6.grown hg fun D hD' e => by have := (hr D e.symm).1; have := hD D hD'; omega, Nat.le_trans h7 hg.size⟩
theorem col_own {α : Type} {base bo bp B1 : Nat} {Rd : Nat → Prop} {w : World} {P : Array Value} {Ds : List Nat} (hbB : base ≤ B1) (hD : ∀ D ∈ Ds, D < B1) (f : α → List Int) : OwnFrom B1 (fun s W => Col base bo bp B1 Rd w P Ds (f s) W) :=
  fun s W W' row h hg hr => col_row h hbB hD hg hr
theorem Col.alloc {base bo bp B1 : Nat} {Rd : Nat → Prop} {w W : World} {P : Array Value} {Ds : List Nat} {xs : List Int} (h : Col base bo bp B1 Rd w P Ds xs W) (hbB : base ≤ B1) (o : Obj) : Col base bo bp B1 Rd w P Ds xs (W.alloc o) := by
  obtain ⟨v, h1, h2, h3, h4, h5, h6, h7⟩ := h
  exact ⟨v, h1.alloc o, h2.alloc o, World.ownsRow.alloc h3 o, h4, h5.alloc (by omega) o, h6.below ((Below.refl _ W).alloc (Nat.le_refl _) o) (Nat.le_refl _), by simp; omega⟩

theorem infoInt : (Tryz.prog.info? 3).map (fun i => (i.zero, i.size, i.bytes)) = some (some (.int .i64 0), 1, 8) := by kernel_rfl
/-- append of one element that has just been laid in a block of its own; where the row lies behind it. -/
theorem append1_in {P : Program} {F : Fence} {nF : Nat} {ops : Array Oper} {rest : List Oper} {o : Oper} {a : Act} {W : World} {Q : Exit → Act → World → Prop} (hgd : o.guard = none) (s x : Operand) (t : TypeId)
    (ho : o.op = .call { callee := .builtin .append, args := #[s, x], argTypes := #[t, t] })
    (base : Nat) (e : TypeId) {z : Value} {size bytes : Nat} (hinfo : (P.info? e).map (fun i => (i.zero, i.size, i.bytes)) = some (some z, size, bytes)) (ht : P.underlying t = some (.slice e)) (hzs : z.cells.size = size) (hsz : 0 < size) (hb : bytes ≤ 4096)
    (w : World) (v : Value) (n : Nat) (us : List Value) (hs : a.eval s = v) (hown : w.ownsRow base e size v n us)
    (news : List Value) (hW : W = w.alloc (.cells news.toArray e)) (hx : a.eval x = .slice (some ⟨w.heap.size, 0, none⟩) 1 1) (hl : news.length = size) (h1 : ∀ u ∈ news, u.oneCell' = true) (hn : n < 4294967296) (hbase : base ≤ w.heap.size)
    (h : ∀ v' w', w'.ownsRow base e size v' (n + 1) (us ++ news) → w.grownBy w' v.ownBlock → (v'.ownBlock = v.ownBlock ∨ v'.ownBlock = some (w.heap.size + 1)) → wpListIn F nF P ops Q rest (a.put o.dst v') w') : wpListIn F nF P ops Q (o :: rest) a W := by
  subst hW
  obtain ⟨i, hi, hz0, hz1, hz2⟩ := info_parts hinfo
  refine wpListIn_append_own_at _ hgd s x t ho base e i z size bytes ht hi hz0 hz1 hz2 hzs hsz v n us hs (hown.alloc _) ⟨w.heap.size, 0, none⟩ 1 1 news hx (by simpa using hl) (fun j u hu => ?_) h1 (by unfold maxLen; omega) ?_ (by simp; omega) (fun v' w' h2 h3 _ h4 => h v' w' h2 (grownBy_of_alloc h3) (by simpa using h4))
  · have : ((⟨w.heap.size, 0, none⟩ : Addr).add j) = ⟨w.heap.size, j, none⟩ := by
      unfold Addr.add
      split
      · simp_all
      · simp
    rw [this, World.cell?_alloc_at _ _ _ _ rfl]
    simpa using hu
  · have : (n + 1) * bytes ≤ 4294967296 * 4096 := Nat.mul_le_mul (by omega) hb
    omega

theorem IntsO.ne {W : World} {base g : Nat} {t : TypeId} {cs : Array Value} {v : Value} {xs : List Int} (h : IntsO W base v xs) (hb : Bk W g t cs) (ht : t ≠ 3) : some g ≠ v.ownBlock := by
  rcases h.2 with ⟨rfl, _⟩ | ⟨g2, cap, cur, rfl, _, h3, _⟩
  · simp [Value.ownBlock]
  · intro e
    obtain rfl : g = g2 := by simpa [Value.ownBlock] using e
    have := (show W.heap[g]? = _ from hb).symm.trans h3
    simp at this
    exact ht this.2
theorem IntsO.cellsAt {W : World} {base : Nat} {v : Value} {xs : List Int} (h : IntsO W base v xs) (r : Nat) (hr : v.ownBlock = some r) : ∃ o : Obj, W.heap[r]? = some o ∧ o.isCells = true := by
  rcases h.2 with ⟨rfl, _⟩ | ⟨g2, cap, cur, rfl, _, h3, _⟩
  · simp [Value.ownBlock] at hr
  · obtain rfl : g2 = r := by simpa [Value.ownBlock] using hr
    exact ⟨_, h3, rfl⟩
theorem Col.app {base bo bp B1 : Nat} {Rd : Nat → Prop} {w W w1 : World} {P : Array Value} {Ds : List Nat} {xs : List Int} {v v' : Value} {x : Int}
    (h1 : Bk W bp 26 P) (h2 : Bk W bo 27 #[v]) (h3 : IntsO W base v xs) (h4 : ∀ r, v.ownBlock = some r → ¬ Rd r) (h5 : Below base w W) (h6 : MarksOk base W Ds) (h7 : B1 ≤ W.heap.size)
    (hRd : ∀ r, Rd r → r < B1) (hbo : ¬ Rd bo) (hbb : base ≤ bo) (hbp : bp ≠ bo) (hBb : base ≤ B1)
    (g1 : IntsO w1 base v' (xs ++ [x])) (g2 : W.grownBy w1 v.ownBlock) (g3 : v'.ownBlock = v.ownBlock ∨ v'.ownBlock = some (W.heap.size + 1)) :
    Bk w1 bo 27 #[v] ∧ Col base bo bp B1 Rd w P Ds (xs ++ [x]) (w1.setCell ⟨bo, 0, none⟩ v') ∧ KeepsFrom B1 W (w1.setCell ⟨bo, 0, none⟩ v') ∧ KpS Rd W (w1.setCell ⟨bo, 0, none⟩ v') := by
  have b2 : Bk w1 bo 27 #[v] := h2.grown g2 (h3.ne h2 (by decide))
  have b1 : Bk w1 bp 26 P := h1.grown g2 (h3.ne h1 (by decide))
  have hset : w1.grownBy (w1.setCell ⟨bo, 0, none⟩ v') (some bo) := grownBy_setCell' w1 bo v'
  refine ⟨b2, ⟨v', b1.grown hset (by simpa using hbp), ?_, ?_, ?_, ?_, ?_, ?_⟩, ?_, ?_, ?_⟩
  · exact b2.set_ 0 v'
  · exact World.ownsRow.kept g1 hset (.inr fun e => g1.ne b2 (by decide) e.symm)
  · intro r hr hrd
    rcases g3 with e | e
    · exact h4 r (e ▸ hr) hrd
    · rw [e] at hr
      cases hr
      have := hRd _ hrd
      omega
  · exact (below_own h3 g2 h5 (Nat.le_refl _) (by omega)).setCell (p := ⟨bo, 0, none⟩) hbb v'
  · refine (h6.grown g2 fun D hD e => ?_).grown hset fun D hD e => ?_
    · obtain ⟨o, ho, hc⟩ := h3.cellsAt D e.symm
      rw [(h6.2 D hD).2] at ho
      cases ho
      cases hc
    · cases e
      have := (h6.2 _ hD).2
      rw [show W.heap[bo]? = _ from h2] at this
      cases this
  · have := g2.size
    have := hset.size
    omega
  · refine ((KeepsOthers.of_grownBy g2 fun j o ej hj => ?_).trans (KeepsOthers.setCell _ _ _)).from _
    obtain ⟨o', ho, hc⟩ := h3.cellsAt j ej
    rw [hj] at ho
    cases ho
    exact hc
  · intro r hrd
    have hlt := hRd r hrd
    have e1 : w1.heap[r]? = W.heap[r]? := g2.block r (by omega) fun e => h4 r e.symm hrd
    exact (hset.block r (by have := g2.size; omega) (fun e => hbo (by cases e; exact hrd))).trans e1
  · exact Nat.le_trans g2.size hset.size

theorem outAt_pos (p : PlanD) (k : Int) (key : ByteArray) : ∀ j, 0 < (outAt p k key j).length
  | 0 => by simp [outAt]
  | j + 1 => by
    have h := outAt_pos p k key j
    rw [outAt]
    split
    · have := (gather_len (outAt p k key j) (onL p (by assumption) key)).2
      omega
    · exact h

/-- The state at the head of the loop. -/
def PRel (p : PlanD) (k : Nat) (key : ByteArray) (P : Array Value) (w : World) (i : Value) (ds : List Deferred) (wr : World) : Prop :=
  ∃ (j : Nat) (v : Value) (Ds : List Nat), i = .int .i64 (j : Int) ∧ ds = Ds.map mark ∧ j ≤ (outAt p k key j).length ∧
    Bk wr w.heap.size 26 P ∧ Bk wr (w.heap.size + 1 + 1) 27 #[v] ∧ IntsO wr w.heap.size v (outAt p k key j) ∧ Below w.heap.size w wr ∧ MarksOk w.heap.size wr Ds

set_option maxHeartbeats 2000000 in
theorem posts_any (p : PlanD) (k : Nat) (key : ByteArray) (a1 a2 a3 : Option Addr) (c1 c2 c3 B0 : Nat) (w : World) (hk : k < p.posts.length) (hr : PlanRight p) (hkey : key.size ≤ 1048576) (hps : PlanSmall p)
    (hpl : PlanAt w 0 B0 a1 a2 a3 p) (hv : EnvB B0 w) (hB0 : B0 ≤ w.heap.size) :
    Calls Tryz.prog 24 #[.agg #[.slice a1 p.posts.length c1, .slice a2 p.queues.length c2, .slice a3 p.binds.length c3], .int .i64 (k : Int), .string key] w fun e w' =>
      ∃ v, e = .returned v ∧ IntsO w' w.heap.size v (sortI (outs p k key)) ∧ Below w.heap.size w w' := by
  refine (callsIn_wide (n := 4)).1 ?_
  refine callsIn_of_wp_marks Tryz.func24 rfl trivial ?_ rfl
  simp only [Tryz.ntmps24, List.size_toArray, List.length_cons, List.length_nil, Nat.reduceAdd, Nat.reduceSub, Array.replicate_succ, Array.replicate_zero, List.push_toArray, List.append_toArray, List.nil_append, List.cons_append]
  have HB := Lib.hid (And.intro hpl (And.intro hv hB0))
  have HR := Lib.hid hr
  have HKK := Lib.hid hk
  clear hpl hv hB0 hr hk
  refine wpIn_wide.2 ?_
  go_wp2
  refine wp_loop (fun a' wr => ∃ (u8 u10 u13 u14 u15 u16 u17 u18 u19 u20 u21 u22 u23 u24 u25 u26 u27 u28 u29 u30 u31 u32 u33 u34 u35 u36 u37 u38 u39 u40 u41 : Value) (ds : List Deferred), PRel p k key #[.slice a1 p.posts.length c1, .slice a2 p.queues.length c2, .slice a3 p.binds.length c3] w u8 ds wr ∧ a' = ⟨#[.agg #[.slice a1 p.posts.length c1, .slice a2 p.queues.length c2, .slice a3 p.binds.length c3], .int .i64 (k : Int), .string key, .pointer (some ⟨w.heap.size, 0, none⟩), undef, undef, .slice none 0 0, .pointer (some ⟨w.heap.size + 1 + 1, 0, none⟩), u8, undef, u10, .int .i64 (k : Int), .slice (some ⟨w.heap.size + 1, 0, none⟩) 1 1, u13, u14, u15, u16, u17, u18, u19, u20, u21, u22, u23, u24, u25, u26, u27, u28, u29, u30, u31, u32, u33, u34, u35, u36, u37, u38, u39, u40, u41, undef, undef, undef], ds⟩) (fun a' _ => p.posts.length - (intOf (a'.tmps.getD 8 undef)).toNat) ?_ ?_
  · (repeat apply Exists.intro)
    refine ⟨?_, rfl⟩
    refine ⟨0, _, [], rfl, rfl, Nat.zero_le _, ((Bk.new _ _ _).alloc _).alloc _, Bk.new_at _ _ _ (by simp), ?_, Own3 w _ _ _, MarksOk.nil _ _⟩
    refine ⟨by simp [outAt], .inr ⟨w.heap.size + 1, 1, #[.int .i64 (k : Int)], rfl, by omega, (Bk.new_at _ _ _ (by simp)).alloc _, by simp [outAt], by unfold maxLen; omega, by simp, by simp [outAt]⟩⟩
  · rintro a' wr ⟨_, u10, u13, u14, u15, u16, u17, u18, u19, u20, u21, u22, u23, u24, u25, u26, u27, u28, u29, u30, u31, u32, u33, u34, u35, u36, u37, u38, u39, u40, u41, ds, ⟨j, v, Ds, rfl, rfl, hj, hP, hO, hI, hB, hM⟩, rfl⟩
    have hok := outAt_ok HR.out HKK.out (key := key) j
    have hl := hok.len
    have hp4 := HR.out.posts
    rcases ints_cases hI with ⟨_, h0⟩ | ⟨g, C, rfl⟩
    · have := outAt_pos p k key j
      rw [h0] at this
      simp at this
    have d0 := hP.cell 0
    have d1 := hP.cell 1
    have d2 := hP.cell 2
    have d3 := hO.cell 0
    simp only [List.getElem?_toArray, List.getElem?_cons_zero, List.getElem?_cons_succ] at d0 d1 d2 d3
    by_cases hlt : j < (outAt p k key j).length
    · obtain ⟨x, hx, hxp, hxl⟩ : ∃ x : Nat, (outAt p k key j)[j]? = some (x : Int) ∧ x < p.posts.length ∧ outAt p k key (j + 1) = gather (outAt p k key j) (onL p x key) := by
        have h1 := hok.2 _ (List.getElem_mem hlt)
        refine ⟨((outAt p k key j)[j]).toNat, ?_, by omega, ?_⟩
        · rw [List.getElem?_eq_getElem hlt]; congr 1; omega
        · rw [outAt, List.getElem?_eq_getElem hlt]
          simp only
          congr 2
          omega
      have d4 : wr.cell? ⟨g, j, none⟩ = some (.int .i64 (x : Int)) := by
        rw [(own_cell hI j hlt).1, List.getElem?_map, hx]
        rfl
      have HS := Lib.hid (show wr.cell? ⟨w.heap.size, 0, none⟩ = some (.slice a1 p.posts.length c1) ∧ wr.cell? ⟨w.heap.size, 1, none⟩ = some (.slice a2 p.queues.length c2) ∧ wr.cell? ⟨w.heap.size, 2, none⟩ = some (.slice a3 p.binds.length c3) ∧ wr.cell? ⟨w.heap.size + 1 + 1, 0, none⟩ = some (.slice (some ⟨g, 0, none⟩) (outAt p k key j).length C) ∧ wr.cell? ⟨g, j, none⟩ = some (.int .i64 (x : Int)) from ⟨d0, d1, d2, d3, d4⟩)
      have HF := Lib.hid (And.intro hP (And.intro hO (And.intro hI (And.intro hB hM))))
      have HCUT : Hid (∀ W2, Below wr.heap.size wr W2 → W2.cell? ⟨w.heap.size, 0, none⟩ = some (.slice a1 p.posts.length c1) ∧ W2.cell? ⟨w.heap.size, 1, none⟩ = some (.slice a2 p.queues.length c2) ∧ W2.cell? ⟨w.heap.size, 2, none⟩ = some (.slice a3 p.binds.length c3) ∧ W2.cell? ⟨w.heap.size + 1 + 1, 0, none⟩ = some (.slice (some ⟨g, 0, none⟩) (outAt p k key j).length C) ∧ W2.cell? ⟨g, j, none⟩ = some (.int .i64 (x : Int))) := fun W2 h => by
        have hgl := World.block_lt_of_cell? _ _ d4
        exact ⟨(h.cell (p := ⟨w.heap.size, 0, none⟩) hP.lt).trans d0, (h.cell (p := ⟨w.heap.size, 1, none⟩) hP.lt).trans d1, (h.cell (p := ⟨w.heap.size, 2, none⟩) hP.lt).trans d2, (h.cell (p := ⟨w.heap.size + 1 + 1, 0, none⟩) hO.lt).trans d3, (h.cell (p := ⟨g, j, none⟩) hgl).trans d4⟩
      have HX := Lib.hid hxp
      have HXL := Lib.hid hxl
      have HOK := Lib.hid (And.intro hok (And.intro hl hp4))
      clear hx hxp hxl hok hl hp4 hP hO hI hB hM d4
      go_wp2
      clear d0 d1 d2 d3
      refine region_calm ?_
      refine wp_region_held_drew (S := (fun W => W.cell? ⟨w.heap.size, 0, none⟩ = some (.slice a1 p.posts.length c1) ∧ W.cell? ⟨w.heap.size, 1, none⟩ = some (.slice a2 p.queues.length c2) ∧ W.cell? ⟨w.heap.size, 2, none⟩ = some (.slice a3 p.binds.length c3) ∧ W.cell? ⟨w.heap.size + 1 + 1, 0, none⟩ = some (.slice (some ⟨g, 0, none⟩) (outAt p k key j).length C) ∧ W.cell? ⟨g, j, none⟩ = some (.int .i64 (x : Int)))) (by kernel_rfl) (by exact HS.out) (fun hHeld => ?_)
      first | (refine wpAnyH_take (i := 0) (v := ?_) rfl (by kernel_rfl) (by kernel_rfl) (by kernel_rfl) (fun _ _ _ h => h) (Or.inl ⟨by rfl, ?_⟩) (by assumption) ?_; rotate_left; focus (intro w hSw; (try dsimp only at hSw); go_simp; (all_goals with_reducible rfl); done)) | fail "op 0"
      try simp only [Act.put, List.setIfInBounds_toArray, List.set_cons_zero, List.set_cons_succ, List.getElem_toArray, List.getElem_cons_zero]
      first | (refine wpAnyH_take (i := 1) (v := ?_) rfl (by kernel_rfl) (by kernel_rfl) (by kernel_rfl) (fun _ _ _ h => h) (Or.inl ⟨by rfl, ?_⟩) (by assumption) ?_; rotate_left; focus (intro w hSw; (try dsimp only at hSw); go_simp; (all_goals with_reducible rfl); done)) | fail "op 1"
      try simp only [Act.put, List.setIfInBounds_toArray, List.set_cons_zero, List.set_cons_succ, List.getElem_toArray, List.getElem_cons_zero, List.getElem_cons_succ]
      first | (refine wpAnyH_take (i := 2) (v := ?_) rfl (by kernel_rfl) (by kernel_rfl) (by kernel_rfl) (fun _ _ _ h => h) (Or.inl ⟨by rfl, ?_⟩) (by assumption) ?_; rotate_left; focus (intro w hSw; (try dsimp only at hSw); go_simp; (all_goals with_reducible rfl); done)) | fail "op 2"
      try simp only [Act.put, List.setIfInBounds_toArray, List.set_cons_zero, List.set_cons_succ, List.getElem_toArray, List.getElem_cons_zero, List.getElem_cons_succ]
      first | (refine wpAnyH_take (i := 3) (v := ?_) rfl (by kernel_rfl) (by kernel_rfl) (by kernel_rfl) (fun _ _ _ h => h) (Or.inl ⟨by rfl, ?_⟩) (by assumption) ?_; rotate_left; focus (intro w hSw; (try dsimp only at hSw); go_simp; (all_goals with_reducible rfl); done)) | fail "op 3"
      try simp only [Act.put, List.setIfInBounds_toArray, List.set_cons_zero, List.set_cons_succ, List.getElem_toArray, List.getElem_cons_zero, List.getElem_cons_succ]
      first | (refine wpAnyH_take (i := 4) (v := ?_) rfl (by kernel_rfl) (by kernel_rfl) (by kernel_rfl) (fun _ _ _ h => h) (Or.inl ⟨by rfl, ?_⟩) (by assumption) ?_; rotate_left; focus (intro w hSw; (try dsimp only at hSw); go_simp; (all_goals with_reducible rfl); done)) | fail "op 4"
      try simp only [Act.put, List.setIfInBounds_toArray, List.set_cons_zero, List.set_cons_succ, List.getElem_toArray, List.getElem_cons_zero, List.getElem_cons_succ]
      first | (refine wpAnyH_take (i := 5) (v := ?_) rfl (by kernel_rfl) (by kernel_rfl) (by kernel_rfl) (fun _ _ _ h => h) (Or.inl ⟨by rfl, ?_⟩) (by assumption) ?_; rotate_left; focus (intro w hSw; (try dsimp only at hSw); go_simp; (all_goals with_reducible rfl); done)) | fail "op 5"
      try simp only [Act.put, List.setIfInBounds_toArray, List.set_cons_zero, List.set_cons_succ, List.getElem_toArray, List.getElem_cons_zero, List.getElem_cons_succ]
      refine wpAnyH_ready (rs := [6]) (by kernel_rfl) (by simp) ?_
      refine AllReadyH.cons rfl (fun K hK => ?_) AllReadyH.nil
      go_simp
      go_at_call 32
      (with_reducible refine (on_any _ _ _ _ _ wr.drew ⟨_, rfl⟩).mono ?_)
      rintro e W2 ⟨rfl, n1, n2, n3, hb⟩
      have hb' : Below wr.heap.size wr W2 := ⟨hb.os, hb.tape, hb.output, hb.size, hb.block⟩
      have HN := Lib.hid (And.intro n1 (And.intro n2 (And.intro n3 hb')))
      clear n1 n2 n3 hb hb'
      refine hK.out _ _ (by exact HCUT.out _ HN.out.2.2.2) (fun hHeld => ?_)
      clear hK K
      try simp only [Act.put, List.setIfInBounds_toArray, List.set_cons_zero, List.set_cons_succ, List.getElem_toArray, List.getElem_cons_zero, List.getElem_cons_succ]
      refine wpAnyH_done (by kernel_rfl) ?_ _
      refine RQ0.normal ?_
      go_wp2
      have HN2 : Hid (Bk W2 wr.heap.size 26 #[.slice a1 p.posts.length c1, .slice a2 p.queues.length c2, .slice a3 p.binds.length c3] ∧ Bk W2 (wr.heap.size + 1) 3 #[.int .i64 (x : Int)] ∧ Bk W2 (wr.heap.size + 2) 9 #[.string key] ∧ Below wr.heap.size wr W2) := ⟨HN.out.1, HN.out.2.1, HN.out.2.2.1, HN.out.2.2.2⟩
      clear HN
      obtain ⟨Rd, hRd⟩ : ∃ Rd, Rd = OnRd B0 wr.heap.size (wr.heap.size + 1) (wr.heap.size + 2) := ⟨_, rfl⟩
      have HRd : Hid (∀ r, Rd r → r < W2.heap.size) := by
        intro r h
        have h1 := HN2.out.1.lt
        have h2 := HN2.out.2.1.lt
        have h3 := HN2.out.2.2.1.lt
        have h4 := HN2.out.2.2.2.size
        have h5 := HF.out.2.2.2.1.size
        have h6 := HB.out.2.2
        rw [hRd] at h
        unfold OnRd at h
        omega
      have HOld : Hid (∀ r, w.heap.size ≤ r → r < wr.heap.size → ¬ Rd r) := by
        intro r h1 h2 h
        have h6 := HB.out.2.2
        rw [hRd] at h
        unfold OnRd at h
        omega
      have HST := Lib.hid (on_stops 3 (by decide) p x key a1 a2 a3 c1 c2 c3 B0 wr.heap.size (wr.heap.size + 1) (wr.heap.size + 2) W2 HX.out hps hkey HN2.out.1 HN2.out.2.1 HN2.out.2.2.1
        (PlanAt.keep' HB.out.1 fun q hq => (HF.out.2.2.2.1.trans (HN2.out.2.2.2.mono HF.out.2.2.2.1.size)).cell (p := q) (Nat.lt_of_lt_of_le hq HB.out.2.2))
        (HB.out.2.1.keep fun q hq => (HF.out.2.2.2.1.trans (HN2.out.2.2.2.mono HF.out.2.2.2.1.size)).cell (p := q) (Nat.lt_of_lt_of_le hq HB.out.2.2))
        (Nat.le_trans HB.out.2.2 (Nat.le_trans HF.out.2.2.2.1.size HN2.out.2.2.2.size)))
      rw [← hRd] at HST
      have HC0 : Hid (Col w.heap.size (w.heap.size + 1 + 1) w.heap.size W2.heap.size Rd w #[.slice a1 p.posts.length c1, .slice a2 p.queues.length c2, .slice a3 p.binds.length c3] Ds (gather (outAt p k key j) []) W2) := by
        refine ⟨_, HF.out.1.below HN2.out.2.2.2 HF.out.1.lt, HF.out.2.1.below HN2.out.2.2.2 HF.out.2.1.lt, HF.out.2.2.1.grown' HN2.out.2.2.2, fun r hr => ?_, HF.out.2.2.2.1.trans (HN2.out.2.2.2.mono HF.out.2.2.2.1.size), HF.out.2.2.2.2.below HN2.out.2.2.2 (Nat.le_refl _), Nat.le_refl _⟩
        have := World.ownsRow.lt HF.out.2.2.1 r hr
        exact HOld.out r this.1 this.2
      have HDs : Hid (∀ D ∈ Ds, D < W2.heap.size) := fun D hD => Nat.lt_of_lt_of_le (HF.out.2.2.2.2.lt hD) HN2.out.2.2.2.size
      have HBB : Hid (w.heap.size ≤ W2.heap.size) := Nat.le_trans HF.out.2.2.2.1.size HN2.out.2.2.2.size
      have HBO : Hid (¬ Rd (w.heap.size + 1 + 1) ∧ w.heap.size + 1 + 1 < W2.heap.size) := ⟨HOld.out _ (by omega) HF.out.2.1.lt, Nat.lt_of_lt_of_le HF.out.2.1.lt HN2.out.2.2.2.size⟩
      refine (wpIn_wide (n := 4)).1 ?_
      refine wpIn_rangeFunc_ownH rfl (by decide) (gf := 60) (lb := #[.pointer (some ⟨wr.heap.size, 0, none⟩), .pointer (some ⟨wr.heap.size + 1, 0, none⟩), .pointer (some ⟨wr.heap.size + 2, 0, none⟩)]) rfl trivial (enters_of Tryz.func60 (by kernel_rfl) rfl)
        HST.out (fun h k => KpS.trans h k) (fun W l o o' hl _ _ _ => ⟨KpAt.putObj (B := W2.heap.size) HRd.out W l o' hl, by simp⟩) (Below.refl _ _) (fun _ => rfl)
        (fun pre W => Col w.heap.size (w.heap.size + 1 + 1) w.heap.size W2.heap.size Rd w #[.slice a1 p.posts.length c1, .slice a2 p.queues.length c2, .slice a3 p.binds.length c3] Ds (gather (outAt p k key j) pre) W) (fun _ _ _ => False) (col_own HBB.out HDs.out _) (fun _ _ _ _ _ h _ _ => h) HC0.out
        (fun y a' W => ∃ bb, W2.heap.size ≤ bb ∧ Bk W bb 61 #[.int .i64 y.2.src, .bool y.2.toPost, .int .i64 y.2.to, .string y.2.pattern] ∧ a' = { tmps := #[.agg #[.slice a1 p.posts.length c1, .slice a2 p.queues.length c2, .slice a3 p.binds.length c3], .int .i64 (k : Int), .string key, .pointer (some ⟨w.heap.size, 0, none⟩), undef, undef, .slice none 0 0, .pointer (some ⟨w.heap.size + 1 + 1, 0, none⟩), .int .i64 (j : Int), undef, .pointer (some ⟨bb, 0, none⟩), .int .i64 (k : Int), .slice (some ⟨w.heap.size + 1, 0, none⟩) 1 1, .int .i64 (j : Int), .slice (some ⟨g, 0, none⟩) (outAt p k key j).length C, .int .i64 ((outAt p k key j).length : Int), .bool true, u17, u18, .agg #[.slice a1 p.posts.length c1, .slice a2 p.queues.length c2, .slice a3 p.binds.length c3], .slice (some ⟨g, 0, none⟩) (outAt p k key j).length C, .int .i64 (j : Int), .pointer (some ⟨g, j, none⟩), .int .i64 (x : Int), .string key, .func (.func 60) #[] #[.pointer (some ⟨wr.heap.size, 0, none⟩), .pointer (some ⟨wr.heap.size + 1, 0, none⟩), .pointer (some ⟨wr.heap.size + 2, 0, none⟩)], .int .i64 (y.1 : Int), .agg #[.int .i64 y.2.src, .bool y.2.toPost, .int .i64 y.2.to, .string y.2.pattern], u28, u29, u30, u31, u32, u33, u34, u35, u36, u37, u38, u39, u40, u41, undef, undef, undef], defers := [] }) ?ax ?assign ?body ?done ?stop
      case stop =>
        rintro D c pre W _ _ h _
        exact h.elim
      case ax =>
        rintro y a' _ A B row ⟨bb, h1, h2, h3⟩ hg hrow
        exact ⟨bb, h1, h2.row hg (fun r e => (hrow r e).2), h3⟩
      case assign =>
        intro l pre y W K hC hK
        unfold vBind
        gi_wp2
        refine hK _ _ ?_ ?_ ?_ ⟨W.heap.size, hC.size, Bk.new _ _ _, rfl⟩
        · exact (KeepsOthers.alloc W _).from _
        · exact ⟨(KpAt.refl _ _).alloc HRd.out hC.size _, by simp⟩
        · exact hC.alloc HBB.out _
      case body =>
        rintro l pre y a' W hl - hC ⟨bb, hb1, hb2, rfl⟩ hlen
        obtain ⟨v, q1, q2, q3, q4, q5, q6, q7⟩ := hC
        have e0 := hb2.cell 1
        have e1 := hb2.cell 2
        have e2 := q2.cell 0
        simp only [List.getElem?_toArray, List.getElem?_cons_zero, List.getElem?_cons_succ] at e0 e1 e2
        have hg1 := (gather_len (outAt p k key j) pre).1
        have hg2 := (gather_len (outAt p k key j) pre).2
        have hon := onL_len p x key
        have hbn := HR.out.binds
        have hol := HOK.out.2
        have hsn := gather_snoc (outAt p k key j) pre y
        obtain ⟨C2, g2, rfl⟩ : ∃ C2 g2, v = .slice (some ⟨g2, 0, none⟩) (gather (outAt p k key j) pre).length C2 := by
          rcases ints_cases q3 with ⟨_, h0⟩ | ⟨g2, C2, h0⟩
          · rw [h0] at hg2
            simp only [List.length_nil] at hg2
            omega
          · exact ⟨C2, g2, h0⟩
        cases ht : y.2.toPost
        · rw [ht] at e0
          have hA : addTo (gather (outAt p k key j) pre) y = gather (outAt p k key j) pre := by simp [addTo, ht]
          have HE := Lib.hid (hsn.trans hA)
          have HQ := Lib.hid (And.intro q1 (And.intro q2 (And.intro q3 (And.intro q4 (And.intro q5 (And.intro q6 q7))))))
          clear ht hA hsn q1 q2 q3 q4 q5 q6 q7 hg1 hg2 hon hbn hol hlen
          gi_wp2
          refine ⟨trivial, ?_⟩
          gi_wp2
          refine ⟨KeepsFrom.refl _ _, KpS.refl _ _, ?_⟩
          dsimp only
          rw [HE.out]
          exact ⟨_, HQ.out.1, HQ.out.2.1, HQ.out.2.2.1, HQ.out.2.2.2.1, HQ.out.2.2.2.2.1, HQ.out.2.2.2.2.2.1, HQ.out.2.2.2.2.2.2⟩
        · rw [ht] at e0
          have hct : ∃ b : Bool, b = decide (y.2.to ∈ gather (outAt p k key j) pre) ∧ Calls Tryz.prog 52 #[.slice (some ⟨g2, 0, none⟩) (gather (outAt p k key j) pre).length C2, .int .i64 y.2.to] W fun e w' => e = .returned (.bool b) ∧ w' = W := by
            refine ⟨_, rfl, ?_⟩
            have := Tryz.slices_Contains_int g2 0 (gather (outAt p k key j) pre).length C2 (gather (outAt p k key j) pre) y.2.to W (Nat.le_refl _) (by omega) (fun i hi => by
              rw [Nat.zero_add, (own_cell q3 i hi).1, List.getElem?_map, List.getElem?_eq_getElem hi, List.getD_eq_getElem?_getD, List.getElem?_eq_getElem hi]
              rfl)
            rw [List.take_length, List.contains_eq_mem] at this
            exact this
          obtain ⟨b, hbd, hct⟩ := hct
          have HCT := Lib.hid hct
          have HQ := Lib.hid (And.intro q1 (And.intro q2 (And.intro q3 (And.intro q4 (And.intro q5 (And.intro q6 q7))))))
          have HLT := Lib.hid (show (gather (outAt p k key j) pre).length < 4294967296 by omega)
          have HTM := Lib.hid ht
          have HSN := Lib.hid hsn
          have HBD := Lib.hid hbd
          clear hct ht hsn hbd q1 q2 q3 q4 q5 q6 q7 hg1 hg2 hon hbn hol hlen
          cases b
          · have HE : Hid (gather (outAt p k key j) (pre ++ [y]) = gather (outAt p k key j) pre ++ [y.2.to]) := by
              refine HSN.out.trans ?_
              unfold addTo
              rw [if_pos ⟨HTM.out, of_decide_eq_false HBD.out.symm⟩]
            clear HSN HTM HBD
            gi_wp2_with (first | (refine ⟨trivial, ?_⟩; gi_at_call 52; refine (CallsIn.inRound l (callsIn_wide.2 HCT.out)).mono ?_; rintro e w' ⟨rfl, hw⟩; (have hw2 := hw.symm); subst hw2) | (gi_at_builtin; refine append1_in rfl _ _ 27 rfl w.heap.size 3 infoInt Tryz.underlying27 rfl (by decide) (by decide) W _ _ _ rfl HQ.out.2.2.1 [.int .i64 y.2.to] rfl rfl rfl (by simp [Value.oneCell']) HLT.out (Nat.le_trans HBB.out HQ.out.2.2.2.2.2.2) ?_; intro v3 w3 hown' hgrow hat; obtain ⟨a3, C3, rfl, _⟩ := own_slice hown'; obtain ⟨m0, m3⟩ := Col.app (x := y.2.to) (Rd := Rd) (B1 := W2.heap.size) HQ.out.1 HQ.out.2.1 HQ.out.2.2.1 HQ.out.2.2.2.1 HQ.out.2.2.2.2.1 HQ.out.2.2.2.2.2.1 HQ.out.2.2.2.2.2.2 HRd.out HBO.out.1 (by omega) (by omega) HBB.out (show IntsO w3 w.heap.size _ (gather (outAt p k key j) pre ++ [y.2.to]) by unfold IntsO; rw [List.length_append, List.map_append]; exact hown') hgrow hat; have m1 := m0.cell 0; have m2 := m0.frozen 0; simp only [List.getElem?_toArray, List.getElem?_cons_zero] at m1; have HAP := Lib.hid m3; clear hown' hgrow hat m0 m3))
            refine ⟨HAP.out.2.1, HAP.out.2.2, ?_⟩
            dsimp only
            rw [HE.out]
            exact HAP.out.1
          · have HE : Hid (gather (outAt p k key j) (pre ++ [y]) = gather (outAt p k key j) pre) := by
              refine HSN.out.trans ?_
              unfold addTo
              rw [if_neg fun h => h.2 (of_decide_eq_true HBD.out.symm)]
            clear HSN HTM HBD
            gi_wp2_with (refine ⟨trivial, ?_⟩; gi_at_call 52; refine (CallsIn.inRound l (callsIn_wide.2 HCT.out)).mono ?_; rintro e w' ⟨rfl, hw⟩; (have hw2 := hw.symm); subst hw2)
            refine ⟨KeepsFrom.refl _ _, KpS.refl _ _, ?_⟩
            dsimp only
            rw [HE.out]
            exact ⟨_, HQ.out.1, HQ.out.2.1, HQ.out.2.2.1, HQ.out.2.2.2.1, HQ.out.2.2.2.2.1, HQ.out.2.2.2.2.2.1, HQ.out.2.2.2.2.2.2⟩
      case done =>
        rintro D ys W hD rfl hC hDe
        obtain ⟨v, q1, q2, q3, q4, q5, q6, q7⟩ := hC
        have HQ := Lib.hid (And.intro q1 (And.intro q2 (And.intro q3 (And.intro q4 (And.intro q5 (And.intro q6 q7))))))
        have HDE := Lib.hid hDe
        have HDD := Lib.hid hD
        have hol := HOK.out.2
        clear q1 q2 q3 q4 q5 q6 q7 hDe hD
        go_wp2
        refine ⟨?_, ?_⟩
        · (repeat apply Exists.intro)
          refine ⟨?_, rfl⟩
          refine ⟨j + 1, v, D :: Ds, by go_num, rfl, ?_, HQ.out.1, HQ.out.2.1, by rw [HXL.out]; exact HQ.out.2.2.1, HQ.out.2.2.2.2.1, ?_⟩
          · have := (gather_len (outAt p k key j) (onL p x key)).2
            rw [HXL.out]
            omega
          · refine HQ.out.2.2.2.2.2.1.cons ?_ ?_ HDE.out
            · have := HBO.out.2
              have := HDD.out
              omega
            · intro h
              have := HDs.out D h
              have := HDD.out
              omega
        · have := HOK.out.2.1
          simp [intOf]
          omega
    · have he := outs_eq (show (outAt p k key j).length ≤ j by omega) (show j ≤ p.posts.length by omega)
      have HE := Lib.hid he
      have HF := Lib.hid (And.intro hP (And.intro hO (And.intro hI (And.intro hB hM))))
      have HSO := Lib.hid (sort_own w.heap.size _ _ wr hI (by omega))
      clear he hok hl hp4 hP hO hI hB hM
      go_wp2_with (go_at_call 53; refine HSO.out.mono ?_; rintro e W2 ⟨rfl, n1, n2⟩; have n3 : Bk W2 (w.heap.size + 1 + 1) 27 _ := HF.out.2.1.grown n2 (HF.out.2.2.1.ne HF.out.2.1 (by decide)); have n4 := n3.cell 0; simp only [List.getElem?_toArray, List.getElem?_cons_zero] at n4; have HN := Lib.hid (And.intro n1 n2); clear n1 n2 n3)
      refine leaves_marks Ds W2 (HF.out.2.2.2.2.grown HN.out.2 fun D hD e => ?_) fun W3 hs => ⟨_, results_tmp rfl _ _ _, _, rfl, ?_, ?_⟩
      · obtain ⟨o, ho, hc⟩ := HF.out.2.2.1.cellsAt D e.symm
        rw [(HF.out.2.2.2.2.2 D hD).2] at ho
        cases ho
        cases hc
      · rw [HE.out]
        exact hs.own HN.out.1
      · exact (below_own HF.out.2.2.1 HN.out.2 HF.out.2.2.2.1 (Nat.le_refl _) HF.out.2.2.2.1.size).trans hs.below
end Go.Proofs.YtapimpmpjighmaaGreatDoor

namespace Go.Proofs.YtapimpmpjighmaaGreatDoor
open Go Go.RowKit Go.Shelf Go.Sort
set_option maxRecDepth 100000
attribute [local go_sem] Oper.semAt_some

/-- One bind more: the queue to which it leads. -/
def queueTo (out : List Int) (y : Nat × BindD) : List Int := if y.2.toPost = true then out else out ++ [y.2.to]
def collect (out : List Int) (bs : List (Nat × BindD)) : List Int := bs.foldl queueTo out
theorem collect_snoc (out : List Int) (bs : List (Nat × BindD)) (y : Nat × BindD) : collect out (bs ++ [y]) = queueTo (collect out bs) y := by simp [collect, List.foldl_append]
def offAt (p : PlanD) (key : ByteArray) (ps : List Int) : Nat → List Int
  | 0 => []
  | j + 1 => match ps[j]? with
    | some x => collect (offAt p key ps j) (onL p x key)
    | none => offAt p key ps j
def ofL (p : PlanD) (k : Int) (key : ByteArray) : List Int := Lib.compact (sortI (offAt p key (sortI (outs p k key)) (sortI (outs p k key)).length))
theorem collect_len (out : List Int) (bs : List (Nat × BindD)) : (collect out bs).length ≤ out.length + bs.length := by
  induction bs generalizing out with
  | nil => simp [collect]
  | cons y bs ih =>
    have h1 := ih (queueTo out y)
    have h2 : (queueTo out y).length ≤ out.length + 1 := by unfold queueTo; split <;> simp
    simp only [collect, List.foldl_cons, List.length_cons] at *
    omega
theorem offAt_len (p : PlanD) (key : ByteArray) (ps : List Int) : ∀ j, (offAt p key ps j).length ≤ j * p.binds.length
  | 0 => by simp [offAt]
  | j + 1 => by
    have h := offAt_len p key ps j
    rw [offAt, Nat.succ_mul]
    split
    · rename_i x _
      have h1 := collect_len (offAt p key ps j) (onL p x key)
      have h2 := onL_len p x key
      omega
    · omega
theorem sortI_mem {zs : List Int} {x : Int} : x ∈ sortI zs ↔ x ∈ zs := List.mem_mergeSort

/-- The state at the head of the loop. -/
def ORel (p : PlanD) (key : ByteArray) (P : Array Value) (ps : List Int) (w W0 : World) (vp : Value) (i : Value) (ds : List Deferred) (wr : World) : Prop :=
  ∃ (j : Nat) (v : Value) (Ds : List Nat), i = .int .i64 (j : Int) ∧ ds = Ds.map mark ∧ j ≤ ps.length ∧
    Bk wr w.heap.size 26 P ∧ Bk wr (w.heap.size + 1) 27 #[v] ∧ IntsO wr w.heap.size v (offAt p key ps j) ∧ Below w.heap.size w wr ∧ MarksOk w.heap.size wr Ds ∧
    IntsO wr w.heap.size vp ps ∧ (∀ r, v.ownBlock = some r → vp.ownBlock ≠ some r) ∧ W0.heap.size ≤ wr.heap.size

set_option maxHeartbeats 2000000 in
theorem Of_walk (p : PlanD) (k : Nat) (key : ByteArray) (a1 a2 a3 : Option Addr) (c1 c2 c3 B0 : Nat) (w : World) (hk : k < p.posts.length) (hr : PlanRight p) (hkey : key.size ≤ 1048576) (hps : PlanSmall p)
    (hpl : PlanAt w 0 B0 a1 a2 a3 p) (hv : EnvB B0 w) (hB0 : B0 ≤ w.heap.size) :
    Calls Tryz.prog 25 #[.agg #[.slice a1 p.posts.length c1, .slice a2 p.queues.length c2, .slice a3 p.binds.length c3], .int .i64 (k : Int), .string key] w fun e w' =>
      ∃ v, e = .returned v ∧ IntsO w' w.heap.size v (ofL p k key) ∧ Below w.heap.size w w' := by
  refine (callsIn_wide (n := 4)).1 ?_
  refine callsIn_of_wp_marks Tryz.func25 rfl trivial ?_ rfl
  simp only [Tryz.ntmps25, List.size_toArray, List.length_cons, List.length_nil, Nat.reduceAdd, Nat.reduceSub, Array.replicate_succ, Array.replicate_zero, List.push_toArray, List.append_toArray, List.nil_append, List.cons_append]
  have HB := Lib.hid (And.intro hpl (And.intro hv hB0))
  have HR := Lib.hid hr
  have HKK := Lib.hid hk
  have hposts : Hid (∀ W, Below w.heap.size w W → Calls Tryz.prog 24 #[.agg #[.slice a1 p.posts.length c1, .slice a2 p.queues.length c2, .slice a3 p.binds.length c3], .int .i64 (k : Int), .string key] W fun e w' =>
      ∃ v, e = .returned v ∧ IntsO w' W.heap.size v (sortI (outs p k key)) ∧ Below W.heap.size W w') := fun W hW =>
    posts_any p k key a1 a2 a3 c1 c2 c3 B0 W hk hr hkey hps (PlanAt.keep' hpl fun q hq => hW.cell (p := q) (Nat.lt_of_lt_of_le hq hB0)) (hv.keep fun q hq => hW.cell (p := q) (Nat.lt_of_lt_of_le hq hB0)) (Nat.le_trans hB0 hW.size)
  clear hpl hv hB0 hr hk
  refine wpIn_wide.2 ?_
  obtain ⟨W1, hW1⟩ : ∃ W1, (w.alloc (.cells #[.slice a1 p.posts.length c1, .slice a2 p.queues.length c2, .slice a3 p.binds.length c3] 26)).alloc (.cells #[.slice none 0 0] 27) = W1 := ⟨_, rfl⟩
  have k1 : Bk W1 w.heap.size 26 #[.slice a1 p.posts.length c1, .slice a2 p.queues.length c2, .slice a3 p.binds.length c3] := by rw [← hW1]; exact (Bk.new _ _ _).alloc _
  have k2 : Bk W1 (w.heap.size + 1) 27 #[.slice none 0 0] := by rw [← hW1]; exact Bk.new_at _ _ _ (by simp)
  have k3 : Below w.heap.size w W1 := by rw [← hW1]; exact ((Below.refl _ w).alloc (Nat.le_refl _) _).alloc (by simp) _
  have k4 : w.heap.size + 2 ≤ W1.heap.size := by rw [← hW1]; simp
  have HK1 := Lib.hid (And.intro k1 (And.intro k2 (And.intro k3 k4)))
  have m0 := k1.cell 0
  have m1 := k1.cell 1
  have m2 := k1.cell 2
  simp only [List.getElem?_toArray, List.getElem?_cons_zero, List.getElem?_cons_succ] at m0 m1 m2
  clear k1 k2 k3 k4
  go_wp2_with (go_at_call 24; go_loud (refine (hposts.out W1 HK1.out.2.2.1).mono ?_; rintro e W0 ⟨vp, rfl, n1, n2⟩; obtain ⟨ap, cp, rfl, _⟩ := own_slice n1; have HN := Lib.hid (And.intro n1 n2); clear n1 n2))
  clear hW1 m0 m1 m2
  generalize hnp : (sortI (outs p k key)).length = np at *
  refine wp_loop (fun a' wr => ∃ (u9 u11 u17 u18 u19 u20 u21 u22 u23 u24 u25 u26 u27 u28 u29 u30 u31 u32 u33 u34 u35 : Value) (ds : List Deferred), ORel p key #[.slice a1 p.posts.length c1, .slice a2 p.queues.length c2, .slice a3 p.binds.length c3] (sortI (outs p k key)) w W0 (.slice ap np cp) u17 ds wr ∧ a' = ⟨#[.agg #[.slice a1 p.posts.length c1, .slice a2 p.queues.length c2, .slice a3 p.binds.length c3], .int .i64 (k : Int), .string key, .pointer (some ⟨w.heap.size, 0, none⟩), undef, undef, .slice none 0 0, .pointer (some ⟨w.heap.size + 1, 0, none⟩), undef, u9, undef, u11, .agg #[.slice a1 p.posts.length c1, .slice a2 p.queues.length c2, .slice a3 p.binds.length c3], .int .i64 (k : Int), .string key, .slice ap np cp, .int .i64 (np : Int), u17, u18, u19, u20, u21, u22, u23, u24, u25, u26, u27, u28, u29, u30, u31, u32, u33, u34, u35, undef, undef, undef, undef], ds⟩) (fun a' _ => np - (intOf (a'.tmps.getD 17 undef)).toNat) ?_ ?_
  · (repeat apply Exists.intro)
    refine ⟨?_, rfl⟩
    have hz := HK1.out.2.2.2
    have hn1 : IntsO W0 w.heap.size (.slice ap np cp) (sortI (outs p k key)) := by
      obtain ⟨q1, q2⟩ := HN.out.1
      refine ⟨q1, ?_⟩
      rcases q2 with q2 | ⟨g, cap, cur, r1, r2, r3⟩
      · exact .inl q2
      · exact .inr ⟨g, cap, cur, r1, by omega, r3⟩
    refine ⟨0, .slice none 0 0, [], rfl, rfl, Nat.zero_le _, HK1.out.1.below HN.out.2 HK1.out.1.lt, HK1.out.2.1.below HN.out.2 HK1.out.2.1.lt, World.ownsRow_nil _ _ _ _, HK1.out.2.2.1.trans (HN.out.2.mono HK1.out.2.2.1.size), MarksOk.nil _ _, hn1, (fun r h => by cases h), Nat.le_refl _⟩
  · rintro a' wr ⟨u9, u11, _, u18, u19, u20, u21, u22, u23, u24, u25, u26, u27, u28, u29, u30, u31, u32, u33, u34, u35, ds, ⟨j, v, Ds, rfl, rfl, hj, hP, hO, hI, hB, hM, hVP, hne, hsz⟩, rfl⟩
    have hok := outAt_ok HR.out HKK.out (key := key) p.posts.length
    have hl := hok.len
    have hp4 := HR.out.posts
    have hb10 := HR.out.binds
    have hsl := sortI_len (outs p k key)
    have hol := offAt_len p key (sortI (outs p k key)) j
    have hoo : (outs p k key).length ≤ p.posts.length := hl
    have hj4 : j * p.binds.length ≤ 4 * 10 := Nat.mul_le_mul (by omega) hb10
    have d0 := hP.cell 0
    have d1 := hP.cell 1
    have d2 := hP.cell 2
    simp only [List.getElem?_toArray, List.getElem?_cons_zero, List.getElem?_cons_succ] at d0 d1 d2
    by_cases hlt : j < np
    · obtain ⟨x, hx, hxp, hxl⟩ : ∃ x : Nat, (sortI (outs p k key))[j]? = some (x : Int) ∧ x < p.posts.length ∧ offAt p key (sortI (outs p k key)) (j + 1) = collect (offAt p key (sortI (outs p k key)) j) (onL p x key) := by
        have hlt2 : j < (sortI (outs p k key)).length := by omega
        have h1 := hok.2 _ (sortI_mem.1 (List.getElem_mem hlt2))
        refine ⟨((sortI (outs p k key))[j]).toNat, ?_, by omega, ?_⟩
        · rw [List.getElem?_eq_getElem hlt2]; congr 1; omega
        · rw [offAt, List.getElem?_eq_getElem hlt2]
          simp only
          congr 2
          omega
      obtain ⟨gp, rfl⟩ : ∃ gp, ap = some ⟨gp, 0, none⟩ := by
        rcases ints_cases hVP with ⟨h0, h1⟩ | ⟨gp, C, h0⟩
        · rw [h1] at hnp
          simp at hnp
          omega
        · cases h0
          exact ⟨gp, rfl⟩
      have d4 : wr.cell? ⟨gp, j, none⟩ = some (.int .i64 (x : Int)) := by
        have h1 := hVP
        unfold IntsO at h1
        rw [hnp] at h1
        rw [(own_cell h1 j hlt).1, List.getElem?_map, hx]
        rfl
      have HF := Lib.hid (And.intro hP (And.intro hO (And.intro hI (And.intro hB (And.intro hM (And.intro hVP (And.intro hne hsz)))))))
      have HX := Lib.hid hxp
      have HXL := Lib.hid hxl
      have HOL : Hid ((offAt p key (sortI (outs p k key)) j).length ≤ 40 ∧ np ≤ 4) := ⟨by omega, by omega⟩
      have hnp4 : np ≤ 4 := by omega
      clear hx hxp hxl hok hl hp4 hP hO hI hB hM hVP hne hsz hsl hol hoo hj4 hb10
      go_wp2_with (go_at_call 32; (with_reducible refine (on_any _ _ _ _ _ wr ⟨_, rfl⟩).mono ?_); rintro e W2 ⟨rfl, n1, n2, n3, hb⟩; have HN2 := Lib.hid (And.intro n1 (And.intro n2 (And.intro n3 hb))); clear n1 n2 n3 hb)
      clear d0 d1 d2 d4
      obtain ⟨Rd, hRd⟩ : ∃ Rd, Rd = fun r => OnRd B0 wr.heap.size (wr.heap.size + 1) (wr.heap.size + 2) r ∨ r = gp := ⟨_, rfl⟩
      have hgp : w.heap.size ≤ gp ∧ gp < wr.heap.size := World.ownsRow.lt HF.out.2.2.2.2.2.1 gp rfl
      have HRd : Hid (∀ r, Rd r → r < W2.heap.size) := by
        intro r h
        have h1 := HN2.out.1.lt
        have h2 := HN2.out.2.1.lt
        have h3 := HN2.out.2.2.1.lt
        have h4 := HN2.out.2.2.2.size
        have h5 := HF.out.2.2.2.1.size
        have h6 := HB.out.2.2
        rw [hRd] at h
        simp only [OnRd] at h
        omega
      have HOld : Hid (∀ r, w.heap.size ≤ r → r < wr.heap.size → r ≠ gp → ¬ Rd r) := by
        intro r h1 h2 h3 h
        have h6 := HB.out.2.2
        rw [hRd] at h
        simp only [OnRd] at h
        omega
      have HON : Hid (∀ A B, KpS Rd A B → KpS (OnRd B0 wr.heap.size (wr.heap.size + 1) (wr.heap.size + 2)) A B) := fun A B h => ⟨fun r hr => h.1 r (by rw [hRd]; exact .inl hr), h.2⟩
      have HGP : Hid (Rd gp ∧ gp < wr.heap.size) := ⟨by rw [hRd]; exact .inr rfl, hgp.2⟩
      have HST := Lib.hid (on_stops 3 (by decide) p x key a1 a2 a3 c1 c2 c3 B0 wr.heap.size (wr.heap.size + 1) (wr.heap.size + 2) W2 HX.out hps hkey HN2.out.1 HN2.out.2.1 HN2.out.2.2.1
        (PlanAt.keep' HB.out.1 fun q hq => (HF.out.2.2.2.1.trans (HN2.out.2.2.2.mono HF.out.2.2.2.1.size)).cell (p := q) (Nat.lt_of_lt_of_le hq HB.out.2.2))
        (HB.out.2.1.keep fun q hq => (HF.out.2.2.2.1.trans (HN2.out.2.2.2.mono HF.out.2.2.2.1.size)).cell (p := q) (Nat.lt_of_lt_of_le hq HB.out.2.2))
        (Nat.le_trans HB.out.2.2 (Nat.le_trans HF.out.2.2.2.1.size HN2.out.2.2.2.size)))
      have HBO : Hid (¬ Rd (w.heap.size + 1) ∧ w.heap.size + 1 < W2.heap.size) := ⟨HOld.out _ (by omega) HF.out.2.1.lt (fun e => by
          have h1 := HF.out.2.1
          rw [e] at h1
          exact HF.out.2.2.2.2.2.1.ne h1 (by decide) rfl), Nat.lt_of_lt_of_le HF.out.2.1.lt HN2.out.2.2.2.size⟩
      clear hRd hgp
      have HC0 : Hid (Col w.heap.size (w.heap.size + 1) w.heap.size W2.heap.size Rd w #[.slice a1 p.posts.length c1, .slice a2 p.queues.length c2, .slice a3 p.binds.length c3] Ds (collect (offAt p key (sortI (outs p k key)) j) []) W2 ∧ KpAt Rd W2 W2) := by
        refine ⟨⟨_, HF.out.1.below HN2.out.2.2.2 HF.out.1.lt, HF.out.2.1.below HN2.out.2.2.2 HF.out.2.1.lt, HF.out.2.2.1.grown' HN2.out.2.2.2, fun r hr => ?_, HF.out.2.2.2.1.trans (HN2.out.2.2.2.mono HF.out.2.2.2.1.size), HF.out.2.2.2.2.1.below HN2.out.2.2.2 (Nat.le_refl _), Nat.le_refl _⟩, KpAt.refl _ _⟩
        have := World.ownsRow.lt HF.out.2.2.1 r hr
        exact HOld.out r this.1 this.2 (fun e => HF.out.2.2.2.2.2.2.1 r hr (by rw [e]; rfl))
      have HDs : Hid (∀ D ∈ Ds, D < W2.heap.size) := fun D hD => Nat.lt_of_lt_of_le (HF.out.2.2.2.2.1.lt hD) HN2.out.2.2.2.size
      have HBB : Hid (w.heap.size ≤ W2.heap.size) := Nat.le_trans HF.out.2.2.2.1.size HN2.out.2.2.2.size
      refine (wpIn_wide (n := 4)).1 ?_
      refine wpIn_rangeFunc_ownH rfl (by decide) (gf := 60) (lb := #[.pointer (some ⟨wr.heap.size, 0, none⟩), .pointer (some ⟨wr.heap.size + 1, 0, none⟩), .pointer (some ⟨wr.heap.size + 2, 0, none⟩)]) rfl trivial (enters_of Tryz.func60 (by kernel_rfl) rfl)
        HST.out (fun h k => KpS.trans h k) (fun W l o o' hl _ _ _ => HON.out _ _ ⟨KpAt.putObj (B := W2.heap.size) HRd.out W l o' hl, by simp⟩) (Below.refl _ _) (fun _ => rfl)
        (fun pre W => Col w.heap.size (w.heap.size + 1) w.heap.size W2.heap.size Rd w #[.slice a1 p.posts.length c1, .slice a2 p.queues.length c2, .slice a3 p.binds.length c3] Ds (collect (offAt p key (sortI (outs p k key)) j) pre) W ∧ KpAt Rd W2 W) (fun _ _ _ => False)
        (fun pre A B row h hg hr => ⟨col_row h.1 HBB.out HDs.out hg hr, fun r hrd => (hg.block r (by have := HRd.out r hrd; have := h.1.size; omega) (fun e => by have := HRd.out r hrd; have := (hr r e.symm).1; omega)).trans (h.2 r hrd)⟩) (fun _ _ _ _ _ h _ _ => h) HC0.out
        (fun y a' W => ∃ bb, W2.heap.size ≤ bb ∧ Bk W bb 61 #[.int .i64 y.2.src, .bool y.2.toPost, .int .i64 y.2.to, .string y.2.pattern] ∧ a' = { tmps := #[.agg #[.slice a1 p.posts.length c1, .slice a2 p.queues.length c2, .slice a3 p.binds.length c3], .int .i64 (k : Int), .string key, .pointer (some ⟨w.heap.size, 0, none⟩), undef, undef, .slice none 0 0, .pointer (some ⟨w.heap.size + 1, 0, none⟩), undef, .int .i64 (x : Int), undef, .pointer (some ⟨bb, 0, none⟩), .agg #[.slice a1 p.posts.length c1, .slice a2 p.queues.length c2, .slice a3 p.binds.length c3], .int .i64 (k : Int), .string key, .slice (some ⟨gp, 0, none⟩) np cp, .int .i64 (np : Int), .int .i64 (j : Int), .bool true, .pointer (some ⟨gp, j, none⟩), .int .i64 (x : Int), .agg #[.slice a1 p.posts.length c1, .slice a2 p.queues.length c2, .slice a3 p.binds.length c3], .int .i64 (x : Int), .string key, .func (.func 60) #[] #[.pointer (some ⟨wr.heap.size, 0, none⟩), .pointer (some ⟨wr.heap.size + 1, 0, none⟩), .pointer (some ⟨wr.heap.size + 2, 0, none⟩)], .int .i64 (y.1 : Int), .agg #[.int .i64 y.2.src, .bool y.2.toPost, .int .i64 y.2.to, .string y.2.pattern], u27, u28, u29, u30, u31, u32, u33, u34, u35, undef, undef, undef, undef], defers := [] }) ?ax ?assign ?body ?done ?stop
      case stop =>
        rintro D c pre W _ _ h _
        exact h.elim
      case ax =>
        rintro y a' _ A B row ⟨bb, h1, h2, h3⟩ hg hrow
        exact ⟨bb, h1, h2.row hg (fun r e => (hrow r e).2), h3⟩
      case assign =>
        intro l pre y W K hC hK
        unfold vBind
        gi_wp2
        refine hK _ _ ?_ ?_ ?_ ⟨W.heap.size, hC.1.size, Bk.new _ _ _, rfl⟩
        · exact (KeepsOthers.alloc W _).from _
        · exact HON.out _ _ ⟨(KpAt.refl _ _).alloc HRd.out hC.1.size _, by simp⟩
        · exact ⟨hC.1.alloc HBB.out _, hC.2.alloc HRd.out hC.1.size _⟩
      case body =>
        rintro l pre y a' W hl - ⟨hC, hKP⟩ ⟨bb, hb1, hb2, rfl⟩ hlen
        obtain ⟨v, q1, q2, q3, q4, q5, q6, q7⟩ := hC
        obtain ⟨av, cv, rfl, _⟩ := own_slice q3
        have e0 := hb2.cell 1
        have e1 := hb2.cell 2
        have e2 := q2.cell 0
        simp only [List.getElem?_toArray, List.getElem?_cons_zero, List.getElem?_cons_succ] at e0 e1 e2
        have hg1 := collect_len (offAt p key (sortI (outs p k key)) j) pre
        have hon := onL_len p x key
        have hbn := HR.out.binds
        have hol := HOL.out.1
        have hsn := collect_snoc (offAt p key (sortI (outs p k key)) j) pre y
        have HLT := Lib.hid (show (collect (offAt p key (sortI (outs p k key)) j) pre).length < 4294967296 by omega)
        have HQ := Lib.hid (And.intro q1 (And.intro q2 (And.intro q3 (And.intro q4 (And.intro q5 (And.intro q6 q7))))))
        have HKP := Lib.hid hKP
        cases ht : y.2.toPost
        · rw [ht] at e0
          have hA : queueTo (collect (offAt p key (sortI (outs p k key)) j) pre) y = collect (offAt p key (sortI (outs p k key)) j) pre ++ [y.2.to] := by simp [queueTo, ht]
          have HE := Lib.hid (hsn.trans hA)
          clear ht hA hsn q1 q2 q3 q4 q5 q6 q7 hg1 hon hbn hol hlen hKP
          gi_wp2_with (gi_at_builtin; refine append1_in rfl _ _ 27 rfl w.heap.size 3 infoInt Tryz.underlying27 rfl (by decide) (by decide) W _ _ _ rfl HQ.out.2.2.1 [.int .i64 y.2.to] rfl rfl rfl (by simp [Value.oneCell']) HLT.out (Nat.le_trans HBB.out HQ.out.2.2.2.2.2.2) ?_; intro v3 w3 hown' hgrow hat; obtain ⟨a3, C3, rfl, _⟩ := own_slice hown'; obtain ⟨m0, m3⟩ := Col.app (x := y.2.to) (Rd := Rd) (B1 := W2.heap.size) HQ.out.1 HQ.out.2.1 HQ.out.2.2.1 HQ.out.2.2.2.1 HQ.out.2.2.2.2.1 HQ.out.2.2.2.2.2.1 HQ.out.2.2.2.2.2.2 HRd.out HBO.out.1 (by omega) (by omega) HBB.out (show IntsO w3 w.heap.size _ (collect (offAt p key (sortI (outs p k key)) j) pre ++ [y.2.to]) by unfold IntsO; rw [List.length_append, List.map_append]; exact hown') hgrow hat; have m1 := m0.cell 0; have m2 := m0.frozen 0; simp only [List.getElem?_toArray, List.getElem?_cons_zero] at m1; have HAP := Lib.hid m3; clear hown' hgrow hat m0 m3)
          refine ⟨HAP.out.2.1, HON.out _ _ HAP.out.2.2, ?_, HKP.out.trans HAP.out.2.2.1⟩
          rw [HE.out]
          exact HAP.out.1
        · rw [ht] at e0
          have hA : queueTo (collect (offAt p key (sortI (outs p k key)) j) pre) y = collect (offAt p key (sortI (outs p k key)) j) pre := by simp [queueTo, ht]
          have HE := Lib.hid (hsn.trans hA)
          clear ht hA hsn q1 q2 q3 q4 q5 q6 q7 hg1 hon hbn hol hlen hKP
          gi_wp2
          refine ⟨KeepsFrom.refl _ _, KpS.refl _ _, ?_, HKP.out⟩
          rw [HE.out]
          exact ⟨_, HQ.out.1, HQ.out.2.1, HQ.out.2.2.1, HQ.out.2.2.2.1, HQ.out.2.2.2.2.1, HQ.out.2.2.2.2.2.1, HQ.out.2.2.2.2.2.2⟩
      case done =>
        rintro D ys W hD rfl ⟨hC, hKP⟩ hDe
        obtain ⟨v, q1, q2, q3, q4, q5, q6, q7⟩ := hC
        have HQ := Lib.hid (And.intro q1 (And.intro q2 (And.intro q3 (And.intro q4 (And.intro q5 (And.intro q6 q7))))))
        have HDE := Lib.hid hDe
        have HDD := Lib.hid hD
        have HKP := Lib.hid hKP
        clear q1 q2 q3 q4 q5 q6 q7 hDe hD hKP
        go_wp2
        refine ⟨?_, ?_⟩
        · (repeat apply Exists.intro)
          refine ⟨?_, rfl⟩
          refine ⟨j + 1, v, D :: Ds, by go_num, rfl, by omega, HQ.out.1, HQ.out.2.1, by rw [HXL.out]; exact HQ.out.2.2.1, HQ.out.2.2.2.2.1, ?_, ?_, ?_, ?_⟩
          · refine HQ.out.2.2.2.2.2.1.cons ?_ ?_ HDE.out
            · have := HBO.out.2
              have := HDD.out
              omega
            · intro h
              have := HDs.out D h
              have := HDD.out
              omega
          · refine ⟨HF.out.2.2.2.2.2.1.1, ?_⟩
            rcases HF.out.2.2.2.2.2.1.2 with h1 | ⟨g, cap, cur, h1, h2, h3, h4⟩
            · exact .inl h1
            · cases h1
              exact .inr ⟨gp, _, cur, rfl, h2, ((HKP.out gp HGP.out.1).trans (HN2.out.2.2.2.block gp HGP.out.2)).trans h3, h4⟩
          · intro r hr e
            cases e
            exact HQ.out.2.2.2.1 _ hr HGP.out.1
          · exact Nat.le_trans HF.out.2.2.2.2.2.2.2 (Nat.le_trans HN2.out.2.2.2.size HQ.out.2.2.2.2.2.2)
        · simp [intOf]
          omega
    · have hjj : offAt p key (sortI (outs p k key)) j = offAt p key (sortI (outs p k key)) (sortI (outs p k key)).length := by
        congr 1
        omega
      have HE := Lib.hid hjj
      have hl40 : (offAt p key (sortI (outs p k key)) j).length ≤ 40 := by omega
      have HF := Lib.hid (And.intro hP (And.intro hO (And.intro hI (And.intro hB hM))))
      have hsol := sortI_len (offAt p key (sortI (outs p k key)) j)
      have HSO := Lib.hid (sort_own w.heap.size _ _ wr hI (by omega))
      have HCO : Hid (∀ W, IntsO W w.heap.size v (sortI (offAt p key (sortI (outs p k key)) j)) → _) := fun W h => compact_own w.heap.size v _ W h (by omega)
      have hvs := own_slice hI
      obtain ⟨av, cv, rfl, _⟩ := hvs
      have d5 := hO.cell 0
      simp only [List.getElem?_toArray, List.getElem?_cons_zero] at d5
      clear hjj hok hl hp4 hP hO hI hB hM hVP hne hsz hsl hol hoo hj4 hb10 hsol
      go_wp2_with (first | (go_at_call 53; refine HSO.out.mono ?_; rintro e W2 ⟨rfl, n1, n2⟩; have n3 : Bk W2 (w.heap.size + 1) 27 _ := HF.out.2.1.grown n2 (HF.out.2.2.1.ne HF.out.2.1 (by decide)); have n4 := n3.cell 0; simp only [List.getElem?_toArray, List.getElem?_cons_zero] at n4; have HN2 := Lib.hid (And.intro n1 n2); clear n1 n2 n3) | (go_at_call 54; refine (HCO.out W2 HN2.out.1).mono ?_; rintro e W3 ⟨v3, rfl, n1, n2⟩; have HN3 := Lib.hid (And.intro n1 n2); clear n1 n2))
      have hg3 : wr.grownBy W3 (Value.ownBlock (.slice av (offAt p key (sortI (outs p k key)) j).length cv)) := ⟨HN3.out.2.os.trans HN2.out.2.os, HN3.out.2.tape.trans HN2.out.2.tape, HN3.out.2.output.trans HN2.out.2.output, Nat.le_trans HN2.out.2.size HN3.out.2.size,
        fun r h1 h2 => (HN3.out.2.block r (Nat.lt_of_lt_of_le h1 HN2.out.2.size) h2).trans (HN2.out.2.block r h1 h2)⟩
      refine leaves_marks Ds W3 (HF.out.2.2.2.2.grown hg3 fun D hD e => ?_) fun W4 hs => ⟨_, results_tmp rfl _ _ _, _, rfl, ?_, ?_⟩
      · obtain ⟨o, ho, hc⟩ := HF.out.2.2.1.cellsAt D e.symm
        rw [(HF.out.2.2.2.2.2 D hD).2] at ho
        cases ho
        cases hc
      · unfold ofL
        rw [← HE.out]
        exact hs.own HN3.out.1
      · exact (below_own HF.out.2.2.1 hg3 HF.out.2.2.2.1 (Nat.le_refl _) HF.out.2.2.2.1.size).trans hs.below
end Go.Proofs.YtapimpmpjighmaaGreatDoor

namespace Go.Proofs.YtapimpmpjighmaaGreatDoor
open Go Go.RowKit Go.Shelf Go.Sort
set_option maxRecDepth 100000

def routeErr (p : PlanD) (x : Int) (key : ByteArray) : Int := if checkP p ≠ 0 then checkP p else if x < 0 ∨ (p.posts.length : Int) ≤ x then 5 else splitErr isWord key

set_option maxHeartbeats 2000000 in
theorem Asked_route (p : PlanD) (n : Int) (key : ByteArray) (a1 a2 a3 : Option Addr) (c1 c2 c3 lo : Nat) (w : World) (hv : Env w) (hp : PlanAt w lo w.heap.size a1 a2 a3 p) (hs : PlanSmall p) (h2 : key.size ≤ 1048576) :
    Calls Tryz.prog 23 #[planV p a1 a2 a3 c1 c2 c3, .int .i64 n, .string key] w fun e w' => e = .returned (.int .i64 (routeErr p n key)) ∧ Below w.heap.size w w' := by
  have hnl := hs.posts
  have HS := Lib.hid hs; clear hs
  have hbx := boxed_new hp c1 c2 c3 26
  have hz0 : (w.alloc (.cells #[Value.slice a1 p.posts.length c1, Value.slice a2 p.queues.length c2, Value.slice a3 p.binds.length c3] 26)).heap.size = w.heap.size + 1 := by simp
  unfold planV
  have HV := Lib.hid hv; clear hv hp
  go_enter Tryz.func23, Tryz.ntmps23
  obtain ⟨m20, m21, m22⟩ := (hbx _ (Below.refl _ _)).2.1
  have HBX := Lib.hid hbx; clear hbx
  go_wp2_with fail
  generalize w.alloc (.cells #[Value.slice a1 p.posts.length c1, Value.slice a2 p.queues.length c2, Value.slice a3 p.binds.length c3] 26) = W0 at *
  refine (Check_any p a1 a2 a3 c1 c2 c3 0 W0 (below_env (HBX.out W0 (Below.refl _ _)).2.2 HV.out) ((HBX.out W0 (Below.refl _ _)).1) HS.out).mono ?_
  rintro e W1 ⟨rfl, hB1⟩
  have HB1 := Lib.hid hB1; clear hB1 m20 m21 m22 hz0
  obtain ⟨m20, m21, m22⟩ := (HBX.out _ HB1.out).2.1
  by_cases hc : checkP p = 0
  · have b1 : (checkP p != 0) = false := by simp [hc]
    by_cases hn : n < 0 ∨ (p.posts.length : Int) ≤ n
    · have HR : Hid (routeErr p n key = 5) := by
        have : routeErr p n key = 5 := by simp [routeErr, hc, hn]
        exact (this : routeErr p n key = 5)
      clear hc
      by_cases hn0 : n < 0
      · clear hn
        go_wp2_with fail
        go_ret
        exact ⟨by rw [HR.out]; rfl, (HBX.out _ HB1.out).2.2⟩
      · have hn1 : (p.posts.length : Int) ≤ n := by omega
        clear hn
        go_wp2_with fail
        go_ret
        exact ⟨by rw [HR.out]; rfl, (HBX.out _ HB1.out).2.2⟩
    · have hn0 : 0 ≤ n := by omega
      have hn1 : n < p.posts.length := by omega
      have HF : Hid (routeErr p n key = splitErr isWord key) := by
        have : routeErr p n key = splitErr isWord key := by
          unfold routeErr
          rw [if_neg (by simp [hc]), if_neg hn]
        exact (this : routeErr p n key = splitErr isWord key)
      clear hc hn
      go_wp2_with fail
      refine (Split_env key W1 (by omega) (below_env (HBX.out _ HB1.out).2.2 HV.out)).mono ?_
      rintro e W2 ⟨sa, sc, rfl, _, _, hB2⟩
      have HB2 := Lib.hid (HB1.out.trans (hB2.mono HB1.out.size)); clear hB2 m20 m21 m22 HB1
      go_wp2_with fail
      go_ret
      exact ⟨by rw [HF.out]; rfl, (HBX.out _ HB2.out).2.2⟩
  · have b1 : (checkP p != 0) = true := by simp [hc]
    have HR : Hid (routeErr p n key = checkP p) := by
      have : routeErr p n key = checkP p := by simp [routeErr, hc]
      exact (this : routeErr p n key = checkP p)
    clear hc
    go_wp2_with fail
    go_ret
    exact ⟨by rw [HR.out]; rfl, (HBX.out _ HB1.out).2.2⟩

theorem IntsO.lower {w : World} {b b' : Nat} {v : Value} {xs : List Int} (h : IntsO w b v xs) (hb : b' ≤ b) : IntsO w b' v xs := by
  refine ⟨h.1, ?_⟩
  rcases h.2 with h1 | ⟨g, cap, cur, h1, h2, h3⟩
  · exact .inl h1
  · exact .inr ⟨g, cap, cur, h1, by omega, h3⟩

theorem routeErr_ok {p : PlanD} {x : Int} {key : ByteArray} (h : routeErr p x key = 0) : PlanRight p ∧ ∃ k : Nat, x = k ∧ k < p.posts.length ∧ splitErr isWord key = 0 := by
  unfold routeErr at h
  split at h
  · exact absurd h (by assumption)
  · rename_i h1
    split at h
    · cases h
    · rename_i h2
      obtain ⟨k, rfl⟩ := Int.eq_ofNat_of_zero_le (show 0 ≤ x by omega)
      exact ⟨checkP_right (by simpa using h1), k, rfl, by omega, h⟩

/-- What Posts and Queues answer: the numbers, if nothing is wrong. -/
def postsR (p : PlanD) (x : Int) (key : ByteArray) : List Int := if routeErr p x key = 0 then sortI (outs p x key) else []
def queuesR (p : PlanD) (x : Int) (key : ByteArray) : List Int := if routeErr p x key = 0 then ofL p x key else []

set_option maxHeartbeats 2000000 in
theorem Posts_any (p : PlanD) (n : Int) (key : ByteArray) (a1 a2 a3 : Option Addr) (c1 c2 c3 : Nat) (w : World) (hv : Env w) (hp : PlanAt w 0 w.heap.size a1 a2 a3 p) (hs : PlanSmall p) (h2 : key.size ≤ 1048576) :
    Calls Tryz.prog 7 #[planV p a1 a2 a3 c1 c2 c3, .int .i64 n, .string key] w fun e w' => ∃ v, e = .returned (.tuple #[v, .int .i64 (routeErr p n key)]) ∧ IntsO w' w.heap.size v (postsR p n key) ∧ Below w.heap.size w w' := by
  have HS := Lib.hid hs; clear hs
  have hbx := boxed_new hp c1 c2 c3 26
  have hz0 : (w.alloc (.cells #[Value.slice a1 p.posts.length c1, Value.slice a2 p.queues.length c2, Value.slice a3 p.binds.length c3] 26)).heap.size = w.heap.size + 1 := by simp
  unfold planV
  have HP := Lib.hid hp
  have HV := Lib.hid hv; clear hv hp
  go_enter Tryz.func7, Tryz.ntmps7
  obtain ⟨m20, m21, m22⟩ := (hbx _ (Below.refl _ _)).2.1
  have HBX := Lib.hid hbx; clear hbx
  go_wp2_with fail
  generalize w.alloc (.cells #[Value.slice a1 p.posts.length c1, Value.slice a2 p.queues.length c2, Value.slice a3 p.binds.length c3] 26) = W0 at *
  have HAS := Lib.hid (Asked_route p n key a1 a2 a3 c1 c2 c3 0 W0 (below_env (HBX.out W0 (Below.refl _ _)).2.2 HV.out) ((HBX.out W0 (Below.refl _ _)).1) HS.out h2)
  unfold planV at HAS
  refine HAS.out.mono ?_
  clear HAS
  rintro e W1 ⟨rfl, hB1⟩
  have HB1 := Lib.hid hB1; clear hB1 m20 m21 m22 hz0
  obtain ⟨⟨m20, m21, m22⟩, hb1⟩ := (HBX.out _ HB1.out).2
  by_cases hc : routeErr p n key = 0
  · have b1 : (routeErr p n key != 0) = false := by simp [hc]
    have HR : Hid (postsR p n key = sortI (outs p n key) ∧ routeErr p n key = 0) := ⟨by simp [postsR, hc], hc⟩
    obtain ⟨hr, k, rfl, hk, _⟩ := routeErr_ok hc
    clear hc
    have HW := Lib.hid hb1
    have HCP := Lib.hid (posts_any p k key a1 a2 a3 c1 c2 c3 w.heap.size W1 hk hr h2 HS.out (PlanAt.keep' HP.out fun q hq => hb1.cell (p := q) hq) ((EnvB.mk' HV.out).keep fun q hq => hb1.cell (p := q) hq) hb1.size)
    clear hb1
    go_wp2_with (go_at_call 24; refine HCP.out.mono ?_; rintro e W2 ⟨v, rfl, n1, n2⟩; have HN := Lib.hid (And.intro n1 n2); clear n1 n2)
    go_ret2
    refine ⟨v, by rw [HR.out.2]; rfl, ?_, HW.out.trans (HN.out.2.mono HW.out.size)⟩
    rw [HR.out.1]
    exact IntsO.lower HN.out.1 HW.out.size
  · have b1 : (routeErr p n key != 0) = true := by simp [hc]
    have HR : Hid (postsR p n key = []) := by
      have : postsR p n key = [] := by simp [postsR, hc]
      exact (this : postsR p n key = [])
    have HW := Lib.hid hb1
    clear hc hb1
    go_wp2_with fail
    go_ret2
    exact ⟨_, rfl, by rw [HR.out]; exact World.ownsRow_nil _ _ _ _, HW.out⟩

set_option maxHeartbeats 2000000 in
theorem Queues_any (p : PlanD) (n : Int) (key : ByteArray) (a1 a2 a3 : Option Addr) (c1 c2 c3 : Nat) (w : World) (hv : Env w) (hp : PlanAt w 0 w.heap.size a1 a2 a3 p) (hs : PlanSmall p) (h2 : key.size ≤ 1048576) :
    Calls Tryz.prog 8 #[planV p a1 a2 a3 c1 c2 c3, .int .i64 n, .string key] w fun e w' => ∃ v, e = .returned (.tuple #[v, .int .i64 (routeErr p n key)]) ∧ IntsO w' w.heap.size v (queuesR p n key) ∧ Below w.heap.size w w' := by
  have HS := Lib.hid hs; clear hs
  have hbx := boxed_new hp c1 c2 c3 26
  have hz0 : (w.alloc (.cells #[Value.slice a1 p.posts.length c1, Value.slice a2 p.queues.length c2, Value.slice a3 p.binds.length c3] 26)).heap.size = w.heap.size + 1 := by simp
  unfold planV
  have HP := Lib.hid hp
  have HV := Lib.hid hv; clear hv hp
  go_enter Tryz.func8, Tryz.ntmps8
  obtain ⟨m20, m21, m22⟩ := (hbx _ (Below.refl _ _)).2.1
  have HBX := Lib.hid hbx; clear hbx
  go_wp2_with fail
  generalize w.alloc (.cells #[Value.slice a1 p.posts.length c1, Value.slice a2 p.queues.length c2, Value.slice a3 p.binds.length c3] 26) = W0 at *
  have HAS := Lib.hid (Asked_route p n key a1 a2 a3 c1 c2 c3 0 W0 (below_env (HBX.out W0 (Below.refl _ _)).2.2 HV.out) ((HBX.out W0 (Below.refl _ _)).1) HS.out h2)
  unfold planV at HAS
  refine HAS.out.mono ?_
  clear HAS
  rintro e W1 ⟨rfl, hB1⟩
  have HB1 := Lib.hid hB1; clear hB1 m20 m21 m22 hz0
  obtain ⟨⟨m20, m21, m22⟩, hb1⟩ := (HBX.out _ HB1.out).2
  by_cases hc : routeErr p n key = 0
  · have b1 : (routeErr p n key != 0) = false := by simp [hc]
    have HR : Hid (queuesR p n key = ofL p n key ∧ routeErr p n key = 0) := ⟨by simp [queuesR, hc], hc⟩
    obtain ⟨hr, k, rfl, hk, _⟩ := routeErr_ok hc
    clear hc
    have HW := Lib.hid hb1
    have HCP := Lib.hid (Of_walk p k key a1 a2 a3 c1 c2 c3 w.heap.size W1 hk hr h2 HS.out (PlanAt.keep' HP.out fun q hq => hb1.cell (p := q) hq) ((EnvB.mk' HV.out).keep fun q hq => hb1.cell (p := q) hq) hb1.size)
    clear hb1
    go_wp2_with (go_at_call 25; refine HCP.out.mono ?_; rintro e W2 ⟨v, rfl, n1, n2⟩; have HN := Lib.hid (And.intro n1 n2); clear n1 n2)
    go_ret2
    refine ⟨v, by rw [HR.out.2]; rfl, ?_, HW.out.trans (HN.out.2.mono HW.out.size)⟩
    rw [HR.out.1]
    exact IntsO.lower HN.out.1 HW.out.size
  · have b1 : (routeErr p n key != 0) = true := by simp [hc]
    have HR : Hid (queuesR p n key = []) := by
      have : queuesR p n key = [] := by simp [queuesR, hc]
      exact (this : queuesR p n key = [])
    have HW := Lib.hid hb1
    clear hc hb1
    go_wp2_with fail
    go_ret2
    exact ⟨_, rfl, by rw [HR.out]; exact World.ownsRow_nil _ _ _ _, HW.out⟩
end Go.Proofs.YtapimpmpjighmaaGreatDoor

namespace Go.Proofs.YtapimpmpjighmaaGreatDoor
open Go Go.RowKit Go.Shelf Go.Sort
set_option maxRecDepth 100000

abbrev Road := Int × List Int
/-- Does this bind end the way? -/
def stopsW (q : Int) (y : Nat × BindD) : Bool := !y.2.toPost && decide (y.2.to = q)
/-- One bind more: a road more, to a post that was not seen. -/
def stepW (l : List Int) (s : List Int × List Road) (y : Nat × BindD) : List Int × List Road :=
  if y.2.toPost = true ∧ y.2.to ∉ s.1 then (s.1 ++ [y.2.to], s.2 ++ [(y.2.to, l ++ [(y.1 : Int)])]) else s
def roadW (p : PlanD) (key : ByteArray) (q : Int) (s : List Int × List Road) (r : Road) : Except (List Int) (List Int × List Road) :=
  match (onL p r.1 key).find? (stopsW q) with
  | some y => .error (r.2 ++ [(y.1 : Int)])
  | none => .ok ((onL p r.1 key).foldl (stepW r.2) s)
def roundW (p : PlanD) (key : ByteArray) (q : Int) : List Road → List Int × List Road → Except (List Int) (List Int × List Road)
  | [], s => .ok s
  | r :: rs, s => match roadW p key q s r with
    | .error l => .error l
    | .ok s' => roundW p key q rs s'
def wayAt (p : PlanD) (k : Int) (key : ByteArray) (q : Int) : Nat → Except (List Int) (List Int × List Road)
  | 0 => .ok ([k], [(k, [])])
  | i + 1 => match wayAt p k key q i with
    | .error l => .error l
    | .ok s => roundW p key q s.2 (s.1, [])
/-- The way, if there is one. -/
def wayF (p : PlanD) (k : Int) (key : ByteArray) (q : Int) : Option (List Int) :=
  match wayAt p k key q (p.posts.length + 1) with
  | .error l => some l
  | .ok _ => none

theorem roundW_snoc (p : PlanD) (key : ByteArray) (q : Int) (r : Road) : ∀ (rs : List Road) (s : List Int × List Road),
    roundW p key q (rs ++ [r]) s = (match roundW p key q rs s with | .error l => .error l | .ok s' => roadW p key q s' r)
  | [], s => by
    simp only [List.nil_append, roundW]
    cases roadW p key q s r <;> rfl
  | x :: rs, s => by
    simp only [List.cons_append, roundW]
    cases roadW p key q s x with
    | error l => rfl
    | ok s' => exact roundW_snoc p key q r rs s'
theorem roundW_error {p : PlanD} {key : ByteArray} {q : Int} {l : List Int} : ∀ {rs : List Road} {s : List Int × List Road} (ts : List Road), roundW p key q rs s = .error l → roundW p key q (rs ++ ts) s = .error l
  | [], s, ts, h => by cases h
  | x :: rs, s, ts, h => by
    simp only [List.cons_append, roundW] at h ⊢
    cases hx : roadW p key q s x with
    | error l' => rw [hx] at h; exact h
    | ok s' => rw [hx] at h; exact roundW_error ts h
theorem wayAt_error {p : PlanD} {k : Int} {key : ByteArray} {q : Int} {i : Nat} {l : List Int} (h : wayAt p k key q i = .error l) : ∀ m, wayAt p k key q (i + m) = .error l
  | 0 => h
  | m + 1 => by rw [← Nat.add_assoc, wayAt, wayAt_error h m]
theorem wayAt_still {p : PlanD} {k : Int} {key : ByteArray} {q : Int} {i : Nat} {s : List Int} (h : wayAt p k key q i = .ok (s, [])) : ∀ m, wayAt p k key q (i + m) = .ok (s, [])
  | 0 => h
  | m + 1 => by rw [← Nat.add_assoc, wayAt, wayAt_still h m]; rfl
theorem wayF_some {p : PlanD} {k : Int} {key : ByteArray} {q : Int} {i : Nat} {l : List Int} (h : wayAt p k key q i = .error l) (hi : i ≤ p.posts.length + 1) : wayF p k key q = some l := by
  have := wayAt_error h (p.posts.length + 1 - i)
  rw [show i + (p.posts.length + 1 - i) = p.posts.length + 1 by omega] at this
  rw [wayF, this]
theorem wayF_none {p : PlanD} {k : Int} {key : ByteArray} {q : Int} {i : Nat} {s : List Int} (h : wayAt p k key q i = .ok (s, [])) (hi : i ≤ p.posts.length + 1) : wayF p k key q = none := by
  have := wayAt_still h (p.posts.length + 1 - i)
  rw [show i + (p.posts.length + 1 - i) = p.posts.length + 1 by omega] at this
  rw [wayF, this]

/-- Of the posts seen and the roads to be gone next: as many more are seen as roads have come; each leads to a post. -/
structure WayOk (p : PlanD) (n : Nat) (s : List Int × List Road) : Prop where
  ok : OutOk p s.1
  len : s.1.length = n + s.2.length
  at_ : ∀ r ∈ s.2, 0 ≤ r.1 ∧ r.1 < (p.posts.length : Int)
theorem WayOk.step {p : PlanD} (hr : PlanRight p) {n : Nat} {s : List Int × List Road} (h : WayOk p n s) {l : List Int} {y : Nat × BindD} (hy : y.2 ∈ p.binds) : WayOk p n (stepW l s y) := by
  have hb := hr.bind _ hy
  unfold stepW
  split
  · rename_i hc
    rw [if_pos hc.1] at hb
    refine ⟨?_, ?_, fun r hr' => ?_⟩
    · have := h.ok.add hr (y := y) hy
      rwa [addTo, if_pos hc] at this
    · have := h.len
      simp only [List.length_append, List.length_cons, List.length_nil]
      omega
    · rcases List.mem_append.1 hr' with h' | h'
      · exact h.at_ r h'
      · obtain rfl : r = (y.2.to, l ++ [(y.1 : Int)]) := by simpa using h'
        exact ⟨hb.2.2.1, hb.2.2.2⟩
  · exact h
theorem WayOk.steps {p : PlanD} (hr : PlanRight p) {n : Nat} {l : List Int} : ∀ (bs : List (Nat × BindD)) {s : List Int × List Road}, WayOk p n s → (∀ y ∈ bs, y.2 ∈ p.binds) → WayOk p n (bs.foldl (stepW l) s)
  | [], s, h, _ => h
  | y :: bs, s, h, hm => WayOk.steps hr bs (h.step hr (hm y List.mem_cons_self)) fun z hz => hm z (List.mem_cons_of_mem _ hz)

/-- The roads' cells: where each is, and its binds' slice. -/
def flatR (rs : List Road) (bs : List Value) : List Value := (rs.zip bs).flatMap fun x => [.int .i64 x.1.1, x.2]
theorem flatR_snoc (rs : List Road) (bs : List Value) (r : Road) (b : Value) (h : rs.length = bs.length) : flatR (rs ++ [r]) (bs ++ [b]) = flatR rs bs ++ [.int .i64 r.1, b] := by
  unfold flatR
  rw [List.zip_append h, List.flatMap_append]
  rfl
theorem flatR_at (rs : List Road) (bs : List Value) (j : Nat) (r : Road) (b : Value) (hr : rs[j]? = some r) (hb : bs[j]? = some b) : (flatR rs bs)[j * 2]? = some (.int .i64 r.1) ∧ (flatR rs bs)[j * 2 + 1]? = some b := by
  induction rs generalizing bs j with
  | nil => simp at hr
  | cons x rs ih =>
    cases bs with
    | nil => simp at hb
    | cons c bs =>
      cases j with
      | zero =>
        simp at hr hb
        subst hr hb
        exact ⟨rfl, rfl⟩
      | succ j =>
        have := ih bs j (by simpa using hr) (by simpa using hb)
        rw [show (j + 1) * 2 = j * 2 + 1 + 1 by omega]
        exact this
theorem flatR_len (rs : List Road) (bs : List Value) (h : rs.length = bs.length) : (flatR rs bs).length = rs.length * 2 := by
  induction rs generalizing bs with
  | nil => rfl
  | cons x rs ih =>
    cases bs with
    | nil => cases h
    | cons c bs =>
      have := ih bs (by simpa using h)
      simp only [flatR, List.zip_cons_cons, List.flatMap_cons, List.length_append, List.length_cons, List.length_nil] at this ⊢
      omega

/-- v is a slice of one's own of these roads. -/
def RoadsAt (W : World) (base : Nat) (v : Value) (rs : List Road) : Prop :=
  ∃ bs : List Value, rs.length = bs.length ∧ W.ownsRow base 66 2 v rs.length (flatR rs bs) ∧ ∀ (j : Nat) (r : Road) (b : Value), rs[j]? = some r → bs[j]? = some b → IntsO W base b r.2
theorem IntsO.stays {W W' : World} {base : Nat} {v : Value} {xs : List Int} (h : IntsO W base v xs) (hk : ∀ g cs, Bk W g 3 cs → Bk W' g 3 cs) : IntsO W' base v xs := by
  refine ⟨h.1, ?_⟩
  rcases h.2 with h1 | ⟨g, cap, cur, h1, h2, h3, h4⟩
  · exact .inl h1
  · exact .inr ⟨g, cap, cur, h1, h2, hk g cur h3, h4⟩
theorem RoadsAt.stays {W W' : World} {base : Nat} {v : Value} {rs : List Road} (h : RoadsAt W base v rs) (hk : ∀ g cs, Bk W g 3 cs → Bk W' g 3 cs) (hv : ∀ g, v.ownBlock = some g → W'.heap[g]? = W.heap[g]?) : RoadsAt W' base v rs := by
  obtain ⟨bs, h1, h2, h3⟩ := h
  refine ⟨bs, h1, ⟨h2.1, ?_⟩, fun j r b hr hb => (h3 j r b hr hb).stays hk⟩
  rcases h2.2 with h4 | ⟨g, cap, cur, h4, h5, h6, h7⟩
  · exact .inl h4
  · exact .inr ⟨g, cap, cur, h4, h5, (hv g (by rw [h4]; rfl)).trans h6, h7⟩
theorem RoadsAt.nil (W : World) (base : Nat) : RoadsAt W base (.slice none 0 0) [] := ⟨[], rfl, World.ownsRow_nil _ _ _ _, fun j r b h => by simp at h⟩
/-- The map of what was seen. -/
def SeenM (W : World) (g : Nat) (l : List Int) : Prop := ∃ D : DataW Unit, W.ownsMap Tryz.prog 3 (plainElem Tryz.prog 3) g l.length D ∧ SeenD D l

theorem clone_own (base : Nat) (v : Value) (zs : List Int) (w : World) (h : IntsO w base v zs) (hz : zs.length ≤ 1048576) :
    Calls Tryz.prog 33 #[v] w fun e w' => ∃ v', e = .returned v' ∧ IntsO w' w.heap.size v' zs ∧ Below w.heap.size w w' := by
  rcases ints_cases h with ⟨rfl, rfl⟩ | ⟨g, C, rfl⟩
  · refine (Tryz.slices_Clone_int_nil 0 0 w).mono ?_
    rintro e w' ⟨rfl, rfl⟩
    exact ⟨_, rfl, World.ownsRow_nil _ _ _ _, Below.refl _ _⟩
  · refine (Tryz.slices_Clone_int g 0 zs.length C zs w (Nat.le_refl _) (by omega) (fun i hi => by
      rw [Nat.zero_add, (own_cell h i hi).1, List.getElem?_map, List.getElem?_eq_getElem hi, List.getD_eq_getElem?_getD, List.getElem?_eq_getElem hi]
      rfl)).mono ?_
    rintro e w' ⟨v', rfl, h1, _, h2⟩
    rw [List.take_length] at h1
    exact ⟨v', rfl, h1, h2⟩

/-- What a step leaves: blocks of cells, but for those of roads and of slices of roads; whatever is no cells, but for the map. -/
structure Calm (g : Nat) (W W' : World) : Prop where
  cells : ∀ b t cs, t ≠ 66 → t ≠ 67 → Bk W b t cs → Bk W' b t cs
  rest : ∀ (b : Nat) (o : Obj), b ≠ g → W.heap[b]? = some o → o.isCells = false → W'.heap[b]? = some o
  size : W.heap.size ≤ W'.heap.size
theorem Calm.refl (g : Nat) (W : World) : Calm g W W := ⟨fun _ _ _ _ _ h => h, fun _ _ _ h _ => h, Nat.le_refl _⟩
theorem Calm.trans {g : Nat} {A B C : World} (h : Calm g A B) (k : Calm g B C) : Calm g A C := ⟨fun b t cs h1 h2 hb => k.cells b t cs h1 h2 (h.cells b t cs h1 h2 hb), fun b o h1 h2 h3 => k.rest b o h1 (h.rest b o h1 h2 h3) h3, Nat.le_trans h.size k.size⟩
theorem Calm.of_below {g : Nat} {W W' : World} (h : Below W.heap.size W W') : Calm g W W' := ⟨fun _ _ _ _ _ hb => hb.below h hb.lt, fun b o _ h2 _ => (h.block b (Array.getElem?_eq_some_iff.1 h2).1).trans h2, h.size⟩
/-- What Way holds at the head of its loops. -/
structure WayM (q : Int) (P : Array Value) (w : World) (bs g : Nat) (seen : List Int) (Ds : List Nat) (W : World) : Prop where
  plan : Bk W w.heap.size 26 P
  queue : Bk W (w.heap.size + 1) 3 #[.int .i64 q]
  c8 : Bk W (w.heap.size + 1 + 1) 27 #[.slice none 0 0]
  c9 : Bk W (w.heap.size + 1 + 1 + 1) 4 #[.bool false]
  c10 : Bk W (w.heap.size + 1 + 1 + 1 + 1) 28 #[.int .i64 0]
  box : Bk W bs 64 #[.map (some g)]
  map : SeenM W g seen
  below : Below w.heap.size w W
  marks : MarksOk w.heap.size W Ds
  far : w.heap.size + 5 ≤ g ∧ w.heap.size + 5 ≤ bs
theorem SeenM.stays {W W' : World} {g : Nat} {l : List Int} (h : SeenM W g l) (hg : W'.heap[g]? = W.heap[g]?) : SeenM W' g l := by
  obtain ⟨D, h1, h2⟩ := h
  obtain ⟨es, clock, hb, F, hs, e⟩ := h1
  exact ⟨D, ⟨es, clock, hg.trans hb, F, hs, e⟩, h2⟩
theorem WayM.stays {q : Int} {P : Array Value} {w : World} {bs g : Nat} {seen : List Int} {Ds : List Nat} {W W' : World} (h : WayM q P w bs g seen Ds W) (hc : Calm g W W') (hg : W'.heap[g]? = W.heap[g]?) (hb : Below w.heap.size W W') : WayM q P w bs g seen Ds W' :=
  ⟨hc.cells _ _ _ (by decide) (by decide) h.plan, hc.cells _ _ _ (by decide) (by decide) h.queue, hc.cells _ _ _ (by decide) (by decide) h.c8, hc.cells _ _ _ (by decide) (by decide) h.c9, hc.cells _ _ _ (by decide) (by decide) h.c10,
    hc.cells _ _ _ (by decide) (by decide) h.box, h.map.stays hg, h.below.trans hb, h.marks.kept fun D hD => by
      by_cases e : D = g
      · subst e; exact hg
      · exact (hc.rest D _ e (h.marks.2 D hD).2 rfl).trans (h.marks.2 D hD).2.symm, h.far⟩

end Go.Proofs.YtapimpmpjighmaaGreatDoor

namespace Go.Proofs.YtapimpmpjighmaaGreatDoor
open Go Go.RowKit

def firstLoop : Code → Option Code
  | .loop c => some c
  | .seq a b => match firstLoop a with
    | some c => some c
    | none => firstLoop b
  | .block _ c => firstLoop c
  | .scope c => firstLoop c
  | .cond _ a b => match firstLoop a with
    | some c => some c
    | none => firstLoop b
  | _ => none
/-- The loops of a code, from the left; none that lies within another. -/
def loopsOf : Code → List Code
  | .loop c => [c]
  | .seq a b => loopsOf a ++ loopsOf b
  | .block _ c => loopsOf c
  | .scope c => loopsOf c
  | .cond _ a b => loopsOf a ++ loopsOf b
  | _ => []
noncomputable def loopAt (f : Func) (n : Nat) : Code := ((f.body.map loopsOf).getD []).getD n .skip
noncomputable def loopIn (c : Code) (n : Nat) : Code := (loopsOf c).getD n .skip
def firstRange : Code → Option (Code × Code)
  | .rangeFunc _ _ a b => some (a, b)
  | .loop c => firstRange c
  | .seq a b => match firstRange a with
    | some c => some c
    | none => firstRange b
  | .block _ c => firstRange c
  | .scope c => firstRange c
  | .cond _ a b => match firstRange a with
    | some c => some c
    | none => firstRange b
  | _ => none

theorem rowsIn_round {l n : Nat} {P : Program} {row : String} {args : Array Value} {w : World} {R : Value → World → Prop} (h : Rows P row args w R) : RowsIn (Fence.wide.inRound l) n P row args w R :=
  fun c cs _ => let ⟨v, w', r, s⟩ := h c cs; ⟨v, w', r, stepsIn_wide.2 s⟩
def noDefers (ops : Array Oper) : Bool := ops.all fun o => match o.op with | .defer _ => false | _ => true
theorem noDefers_at {ops : Array Oper} (h : noDefers ops = true) {i : Nat} {o : Oper} (ho : ops[i]? = some o) (c) : o.op ≠ .defer c := by
  unfold noDefers at h
  rw [Array.all_eq_true] at h
  obtain ⟨hi, rfl⟩ := Array.getElem?_eq_some_iff.1 ho
  have := h i hi
  intro e
  rw [e] at this
  cases this
theorem opIn_round {l n i : Nat} {P : Program} {ops : Array Oper} {Q : Exit → Act → World → Prop} {K : Act → World → Prop} {a : Act} {w : World} (hd : noDefers ops = true) (hq : ¬ LetsOut Q) (h : wpOp P ops Q i K a w) : wpOpIn (Fence.wide.inRound l) n P ops Q i K a w := by
  unfold wpOp at h
  unfold wpOpIn
  cases ho : ops[i]? with
  | none => simp only [ho] at h ⊢; exact h
  | some o =>
    simp only [ho] at h ⊢
    split
    · rename_i hw
      rw [if_pos hw] at h
      rcases h with h | h
      · refine ⟨fun f _ => trivial, ?_⟩
        unfold Oper.wp at h
        rw [Fence.inRound_round, Oper.semAt_some _ _ _ (fun c => noDefers_at hd ho c)]
        generalize (execOp a.eval o).run P w = r at *
        cases r with
        | ok x w' =>
          cases x <;> simp only [Oper.upon, Oper.uponIn] at h ⊢ <;> first
            | exact h
            | exact ⟨fun h => (by cases h), (callsIn_wide.2 h).mono fun e w'' he => (by cases e <;> exact he)⟩
            | exact ⟨fun h => (by cases h), rowsIn_round h⟩
        | halt x w' => cases x <;> simp only [Oper.upon, Oper.uponIn] at h ⊢ <;> exact h
      · exact absurd h.2 hq
    · rename_i hw
      rw [if_neg hw] at h
      exact ⟨fun f _ => trivial, h⟩
theorem anyIn_round {l n : Nat} {P : Program} {md : Region.Mode} {ops : Array Oper} {Q : Exit → Act → World → Prop} (hd : noDefers ops = true) (hq : ¬ LetsOut Q) : ∀ (fuel : Nat) (listed : Array Bool) (a : Act) (w : World), wpAny P md ops Q fuel listed a w → wpAnyIn (Fence.wide.inRound l) n P md ops Q fuel listed a w
  | 0, _, _, _, h => h
  | fuel + 1, _, _, _, h => ⟨h.1, fun i hi => opIn_round hd hq (wpOp_mono (fun a' w' h' => anyIn_round hd hq fuel _ a' w' h') (h.2 i hi))⟩
/-- What the region leaves, where it ends. -/
def RQ1 (Q : Exit → Act → World → Prop) : Exit → Act → World → Prop
  | .normal, a, W => Q .normal a W
  | _, _, _ => False
theorem RQ1.lets (Q : Exit → Act → World → Prop) : ¬ LetsOut (RQ1 Q) := fun ⟨_, _, h⟩ => h
theorem RQ1.normal {Q : Exit → Act → World → Prop} {a : Act} {W : World} (h : Q .normal a W) : RQ1 Q .normal a W := h
/-- A region that draws its order, in a round: as anywhere. -/
theorem region_round {l n : Nat} {P : Program} {ops : Array Oper} {Q : Exit → Act → World → Prop} {S : World → Prop} {id : Nat} {a : Act} {w : World} (hm : P.follows .mixedOrders = true) (hd : noDefers ops = true) (hS : S w.drew)
    (h : S w.drew → wpAnyH P .any ops (RQ1 Q) S ops.size (Array.replicate ops.size false) a w.drew) : (Code.region id ops true).wpIn (Fence.wide.inRound l) n P Q a w :=
  wpIn_mono (wpIn_region_any (Q := RQ1 Q) hm (anyIn_round hd (RQ1.lets Q) _ _ _ _ (wpAny_of_held _ _ _ _ (h hS)))) fun e a w h => by cases e <;> first | exact h | exact h.elim

end Go.Proofs.YtapimpmpjighmaaGreatDoor

namespace Go.Proofs.YtapimpmpjighmaaGreatDoor

/-- To these posts a key comes. -/
inductive Reach (p : PlanD) (key : ByteArray) (k : Int) : Int → Prop where
  | start : Reach p key k k
  | step {b : BindD} : Reach p key k b.src → b ∈ p.binds → b.toPost = true → byP p b key = true → Reach p key k b.to

theorem onTo_mem' {p : PlanD} {key : ByteArray} : ∀ {j i : Nat} {b : BindD}, i < j → p.binds[i]? = some b → byP p b key = true → (i, b) ∈ onTo p b.src key j
  | j + 1, i, b, hi, hb, hf => by
    rcases Nat.lt_or_ge i j with h | h
    · exact (onTo_step p b.src key j).subset (onTo_mem' h hb hf)
    · obtain rfl : i = j := by omega
      unfold onTo
      rw [hb]
      simp only [hf, and_self, if_true]
      simp
theorem onL_mem {p : PlanD} {key : ByteArray} {x : Int} {y : Nat × BindD} : y ∈ onL p x key ↔ p.binds[y.1]? = some y.2 ∧ y.2.src = x ∧ byP p y.2 key = true := by
  constructor
  · exact fun h => (onTo_mem h).2
  · rintro ⟨h1, rfl, h3⟩
    exact onTo_mem' (List.getElem?_eq_some_iff.1 h1).1 h1 h3
theorem onL_of {p : PlanD} {key : ByteArray} {b : BindD} (h : b ∈ p.binds) (hf : byP p b key = true) : ∃ i, (i, b) ∈ onL p b.src key := by
  obtain ⟨i, hi⟩ := List.getElem?_of_mem h
  exact ⟨i, onL_mem.2 ⟨hi, rfl, hf⟩⟩

theorem addTo_mem {out : List Int} {y : Nat × BindD} {z : Int} : z ∈ addTo out y ↔ z ∈ out ∨ (y.2.toPost = true ∧ y.2.to = z) := by
  unfold addTo
  split
  · rename_i h
    rw [List.mem_append, List.mem_singleton]
    exact ⟨fun h1 => h1.imp id fun e => ⟨h.1, e.symm⟩, fun h1 => h1.imp id fun e => e.2.symm⟩
  · rename_i h
    constructor
    · exact .inl
    · rintro (h1 | ⟨h1, rfl⟩)
      · exact h1
      · exact Decidable.byContradiction fun h2 => h ⟨h1, h2⟩
theorem gather_mem {z : Int} : ∀ {bs : List (Nat × BindD)} {out : List Int}, z ∈ gather out bs ↔ z ∈ out ∨ ∃ y ∈ bs, y.2.toPost = true ∧ y.2.to = z
  | [], out => by simp [gather]
  | y :: bs, out => by
    show z ∈ gather (addTo out y) bs ↔ _
    rw [gather_mem, addTo_mem]
    simp only [List.mem_cons, exists_eq_or_imp]
    exact or_assoc
theorem addTo_prefix (out : List Int) (y : Nat × BindD) : out <+: addTo out y := by
  unfold addTo
  split
  · exact List.prefix_append _ _
  · exact List.prefix_rfl
theorem gather_prefix : ∀ (bs : List (Nat × BindD)) (out : List Int), out <+: gather out bs
  | [], _ => List.prefix_rfl
  | y :: bs, out => (addTo_prefix out y).trans (gather_prefix bs _)
theorem outAt_prefix (p : PlanD) (k : Int) (key : ByteArray) (j : Nat) : outAt p k key j <+: outAt p k key (j + 1) := by
  show _ <+: (match (outAt p k key j)[j]? with | some x => gather (outAt p k key j) (onL p x key) | none => outAt p k key j)
  split
  · exact gather_prefix _ _
  · exact List.prefix_rfl
theorem outAt_reach (p : PlanD) (k : Int) (key : ByteArray) : ∀ j, ∀ x ∈ outAt p k key j, Reach p key k x
  | 0, x, h => by obtain rfl : x = k := by simpa [outAt] using h
                  exact .start
  | j + 1, x, h => by
    unfold outAt at h
    split at h
    · rename_i z hz
      rcases gather_mem.1 h with h | ⟨y, hy, h1, rfl⟩
      · exact outAt_reach p k key j x h
      · obtain ⟨h2, h3, h4⟩ := onL_mem.1 hy
        refine .step ?_ (List.mem_of_getElem? h2) h1 h4
        rw [h3]
        exact outAt_reach p k key j z (List.mem_of_getElem? hz)
    · exact outAt_reach p k key j x h
theorem outAt_closed (p : PlanD) (k : Int) (key : ByteArray) : ∀ (j i : Nat) (x : Int), i < j → (outAt p k key j)[i]? = some x → ∀ y ∈ onL p x key, y.2.toPost = true → y.2.to ∈ outAt p k key j
  | j + 1, i, x, hi, hx, y, hy, hp => by
    have hpre := outAt_prefix p k key j
    rcases Nat.lt_or_ge i (outAt p k key j).length with hl | hl
    · have hx' : (outAt p k key j)[i]? = some x := by
        obtain ⟨t, ht⟩ := hpre
        rw [← ht, List.getElem?_append_left hl] at hx
        exact hx
      rcases Nat.lt_or_ge i j with h | h
      · exact hpre.subset (outAt_closed p k key j i x h hx' y hy hp)
      · obtain rfl : i = j := by omega
        show _ ∈ (match (outAt p k key i)[i]? with | some x => gather (outAt p k key i) (onL p x key) | none => outAt p k key i)
        rw [hx']
        exact gather_mem.2 (.inr ⟨y, hy, hp, rfl⟩)
    · exfalso
      have : outAt p k key (j + 1) = outAt p k key j := outAt_still (j := j) (by omega) 1
      rw [this, List.getElem?_eq_none hl] at hx
      cases hx
theorem outs_mem {p : PlanD} (hr : PlanRight p) {k : Nat} (hk : k < p.posts.length) {key : ByteArray} {x : Int} : x ∈ outs p k key ↔ Reach p key k x := by
  constructor
  · exact outAt_reach p k key _ x
  · intro h
    induction h with
    | start =>
      have : ∀ j, outAt p k key 0 <+: outAt p k key j := fun j => by
        induction j with
        | zero => exact List.prefix_rfl
        | succ j ih => exact ih.trans (outAt_prefix p k key j)
      exact (this _).subset (by simp [outAt])
    | @step b h1 h2 h3 h4 ih =>
      obtain ⟨i, hi⟩ := onL_of h2 h4
      obtain ⟨m, hm⟩ := List.getElem?_of_mem ih
      have hl := (outAt_ok hr hk p.posts.length (key := key)).len
      have hml := (List.getElem?_eq_some_iff.1 hm).1
      exact outAt_closed p k key _ m _ (Nat.lt_of_lt_of_le hml hl) hm _ hi h3

/-- Two lists that ascend and have the same in them are one. -/
theorem asc_ext {l r : List Int} (hl : l.Pairwise (· < ·)) (hr : r.Pairwise (· < ·)) (h : ∀ x, x ∈ l ↔ x ∈ r) : l = r := by
  have nd : ∀ {l : List Int}, l.Pairwise (· < ·) → l.Nodup := fun h => h.imp fun h => by omega
  have hp : l.Perm r := (List.perm_ext_iff_of_nodup (nd hl) (nd hr)).2 h
  exact hp.eq_of_pairwise (fun a b _ _ h1 h2 => by omega) hl hr
theorem sortI_le (zs : List Int) : (sortI zs).Pairwise (· ≤ ·) := by
  have := List.pairwise_mergeSort (le := fun x y : Int => decide (x ≤ y)) (fun a b c h1 h2 => by simp only [decide_eq_true_eq] at *; omega) (fun a b => by simp only [Bool.or_eq_true, decide_eq_true_eq]; omega) zs
  exact this.imp fun h => by simpa using h
theorem sortI_asc {zs : List Int} (h : zs.Nodup) : (sortI zs).Pairwise (· < ·) := by
  have h1 := sortI_le zs
  have h2 : (sortI zs).Nodup := (List.mergeSort_perm zs _).nodup_iff.2 h
  exact (h1.and h2).imp fun ⟨h, k⟩ => by omega

section
open Go.Lib
theorem compact_mem {zs : List Int} (h : zs.Pairwise (· ≤ ·)) {x : Int} : x ∈ compact zs ↔ x ∈ zs := by
  have key : ∀ m, m ≤ zs.length → (x ∈ compactUpTo zs.toArray m ↔ x ∈ zs.take m) := by
    intro m
    induction m with
    | zero => intro _; simp [compactUpTo]
    | succ m ih =>
      intro hm
      have hm' : m < zs.toArray.size := by simp; omega
      rw [compactUpTo_succ, List.mem_append, ih (by omega), List.take_succ_eq_append_getElem (by omega), List.mem_append, List.mem_singleton, getElem!_pos _ m hm']
      by_cases hk : keeps zs.toArray m = true
      · rw [if_pos hk]; simp
      · rw [if_neg hk]
        unfold keeps at hk
        simp only [decide_eq_true_eq, not_or, Decidable.not_not] at hk
        obtain ⟨h0, h1⟩ := hk
        rw [getElem!_pos _ m hm', getElem!_pos _ (m - 1) (by simp; omega)] at h1
        simp only [List.getElem_toArray] at h1 ⊢
        simp only [List.not_mem_nil, or_false]
        constructor
        · exact .inl
        · rintro (h2 | rfl)
          · exact h2
          · rw [h1]
            rw [List.mem_take_iff_getElem]
            exact ⟨m - 1, by omega, rfl⟩
  have := key zs.length (Nat.le_refl _)
  rwa [List.take_length] at this
theorem compact_asc {zs : List Int} (h : zs.Pairwise (· ≤ ·)) : (compact zs).Pairwise (· < ·) := by
  have key : ∀ m, m ≤ zs.length → (compactUpTo zs.toArray m).Pairwise (· < ·) ∧ ∀ x ∈ compactUpTo zs.toArray m, ∀ hm : 0 < m, ∃ hz : m - 1 < zs.length, x ≤ zs[m - 1] := by
    intro m
    induction m with
    | zero => intro _; simp [compactUpTo]
    | succ m ih =>
      intro hm
      have hm' : m < zs.toArray.size := by simp; omega
      obtain ⟨h1, h2⟩ := ih (by omega)
      rw [compactUpTo_succ, getElem!_pos _ m hm']
      simp only [List.getElem_toArray, Nat.add_sub_cancel]
      have hlast : ∀ x ∈ compactUpTo zs.toArray m, x ≤ zs[m] := fun x hx => by
        rcases Nat.eq_zero_or_pos m with rfl | h0
        · simp [compactUpTo] at hx
        · obtain ⟨hz, hle⟩ := h2 x hx h0
          have := List.pairwise_iff_getElem.1 h (m - 1) m hz (by omega) (by omega)
          omega
      by_cases hk : keeps zs.toArray m = true
      · rw [if_pos hk]
        refine ⟨List.pairwise_append.2 ⟨h1, by simp, fun a ha b hb => ?_⟩, fun x hx _ => ⟨by omega, ?_⟩⟩
        · obtain rfl : b = zs[m] := by simpa using hb
          have h3 : 0 < m := by
            rcases Nat.eq_zero_or_pos m with rfl | h0
            · simp [compactUpTo] at ha
            · exact h0
          obtain ⟨hz, hle⟩ := h2 a ha h3
          have hle2 := List.pairwise_iff_getElem.1 h (m - 1) m hz (by omega) (by omega)
          unfold keeps at hk
          simp only [decide_eq_true_eq] at hk
          rw [getElem!_pos _ m hm', getElem!_pos _ (m - 1) (by simp; omega)] at hk
          simp only [List.getElem_toArray] at hk
          omega
        · rcases List.mem_append.1 hx with hx | hx
          · exact hlast x hx
          · obtain rfl : x = zs[m] := by simpa using hx
            omega
      · rw [if_neg hk, List.append_nil]
        exact ⟨h1, fun x hx _ => ⟨by omega, hlast x hx⟩⟩
  exact (key zs.length (Nat.le_refl _)).1
end

theorem collect_mem {z : Int} : ∀ {bs : List (Nat × BindD)} {out : List Int}, z ∈ collect out bs ↔ z ∈ out ∨ ∃ y ∈ bs, y.2.toPost = false ∧ y.2.to = z
  | [], out => by simp [collect]
  | y :: bs, out => by
    show z ∈ collect (queueTo out y) bs ↔ _
    rw [collect_mem]
    have : z ∈ queueTo out y ↔ z ∈ out ∨ (y.2.toPost = false ∧ y.2.to = z) := by
      unfold queueTo
      cases y.2.toPost <;> simp [eq_comm]
    rw [this]
    simp only [List.mem_cons, exists_eq_or_imp]
    exact or_assoc
theorem offAt_mem (p : PlanD) (key : ByteArray) (ps : List Int) (z : Int) : ∀ j, j ≤ ps.length → (z ∈ offAt p key ps j ↔ ∃ x ∈ ps.take j, ∃ y ∈ onL p x key, y.2.toPost = false ∧ y.2.to = z)
  | 0, _ => by simp [offAt]
  | j + 1, hj => by
    have hj' : j < ps.length := by omega
    unfold offAt
    rw [List.getElem?_eq_getElem hj', List.take_succ_eq_append_getElem hj']
    simp only
    rw [collect_mem, offAt_mem p key ps z j (by omega)]
    simp only [List.mem_append, List.mem_singleton, or_and_right, exists_or, exists_eq_left]
/-- The queues to which it comes. -/
theorem ofL_mem {p : PlanD} (hr : PlanRight p) {k : Nat} (hk : k < p.posts.length) {key : ByteArray} {z : Int} : z ∈ ofL p k key ↔ ∃ b ∈ p.binds, b.toPost = false ∧ b.to = z ∧ byP p b key = true ∧ Reach p key k b.src := by
  unfold ofL
  rw [compact_mem (sortI_le _), sortI_mem, offAt_mem _ _ _ _ _ (Nat.le_refl _), List.take_length]
  constructor
  · rintro ⟨x, hx, y, hy, h1, h2⟩
    obtain ⟨h3, h4, h5⟩ := onL_mem.1 hy
    exact ⟨y.2, List.mem_of_getElem? h3, h1, h2, h5, by rw [h4]; exact (outs_mem hr hk).1 (sortI_mem.1 hx)⟩
  · rintro ⟨b, hb, h1, h2, h3, h4⟩
    obtain ⟨i, hi⟩ := onL_of hb h3
    exact ⟨b.src, sortI_mem.2 ((outs_mem hr hk).2 h4), (i, b), hi, h1, h2⟩
theorem ofL_asc (p : PlanD) (k : Int) (key : ByteArray) : (ofL p k key).Pairwise (· < ·) := compact_asc (sortI_le _)
theorem ofL_lt {p : PlanD} (hr : PlanRight p) {k : Nat} (hk : k < p.posts.length) {key : ByteArray} {z : Int} (h : z ∈ ofL p k key) : 0 ≤ z ∧ z < (p.queues.length : Int) := by
  obtain ⟨b, hb, h1, rfl, _⟩ := (ofL_mem hr hk).1 h
  have := hr.bind _ hb
  rw [h1] at this
  simp only [Bool.false_eq_true, if_false] at this
  omega

/-- Of these so many the ones that are. -/
def pickI (f : Nat → Bool) (n : Nat) : List Int := ((List.range n).filter f).map fun (i : Nat) => (i : Int)
theorem pickI_succ (f : Nat → Bool) (n : Nat) : pickI f (n + 1) = if f n = true then pickI f n ++ [(n : Int)] else pickI f n := by
  unfold pickI
  rw [List.range_succ, List.filter_append, List.map_append]
  split <;> rename_i h <;> simp [h]
theorem pickI_asc (f : Nat → Bool) (n : Nat) : (pickI f n).Pairwise (· < ·) := by
  unfold pickI
  rw [List.pairwise_map]
  exact (List.pairwise_lt_range.filter _).imp fun h => by omega
theorem pickI_mem {f : Nat → Bool} {n : Nat} {x : Int} : x ∈ pickI f n ↔ ∃ i : Nat, i < n ∧ f i = true ∧ x = (i : Int) := by
  unfold pickI
  simp only [List.mem_map, List.mem_filter, List.mem_range]
  exact ⟨fun ⟨i, ⟨h1, h2⟩, h3⟩ => ⟨i, h1, h2, h3.symm⟩, fun ⟨i, h1, h2, h3⟩ => ⟨i, ⟨h1, h2⟩, h3.symm⟩⟩
theorem pickI_len (f : Nat → Bool) (n : Nat) : (pickI f n).length ≤ n := by
  unfold pickI
  rw [List.length_map]
  exact Nat.le_trans (List.length_filter_le _ _) (by simp)

/-- One bind in a round of the reference: its post is marked. -/
def markB (p : PlanD) (key : ByteArray) (l : List Bool) (b : BindD) : List Bool :=
  if b.toPost = true ∧ (l[b.src.toNat]?).getD false = true ∧ byP p b key = true then l.set b.to.toNat true else l
def roundTo (p : PlanD) (key : ByteArray) (l : List Bool) (j : Nat) : List Bool := (p.binds.take j).foldl (markB p key) l
def roundsB (p : PlanD) (key : ByteArray) (k : Nat) : Nat → List Bool
  | 0 => (List.replicate p.posts.length false).set k true
  | r + 1 => roundTo p key (roundsB p key k r) p.binds.length
theorem roundTo_succ {p : PlanD} {key : ByteArray} {l : List Bool} {j : Nat} {b : BindD} (h : p.binds[j]? = some b) : roundTo p key l (j + 1) = markB p key (roundTo p key l j) b := by
  obtain ⟨hj, rfl⟩ := List.getElem?_eq_some_iff.1 h
  unfold roundTo
  rw [List.take_succ_eq_append_getElem hj, List.foldl_append]
  rfl
theorem markB_len (p : PlanD) (key : ByteArray) (l : List Bool) (b : BindD) : (markB p key l b).length = l.length := by
  unfold markB
  split <;> simp
theorem foldB_len (p : PlanD) (key : ByteArray) : ∀ (bs : List BindD) (l : List Bool), (bs.foldl (markB p key) l).length = l.length
  | [], l => rfl
  | b :: bs, l => by rw [List.foldl_cons, foldB_len p key bs, markB_len]
theorem roundTo_len (p : PlanD) (key : ByteArray) (l : List Bool) (j : Nat) : (roundTo p key l j).length = l.length := foldB_len p key _ l
theorem roundsB_len (p : PlanD) (key : ByteArray) (k r : Nat) : (roundsB p key k r).length = p.posts.length := by
  induction r with
  | zero => simp [roundsB]
  | succ r ih => rw [roundsB, roundTo_len, ih]
theorem set_count : ∀ (l : List Bool) (i : Nat), l.set i true = l ∨ l.count true < (l.set i true).count true
  | [], i => .inl rfl
  | b :: l, 0 => by
    cases b
    · right; simp
    · left; rfl
  | b :: l, i + 1 => by
    rcases set_count l i with h | h
    · left; rw [List.set_cons_succ, h]
    · right; rw [List.set_cons_succ, List.count_cons, List.count_cons]; omega
theorem markB_count (p : PlanD) (key : ByteArray) (l : List Bool) (b : BindD) : markB p key l b = l ∨ l.count true < (markB p key l b).count true := by
  unfold markB
  split
  · exact set_count l _
  · exact .inl rfl
theorem foldB_count (p : PlanD) (key : ByteArray) : ∀ (bs : List BindD) (l : List Bool), (bs.foldl (markB p key) l = l ∧ ∀ b ∈ bs, markB p key l b = l) ∨ l.count true < (bs.foldl (markB p key) l).count true
  | [], l => .inl ⟨rfl, fun b h => by cases h⟩
  | b :: bs, l => by
    rw [List.foldl_cons]
    rcases markB_count p key l b with h | h
    · rw [h]
      rcases foldB_count p key bs l with ⟨h1, h2⟩ | h1
      · exact .inl ⟨h1, fun c hc => by
          rcases List.mem_cons.1 hc with rfl | hc
          · exact h
          · exact h2 c hc⟩
      · exact .inr h1
    · right
      rcases foldB_count p key bs (markB p key l b) with ⟨h1, _⟩ | h1
      · rw [h1]; exact h
      · omega
theorem roundsB_grow (p : PlanD) (key : ByteArray) (k : Nat) (hk : k < p.posts.length) : ∀ r, (∀ b ∈ p.binds, markB p key (roundsB p key k r) b = roundsB p key k r) ∨ r + 1 ≤ (roundsB p key k r).count true
  | 0 => by
    right
    have : (roundsB p key k 0)[k]? = some true := by simp [roundsB, hk]
    have := List.mem_of_getElem? this
    have := List.count_pos_iff.2 this
    omega
  | r + 1 => by
    have hs : roundsB p key k (r + 1) = p.binds.foldl (markB p key) (roundsB p key k r) := by
      show roundTo _ _ _ _ = _
      rw [roundTo, List.take_length]
    rcases foldB_count p key p.binds (roundsB p key k r) with ⟨h1, h2⟩ | h1
    · left
      rw [hs, h1]
      exact h2
    · rcases roundsB_grow p key k hk r with h | h
      · left
        have h3 : ∀ (bs : List BindD), (∀ b ∈ bs, markB p key (roundsB p key k r) b = roundsB p key k r) → bs.foldl (markB p key) (roundsB p key k r) = roundsB p key k r := by
          intro bs
          induction bs with
          | nil => intro _; rfl
          | cons b bs ih => intro h; rw [List.foldl_cons, h b List.mem_cons_self]; exact ih fun c hc => h c (List.mem_cons_of_mem _ hc)
        rw [hs, h3 _ h]
        exact h
      · right
        rw [hs]
        omega
theorem roundsB_fix (p : PlanD) (key : ByteArray) (k : Nat) (hk : k < p.posts.length) : ∀ b ∈ p.binds, markB p key (roundsB p key k p.posts.length) b = roundsB p key k p.posts.length := by
  rcases roundsB_grow p key k hk p.posts.length with h | h
  · exact h
  · have h1 := List.count_le_length (a := true) (l := roundsB p key k p.posts.length)
    rw [roundsB_len] at h1
    omega
theorem foldB_sound {p : PlanD} (hr : PlanRight p) {key : ByteArray} {k : Int} : ∀ (bs : List BindD) (l : List Bool), (∀ b ∈ bs, b ∈ p.binds) → (∀ i : Nat, l[i]? = some true → Reach p key k i) → ∀ i : Nat, (bs.foldl (markB p key) l)[i]? = some true → Reach p key k i
  | [], l, _, h, i, hi => h i hi
  | b :: bs, l, hb, h, i, hi => by
    refine foldB_sound hr bs (markB p key l b) (fun c hc => hb c (List.mem_cons_of_mem _ hc)) (fun j hj => ?_) i hi
    unfold markB at hj
    split at hj
    · rename_i hc
      obtain ⟨h1, h2, h3⟩ := hc
      have hbb := hb b List.mem_cons_self
      have hbr := hr.bind b hbb
      rw [if_pos h1] at hbr
      by_cases e : b.to.toNat = j
      · have e' : (j : Int) = b.to := by omega
        rw [e']
        refine .step ?_ hbb h1 h3
        have := h b.src.toNat (by
          cases hx : l[b.src.toNat]? with
          | none => rw [hx] at h2; cases h2
          | some v => rw [hx] at h2; simp at h2; rw [h2])
        rwa [show ((b.src.toNat : Nat) : Int) = b.src by omega] at this
      · rw [List.getElem?_set_ne e] at hj
        exact h j hj
    · exact h j hj
theorem roundsB_sound {p : PlanD} (hr : PlanRight p) {key : ByteArray} {k : Nat} : ∀ (r i : Nat), (roundsB p key k r)[i]? = some true → Reach p key k i
  | 0, i, h => by
    rw [roundsB, List.getElem?_set] at h
    split at h
    · rename_i e; subst e; exact .start
    · rw [List.getElem?_replicate] at h
      split at h <;> cases h
  | r + 1, i, h => by
    rw [roundsB, roundTo, List.take_length] at h
    exact foldB_sound hr p.binds _ (fun b hb => hb) (roundsB_sound hr r) i h
theorem roundsB_start (p : PlanD) (key : ByteArray) (k : Nat) (hk : k < p.posts.length) : ∀ r, (roundsB p key k r)[k]? = some true := by
  have keep : ∀ (bs : List BindD) (l : List Bool) (i : Nat), l[i]? = some true → (bs.foldl (markB p key) l)[i]? = some true := by
    intro bs
    induction bs with
    | nil => intro l i h; exact h
    | cons b bs ih =>
      intro l i h
      rw [List.foldl_cons]
      refine ih _ i ?_
      unfold markB
      split
      · rw [List.getElem?_set]
        split
        · rename_i e; subst e
          rw [if_pos (List.getElem?_eq_some_iff.1 h).1]
        · exact h
      · exact h
  intro r
  induction r with
  | zero => simp [roundsB, hk]
  | succ r ih => exact keep _ _ _ ih
theorem roundsB_reach {p : PlanD} (hr : PlanRight p) {key : ByteArray} {k : Nat} (hk : k < p.posts.length) {x : Int} (h : Reach p key k x) : 0 ≤ x ∧ (roundsB p key k p.posts.length)[x.toNat]? = some true := by
  induction h with
  | start => exact ⟨by omega, roundsB_start p key k hk _⟩
  | @step b h1 h2 h3 h4 ih =>
    have hbr := hr.bind b h2
    rw [if_pos h3] at hbr
    have hf := roundsB_fix p key k hk b h2
    unfold markB at hf
    rw [if_pos ⟨h3, by rw [ih.2]; rfl, h4⟩] at hf
    refine ⟨by omega, ?_⟩
    rw [← hf, List.getElem?_set, if_pos rfl, if_pos (by rw [roundsB_len]; omega)]
def refPosts (p : PlanD) (key : ByteArray) (k : Nat) : List Int := pickI (fun i => ((roundsB p key k p.posts.length)[i]?).getD false) p.posts.length
theorem getD_true {o : Option Bool} (h : o.getD false = true) : o = some true := by
  cases o with
  | none => cases h
  | some v => simp at h; rw [h]
/-- Posts' answer is the reference's. -/
theorem refPosts_mem {p : PlanD} (hr : PlanRight p) {key : ByteArray} {k : Nat} (hk : k < p.posts.length) {x : Int} : x ∈ refPosts p key k ↔ Reach p key k x := by
  unfold refPosts
  rw [pickI_mem]
  constructor
  · rintro ⟨i, h1, h2, rfl⟩
    exact roundsB_sound hr _ i (getD_true h2)
  · intro h
    obtain ⟨h1, h2⟩ := roundsB_reach hr hk h
    have h3 := (List.getElem?_eq_some_iff.1 h2).1
    rw [roundsB_len] at h3
    exact ⟨x.toNat, h3, by rw [h2]; rfl, by omega⟩
theorem refPosts_eq {p : PlanD} (hr : PlanRight p) {key : ByteArray} {k : Nat} (hk : k < p.posts.length) : refPosts p key k = sortI (outs p k key) :=
  asc_ext (pickI_asc _ _) (sortI_asc (outAt_ok hr hk _).1) fun x => by rw [refPosts_mem hr hk, sortI_mem, outs_mem hr hk]
/-- Does a bind lead to this queue, of posts that are among these? -/
def toQueue (p : PlanD) (key : ByteArray) (ps : List Int) (q : Nat) (b : BindD) : Bool := !b.toPost && decide (b.to = (q : Int)) && ps.contains b.src && byP p b key
def refQueues (p : PlanD) (key : ByteArray) (k : Nat) : List Int := pickI (fun q => p.binds.any (toQueue p key (refPosts p key k) q)) p.queues.length
theorem refQueues_eq {p : PlanD} (hr : PlanRight p) {key : ByteArray} {k : Nat} (hk : k < p.posts.length) : refQueues p key k = ofL p k key := by
  refine asc_ext (pickI_asc _ _) (ofL_asc _ _ _) fun x => ?_
  unfold refQueues
  rw [pickI_mem]
  constructor
  · rintro ⟨i, h1, h2, rfl⟩
    rw [List.any_eq_true] at h2
    obtain ⟨b, hb, h3⟩ := h2
    unfold toQueue at h3
    simp only [Bool.and_eq_true, Bool.not_eq_true', decide_eq_true_eq, List.contains_iff_mem] at h3
    obtain ⟨⟨⟨h4, h5⟩, h6⟩, h7⟩ := h3
    exact (ofL_mem hr hk).2 ⟨b, hb, h4, h5, h7, (refPosts_mem hr hk).1 h6⟩
  · intro h
    have hl := ofL_lt hr hk h
    obtain ⟨b, hb, h1, h2, h3, h4⟩ := (ofL_mem hr hk).1 h
    refine ⟨x.toNat, by omega, ?_, by omega⟩
    rw [List.any_eq_true]
    refine ⟨b, hb, ?_⟩
    unfold toQueue
    simp only [Bool.and_eq_true, Bool.not_eq_true', decide_eq_true_eq, List.contains_iff_mem]
    exact ⟨⟨⟨h1, by omega⟩, (refPosts_mem hr hk).2 h4⟩, h3⟩

end Go.Proofs.YtapimpmpjighmaaGreatDoor

namespace Go.Proofs.YtapimpmpjighmaaGreatDoor

/-- The bind that ends the way at this post. -/
def hitW (p : PlanD) (key : ByteArray) (q : Int) (r : Road) : Option (List Int) := ((onL p r.1 key).find? (stopsW q)).map fun y => r.2 ++ [(y.1 : Int)]
/-- The roads that are one bind longer. -/
def extW (p : PlanD) (key : ByteArray) (r : Road) : List Road := ((onL p r.1 key).filter fun y => y.2.toPost).map fun y => (y.2.to, r.2 ++ [(y.1 : Int)])
/-- The reference's way by so many binds. -/
def wayBy (p : PlanD) (key : ByteArray) (q : Int) : Nat → Int → Option (List Int)
  | 0, _ => none
  | n + 1, x => (onL p x key).findSome? fun y =>
      if n = 0 then (if stopsW q y = true then some [(y.1 : Int)] else none) else if y.2.toPost = true then (wayBy p key q n y.2.to).map fun l => (y.1 : Int) :: l else none
def wayOf (p : PlanD) (k : Int) (key : ByteArray) (q : Int) : Option (List Int) := (List.range p.posts.length).findSome? fun i => wayBy p key q (i + 1) k
/-- All roads of so many binds. -/
def pathsW (p : PlanD) (key : ByteArray) : Nat → Int → List Road
  | 0, x => [(x, [])]
  | n + 1, x => (onL p x key).flatMap fun y => if y.2.toPost = true then (pathsW p key n y.2.to).map fun r => (r.1, (y.1 : Int) :: r.2) else []

theorem findSome_if {α β : Type} (c : α → Bool) (f : α → β) : ∀ l : List α, l.findSome? (fun y => if c y = true then some (f y) else none) = (l.find? c).map f
  | [] => rfl
  | y :: l => by
    rw [List.findSome?_cons, List.find?_cons]
    cases h : c y
    · simp only [Bool.false_eq_true, if_false]
      exact findSome_if c f l
    · simp
theorem findSome_map {α β γ : Type} (f : α → Option β) (g : β → γ) : ∀ l : List α, (l.findSome? f).map g = l.findSome? fun a => (f a).map g
  | [] => rfl
  | y :: l => by
    rw [List.findSome?_cons, List.findSome?_cons]
    cases f y with
    | some b => rfl
    | none => exact findSome_map f g l
theorem findSome_flat {α β γ : Type} (f : β → Option γ) (g : α → List β) : ∀ l : List α, (l.flatMap g).findSome? f = l.findSome? fun a => (g a).findSome? f
  | [] => rfl
  | y :: l => by
    rw [List.flatMap_cons, List.findSome?_append, List.findSome?_cons, findSome_flat f g l]
    cases (g y).findSome? f <;> rfl
theorem hit_cons (p : PlanD) (key : ByteArray) (q i : Int) (r : Road) : hitW p key q (r.1, i :: r.2) = (hitW p key q r).map fun l => i :: l := by
  unfold hitW
  rw [Option.map_map]
  rfl
theorem wayBy_paths (p : PlanD) (key : ByteArray) (q : Int) : ∀ (n : Nat) (x : Int), wayBy p key q (n + 1) x = (pathsW p key n x).findSome? (hitW p key q)
  | 0, x => by
    show ((onL p x key).findSome? fun y => if 0 = 0 then (if stopsW q y = true then some [(y.1 : Int)] else none) else _) = _
    simp only [if_true]
    rw [findSome_if]
    simp only [pathsW, List.findSome?_cons, List.findSome?_nil, hitW, List.nil_append]
    cases (onL p x key).find? (stopsW q) <;> rfl
  | n + 1, x => by
    show ((onL p x key).findSome? fun y => if n + 1 = 0 then (if stopsW q y = true then some [(y.1 : Int)] else none) else if y.2.toPost = true then (wayBy p key q (n + 1) y.2.to).map fun l => (y.1 : Int) :: l else none) = _
    rw [pathsW, findSome_flat]
    congr 1
    funext y
    rw [if_neg (by omega)]
    split
    · rw [wayBy_paths p key q n, findSome_map, List.findSome?_map]
      congr 1
      funext r
      exact (hit_cons p key q y.1 r).symm
    · rfl
theorem flat_if {α β : Type} (c : α → Bool) (f : α → β) : ∀ l : List α, l.flatMap (fun y => if c y = true then [f y] else []) = (l.filter c).map f
  | [] => rfl
  | y :: l => by
    rw [List.flatMap_cons, flat_if c f l, List.filter_cons]
    cases c y <;> rfl
theorem ext_cons (p : PlanD) (key : ByteArray) (i : Int) (r : Road) : extW p key (r.1, i :: r.2) = (extW p key r).map fun s => (s.1, i :: s.2) := by
  unfold extW
  rw [List.map_map]
  rfl
theorem paths_ext (p : PlanD) (key : ByteArray) : ∀ (n : Nat) (x : Int), pathsW p key (n + 1) x = (pathsW p key n x).flatMap (extW p key)
  | 0, x => by
    show (onL p x key).flatMap (fun y => if y.2.toPost = true then [((y.2.to, [(y.1 : Int)]) : Road)] else []) = _
    rw [flat_if (fun y : Nat × BindD => y.2.toPost) (fun y => ((y.2.to, [(y.1 : Int)]) : Road))]
    simp [pathsW, extW]
  | n + 1, x => by
    have ih := paths_ext p key n
    show (onL p x key).flatMap (fun y => if y.2.toPost = true then (pathsW p key (n + 1) y.2.to).map (fun r => ((r.1, (y.1 : Int) :: r.2) : Road)) else []) = ((onL p x key).flatMap (fun y => if y.2.toPost = true then (pathsW p key n y.2.to).map (fun r => ((r.1, (y.1 : Int) :: r.2) : Road)) else [])).flatMap (extW p key)
    rw [List.flatMap_assoc]
    congr 1
    funext y
    split
    · rw [ih, List.map_flatMap, List.flatMap_map]
      congr 1
      funext r
      exact (ext_cons p key y.1 r).symm
    · rfl

/-- Of these roads those to posts that were not seen, each once. -/
def fresh : List Int → List Road → List Road
  | _, [] => []
  | s, r :: ps => if r.1 ∈ s then fresh s ps else r :: fresh (s ++ [r.1]) ps
def scanW (s : List Int × List Road) (ps : List Road) : List Int × List Road := ps.foldl (fun s r => if r.1 ∉ s.1 then (s.1 ++ [r.1], s.2 ++ [r]) else s) s
theorem scan_fresh : ∀ (ps : List Road) (s : List Int) (acc : List Road), scanW (s, acc) ps = (s ++ (fresh s ps).map Prod.fst, acc ++ fresh s ps)
  | [], s, acc => by simp [scanW, fresh]
  | r :: ps, s, acc => by
    show scanW (if r.1 ∉ s then (s ++ [r.1], acc ++ [r]) else (s, acc)) ps = _
    by_cases h : r.1 ∈ s
    · rw [if_neg (by simpa using h), scan_fresh ps, fresh, if_pos h]
    · rw [if_pos h, scan_fresh ps, fresh, if_neg h]
      simp
theorem scan_append (s : List Int × List Road) (a b : List Road) : scanW s (a ++ b) = scanW (scanW s a) b := List.foldl_append
theorem scan_noop : ∀ (ps : List Road) (s : List Int × List Road), (∀ r ∈ ps, r.1 ∈ s.1) → scanW s ps = s
  | [], s, _ => rfl
  | r :: ps, s, h => by
    show scanW (if r.1 ∉ s.1 then _ else s) ps = s
    rw [if_neg (by simpa using h r List.mem_cons_self)]
    exact scan_noop ps s fun t ht => h t (List.mem_cons_of_mem _ ht)
theorem scan_mem : ∀ (ps : List Road) (s : List Int × List Road), (∀ x ∈ s.1, x ∈ (scanW s ps).1) ∧ ∀ r ∈ ps, r.1 ∈ (scanW s ps).1
  | [], s => ⟨fun x h => h, fun r h => by cases h⟩
  | r :: ps, s => by
    obtain ⟨h1, h2⟩ := scan_mem ps (if r.1 ∉ s.1 then (s.1 ++ [r.1], s.2 ++ [r]) else s)
    refine ⟨fun x hx => h1 x ?_, fun t ht => ?_⟩
    · split
      · simp [hx]
      · exact hx
    · rcases List.mem_cons.1 ht with rfl | ht
      · refine h1 _ ?_
        split
        · simp
        · rename_i h; simpa using h
      · exact h2 t ht
theorem road_scan (l : List Int) : ∀ (bs : List (Nat × BindD)) (s : List Int × List Road), bs.foldl (stepW l) s = scanW s ((bs.filter fun y => y.2.toPost).map fun y => (y.2.to, l ++ [(y.1 : Int)]))
  | [], s => rfl
  | y :: bs, s => by
    rw [List.foldl_cons, road_scan l bs, List.filter_cons]
    unfold stepW
    cases h : y.2.toPost
    · simp
    · simp only [true_and, if_true, List.map_cons]
      rfl
theorem round_eq (p : PlanD) (key : ByteArray) (q : Int) : ∀ (rs : List Road) (s : List Int × List Road), roundW p key q rs s = (match rs.findSome? (hitW p key q) with | some l => .error l | none => .ok (scanW s (rs.flatMap (extW p key))))
  | [], s => rfl
  | r :: rs, s => by
    have hh : hitW p key q r = ((onL p r.1 key).find? (stopsW q)).map fun y => r.2 ++ [(y.1 : Int)] := rfl
    rw [roundW, List.findSome?_cons, roadW, hh]
    cases h : (onL p r.1 key).find? (stopsW q) with
    | some y => rfl
    | none =>
      simp only [Option.map_none]
      rw [round_eq p key q rs, List.flatMap_cons, scan_append, road_scan]
      rfl
theorem fresh_hit (p : PlanD) (key : ByteArray) (q : Int) : ∀ (ps : List Road) (s : List Int), (∀ x ∈ s, (onL p x key).find? (stopsW q) = none) → (fresh s ps).findSome? (hitW p key q) = ps.findSome? (hitW p key q)
  | [], s, _ => rfl
  | r :: ps, s, h => by
    have ec : (r :: ps).findSome? (hitW p key q) = (match hitW p key q r with | some b => some b | none => ps.findSome? (hitW p key q)) := by
      rw [List.findSome?_cons]
      cases hitW p key q r <;> rfl
    rw [fresh, ec]
    split
    · rename_i hr
      have : hitW p key q r = none := by unfold hitW; rw [h _ hr]; rfl
      rw [this]
      exact fresh_hit p key q ps s h
    · rw [List.findSome?_cons]
      cases hx : hitW p key q r with
      | some l => rfl
      | none =>
        refine fresh_hit p key q ps _ fun x hm => ?_
        rcases List.mem_append.1 hm with hm | hm
        · exact h x hm
        · obtain rfl : x = r.1 := by simpa using hm
          unfold hitW at hx
          simpa using hx
theorem fresh_scan (p : PlanD) (key : ByteArray) : ∀ (ps : List Road) (s : List Int) (T : List Int × List Road), (∀ x ∈ s, ∀ y ∈ onL p x key, y.2.toPost = true → y.2.to ∈ T.1) → scanW T ((fresh s ps).flatMap (extW p key)) = scanW T (ps.flatMap (extW p key))
  | [], s, T, _ => rfl
  | r :: ps, s, T, h => by
    rw [fresh, List.flatMap_cons (xs := ps), scan_append]
    split
    · rename_i hr
      rw [scan_noop (extW p key r)]
      · exact fresh_scan p key ps s T h
      · intro t ht
        unfold extW at ht
        simp only [List.mem_map, List.mem_filter] at ht
        obtain ⟨y, ⟨h1, h2⟩, rfl⟩ := ht
        exact h _ hr y h1 h2
    · rw [List.flatMap_cons, scan_append]
      refine fresh_scan p key ps _ _ fun x hm y hy hp => ?_
      obtain ⟨h1, h2⟩ := scan_mem (extW p key r) T
      rcases List.mem_append.1 hm with hm | hm
      · exact h1 _ (h x hm y hy hp)
      · obtain rfl : x = r.1 := by simpa using hm
        refine h2 (y.2.to, r.2 ++ [(y.1 : Int)]) ?_
        unfold extW
        simp only [List.mem_map, List.mem_filter]
        exact ⟨y, ⟨hy, hp⟩, rfl⟩

/-- What holds when so many rounds were gone without a way. -/
structure WayInv (p : PlanD) (k : Int) (key : ByteArray) (q : Int) (i : Nat) (old seen : List Int) (roads : List Road) : Prop where
  seenE : seen = old ++ roads.map Prod.fst
  roadsE : roads = fresh old (pathsW p key i k)
  hit : ∀ x ∈ old, (onL p x key).find? (stopsW q) = none
  tgt : ∀ x ∈ old, ∀ y ∈ onL p x key, y.2.toPost = true → y.2.to ∈ seen
  no : ∀ n, n < i → wayBy p key q (n + 1) k = none
  ok : ∃ n, WayOk p n (seen, roads)
  big : roads ≠ [] → i + 1 ≤ seen.length
  start : k ∈ seen
theorem WayInv.next_hit {p : PlanD} {k : Int} {key : ByteArray} {q : Int} {i : Nat} {old seen : List Int} {roads : List Road} (h : WayInv p k key q i old seen roads) : wayBy p key q (i + 1) k = roads.findSome? (hitW p key q) := by
  rw [wayBy_paths, h.roadsE, fresh_hit _ _ _ _ _ h.hit]
theorem WayInv.next {p : PlanD} (hr : PlanRight p) {k : Int} {key : ByteArray} {q : Int} {i : Nat} {old seen : List Int} {roads : List Road} (h : WayInv p k key q i old seen roads) (hn : roads.findSome? (hitW p key q) = none) :
    WayInv p k key q (i + 1) seen (scanW (seen, []) (roads.flatMap (extW p key))).1 (scanW (seen, []) (roads.flatMap (extW p key))).2 := by
  have hsc : scanW (seen, []) (roads.flatMap (extW p key)) = scanW (seen, []) (pathsW p key (i + 1) k) := by
    rw [paths_ext, h.roadsE]
    exact fresh_scan p key _ _ (seen, []) h.tgt
  have hfr := scan_fresh (pathsW p key (i + 1) k) seen []
  have hno : ∀ r ∈ roads, (onL p r.1 key).find? (stopsW q) = none := fun r hm => by
    have := List.findSome?_eq_none_iff.1 hn r hm
    unfold hitW at this
    simpa using this
  obtain ⟨hm1, hm2⟩ := scan_mem (roads.flatMap (extW p key)) (seen, [])
  obtain ⟨n0, hok⟩ := h.ok
  have hok' : WayOk p seen.length (scanW (seen, []) (roads.flatMap (extW p key))) := by
    have h0 : WayOk p seen.length (seen, ([] : List Road)) := ⟨hok.ok, rfl, fun r hr' => by cases hr'⟩
    have : ∀ (rs : List Road) (s : List Int × List Road), WayOk p seen.length s → WayOk p seen.length (scanW s (rs.flatMap (extW p key))) := by
      intro rs
      induction rs with
      | nil => intro s hs; exact hs
      | cons r rs ih =>
        intro s hs
        rw [List.flatMap_cons, scan_append]
        refine ih _ ?_
        have := hs.steps hr (l := r.2) (onL p r.1 key) fun y hy => List.mem_of_getElem? (onL_mem.1 hy).1
        rwa [road_scan] at this
    exact this roads _ h0
  refine ⟨?_, ?_, fun x hx => ?_, fun x hx y hy hp => ?_, fun n hn' => ?_, ⟨_, hok'⟩, fun hne => ?_, hm1 _ h.start⟩
  · rw [hsc, hfr]; simp
  · rw [hsc, hfr]; simp
  · rw [h.seenE] at hx
    rcases List.mem_append.1 hx with hx | hx
    · exact h.hit x hx
    · obtain ⟨r, hr', rfl⟩ := List.mem_map.1 hx
      exact hno r hr'
  · rw [h.seenE] at hx
    rcases List.mem_append.1 hx with hx | hx
    · exact hm1 _ (h.tgt x hx y hy hp)
    · obtain ⟨r, hr', rfl⟩ := List.mem_map.1 hx
      refine hm2 (y.2.to, r.2 ++ [(y.1 : Int)]) ?_
      rw [List.mem_flatMap]
      refine ⟨r, hr', ?_⟩
      unfold extW
      simp only [List.mem_map, List.mem_filter]
      exact ⟨y, ⟨hy, hp⟩, rfl⟩
  · rcases Nat.lt_or_ge n i with h1 | h1
    · exact h.no n h1
    · obtain rfl : n = i := by omega
      rw [h.next_hit]; exact hn
  · have hl : roads ≠ [] := fun e => by
      rw [e] at hne
      exact hne rfl
    have h1 := h.big hl
    have h2 := hok'.len
    have h3 : 0 < (scanW (seen, []) (roads.flatMap (extW p key))).2.length := List.length_pos_iff.2 hne
    omega
theorem way_inv {p : PlanD} (hr : PlanRight p) {k : Nat} (hk : k < p.posts.length) {key : ByteArray} {q : Int} : ∀ (i : Nat),
    (∃ old seen roads, wayAt p k key q i = .ok (seen, roads) ∧ WayInv p k key q i old seen roads) ∨
    (∃ m old seen roads l, m < i ∧ wayAt p k key q m = .ok (seen, roads) ∧ WayInv p k key q m old seen roads ∧ roads ≠ [] ∧ wayBy p key q (m + 1) k = some l ∧ wayAt p k key q i = .error l)
  | 0 => by
    refine .inl ⟨[], [(k : Int)], [((k : Int), [])], rfl, rfl, rfl, ?_, ?_, ?_, ⟨0, ⟨⟨?_, ?_⟩, rfl, ?_⟩⟩, ?_, ?_⟩
    · intro x hx; cases hx
    · intro x hx; cases hx
    · intro n hn; omega
    · simp
    · intro x hx
      obtain rfl : x = k := by simpa using hx
      omega
    · intro r hm
      obtain rfl : r = ((k : Int), []) := by simpa using hm
      simp only
      omega
    · intro _; simp
    · simp
  | i + 1 => by
    rcases way_inv hr hk i with ⟨old, seen, roads, h1, h2⟩ | ⟨m, old, seen, roads, l, h1, h2, h3, h4, h5, h6⟩
    · have he : wayAt p k key q (i + 1) = roundW p key q roads (seen, []) := by rw [wayAt, h1]
      rw [round_eq] at he
      cases hf : roads.findSome? (hitW p key q) with
      | none =>
        rw [hf] at he
        exact .inl ⟨_, _, _, he, h2.next hr hf⟩
      | some l =>
        rw [hf] at he
        refine .inr ⟨i, old, seen, roads, l, by omega, h1, h2, ?_, ?_, he⟩
        · rintro rfl
          cases hf
        · rw [h2.next_hit]; exact hf
    · exact .inr ⟨m, old, seen, roads, l, by omega, h2, h3, h4, h5, by rw [wayAt, h6]⟩
theorem WayInv.len {p : PlanD} {k : Int} {key : ByteArray} {q : Int} {i : Nat} {old seen : List Int} {roads : List Road} (h : WayInv p k key q i old seen roads) : seen.length ≤ p.posts.length := by
  obtain ⟨n, hok⟩ := h.ok
  exact hok.ok.len
/-- The way that is found is the reference's. -/
theorem wayF_eq {p : PlanD} (hr : PlanRight p) {k : Nat} (hk : k < p.posts.length) {key : ByteArray} {q : Int} : wayF p k key q = wayOf p k key q := by
  unfold wayF wayOf
  rcases way_inv hr hk (key := key) (q := q) (p.posts.length + 1) with ⟨old, seen, roads, h1, h2⟩ | ⟨m, old, seen, roads, l, h1, h2, h3, h4, h5, h6⟩
  · rw [h1]
    symm
    show _ = none
    rw [List.findSome?_eq_none_iff]
    intro i hi
    rw [List.mem_range] at hi
    exact h2.no i (by omega)
  · rw [h6]
    have hm := h3.big h4
    have hl := h3.len
    have hm' : m < p.posts.length := by omega
    symm
    show _ = some l
    rw [show List.range p.posts.length = List.range m ++ (m :: (List.range (p.posts.length - m - 1)).map (fun i => m + 1 + i)) by
      have e : p.posts.length = m + (1 + (p.posts.length - m - 1)) := by omega
      rw [show List.range p.posts.length = List.range (m + (1 + (p.posts.length - m - 1))) by rw [← e], List.range_add, List.range_add]
      simp [Nat.add_assoc]]
    rw [List.findSome?_append, List.findSome?_eq_none_iff.2, List.findSome?_cons, h5]
    · rfl
    · intro i hi
      rw [List.mem_range] at hi
      exact h3.no i hi

/-- A way from a post to a queue, by binds that the key fits. -/
inductive Goes (p : PlanD) (key : ByteArray) (q : Int) : Int → List Int → Prop where
  | last {i : Nat} {b : BindD} : p.binds[i]? = some b → byP p b key = true → b.toPost = false → b.to = q → Goes p key q b.src [(i : Int)]
  | more {i : Nat} {b : BindD} {l : List Int} : p.binds[i]? = some b → byP p b key = true → b.toPost = true → Goes p key q b.to l → Goes p key q b.src ((i : Int) :: l)
theorem wayBy_goes {p : PlanD} {key : ByteArray} {q : Int} : ∀ {n : Nat} {x : Int} {l : List Int}, wayBy p key q n x = some l → Goes p key q x l
  | n + 1, x, l, h => by
    rw [wayBy] at h
    obtain ⟨y, hy, h1⟩ := List.exists_of_findSome?_eq_some h
    obtain ⟨h2, rfl, h3⟩ := onL_mem.1 hy
    split at h1
    · split at h1
      · rename_i h4
        cases h1
        unfold stopsW at h4
        simp only [Bool.and_eq_true, Bool.not_eq_true', decide_eq_true_eq] at h4
        exact .last h2 h3 h4.1 h4.2
      · cases h1
    · split at h1
      · rename_i h4
        rw [Option.map_eq_some_iff] at h1
        obtain ⟨l', h5, rfl⟩ := h1
        exact .more h2 h3 h4 (wayBy_goes h5)
      · cases h1
theorem wayOf_goes {p : PlanD} {k : Int} {key : ByteArray} {q : Int} {l : List Int} (h : wayOf p k key q = some l) : Goes p key q k l := by
  unfold wayOf at h
  obtain ⟨i, _, h1⟩ := List.exists_of_findSome?_eq_some h
  exact wayBy_goes h1
theorem goes_queue {p : PlanD} {key : ByteArray} {q k : Int} : ∀ {x : Int} {l : List Int}, Goes p key q x l → Reach p key k x → ∃ b ∈ p.binds, b.toPost = false ∧ b.to = q ∧ byP p b key = true ∧ Reach p key k b.src
  | _, _, .last h1 h2 h3 h4, h => ⟨_, List.mem_of_getElem? h1, h3, h4, h2, h⟩
  | _, _, .more h1 h2 h3 h4, h => goes_queue h4 (.step h (List.mem_of_getElem? h1) h3 h2)
/-- There is a way just to the queues to which it comes. -/
theorem wayF_isSome {p : PlanD} (hr : PlanRight p) {k : Nat} (hk : k < p.posts.length) {key : ByteArray} {q : Int} : (wayF p k key q).isSome = true ↔ q ∈ ofL p k key := by
  rw [ofL_mem hr hk]
  constructor
  · intro h
    rw [wayF_eq hr hk] at h
    obtain ⟨l, hl⟩ := Option.isSome_iff_exists.1 h
    exact goes_queue (wayOf_goes hl) .start
  · rintro ⟨b, hb, h1, h2, h3, h4⟩
    unfold wayF
    rcases way_inv hr hk (key := key) (q := q) (p.posts.length + 1) with ⟨old, seen, roads, e1, e2⟩ | ⟨m, old, seen, roads, l, _, _, _, _, _, h6⟩
    · exfalso
      have hl := e2.len
      have hro : roads = [] := by
        by_cases hne : roads = []
        · exact hne
        · have := e2.big hne; omega
      have hs := e2.seenE
      rw [hro, List.map_nil, List.append_nil] at hs
      subst hs
      have hall : ∀ x, Reach p key k x → x ∈ seen := fun x hx => by
        induction hx with
        | start => exact e2.start
        | @step c _ g2 g3 g4 ih =>
          obtain ⟨i, hi⟩ := onL_of g2 g4
          exact e2.tgt _ ih _ hi g3
      obtain ⟨i, hi⟩ := onL_of hb h3
      have := e2.hit _ (hall _ h4)
      rw [List.find?_eq_none] at this
      refine this _ hi ?_
      simp [stopsW, h1, h2]
    · rw [h6]; rfl

theorem paths_len (p : PlanD) (key : ByteArray) : ∀ (n : Nat) (x : Int), ∀ r ∈ pathsW p key n x, r.2.length = n
  | 0, x, r, h => by
    obtain rfl : r = (x, []) := by simpa [pathsW] using h
    rfl
  | n + 1, x, r, h => by
    rw [pathsW, List.mem_flatMap] at h
    obtain ⟨y, _, h⟩ := h
    split at h
    · obtain ⟨s, hs, rfl⟩ := List.mem_map.1 h
      simp [paths_len p key n _ s hs]
    · cases h
theorem fresh_sub : ∀ (ps : List Road) (s : List Int), ∀ r ∈ fresh s ps, r ∈ ps
  | [], s, r, h => by cases h
  | t :: ps, s, r, h => by
    rw [fresh] at h
    split at h
    · exact List.mem_cons_of_mem _ (fresh_sub ps s r h)
    · rcases List.mem_cons.1 h with rfl | h
      · exact List.mem_cons_self
      · exact List.mem_cons_of_mem _ (fresh_sub ps _ r h)
/-- The roads that are gone in round i have i binds. -/
theorem wayAt_len {p : PlanD} (hr : PlanRight p) {k : Nat} (hk : k < p.posts.length) {key : ByteArray} {q : Int} {i : Nat} {seen : List Int} {roads : List Road} (h : wayAt p k key q i = .ok (seen, roads)) : ∀ r ∈ roads, r.2.length = i := by
  rcases way_inv hr hk (key := key) (q := q) i with ⟨old, s, rs, h1, h2⟩ | ⟨m, old, s, rs, l, _, _, _, _, _, h6⟩
  · rw [h] at h1
    obtain ⟨rfl, rfl⟩ : seen = s ∧ roads = rs := by simpa using h1
    intro r hr'
    rw [h2.roadsE] at hr'
    exact paths_len p key i _ r (fresh_sub _ _ r hr')
  · rw [h] at h6
    cases h6

end Go.Proofs.YtapimpmpjighmaaGreatDoor
