/-
  Walks of package state: the closures of Check: the one that sees a letter, and the deferred one.
  The deferred closure of state.Check.
-/
import Derived.Test.YtbdikenloklhaaaDoorStateA
import Derived.Test.YtbdikenloklhaaaDoorPlanC
import Derived.Test.YtbdikenloklhaaaDoorCopy
import Derived.Recover
import Derived.IntWalk
namespace Go.Proofs.YtbdikenloklhaaaDoor
open Go.RowKit
set_option maxRecDepth 100000

open Go.Maps in
/-- Which Seqs a map has, each once. -/
def SeenD (D : DataW Unit) (l : List Int) : Prop := Tidy D ∧ (∀ n : Int, has D (.int .i64 n) = true ↔ n ∈ l) ∧ ∀ n ∈ l, D.atKey (.int .i64 n) (.lit (.int .i64 0)) = .lit (.int .i64 1)
theorem intKey (n : Int) : WideAt.IsKeyLit (.int .i64 n) := trivial
theorem int_ne {a b : Int} (h : a ≠ b) : Lit.int .i64 a ≠ Lit.int .i64 b := fun e => h (by simpa using e)

open Go.Maps in
theorem seen_empty : SeenD (.map []) [] := ⟨tidy_empty, fun n => by simp [has], fun n h => by cases h⟩
open Go.Maps in
theorem seen_look {D : DataW Unit} {l : List Int} (h : SeenD D l) {s c : Int} (hc : D.atKey (.int .i64 s) (.lit (.int .i64 0)) = .lit (.int .i64 c)) : (s ∉ l → c = 0) ∧ (s ∈ l → c = 1) := by
  constructor
  · intro hs
    rw [atKey_of_not_has (by rw [← Bool.not_eq_true]; exact mt (h.2.1 s).1 hs)] at hc
    simpa using hc.symm
  · intro hs
    rw [h.2.2 s hs] at hc
    simpa using hc.symm
open Go.Maps in
theorem seen_put {D : DataW Unit} {l : List Int} (h : SeenD D l) (s : Int) : SeenD (D.put (.int .i64 s) (.lit (.int .i64 1))) (l ++ [s]) := by
  refine ⟨h.1.put (intKey _) _, fun n => ?_, fun n hn => ?_⟩
  · by_cases e : n = s
    · subst e
      rw [has_put_same h.1.isMap (intKey _)]
      simp
    · rw [has_put_other (int_ne e), h.2.1 n]
      simp [e]
  · by_cases e : n = s
    · subst e
      rw [atKey_put_same h.1.isMap (intKey _)]
    · rw [atKey_put_other (int_ne e)]
      have : n ∈ l := by simpa [e] using hn
      exact h.2.2 n this

open Go.Maps Go.WideMaps in
/-- The variable 'seen' and its map. -/
structure SeenAt (ns : Int) (w : World) (m g : Nat) (l : List Int) : Prop where
  var : w.cell? ⟨m, 0, none⟩ = some (.map (some g))
  map : ∃ D : DataW Unit, w.ownsMap Tryd.prog 3 (plainElem Tryd.prog 3) g l.length D ∧ SeenD D l
  nodup : l.Nodup
  low : ∀ n ∈ l, n < ns

theorem SeenAt.grown {ns : Int} {w w' : World} {m g : Nat} {l : List Int} (h : SeenAt ns w m g l) (hg : w.grownBy w' none) : SeenAt ns w' m g l := by
  obtain ⟨D, hm, hs⟩ := h.map
  refine ⟨?_, ⟨D, hm.kept hg (by simp), hs⟩, h.nodup, h.low⟩
  have hlt : m < w.heap.size := World.block_lt_of_cell? w _ h.var
  exact (World.cell?_of_block (hg.block m hlt (by simp))).trans h.var
theorem SeenAt.below {ns : Int} {w w' : World} {m g : Nat} {l : List Int} (h : SeenAt ns w m g l) (hb : Below w.heap.size w w') : SeenAt ns w' m g l := h.grown (⟨hb.os, hb.tape, hb.output, hb.size, fun k hk _ => hb.block k hk⟩)

theorem i64wf {n : Int} (h1 : -9223372036854775808 ≤ n) (h2 : n ≤ 9223372036854775807) : (Lit.int .i64 n).wf = true := by
  simp only [Lit.wf, IntKind.min, IntKind.max, IntKind.signed, IntKind.bits, Bool.and_eq_true, decide_eq_true_eq, if_true]
  omega

theorem grown_cell {w w' : World} {g : Nat} {p : Addr} {u : Value} (hg : w.grownBy w' (some g)) (h : w.cell? p = some u) (hne : p.block ≠ g) : w'.cell? p = some u :=
  (World.cell?_of_block (hg.block p.block (World.block_lt_of_cell? w p h) (fun e => hne (by simpa using e)))).trans h

theorem sl_bools {w W : World} {t : TypeId} {cs : Array Value} {bs : List Bool} (hu : bs.map Value.bool = cs.toList) (h : Below (w.heap.size + 1) (w.alloc (.cells cs t)) W) : Sl W 0 W.heap.size (some ⟨w.heap.size, 0, none⟩) (bs.map Value.bool) :=
  sl_of_bk ((Bk.new w t cs).below h (by omega)) (Nat.zero_le _) (by have := h.size; simp at this; omega) hu

theorem must_ok2 {e : Int} {w0 : World} {cs : Array Value} {n : Nat} (bs : List Bool) (hcs : cs = (bs.map Value.bool).toArray) (hn : n = bs.length) (hb : bs.contains false = false) (hl : bs.length ≤ 1000) :
    Calls Tryd.prog 91 #[.int .i64 e, .slice (some ⟨w0.heap.size, 0, none⟩) n n] (w0.alloc (.cells cs 4)) fun en w' => en = .returned (.tuple #[]) ∧ w' = w0.alloc (.cells cs 4) := by
  subst hcs hn
  exact must_ok e _ _ bs 0 _ (sl_bools rfl (Below.refl _ _)) hl hb
theorem must_no2 {e : Int} {w0 : World} {cs : Array Value} {n : Nat} (bs : List Bool) (hcs : cs = (bs.map Value.bool).toArray) (hn : n = bs.length) (hb : bs.contains false = true) (hl : bs.length ≤ 1000) :
    Calls Tryd.prog 91 #[.int .i64 e, .slice (some ⟨w0.heap.size, 0, none⟩) n n] (w0.alloc (.cells cs 4)) fun en w' => en = .panicked [refusedE e] ∧ w' = w0.alloc (.cells cs 4) := by
  subst hcs hn
  exact must_no e _ _ bs 0 _ (sl_bools rfl (Below.refl _ _)) hl hb

theorem must_ok2d {e : Int} {w0 : World} {cs : Array Value} {n : Nat} (bs : List Bool) (hcs : cs = (bs.map Value.bool).toArray) (hn : n = bs.length) (hb : bs.contains false = false) (hl : bs.length ≤ 1000) :
    Calls Tryd.prog 91 #[.int .i64 e, .slice (some ⟨w0.heap.size, 0, none⟩) n n] (w0.alloc (.cells cs 4)).drew fun en w' => en = .returned (.tuple #[]) ∧ w' = (w0.alloc (.cells cs 4)).drew := by
  subst hcs hn
  exact must_ok e _ _ bs 0 _ (show Sl (w0.alloc (.cells (bs.map Value.bool).toArray 4)).drew 0 (w0.alloc (.cells (bs.map Value.bool).toArray 4)).drew.heap.size _ _ from sl_bools (w := w0) (W := w0.alloc (.cells (bs.map Value.bool).toArray 4)) (t := 4) (cs := (bs.map Value.bool).toArray) rfl (Below.refl _ _)) hl hb
theorem must_no2d {e : Int} {w0 : World} {cs : Array Value} {n : Nat} (bs : List Bool) (hcs : cs = (bs.map Value.bool).toArray) (hn : n = bs.length) (hb : bs.contains false = true) (hl : bs.length ≤ 1000) :
    Calls Tryd.prog 91 #[.int .i64 e, .slice (some ⟨w0.heap.size, 0, none⟩) n n] (w0.alloc (.cells cs 4)).drew fun en w' => en = .panicked [refusedE e] ∧ w' = (w0.alloc (.cells cs 4)).drew := by
  subst hcs hn
  exact must_no e _ _ bs 0 _ (show Sl (w0.alloc (.cells (bs.map Value.bool).toArray 4)).drew 0 (w0.alloc (.cells (bs.map Value.bool).toArray 4)).drew.heap.size _ _ from sl_bools (w := w0) (W := w0.alloc (.cells (bs.map Value.bool).toArray 4)) (t := 4) (cs := (bs.map Value.bool).toArray) rfl (Below.refl _ _)) hl hb

open Go.Maps Go.WideMaps in
set_option maxHeartbeats 2000000 in
theorem see_ok (x : ItemD) (m g st : Nat) (l : List Int) (ns : Int) (w : World) (hS : SeenAt ns w m g l) (hst : w.cell? ⟨st, 3, none⟩ = some (.int .i64 ns)) (hm : m ≠ g) (hg : st ≠ g) (hx1 : -9223372036854775808 ≤ x.seq) (hx2 : x.seq ≤ 9223372036854775807) (hll : l.length ≤ 1073741824) (hnot : x.seq ∉ l) (hlt : x.seq < ns) :
    Calls Tryd.prog 93 #[.agg (vItem x).toArray, .pointer (some ⟨m, 0, none⟩), .pointer (some ⟨st, 0, none⟩)] w fun e w' => e = .returned (.tuple #[]) ∧ SeenAt ns w' m g (l ++ [x.seq]) ∧ w.grownBy w' (some g) := by
  obtain ⟨hvar, ⟨D, hown, hsd⟩, hnd, hlo⟩ := hS
  unfold vItem
  obtain ⟨seq, key, body, again, deaths⟩ := x
  simp only at hx1 hx2 hnot hlt ⊢
  have hkey : keyOf Tryd.prog 3 (.int .i64 seq) = some (.int .i64 seq) := keyOf_int_mk Tryd.underlying3 (i64wf hx1 hx2)
  have hgl := hown.lt
  have hml : m < w.heap.size := World.block_lt_of_cell? w _ hvar
  have hsl : st < w.heap.size := World.block_lt_of_cell? w _ hst
  obtain ⟨w0, hw0⟩ : ∃ w0, w.alloc (.cells #[.int .i64 seq, .string key, .string body, .bool again, .int .i64 deaths] 45) = w0 := ⟨_, rfl⟩
  have hgr : w.grownBy w0 none := by rw [← hw0]; exact World.grownBy_alloc w _ none
  have hgs : w.grownBy w0 (some g) := by rw [← hw0]; exact World.grownBy_alloc w _ _
  have hown0 : w0.ownsMap Tryd.prog 3 (plainElem Tryd.prog 3) g l.length D := hown.kept hgr (by simp)
  have hv0 : w0.cell? ⟨m, 0, none⟩ = some (.map (some g)) := (World.cell?_of_block (hgr.block m hml (by simp))).trans hvar
  have hs0 : w0.cell? ⟨st, 3, none⟩ = some (.int .i64 ns) := (World.cell?_of_block (hgr.block st hsl (by simp))).trans hst
  have hk0 : Bk w0 w.heap.size 45 #[.int .i64 seq, .string key, .string body, .bool again, .int .i64 deaths] := by rw [← hw0]; exact Bk.new w _ _
  have hx0 : w0.cell? ⟨w.heap.size, 0, none⟩ = some (.int .i64 seq) := by have := hk0.cell 0; simpa using this
  have HO := Lib.hid hown0
  have HK := Lib.hid hkey
  have HSD := Lib.hid hsd
  have HGR := Lib.hid hgs
  have hgw : w.heap.size ≠ g := by omega
  have HC : Hid (w0.cell? ⟨m, 0, none⟩ = some (.map (some g)) ∧ w0.cell? ⟨st, 3, none⟩ = some (.int .i64 ns) ∧ w0.cell? ⟨w.heap.size, 0, none⟩ = some (.int .i64 seq)) := (⟨hv0, hs0, hx0⟩ : _ ∧ _ ∧ _)
  have HNOT := Lib.hid hnot
  have hltb : (decide (seq < ns)) = true := by simp [hlt]
  have hnd2 : (l ++ [seq]).Nodup := by
    rw [List.nodup_append]
    exact ⟨hnd, by simp, fun a ha b hb e => by rw [List.mem_singleton.1 hb] at e; rw [e] at ha; exact hnot ha⟩
  have hlo2 : ∀ n ∈ l ++ [seq], n < ns := fun n hn => by
    rcases List.mem_append.1 hn with h | h
    · exact hlo n h
    · rw [List.mem_singleton.1 h]; exact hlt
  have HND := Lib.hid (And.intro hnd2 hlo2)
  clear hnd hlo hnd2 hlo2
  clear hown hown0 hkey hsd hnot hgr hgs hk0 hvar hst hlt
  go_enter Tryd.func93, Tryd.ntmps93
  go_wp2_with (first
    | (at_lookup; refine wpList_lookup_own_int _ rfl _ _ 138 rfl 3 3 .i64 (int_keyed Tryd.underlying3) Tryd.underlying138 Tryd.underlying3 (by kernel_rfl) _ _ D rfl HO.out _ _ rfl HK.out ?_; intro cnt hat hwc; obtain rfl := (seen_look HSD.out hat).1 HNOT.out; clear hat hwc)
    | (at_mapUpdate; refine wpList_mapUpdate_own _ rfl _ _ _ 138 rfl 3 3 (int_keyed Tryd.underlying3) Tryd.underlying138 _ _ l.length D rfl HO.out (by unfold maxLen; omega) _ _ _ rfl rfl HK.out _ [] (plainElem_int Tryd.underlying3 (by decide)) ?_; intro w1 hown1 hgrow1; have HO1 := Lib.hid hown1; have HG1 := Lib.hid hgrow1; clear hown1 hgrow1
       obtain ⟨c0, c1, c2⟩ := HC.out; have d0 := grown_cell HG1.out c0 hm; have d1 := grown_cell HG1.out c1 hg; have d2 := grown_cell HG1.out c2 hgw; clear c0 c1 c2)
    | (at_lookup; refine wpList_lookup_own_int _ rfl _ _ 138 rfl 3 3 .i64 (int_keyed Tryd.underlying3) Tryd.underlying138 Tryd.underlying3 (by kernel_rfl) _ _ _ rfl HO1.out _ _ rfl HK.out ?_; intro cnt hat hwc; rw [atKey_put_same HSD.out.1.isMap (intKey _)] at hat; obtain rfl : 1 = cnt := by simpa using hat
       clear hat hwc))
  refine (must_ok 1 (some ⟨w1.heap.size, 0, none⟩) 2 [true, true] 0 _ (sl_bools rfl (Below.refl _ _)) (by decide) (by decide)).mono ?_
  rintro e w2 ⟨rfl, rfl⟩
  go_wp2_with fail
  go_end0
  have hal : w1.grownBy (w1.alloc (.cells #[Value.bool true, Value.bool true] 4)) none := World.grownBy_alloc _ _ _
  refine ⟨rfl, ⟨?_, ⟨_, ?_, seen_put HSD.out seq⟩, HND.out.1, HND.out.2⟩, ?_⟩
  · exact (World.cell?_of_block (hal.block m (World.block_lt_of_cell? w1 _ d0) (by simp))).trans d0
  · rw [List.length_append]
    exact HO1.out.kept hal (by simp)
  · exact grown_trans HGR.out (grown_trans HG1.out (World.grownBy_alloc _ _ _))

open Go.Maps Go.WideMaps in
set_option maxHeartbeats 2000000 in
theorem see_low (x : ItemD) (m g st : Nat) (l : List Int) (ns : Int) (w : World) (hS : SeenAt ns w m g l) (hst : w.cell? ⟨st, 3, none⟩ = some (.int .i64 ns)) (hm : m ≠ g) (hg : st ≠ g) (hx1 : -9223372036854775808 ≤ x.seq) (hx2 : x.seq ≤ 9223372036854775807) (hll : l.length ≤ 1073741824) (hnot : x.seq ∉ l) (hlt : ns ≤ x.seq) :
    Calls Tryd.prog 93 #[.agg (vItem x).toArray, .pointer (some ⟨m, 0, none⟩), .pointer (some ⟨st, 0, none⟩)] w fun e w' => e = .panicked [refusedE 1] ∧ w.grownBy w' (some g) := by
  obtain ⟨hvar, ⟨D, hown, hsd⟩, hnd, hlo⟩ := hS
  unfold vItem
  obtain ⟨seq, key, body, again, deaths⟩ := x
  simp only at hx1 hx2 hnot hlt ⊢
  have hkey : keyOf Tryd.prog 3 (.int .i64 seq) = some (.int .i64 seq) := keyOf_int_mk Tryd.underlying3 (i64wf hx1 hx2)
  have hgl := hown.lt
  have hml : m < w.heap.size := World.block_lt_of_cell? w _ hvar
  have hsl : st < w.heap.size := World.block_lt_of_cell? w _ hst
  obtain ⟨w0, hw0⟩ : ∃ w0, w.alloc (.cells #[.int .i64 seq, .string key, .string body, .bool again, .int .i64 deaths] 45) = w0 := ⟨_, rfl⟩
  have hgr : w.grownBy w0 none := by rw [← hw0]; exact World.grownBy_alloc w _ none
  have hgs : w.grownBy w0 (some g) := by rw [← hw0]; exact World.grownBy_alloc w _ _
  have hown0 : w0.ownsMap Tryd.prog 3 (plainElem Tryd.prog 3) g l.length D := hown.kept hgr (by simp)
  have hv0 : w0.cell? ⟨m, 0, none⟩ = some (.map (some g)) := (World.cell?_of_block (hgr.block m hml (by simp))).trans hvar
  have hs0 : w0.cell? ⟨st, 3, none⟩ = some (.int .i64 ns) := (World.cell?_of_block (hgr.block st hsl (by simp))).trans hst
  have hk0 : Bk w0 w.heap.size 45 #[.int .i64 seq, .string key, .string body, .bool again, .int .i64 deaths] := by rw [← hw0]; exact Bk.new w _ _
  have hx0 : w0.cell? ⟨w.heap.size, 0, none⟩ = some (.int .i64 seq) := by have := hk0.cell 0; simpa using this
  have HO := Lib.hid hown0
  have HK := Lib.hid hkey
  have HSD := Lib.hid hsd
  have HGR := Lib.hid hgs
  have hgw : w.heap.size ≠ g := by omega
  have HC : Hid (w0.cell? ⟨m, 0, none⟩ = some (.map (some g)) ∧ w0.cell? ⟨st, 3, none⟩ = some (.int .i64 ns) ∧ w0.cell? ⟨w.heap.size, 0, none⟩ = some (.int .i64 seq)) := (⟨hv0, hs0, hx0⟩ : _ ∧ _ ∧ _)
  have HNOT := Lib.hid hnot
  have hltb : (decide (seq < ns)) = false := by simp; omega
  clear hown hown0 hkey hsd hnot hgr hgs hk0 hvar hst
  go_enter Tryd.func93, Tryd.ntmps93
  go_wp2_with (first
    | (at_lookup; refine wpList_lookup_own_int _ rfl _ _ 138 rfl 3 3 .i64 (int_keyed Tryd.underlying3) Tryd.underlying138 Tryd.underlying3 (by kernel_rfl) _ _ D rfl HO.out _ _ rfl HK.out ?_; intro cnt hat hwc; obtain rfl := (seen_look HSD.out hat).1 HNOT.out; clear hat hwc)
    | (at_mapUpdate; refine wpList_mapUpdate_own _ rfl _ _ _ 138 rfl 3 3 (int_keyed Tryd.underlying3) Tryd.underlying138 _ _ l.length D rfl HO.out (by unfold maxLen; omega) _ _ _ rfl rfl HK.out _ [] (plainElem_int Tryd.underlying3 (by decide)) ?_; intro w1 hown1 hgrow1; have HO1 := Lib.hid hown1; have HG1 := Lib.hid hgrow1; clear hown1 hgrow1
       obtain ⟨c0, c1, c2⟩ := HC.out; have d0 := grown_cell HG1.out c0 hm; have d1 := grown_cell HG1.out c1 hg; have d2 := grown_cell HG1.out c2 hgw; clear c0 c1 c2)
    | (at_lookup; refine wpList_lookup_own_int _ rfl _ _ 138 rfl 3 3 .i64 (int_keyed Tryd.underlying3) Tryd.underlying138 Tryd.underlying3 (by kernel_rfl) _ _ _ rfl HO1.out _ _ rfl HK.out ?_; intro cnt hat hwc; rw [atKey_put_same HSD.out.1.isMap (intKey _)] at hat; obtain rfl : 1 = cnt := by simpa using hat
       clear hat hwc))
  refine (must_no 1 (some ⟨w1.heap.size, 0, none⟩) 2 [true, false] 0 _ (sl_bools rfl (Below.refl _ _)) (by decide) (by decide)).mono ?_
  rintro e w2 ⟨rfl, rfl⟩
  go_wp2_with fail
  exact ⟨rfl, rfl, grown_trans HGR.out (grown_trans HG1.out (World.grownBy_alloc _ _ _))⟩

open Go.Maps Go.WideMaps in
set_option maxHeartbeats 2000000 in
theorem see_twice (x : ItemD) (m g st : Nat) (l : List Int) (ns : Int) (w : World) (hS : SeenAt ns w m g l) (hst : w.cell? ⟨st, 3, none⟩ = some (.int .i64 ns)) (hm : m ≠ g) (hg : st ≠ g) (hx1 : -9223372036854775808 ≤ x.seq) (hx2 : x.seq ≤ 9223372036854775807) (hll : l.length ≤ 1073741824) (hnot : x.seq ∈ l) :
    Calls Tryd.prog 93 #[.agg (vItem x).toArray, .pointer (some ⟨m, 0, none⟩), .pointer (some ⟨st, 0, none⟩)] w fun e w' => e = .panicked [refusedE 1] ∧ w.grownBy w' (some g) := by
  obtain ⟨hvar, ⟨D, hown, hsd⟩, hnd, hlo⟩ := hS
  unfold vItem
  obtain ⟨seq, key, body, again, deaths⟩ := x
  simp only at hx1 hx2 hnot ⊢
  have hkey : keyOf Tryd.prog 3 (.int .i64 seq) = some (.int .i64 seq) := keyOf_int_mk Tryd.underlying3 (i64wf hx1 hx2)
  have hgl := hown.lt
  have hml : m < w.heap.size := World.block_lt_of_cell? w _ hvar
  have hsl : st < w.heap.size := World.block_lt_of_cell? w _ hst
  obtain ⟨w0, hw0⟩ : ∃ w0, w.alloc (.cells #[.int .i64 seq, .string key, .string body, .bool again, .int .i64 deaths] 45) = w0 := ⟨_, rfl⟩
  have hgr : w.grownBy w0 none := by rw [← hw0]; exact World.grownBy_alloc w _ none
  have hgs : w.grownBy w0 (some g) := by rw [← hw0]; exact World.grownBy_alloc w _ _
  have hown0 : w0.ownsMap Tryd.prog 3 (plainElem Tryd.prog 3) g l.length D := hown.kept hgr (by simp)
  have hv0 : w0.cell? ⟨m, 0, none⟩ = some (.map (some g)) := (World.cell?_of_block (hgr.block m hml (by simp))).trans hvar
  have hs0 : w0.cell? ⟨st, 3, none⟩ = some (.int .i64 ns) := (World.cell?_of_block (hgr.block st hsl (by simp))).trans hst
  have hk0 : Bk w0 w.heap.size 45 #[.int .i64 seq, .string key, .string body, .bool again, .int .i64 deaths] := by rw [← hw0]; exact Bk.new w _ _
  have hx0 : w0.cell? ⟨w.heap.size, 0, none⟩ = some (.int .i64 seq) := by have := hk0.cell 0; simpa using this
  have HO := Lib.hid hown0
  have HK := Lib.hid hkey
  have HSD := Lib.hid hsd
  have HGR := Lib.hid hgs
  have hgw : w.heap.size ≠ g := by omega
  have HC : Hid (w0.cell? ⟨m, 0, none⟩ = some (.map (some g)) ∧ w0.cell? ⟨st, 3, none⟩ = some (.int .i64 ns) ∧ w0.cell? ⟨w.heap.size, 0, none⟩ = some (.int .i64 seq)) := (⟨hv0, hs0, hx0⟩ : _ ∧ _ ∧ _)
  have HNOT := Lib.hid hnot
  clear hown hown0 hkey hsd hnot hgr hgs hk0 hvar hst
  obtain ⟨bb, hbb⟩ : ∃ bb, decide (seq < ns) = bb := ⟨_, rfl⟩
  go_enter Tryd.func93, Tryd.ntmps93
  go_wp2_with (first
    | (at_lookup; refine wpList_lookup_own_int _ rfl _ _ 138 rfl 3 3 .i64 (int_keyed Tryd.underlying3) Tryd.underlying138 Tryd.underlying3 (by kernel_rfl) _ _ D rfl HO.out _ _ rfl HK.out ?_; intro cnt hat hwc; obtain rfl := (seen_look HSD.out hat).2 HNOT.out; clear hat hwc)
    | (at_mapUpdate; refine wpList_mapUpdate_own _ rfl _ _ _ 138 rfl 3 3 (int_keyed Tryd.underlying3) Tryd.underlying138 _ _ l.length D rfl HO.out (by unfold maxLen; omega) _ _ _ rfl rfl HK.out _ [] (plainElem_int Tryd.underlying3 (by decide)) ?_; intro w1 hown1 hgrow1; have HO1 := Lib.hid hown1; have HG1 := Lib.hid hgrow1; clear hown1 hgrow1
       obtain ⟨c0, c1, c2⟩ := HC.out; have d0 := grown_cell HG1.out c0 hm; have d1 := grown_cell HG1.out c1 hg; have d2 := grown_cell HG1.out c2 hgw; clear c0 c1 c2)
    | (at_lookup; refine wpList_lookup_own_int _ rfl _ _ 138 rfl 3 3 .i64 (int_keyed Tryd.underlying3) Tryd.underlying138 Tryd.underlying3 (by kernel_rfl) _ _ _ rfl HO1.out _ _ rfl HK.out ?_; intro cnt hat hwc; rw [atKey_put_same HSD.out.1.isMap (intKey _)] at hat; obtain rfl : 2 = cnt := by simpa using hat
       clear hat hwc))
  refine (must_no 1 (some ⟨w1.heap.size, 0, none⟩) 2 [false, bb] 0 _ (sl_bools rfl (Below.refl _ _)) (by simp) (by cases bb <;> decide)).mono ?_
  rintro e w2 ⟨rfl, rfl⟩
  go_wp2_with fail
  exact ⟨rfl, rfl, grown_trans HGR.out (grown_trans HG1.out (World.grownBy_alloc _ _ _))⟩

end Go.Proofs.YtbdikenloklhaaaDoor

namespace Go.Proofs.YtbdikenloklhaaaDoor
open Go.RowKit
set_option maxRecDepth 100000

set_option maxHeartbeats 1000000 in
theorem catch_panicking (B : Nat) (e x : Int) (w : World) (hc : w.cell? ⟨B, 0, none⟩ = some (.int .i64 x)) (hz : w.frozen? ⟨B, 0, none⟩ = false) :
    CallsD Tryd.prog 90 #[.pointer (some ⟨B, 0, none⟩)] (.panicking [refusedE e]) w fun en u' w' => en = .returned (.tuple #[]) ∧ u' = .panicking [{ refusedE e with recovered := true }] ∧ w' = (w.setCell ⟨B, 0, none⟩ (.int .i64 e)).alloc (.cells #[.int .i64 e] 134) := by
  have hlt : B < w.heap.size := World.block_lt_of_cell? w _ hc
  have hne : ¬ (B = w.heap.size) := by omega
  have hta : ∀ W : World, (Instr.typeAssert (.iface 134 (.agg #[.int .i64 e])) 20 134 true).run Tryd.prog W = .ok (.tuple #[.agg #[.int .i64 e], .bool true]) W := fun W => by simp [Instr.typeAssert, run_underlying Tryd.underlying134]
  unfold refusedE
  refine callsD_of_wpS Tryd.func90 rfl fun c₀ cs hu => ?_
  apply wpS_seq
  apply wpS_region
  simp [wpOpsS, go_sem, recoverD, hu, Tryd.ntmps90, Exit.thenS]
  refine wpS_of_wp ?_
  change Code.wp _ _ _ (⟨#[.pointer (some ⟨B, 0, none⟩), .iface 134 (.agg #[.int .i64 e]), undef, undef, .iface 134 (.agg #[.int .i64 e]), undef, undef, undef, undef, undef, undef, undef, undef, undef, undef, undef], []⟩ : Act) _
  go_wp2_with fail
  exact ⟨rfl, _, rfl, _, results_none rfl _ _ _, rfl, rfl, rfl⟩

set_option maxHeartbeats 1000000 in
theorem catch_idle (B : Nat) (w : World) :
    CallsD Tryd.prog 90 #[.pointer (some ⟨B, 0, none⟩)] .returning w fun en u' w' => en = .returned (.tuple #[]) ∧ u' = .returning ∧ Below w.heap.size w w' := by
  have hta : ∀ W : World, (Instr.typeAssert .nilIface 20 134 true).run Tryd.prog W = .ok (.tuple #[.agg #[.int .i64 0], .bool false]) W := fun W => by
    have hz : (zeroValue 134).run Tryd.prog W = .ok (.agg #[.int .i64 0]) W := by kernel_rfl
    simp [Instr.typeAssert, run_underlying Tryd.underlying134, hz]
  refine callsD_of_wpS Tryd.func90 rfl fun c₀ cs hu => ?_
  apply wpS_seq
  apply wpS_region
  simp [wpOpsS, go_sem, recoverD, hu, Tryd.ntmps90, Exit.thenS]
  refine wpS_of_wp ?_
  change Code.wp _ _ _ (⟨#[.pointer (some ⟨B, 0, none⟩), .nilIface, undef, undef, .nilIface, undef, undef, undef, undef, undef, undef, undef, undef, undef, undef, undef], []⟩ : Act) _
  go_wp2_with fail
  have hb : Below w.heap.size w (w.alloc (.cells #[.int .i64 0] 134)) := (Below.refl _ _).alloc (Nat.le_refl _) _
  refine ⟨rfl, .returning, ?_, _, results_none rfl _ _ _, rfl, rfl, hb⟩
  cases c₀
  simp_all

/-- What Check of a state promises. -/
def CkPost (p : PlanD) (s : StateD) (w : World) (e : Ending) (w' : World) : Prop := e = .returned (.int .i64 (stateErr p s)) ∧ Below w.heap.size w w'
/-- What is deferred. -/
def ckDefer (B : Nat) : List Deferred := [{ target := .fn (.func 90) #[.pointer (some ⟨B, 0, none⟩)], args := #[] }]

/-- The body throws: the error is the one that is thrown. -/
theorem ck_dies {p : PlanD} {s : StateD} {w W : World} {a : Act} {B : Nat} (hd : a.defers = ckDefer B) (ht : a.tmps[4]? = some (.pointer (some ⟨B, 0, none⟩))) (hB : w.heap.size ≤ B) {x n : Int} (hc : W.cell? ⟨B, 0, none⟩ = some (.int .i64 x)) (hz : W.frozen? ⟨B, 0, none⟩ = false) (hb : Below w.heap.size w W) (hn : stateErr p s = n) :
    bodyPostD Tryd.prog Tryd.f37 (CkPost p s w) (.panic [refusedE n]) a W := by
  show Leaves Tryd.prog Tryd.f37 a.tmps (CkPost p s w) a.defers (.panicking [refusedE n]) W
  rw [hd]
  have hlt : B < W.heap.size := World.block_lt_of_cell? W _ hc
  refine leaves_cons (f := 90) (args := #[.pointer (some ⟨B, 0, none⟩)]) (by simp) (by simp [go_sem]) ?_
  refine (catch_panicking B n x W hc hz).mono ?_
  rintro e u' w'' ⟨rfl, rfl, rfl⟩
  have hc2 : ((W.setCell ⟨B, 0, none⟩ (.int .i64 n)).alloc (.cells #[.int .i64 n] 134)).cell? ⟨B, 0, none⟩ = some (.int .i64 n) := by
    rw [World.cell?_alloc_lt _ _ _ (by simp [World.setCell]; omega)]
    exact World.cell?_setCell_same _ _ _ hc
  show Leaves Tryd.prog Tryd.f37 a.tmps (CkPost p s w) [] .returning _
  refine ⟨.int .i64 n, ?_, by rw [hn], (hb.setCell (p := ⟨B, 0, none⟩) hB _).alloc (by have := hb.size; simp [World.setCell]; omega) _⟩
  simp [results, Tryd.results37, ht, go_sem, hc2]
/-- The body returns: what lies in the result's variable. -/
theorem ck_ends {p : PlanD} {s : StateD} {w W : World} {a : Act} {B : Nat} (hd : a.defers = ckDefer B) (ht : a.tmps[4]? = some (.pointer (some ⟨B, 0, none⟩))) {n : Int} (hc : W.cell? ⟨B, 0, none⟩ = some (.int .i64 n)) (hb : Below w.heap.size w W) (hn : stateErr p s = n) :
    bodyPostD Tryd.prog Tryd.f37 (CkPost p s w) .ret a W := by
  show Leaves Tryd.prog Tryd.f37 a.tmps (CkPost p s w) a.defers .returning W
  rw [hd]
  have hlt : B < W.heap.size := World.block_lt_of_cell? W _ hc
  refine leaves_cons (f := 90) (args := #[.pointer (some ⟨B, 0, none⟩)]) (by simp) (by simp [go_sem]) ?_
  refine (catch_idle B W).mono ?_
  rintro e u' w'' ⟨rfl, rfl, hb2⟩
  have hc2 : w''.cell? ⟨B, 0, none⟩ = some (.int .i64 n) := (hb2.cell (p := ⟨B, 0, none⟩) hlt).trans hc
  show Leaves Tryd.prog Tryd.f37 a.tmps (CkPost p s w) [] .returning _
  refine ⟨.int .i64 n, ?_, by rw [hn], hb.trans (hb2.mono hb.size)⟩
  simp [results, Tryd.results37, ht, go_sem, hc2]

end Go.Proofs.YtbdikenloklhaaaDoor
