/-
  Rows of ints that are read, in all that comes.
  The reference's fits, walked.
  The reference's answer on routes: in, PostsOf, QueuesOf, RouteError.
  The reference's answer on routes: QueuesOf, RouteError.
-/
import Derived.Test.YtaanpcjkflhomaaGreatDoorBunO
import Derived.Test.YtaanpcjkflhomaaGreatDoorBunN
import Derived.Test.YtaanpcjkflhomaaGreatDoorWalkL
import Derived.Test.YtaanpcjkflhomaaGreatDoorBunD
set_option linter.unusedSimpArgs false
set_option linter.unusedVariables false
namespace Go.Proofs.YtaanpcjkflhomaaGreatDoor
open Go Go.RowKit
set_option maxRecDepth 100000
def IntsIn (W0 : World) (v : Value) (xs : List Int) : Prop := ∃ a c, v = .slice a xs.length c ∧ xs.length ≤ 1048576 ∧ Sl W0 0 W0.heap.size a (xs.map (Value.int .i64))
theorem IntsIn.at_ {W0 W : World} {a : Option Addr} {c : Nat} {xs : List Int} (h : Sl W0 0 W0.heap.size a (xs.map (Value.int .i64))) (hb : Below W0.heap.size W0 W) {j : Nat} (hj : j < xs.length) : ∃ b o, a = some ⟨b, o, none⟩ ∧ ∀ i, (hi : i < xs.length) → W.cell? ⟨b, o + i, none⟩ = some (.int .i64 xs[i]) := by
 obtain ⟨b, o, rfl, h1, h2⟩ := sl_int h hj
 refine ⟨b, o, rfl, fun i hi => ?_⟩
 obtain ⟨b', o', e, h3, h4⟩ := sl_int h hi
 simp only [Option.some.injEq, Addr.mk.injEq] at e
 obtain ⟨rfl, rfl, _⟩ := e
 exact (hb.cell (p := ⟨b, o + i, none⟩) h1).trans h4
theorem IntsIn.since {W0 W : World} {v : Value} {xs : List Int} (h : IntsIn W0 v xs) (hb : Below W0.heap.size W0 W) : IntsIn W v xs := by
 obtain ⟨a, c, e, h1, h2⟩ := h
 exact ⟨a, c, e, h1, (h2.below hb (Nat.le_refl _)).wider (Nat.le_refl _) hb.size⟩
theorem ints_in {w : World} {base : Nat} {v : Value} {xs : List Int} (h : IntsO w base v xs) (hl : xs.length ≤ 1048576) : IntsIn w v xs := by
 obtain ⟨a, c, rfl, _⟩ := own_slice h
 exact ⟨a, c, rfl, hl, (Sl.of_own (n := xs.length) h).wider (Nat.zero_le _) (Nat.le_refl _)⟩
theorem mem_step {xs : List Int} {j : Nat} (hj : j < xs.length) (q : Int) : decide (q ∈ xs.take (j + 1)) = (decide (q ∈ xs.take j) || decide (xs[j] = q)) := by
 rw [List.take_succ_eq_append_getElem hj]
 simp only [List.mem_append, List.mem_singleton, Bool.decide_or]
 congr 1
 simp [eq_comm]
open Go.RowKit
set_option maxRecDepth 100000
set_option maxHeartbeats 1000000 in
theorem reffits_any (p : PlanD) (n : Nat) (hn : n < p.binds.length) (key : ByteArray) (a1 a2 a3 : Option Addr) (c1 c2 c3 lo : Nat) (w : World) (hp : PlanAt w lo w.heap.size a1 a2 a3 p) (hps : PlanSmall p) (k : Nat) (hk : k < p.posts.length) (hb : p.binds[n].src = k) (h2 : key.size ≤ 1048576) :
  Calls Tryz.prog 141 #[planV p a1 a2 a3 c1 c2 c3, .int .i64 n, .string key] w fun e w' => e = .returned (.bool (fitsAt p n key)) ∧ Below w.heap.size w w' := by
 obtain ⟨g, o, ha, _, hg, hc⟩ := sl_elem vPost_len (by decide) hp.posts hk
 obtain ⟨g2, o2, ha2, _, hg2, hc2⟩ := sl_elem vBind_len (by decide) hp.binds hn
 subst ha ha2
 have hpat := hps.bind _ (List.getElem_mem hn)
 have hnl := hps.binds
 have hkl := hps.posts
 have hbl1 : ∀ o1, Below w.heap.size w (w.alloc o1) := fun o1 => (Below.refl _ w).alloc (Nat.le_refl _) o1
 have hbl : ∀ o1 o2, Below w.heap.size w ((w.alloc o1).alloc o2) := fun o1 o2 => ((Below.refl _ w).alloc (Nat.le_refl _) o1).alloc (by simp) o2
 have e1 : ∀ o1 o2, ((w.alloc o1).alloc o2).cell? ⟨g, o + k * 2 + 1, none⟩ = some (.int .i64 p.posts[k].kind) := fun o1 o2 => ((hbl o1 o2).cell (p := ⟨g, _, none⟩) hg).trans (hc 1 _ rfl)
 have d0 : ∀ o1, (w.alloc o1).cell? ⟨g2, o2 + n * 4, none⟩ = some (.int .i64 p.binds[n].src) := fun o1 => ((hbl1 o1).cell (p := ⟨g2, _, none⟩) hg2).trans (hc2 0 _ rfl)
 have d1 : ∀ o1, (w.alloc o1).cell? ⟨g2, o2 + n * 4 + 1, none⟩ = some (.bool p.binds[n].toPost) := fun o1 => ((hbl1 o1).cell (p := ⟨g2, _, none⟩) hg2).trans (hc2 1 _ rfl)
 have d2 : ∀ o1, (w.alloc o1).cell? ⟨g2, o2 + n * 4 + 2, none⟩ = some (.int .i64 p.binds[n].to) := fun o1 => ((hbl1 o1).cell (p := ⟨g2, _, none⟩) hg2).trans (hc2 2 _ rfl)
 have d3 : ∀ o1, (w.alloc o1).cell? ⟨g2, o2 + n * 4 + 3, none⟩ = some (.string p.binds[n].pattern) := fun o1 => ((hbl1 o1).cell (p := ⟨g2, _, none⟩) hg2).trans (hc2 3 _ rfl)
 have hby : fitsAt p n key = byK p.posts[k].kind p.binds[n].pattern key := by
  simp [fitsAt, byP, kindAt, hn, hb, hk]
 have HBY := Lib.hid hby
 have HBL := Lib.hid hbl
 clear hby hc hc2 hp hps hbl hbl1
 unfold planV
 rw [hb] at d0
 clear hb
 generalize p.posts[k].kind = kd at *
 generalize p.binds[n].pattern = pat at *
 generalize p.binds[n].toPost = tp at *
 generalize p.binds[n].to = dst at *
 by_cases hk1 : kd = 1
 ·subst hk1
  have HR : Hid (fitsAt p n key = (pat.toList == key.toList)) := HBY.out.trans (by simp [byK])
  go_enter Tryz.func141, Tryz.ntmps141
  go_wp2_with fail
  go_ret
  exact ⟨by rw [HR.out]; rfl, HBL.out _ _⟩
 ·by_cases hk3 : kd = 3
  ·subst hk3
   have HR : Hid (fitsAt p n key = fitP pat key) := HBY.out.trans (by simp [byK])
   clear hk1
   go_enter Tryz.func141, Tryz.ntmps141
   go_wp2_with fail
   refine (refFit_any pat key _ (by omega) (by omega)).mono ?_
   rintro e w1 ⟨rfl, hb1⟩
   have H1 := Lib.hid ((HBL.out _ _).trans (hb1.mono (HBL.out _ _).size)); clear hb1
   go_wp2_with fail
   go_ret
   exact ⟨by rw [HR.out]; rfl, H1.out⟩
  ·have HR : Hid (fitsAt p n key = true) := HBY.out.trans (by simp [byK, hk1, hk3])
   have b1 : (kd == 1) = false := by simp [hk1]
   have b3 : (kd == 3) = false := by simp [hk3]
   clear hk1 hk3
   go_enter Tryz.func141, Tryz.ntmps141
   go_wp2_with fail
   go_ret
   exact ⟨by rw [HR.out]; rfl, HBL.out _ _⟩
end Go.Proofs.YtaanpcjkflhomaaGreatDoor
namespace Go.Proofs.YtaanpcjkflhomaaGreatDoor
open Go.RowKit
set_option maxRecDepth 100000
open Go Go.RowKit
set_option maxRecDepth 100000
def InRelI (xs : List Int) (n : Int) (w : World) (i : Value) : Prop := ∃ k : Nat, k ≤ xs.length ∧ i = .int .i64 k ∧ n ∉ xs.take k
set_option maxHeartbeats 400000 in
theorem refin_any (a : Option Addr) (c : Nat) (xs : List Int) (n : Int) (w : World) (lo : Nat) (hx : Sl w lo w.heap.size a (xs.map (Value.int .i64))) (hl : xs.length ≤ 1048576) :
  Calls Tryz.prog 140 #[.slice a xs.length c, .int .i64 n] w fun e w' => e = .returned (.bool (decide (n ∈ xs))) ∧ w' = w := by
 have HX := Lib.hid hx; clear hx
 go_enter Tryz.func140, Tryz.ntmps140
 go_wp2
 go_loop [5] (fun i => InRelI xs n w i) (fun i => xs.length - (intOf i).toNat)
 case atStart => exact ⟨0, by omega, rfl, by simp⟩
 case round =>
  obtain ⟨k, hk, rfl, hn⟩ := hrel
  by_cases hlt : k < xs.length
  ·obtain ⟨b, o, rfl, hb, hc⟩ := sl_int HX.out hlt
   have hj2 : (k : Int) < (xs.length : Int) := by omega
   have hst := mem_step hlt n
   have hmem := List.getElem_mem hlt
   generalize xs[k] = y at *
   by_cases he : y = n
   ·have heb : (y == n) = true := by simp [he]
    subst he
    have HM := Lib.hid hmem
    clear hst hmem hn
    go_wp2
    go_ret
    exact ⟨by rw [decide_eq_true HM.out]; rfl, rfl⟩
   ·have heb : (y == n) = false := by simp [he]
    have HN : Hid (n ∉ xs.take (k + 1)) := Lib.hid (by
     intro h
     rw [decide_eq_true h, decide_eq_false hn, decide_eq_false he] at hst
     cases hst)
    clear hst hmem he hn
    go_wp2
    go_round
    case rel => exact ⟨k + 1, by omega, by go_num, HN.out⟩
    case measure => simp [intOf]; omega
  ·have HN : Hid (n ∉ xs) := Lib.hid (by rwa [List.take_of_length_le (by omega)] at hn)
   clear hn
   go_wp2
   go_ret
   exact ⟨by rw [decide_eq_false HN.out]; rfl, rfl⟩
theorem po1_open {key : ByteArray} {X g m : Nat} {r : Nat} {t : Array Value} (h : t = #[t.getD 0 undef, t.getD 1 undef, .string key, .pointer (some ⟨X, 0, none⟩), t.getD 4 undef, t.getD 5 undef, .slice none 0 0, .slice (some ⟨g, 0, none⟩) m m, .int .i64 (r : Int), t.getD 9 undef, t.getD 10 undef, t.getD 11 undef, t.getD 12 undef, t.getD 13 undef, t.getD 14 undef, t.getD 15 undef, t.getD 16 undef, t.getD 17 undef, t.getD 18 undef, t.getD 19 undef, t.getD 20 undef, t.getD 21 undef, t.getD 22 undef, t.getD 23 undef, t.getD 24 undef, t.getD 25 undef, t.getD 26 undef, t.getD 27 undef, t.getD 28 undef, t.getD 29 undef, t.getD 30 undef, t.getD 31 undef, t.getD 32 undef, t.getD 33 undef, t.getD 34 undef, t.getD 35 undef, t.getD 36 undef, t.getD 37 undef, t.getD 38 undef, t.getD 39 undef, t.getD 40 undef, t.getD 41 undef, t.getD 42 undef, t.getD 43 undef, t.getD 44 undef, t.getD 45 undef, t.getD 46 undef, t.getD 47 undef, t.getD 48 undef, t.getD 49 undef, t.getD 50 undef, t.getD 51 undef, t.getD 52 undef, t.getD 53 undef, t.getD 54 undef, t.getD 55 undef, t.getD 56 undef, t.getD 57 undef, t.getD 58 undef, t.getD 59 undef, t.getD 60 undef, t.getD 61 undef, t.getD 62 undef, t.getD 63 undef, t.getD 64 undef, t.getD 65 undef, t.getD 66 undef, t.getD 67 undef, t.getD 68 undef, t.getD 69 undef, t.getD 70 undef, t.getD 71 undef, t.getD 72 undef]) : ∃ u : Nat → Value, t = #[u 0, u 1, .string key, .pointer (some ⟨X, 0, none⟩), u 4, u 5, .slice none 0 0, .slice (some ⟨g, 0, none⟩) m m, .int .i64 (r : Int), u 9, u 10, u 11, u 12, u 13, u 14, u 15, u 16, u 17, u 18, u 19, u 20, u 21, u 22, u 23, u 24, u 25, u 26, u 27, u 28, u 29, u 30, u 31, u 32, u 33, u 34, u 35, u 36, u 37, u 38, u 39, u 40, u 41, u 42, u 43, u 44, u 45, u 46, u 47, u 48, u 49, u 50, u 51, u 52, u 53, u 54, u 55, u 56, u 57, u 58, u 59, u 60, u 61, u 62, u 63, u 64, u 65, u 66, u 67, u 68, u 69, u 70, u 71, u 72] := ⟨fun i => t.getD i undef, h⟩
theorem po2_open {key : ByteArray} {X g m : Nat} {r j : Nat} {t : Array Value} (h : t = #[t.getD 0 undef, t.getD 1 undef, .string key, .pointer (some ⟨X, 0, none⟩), t.getD 4 undef, t.getD 5 undef, .slice none 0 0, .slice (some ⟨g, 0, none⟩) m m, .int .i64 (r : Int), .int .i64 (j : Int), t.getD 10 undef, t.getD 11 undef, t.getD 12 undef, t.getD 13 undef, t.getD 14 undef, t.getD 15 undef, t.getD 16 undef, t.getD 17 undef, t.getD 18 undef, t.getD 19 undef, t.getD 20 undef, t.getD 21 undef, t.getD 22 undef, t.getD 23 undef, t.getD 24 undef, t.getD 25 undef, t.getD 26 undef, t.getD 27 undef, t.getD 28 undef, t.getD 29 undef, t.getD 30 undef, t.getD 31 undef, t.getD 32 undef, t.getD 33 undef, t.getD 34 undef, t.getD 35 undef, t.getD 36 undef, t.getD 37 undef, t.getD 38 undef, t.getD 39 undef, t.getD 40 undef, t.getD 41 undef, t.getD 42 undef, t.getD 43 undef, t.getD 44 undef, t.getD 45 undef, t.getD 46 undef, t.getD 47 undef, t.getD 48 undef, t.getD 49 undef, t.getD 50 undef, t.getD 51 undef, t.getD 52 undef, t.getD 53 undef, t.getD 54 undef, t.getD 55 undef, t.getD 56 undef, t.getD 57 undef, t.getD 58 undef, t.getD 59 undef, t.getD 60 undef, t.getD 61 undef, t.getD 62 undef, t.getD 63 undef, t.getD 64 undef, t.getD 65 undef, t.getD 66 undef, t.getD 67 undef, t.getD 68 undef, t.getD 69 undef, t.getD 70 undef, t.getD 71 undef, t.getD 72 undef]) : ∃ u : Nat → Value, t = #[u 0, u 1, .string key, .pointer (some ⟨X, 0, none⟩), u 4, u 5, .slice none 0 0, .slice (some ⟨g, 0, none⟩) m m, .int .i64 (r : Int), .int .i64 (j : Int), u 10, u 11, u 12, u 13, u 14, u 15, u 16, u 17, u 18, u 19, u 20, u 21, u 22, u 23, u 24, u 25, u 26, u 27, u 28, u 29, u 30, u 31, u 32, u 33, u 34, u 35, u 36, u 37, u 38, u 39, u 40, u 41, u 42, u 43, u 44, u 45, u 46, u 47, u 48, u 49, u 50, u 51, u 52, u 53, u 54, u 55, u 56, u 57, u 58, u 59, u 60, u 61, u 62, u 63, u 64, u 65, u 66, u 67, u 68, u 69, u 70, u 71, u 72] := ⟨fun i => t.getD i undef, h⟩
def po3_T (g m i : Nat) (v : Value) (t : Array Value) : Array Value := #[t.getD 0 undef, t.getD 1 undef, t.getD 2 undef, t.getD 3 undef, t.getD 4 undef, t.getD 5 undef, .slice none 0 0, .slice (some ⟨g, 0, none⟩) m m, t.getD 8 undef, t.getD 9 undef, t.getD 10 undef, v, .int .i64 (i : Int), t.getD 13 undef, t.getD 14 undef, t.getD 15 undef, t.getD 16 undef, t.getD 17 undef, t.getD 18 undef, t.getD 19 undef, t.getD 20 undef, t.getD 21 undef, t.getD 22 undef, t.getD 23 undef, t.getD 24 undef, t.getD 25 undef, t.getD 26 undef, t.getD 27 undef, t.getD 28 undef, t.getD 29 undef, t.getD 30 undef, t.getD 31 undef, t.getD 32 undef, t.getD 33 undef, t.getD 34 undef, t.getD 35 undef, t.getD 36 undef, t.getD 37 undef, t.getD 38 undef, t.getD 39 undef, t.getD 40 undef, t.getD 41 undef, t.getD 42 undef, t.getD 43 undef, t.getD 44 undef, t.getD 45 undef, t.getD 46 undef, t.getD 47 undef, t.getD 48 undef, t.getD 49 undef, t.getD 50 undef, t.getD 51 undef, t.getD 52 undef, t.getD 53 undef, t.getD 54 undef, t.getD 55 undef, t.getD 56 undef, t.getD 57 undef, t.getD 58 undef, t.getD 59 undef, t.getD 60 undef, t.getD 61 undef, t.getD 62 undef, t.getD 63 undef, t.getD 64 undef, t.getD 65 undef, t.getD 66 undef, t.getD 67 undef, t.getD 68 undef, t.getD 69 undef, t.getD 70 undef, t.getD 71 undef, t.getD 72 undef]
theorem po3_open {g m i : Nat} {v : Value} {t : Array Value} (h : t = (po3_T g m i v t)) : ∃ u : Nat → Value, t = #[u 0, u 1, u 2, u 3, u 4, u 5, .slice none 0 0, .slice (some ⟨g, 0, none⟩) m m, u 8, u 9, u 10, v, .int .i64 (i : Int), u 13, u 14, u 15, u 16, u 17, u 18, u 19, u 20, u 21, u 22, u 23, u 24, u 25, u 26, u 27, u 28, u 29, u 30, u 31, u 32, u 33, u 34, u 35, u 36, u 37, u 38, u 39, u 40, u 41, u 42, u 43, u 44, u 45, u 46, u 47, u 48, u 49, u 50, u 51, u 52, u 53, u 54, u 55, u 56, u 57, u 58, u 59, u 60, u 61, u 62, u 63, u 64, u 65, u 66, u 67, u 68, u 69, u 70, u 71, u 72] := ⟨fun i => t.getD i undef, h⟩
def BoolsB (W : World) (g : Nat) (l : List Bool) : Prop := Bk W g 4 (l.map Value.bool).toArray
theorem BoolsB.cell {W : World} {g : Nat} {l : List Bool} (h : BoolsB W g l) {i : Nat} (hi : i < l.length) : W.cell? ⟨g, i, none⟩ = some (.bool l[i]) := by
 have := Bk.cell h i
 rw [this]
 simp [hi]
theorem BoolsB.set {W : World} {g : Nat} {l : List Bool} (h : BoolsB W g l) (i : Nat) (b : Bool) : BoolsB (W.setCell ⟨g, i, none⟩ (.bool b)) g (l.set i b) := by
 have := Bk.set_ h i (.bool b)
 unfold BoolsB
 rw [List.map_set]
 simpa using this
structure PoIn (w : World) (p : PlanD) (P : Array Value) (g : Nat) (l : List Bool) (W : World) : Prop where
 box : Bk W w.heap.size 26 P
 is : BoolsB W g l
 below : Below w.heap.size w W
 g : w.heap.size < g
theorem PoIn.on {w W W' : World} {p : PlanD} {P : Array Value} {g : Nat} {l : List Bool} (h : PoIn w p P g l W) (hb : Below W.heap.size W W') : PoIn w p P g l W' :=
 ⟨h.box.below hb h.box.lt, Bk.below h.is hb (Bk.lt h.is), h.below.trans (hb.mono h.below.size), h.g⟩
theorem PoIn.set {w W : World} {p : PlanD} {P : Array Value} {g : Nat} {l : List Bool} (h : PoIn w p P g l W) (i : Nat) : PoIn w p P g (l.set i true) (W.setCell ⟨g, i, none⟩ (.bool true)) :=
 ⟨h.box.far (p := ⟨g, i, none⟩) (by have := h.g; show w.heap.size ≠ g; omega) _, h.is.set i true, h.below.setCell (p := ⟨g, i, none⟩) (by have := h.g; show w.heap.size ≤ g; omega) _, h.g⟩
noncomputable def poLoop1 : Code := loopAt Tryz.f139 0
noncomputable def poLoop2 : Code := loopIn poLoop1 0
noncomputable def poLoop3 : Code := loopAt Tryz.f139 1
theorem bind_cells3 {W : World} {lo hi : Nat} {a : Option Addr} {bs : List BindD} (h : Sl W lo hi a (bs.flatMap vBind)) {i : Nat} {b : BindD} (hb : bs[i]? = some b) : ∃ g o, a = some ⟨g, o, none⟩ ∧ W.cell? ⟨g, o + i * 4, none⟩ = some (.int .i64 b.src) ∧ W.cell? ⟨g, o + i * 4 + 1, none⟩ = some (.bool b.toPost) ∧ W.cell? ⟨g, o + i * 4 + 2, none⟩ = some (.int .i64 b.to) ∧ W.cell? ⟨g, o + i * 4 + 3, none⟩ = some (.string b.pattern) := by
 have hi := (List.getElem?_eq_some_iff.1 hb).1
 obtain ⟨g, o, rfl, _, _, hx⟩ := sl_elem vBind_len (by decide) h hi
 rw [(List.getElem?_eq_some_iff.1 hb).2] at hx
 exact ⟨g, o, rfl, hx 0 _ rfl, hx 1 _ rfl, hx 2 _ rfl, hx 3 _ rfl⟩
def po2_inv (w : World) (p : PlanD) (key : ByteArray) (P : Array Value) (g m r : Nat) (l : List Bool) (a : Act) (wr : World) : Prop :=
 ∃ (t : Array Value) (j : Nat), t = #[t.getD 0 undef, t.getD 1 undef, .string key, .pointer (some ⟨w.heap.size, 0, none⟩), t.getD 4 undef, t.getD 5 undef, .slice none 0 0, .slice (some ⟨g, 0, none⟩) m m, .int .i64 (r : Int), .int .i64 (j : Int), t.getD 10 undef, t.getD 11 undef, t.getD 12 undef, t.getD 13 undef, t.getD 14 undef, t.getD 15 undef, t.getD 16 undef, t.getD 17 undef, t.getD 18 undef, t.getD 19 undef, t.getD 20 undef, t.getD 21 undef, t.getD 22 undef, t.getD 23 undef, t.getD 24 undef, t.getD 25 undef, t.getD 26 undef, t.getD 27 undef, t.getD 28 undef, t.getD 29 undef, t.getD 30 undef, t.getD 31 undef, t.getD 32 undef, t.getD 33 undef, t.getD 34 undef, t.getD 35 undef, t.getD 36 undef, t.getD 37 undef, t.getD 38 undef, t.getD 39 undef, t.getD 40 undef, t.getD 41 undef, t.getD 42 undef, t.getD 43 undef, t.getD 44 undef, t.getD 45 undef, t.getD 46 undef, t.getD 47 undef, t.getD 48 undef, t.getD 49 undef, t.getD 50 undef, t.getD 51 undef, t.getD 52 undef, t.getD 53 undef, t.getD 54 undef, t.getD 55 undef, t.getD 56 undef, t.getD 57 undef, t.getD 58 undef, t.getD 59 undef, t.getD 60 undef, t.getD 61 undef, t.getD 62 undef, t.getD 63 undef, t.getD 64 undef, t.getD 65 undef, t.getD 66 undef, t.getD 67 undef, t.getD 68 undef, t.getD 69 undef, t.getD 70 undef, t.getD 71 undef, t.getD 72 undef] ∧ j ≤ p.binds.length ∧ PoIn w p P g (roundTo p key l j) wr ∧ a = ⟨t, []⟩
set_option maxHeartbeats 4000000 in
theorem po_loop2 (p : PlanD) (hr : PlanRight p) (hs : PlanSmall p) (key : ByteArray) (hkey : key.size ≤ 1048576) (a1 a2 a3 : Option Addr) (c1 c2 c3 : Nat) (w : World) (g m r : Nat) (l : List Bool) (hlm : l.length = m) (hm : m = p.posts.length)
  (hpl : PlanAt w 0 w.heap.size a1 a2 a3 p) (Q0 : Exit → Act → World → Prop)
  (hend : ∀ (t : Array Value) (j : Nat) (W : World), t = #[t.getD 0 undef, t.getD 1 undef, .string key, .pointer (some ⟨w.heap.size, 0, none⟩), t.getD 4 undef, t.getD 5 undef, .slice none 0 0, .slice (some ⟨g, 0, none⟩) m m, .int .i64 (r : Int), .int .i64 (j : Int), t.getD 10 undef, t.getD 11 undef, t.getD 12 undef, t.getD 13 undef, t.getD 14 undef, t.getD 15 undef, t.getD 16 undef, t.getD 17 undef, t.getD 18 undef, t.getD 19 undef, t.getD 20 undef, t.getD 21 undef, t.getD 22 undef, t.getD 23 undef, t.getD 24 undef, t.getD 25 undef, t.getD 26 undef, t.getD 27 undef, t.getD 28 undef, t.getD 29 undef, t.getD 30 undef, t.getD 31 undef, t.getD 32 undef, t.getD 33 undef, t.getD 34 undef, t.getD 35 undef, t.getD 36 undef, t.getD 37 undef, t.getD 38 undef, t.getD 39 undef, t.getD 40 undef, t.getD 41 undef, t.getD 42 undef, t.getD 43 undef, t.getD 44 undef, t.getD 45 undef, t.getD 46 undef, t.getD 47 undef, t.getD 48 undef, t.getD 49 undef, t.getD 50 undef, t.getD 51 undef, t.getD 52 undef, t.getD 53 undef, t.getD 54 undef, t.getD 55 undef, t.getD 56 undef, t.getD 57 undef, t.getD 58 undef, t.getD 59 undef, t.getD 60 undef, t.getD 61 undef, t.getD 62 undef, t.getD 63 undef, t.getD 64 undef, t.getD 65 undef, t.getD 66 undef, t.getD 67 undef, t.getD 68 undef, t.getD 69 undef, t.getD 70 undef, t.getD 71 undef, t.getD 72 undef] → PoIn w p #[.slice a1 p.posts.length c1, .slice a2 p.queues.length c2, .slice a3 p.binds.length c3] g (roundTo p key l p.binds.length) W → Q0 (.exit 2) ⟨t, []⟩ W) (t : Array Value) (j : Nat) (W : World) (ht : t = #[t.getD 0 undef, t.getD 1 undef, .string key, .pointer (some ⟨w.heap.size, 0, none⟩), t.getD 4 undef, t.getD 5 undef, .slice none 0 0, .slice (some ⟨g, 0, none⟩) m m, .int .i64 (r : Int), .int .i64 (j : Int), t.getD 10 undef, t.getD 11 undef, t.getD 12 undef, t.getD 13 undef, t.getD 14 undef, t.getD 15 undef, t.getD 16 undef, t.getD 17 undef, t.getD 18 undef, t.getD 19 undef, t.getD 20 undef, t.getD 21 undef, t.getD 22 undef, t.getD 23 undef, t.getD 24 undef, t.getD 25 undef, t.getD 26 undef, t.getD 27 undef, t.getD 28 undef, t.getD 29 undef, t.getD 30 undef, t.getD 31 undef, t.getD 32 undef, t.getD 33 undef, t.getD 34 undef, t.getD 35 undef, t.getD 36 undef, t.getD 37 undef, t.getD 38 undef, t.getD 39 undef, t.getD 40 undef, t.getD 41 undef, t.getD 42 undef, t.getD 43 undef, t.getD 44 undef, t.getD 45 undef, t.getD 46 undef, t.getD 47 undef, t.getD 48 undef, t.getD 49 undef, t.getD 50 undef, t.getD 51 undef, t.getD 52 undef, t.getD 53 undef, t.getD 54 undef, t.getD 55 undef, t.getD 56 undef, t.getD 57 undef, t.getD 58 undef, t.getD 59 undef, t.getD 60 undef, t.getD 61 undef, t.getD 62 undef, t.getD 63 undef, t.getD 64 undef, t.getD 65 undef, t.getD 66 undef, t.getD 67 undef, t.getD 68 undef, t.getD 69 undef, t.getD 70 undef, t.getD 71 undef, t.getD 72 undef]) (hj : j ≤ p.binds.length) (hW : PoIn w p #[.slice a1 p.posts.length c1, .slice a2 p.queues.length c2, .slice a3 p.binds.length c3] g (roundTo p key l j) W) :
  (Code.loop poLoop2).wp Tryz.prog Q0 ⟨t, []⟩ W := by
 refine wp_loop (po2_inv w p key #[.slice a1 p.posts.length c1, .slice a2 p.queues.length c2, .slice a3 p.binds.length c3] g m r l) (fun a _ => p.binds.length - (intOf (a.tmps.getD 9 undef)).toNat) ⟨t, j, ht, hj, hW, rfl⟩ ?_
 clear ht hj hW t j W
 rintro a' wr ⟨t, j, ht, hj, hW, rfl⟩
 obtain ⟨u, rfl⟩ := po2_open ht
 clear ht
 have hm1 : m ≤ p.posts.length := by omega
 have hm2 : p.posts.length ≤ m := by omega
 have HLM := Lib.hid hlm
 clear hm hlm
 have HEND := Lib.hid hend
 have m2 := hW.box.cell 2
 have m0 := hW.box.cell 0
 have m1 := hW.box.cell 1
 simp only [List.getElem?_toArray, List.getElem?_cons_zero, List.getElem?_cons_succ] at m0 m1 m2
 have HW := Lib.hid hW
 have HPL := Lib.hid hpl
 have hbn := hr.binds
 have hpn := hr.posts
 clear hend hW hpl
 conv => arg 2; whnf
 by_cases hlt : j < p.binds.length
 ·obtain ⟨b, hb⟩ : ∃ b, p.binds[j]? = some b := ⟨_, List.getElem?_eq_getElem hlt⟩
  have hbr := hr.bind b (List.mem_of_getElem? hb)
  have hj2 : (j : Int) < (p.binds.length : Int) := by omega
  obtain ⟨gb, ob, hga, n0, n1, n2, n3⟩ := bind_cells3 (HPL.out.binds.keep fun x hx => HW.out.below.cell (p := x) hx) hb
  subst hga
  have hsucc := roundTo_succ (p := p) (key := key) (l := l) hb
  have hlen := roundTo_len p key l j
  rw [HLM.out] at hlen
  obtain ⟨s, hs1⟩ : ∃ s : Nat, b.src = (s : Int) := ⟨b.src.toNat, by omega⟩
  have hsl : s < (roundTo p key l j).length := by omega
  have HFIT : Hid (∀ W, Below wr.heap.size wr W → Calls Tryz.prog 141 #[.agg #[.slice a1 p.posts.length c1, .slice a2 p.queues.length c2, .slice (some ⟨gb, ob, none⟩) p.binds.length c3], .int .i64 (j : Int), .string key] W fun e w' => e = .returned (.bool (byP p b key)) ∧ Below W.heap.size W w') := Lib.hid fun W hWb => by
   have hbw := HW.out.below.trans (hWb.mono HW.out.below.size)
   have h := reffits_any p j hlt key a1 a2 (some ⟨gb, ob, none⟩) c1 c2 c3 0 W ((HPL.out.below hbw (Nat.le_refl _)).wider (Nat.le_refl _) hbw.size) hs s (by omega) (by have := (List.getElem?_eq_some_iff.1 hb).2; rw [this]; exact hs1) hkey
   have e : fitsAt p (j : Int) key = byP p b key := by unfold fitsAt; rw [show ((j : Int)).toNat = j by omega, hb]
   rw [e] at h
   exact h
  obtain ⟨W1, hW1⟩ : ∃ W1, wr.alloc (.cells #[.int .i64 b.src, .bool b.toPost, .int .i64 b.to, .string b.pattern] 127) = W1 := ⟨_, rfl⟩
  have hal : Below wr.heap.size wr W1 := by rw [← hW1]; exact (Below.refl _ _).alloc (Nat.le_refl _) _
  have kb : Bk W1 wr.heap.size 127 #[.int .i64 b.src, .bool b.toPost, .int .i64 b.to, .string b.pattern] := by rw [← hW1]; exact Bk.new _ _ _
  have s0 := kb.cell 0
  have s1 := kb.cell 1
  have s2 := kb.cell 2
  have k1 := HW.out.on hal
  have t0 := k1.box.cell 0
  have t1 := k1.box.cell 1
  have t2 := k1.box.cell 2
  have t4 := k1.is.cell hsl
  simp only [List.getElem?_toArray, List.getElem?_cons_zero, List.getElem?_cons_succ] at s0 s1 s2 t0 t1 t2
  rw [hs1] at s0
  have HK1 := Lib.hid (And.intro k1 (And.intro kb hal))
  have HSUC := Lib.hid hsucc
  have HSL := Lib.hid (And.intro hsl (And.intro hlen (And.intro hs1 hbr)))
  have hsm : (s : Int) < (m : Int) := by omega
  have HR : Hid (∀ t : Array Value, ∀ (j' : Nat), j' = j + 1 → t = #[t.getD 0 undef, t.getD 1 undef, .string key, .pointer (some ⟨w.heap.size, 0, none⟩), t.getD 4 undef, t.getD 5 undef, .slice none 0 0, .slice (some ⟨g, 0, none⟩) m m, .int .i64 (r : Int), .int .i64 (j' : Int), t.getD 10 undef, t.getD 11 undef, t.getD 12 undef, t.getD 13 undef, t.getD 14 undef, t.getD 15 undef, t.getD 16 undef, t.getD 17 undef, t.getD 18 undef, t.getD 19 undef, t.getD 20 undef, t.getD 21 undef, t.getD 22 undef, t.getD 23 undef, t.getD 24 undef, t.getD 25 undef, t.getD 26 undef, t.getD 27 undef, t.getD 28 undef, t.getD 29 undef, t.getD 30 undef, t.getD 31 undef, t.getD 32 undef, t.getD 33 undef, t.getD 34 undef, t.getD 35 undef, t.getD 36 undef, t.getD 37 undef, t.getD 38 undef, t.getD 39 undef, t.getD 40 undef, t.getD 41 undef, t.getD 42 undef, t.getD 43 undef, t.getD 44 undef, t.getD 45 undef, t.getD 46 undef, t.getD 47 undef, t.getD 48 undef, t.getD 49 undef, t.getD 50 undef, t.getD 51 undef, t.getD 52 undef, t.getD 53 undef, t.getD 54 undef, t.getD 55 undef, t.getD 56 undef, t.getD 57 undef, t.getD 58 undef, t.getD 59 undef, t.getD 60 undef, t.getD 61 undef, t.getD 62 undef, t.getD 63 undef, t.getD 64 undef, t.getD 65 undef, t.getD 66 undef, t.getD 67 undef, t.getD 68 undef, t.getD 69 undef, t.getD 70 undef, t.getD 71 undef, t.getD 72 undef] → ∀ W, PoIn w p #[.slice a1 p.posts.length c1, .slice a2 p.queues.length c2, .slice (some ⟨gb, ob, none⟩) p.binds.length c3] g (markB p key (roundTo p key l j) b) W → po2_inv w p key #[.slice a1 p.posts.length c1, .slice a2 p.queues.length c2, .slice (some ⟨gb, ob, none⟩) p.binds.length c3] g m r l ⟨t, []⟩ W) :=
   Lib.hid fun t j' hj' ht W hW => ⟨t, j', ht, by omega, by rw [hj', hsucc]; exact hW, rfl⟩
  have HGET : Hid ((roundTo p key l j)[b.src.toNat]? = some (roundTo p key l j)[s]) := Lib.hid (by rw [show b.src.toNat = s by omega]; exact List.getElem?_eq_getElem hsl)
  generalize hcur : (roundTo p key l j)[s] = cur at *
  clear hsucc hlen hs1 hsl hbr k1 kb hal hcur
  cases htp : b.toPost
  ·rw [htp] at s1
   have HE : Hid (markB p key (roundTo p key l j) b = roundTo p key l j) := Lib.hid (by unfold markB; rw [htp]; simp)
   have n1' := htp
   have HT := Lib.hid htp
   clear htp n1'
   go_wp2
   exact ⟨HR.out _ _ rfl rfl _ (by rw [HE.out]; exact HK1.out.1), by simp [intOf]; omega⟩
  ·rw [htp] at s1
   have HT := Lib.hid htp
   cases cur
   ·have HE : Hid (markB p key (roundTo p key l j) b = roundTo p key l j) := Lib.hid (by unfold markB; rw [HGET.out]; simp)
    clear htp
    go_wp2
    exact ⟨HR.out _ _ rfl rfl _ (by rw [HE.out]; exact HK1.out.1), by simp [intOf]; omega⟩
   ·have hto : 0 ≤ b.to ∧ b.to < (p.posts.length : Int) := by
     have h := HSL.out.2.2.2
     rw [htp] at h
     simp only [if_true] at h
     exact h.2.2
    obtain ⟨d, hd⟩ : ∃ d : Nat, b.to = (d : Int) := ⟨b.to.toNat, by omega⟩
    have hdm : (d : Int) < (m : Int) := by omega
    have HD := Lib.hid hd
    rw [hd] at s2
    have HE : Hid (markB p key (roundTo p key l j) b = if byP p b key = true then (roundTo p key l j).set d true else roundTo p key l j) := Lib.hid (by
     unfold markB
     rw [HGET.out, htp]
     have : b.to.toNat = d := by omega
     rw [this]
     simp)
    have HDL : Hid (d < (roundTo p key l j).length) := Lib.hid (by have := HSL.out.2.1; omega)
    clear htp hto hd
    go_wp2_with fail
    refine (HFIT.out W1 HK1.out.2.2).mono ?_
    rintro e W2 ⟨rfl, hb2⟩
    have k2 := HK1.out.1.on hb2
    have kb2 := HK1.out.2.1.below hb2 HK1.out.2.1.lt
    have z2 := kb2.cell 2
    have z4 := k2.is.cell HDL.out
    have zf := Bk.frozen k2.is d
    have zl := Bk.lt k2.is
    simp only [List.getElem?_toArray, List.getElem?_cons_zero, List.getElem?_cons_succ] at z2
    rw [HD.out] at z2
    have HK2 := Lib.hid k2
    clear hb2 k2 kb2 t0 t1 t2 t4 s0 s1 s2 m0 m1 m2 n0 n1 n2 n3
    generalize (roundTo p key l j)[d] = od at z4
    cases hby : byP p b key
    ·have HE2 : Hid (markB p key (roundTo p key l j) b = roundTo p key l j) := Lib.hid (by rw [HE.out, hby]; simp)
     clear hby
     go_wp2
     exact ⟨HR.out _ _ rfl rfl _ (by rw [HE2.out]; exact HK2.out), by simp [intOf]; omega⟩
    ·have HE2 : Hid (markB p key (roundTo p key l j) b = (roundTo p key l j).set d true) := Lib.hid (by rw [HE.out, hby]; simp)
     clear hby
     go_wp2
     exact ⟨HR.out _ _ rfl rfl _ (by rw [HE2.out]; exact HK2.out.set d), by simp [intOf]; omega⟩
 ·obtain rfl : j = p.binds.length := by omega
  go_wp2
  exact HEND.out _ p.binds.length _ rfl HW.out
def po1_inv (w : World) (p : PlanD) (key : ByteArray) (P : Array Value) (g m k : Nat) (a : Act) (wr : World) : Prop :=
 ∃ (t : Array Value) (r : Nat), t = #[t.getD 0 undef, t.getD 1 undef, .string key, .pointer (some ⟨w.heap.size, 0, none⟩), t.getD 4 undef, t.getD 5 undef, .slice none 0 0, .slice (some ⟨g, 0, none⟩) m m, .int .i64 (r : Int), t.getD 9 undef, t.getD 10 undef, t.getD 11 undef, t.getD 12 undef, t.getD 13 undef, t.getD 14 undef, t.getD 15 undef, t.getD 16 undef, t.getD 17 undef, t.getD 18 undef, t.getD 19 undef, t.getD 20 undef, t.getD 21 undef, t.getD 22 undef, t.getD 23 undef, t.getD 24 undef, t.getD 25 undef, t.getD 26 undef, t.getD 27 undef, t.getD 28 undef, t.getD 29 undef, t.getD 30 undef, t.getD 31 undef, t.getD 32 undef, t.getD 33 undef, t.getD 34 undef, t.getD 35 undef, t.getD 36 undef, t.getD 37 undef, t.getD 38 undef, t.getD 39 undef, t.getD 40 undef, t.getD 41 undef, t.getD 42 undef, t.getD 43 undef, t.getD 44 undef, t.getD 45 undef, t.getD 46 undef, t.getD 47 undef, t.getD 48 undef, t.getD 49 undef, t.getD 50 undef, t.getD 51 undef, t.getD 52 undef, t.getD 53 undef, t.getD 54 undef, t.getD 55 undef, t.getD 56 undef, t.getD 57 undef, t.getD 58 undef, t.getD 59 undef, t.getD 60 undef, t.getD 61 undef, t.getD 62 undef, t.getD 63 undef, t.getD 64 undef, t.getD 65 undef, t.getD 66 undef, t.getD 67 undef, t.getD 68 undef, t.getD 69 undef, t.getD 70 undef, t.getD 71 undef, t.getD 72 undef] ∧ r ≤ p.posts.length ∧ PoIn w p P g (roundsB p key k r) wr ∧ a = ⟨t, []⟩
set_option maxHeartbeats 4000000 in
theorem po_loop1 (p : PlanD) (hr : PlanRight p) (hs : PlanSmall p) (key : ByteArray) (hkey : key.size ≤ 1048576) (a1 a2 a3 : Option Addr) (c1 c2 c3 : Nat) (w : World) (g m k : Nat) (hm : m = p.posts.length)
  (hpl : PlanAt w 0 w.heap.size a1 a2 a3 p) (Q0 : Exit → Act → World → Prop)
  (hend : ∀ (t : Array Value) (r : Nat) (W : World), t = #[t.getD 0 undef, t.getD 1 undef, .string key, .pointer (some ⟨w.heap.size, 0, none⟩), t.getD 4 undef, t.getD 5 undef, .slice none 0 0, .slice (some ⟨g, 0, none⟩) m m, .int .i64 (r : Int), t.getD 9 undef, t.getD 10 undef, t.getD 11 undef, t.getD 12 undef, t.getD 13 undef, t.getD 14 undef, t.getD 15 undef, t.getD 16 undef, t.getD 17 undef, t.getD 18 undef, t.getD 19 undef, t.getD 20 undef, t.getD 21 undef, t.getD 22 undef, t.getD 23 undef, t.getD 24 undef, t.getD 25 undef, t.getD 26 undef, t.getD 27 undef, t.getD 28 undef, t.getD 29 undef, t.getD 30 undef, t.getD 31 undef, t.getD 32 undef, t.getD 33 undef, t.getD 34 undef, t.getD 35 undef, t.getD 36 undef, t.getD 37 undef, t.getD 38 undef, t.getD 39 undef, t.getD 40 undef, t.getD 41 undef, t.getD 42 undef, t.getD 43 undef, t.getD 44 undef, t.getD 45 undef, t.getD 46 undef, t.getD 47 undef, t.getD 48 undef, t.getD 49 undef, t.getD 50 undef, t.getD 51 undef, t.getD 52 undef, t.getD 53 undef, t.getD 54 undef, t.getD 55 undef, t.getD 56 undef, t.getD 57 undef, t.getD 58 undef, t.getD 59 undef, t.getD 60 undef, t.getD 61 undef, t.getD 62 undef, t.getD 63 undef, t.getD 64 undef, t.getD 65 undef, t.getD 66 undef, t.getD 67 undef, t.getD 68 undef, t.getD 69 undef, t.getD 70 undef, t.getD 71 undef, t.getD 72 undef] → PoIn w p #[.slice a1 p.posts.length c1, .slice a2 p.queues.length c2, .slice a3 p.binds.length c3] g (roundsB p key k p.posts.length) W → Q0 (.exit 0) ⟨t, []⟩ W) (t : Array Value) (r : Nat) (W : World) (ht : t = #[t.getD 0 undef, t.getD 1 undef, .string key, .pointer (some ⟨w.heap.size, 0, none⟩), t.getD 4 undef, t.getD 5 undef, .slice none 0 0, .slice (some ⟨g, 0, none⟩) m m, .int .i64 (r : Int), t.getD 9 undef, t.getD 10 undef, t.getD 11 undef, t.getD 12 undef, t.getD 13 undef, t.getD 14 undef, t.getD 15 undef, t.getD 16 undef, t.getD 17 undef, t.getD 18 undef, t.getD 19 undef, t.getD 20 undef, t.getD 21 undef, t.getD 22 undef, t.getD 23 undef, t.getD 24 undef, t.getD 25 undef, t.getD 26 undef, t.getD 27 undef, t.getD 28 undef, t.getD 29 undef, t.getD 30 undef, t.getD 31 undef, t.getD 32 undef, t.getD 33 undef, t.getD 34 undef, t.getD 35 undef, t.getD 36 undef, t.getD 37 undef, t.getD 38 undef, t.getD 39 undef, t.getD 40 undef, t.getD 41 undef, t.getD 42 undef, t.getD 43 undef, t.getD 44 undef, t.getD 45 undef, t.getD 46 undef, t.getD 47 undef, t.getD 48 undef, t.getD 49 undef, t.getD 50 undef, t.getD 51 undef, t.getD 52 undef, t.getD 53 undef, t.getD 54 undef, t.getD 55 undef, t.getD 56 undef, t.getD 57 undef, t.getD 58 undef, t.getD 59 undef, t.getD 60 undef, t.getD 61 undef, t.getD 62 undef, t.getD 63 undef, t.getD 64 undef, t.getD 65 undef, t.getD 66 undef, t.getD 67 undef, t.getD 68 undef, t.getD 69 undef, t.getD 70 undef, t.getD 71 undef, t.getD 72 undef]) (hj : r ≤ p.posts.length) (hW : PoIn w p #[.slice a1 p.posts.length c1, .slice a2 p.queues.length c2, .slice a3 p.binds.length c3] g (roundsB p key k r) W) :
  (Code.loop poLoop1).wp Tryz.prog Q0 ⟨t, []⟩ W := by
 refine wp_loop (po1_inv w p key #[.slice a1 p.posts.length c1, .slice a2 p.queues.length c2, .slice a3 p.binds.length c3] g m k) (fun a _ => p.posts.length - (intOf (a.tmps.getD 8 undef)).toNat) ⟨t, r, ht, hj, hW, rfl⟩ ?_
 clear ht hj hW t r W
 rintro a' wr ⟨t, r, ht, hj, hW, rfl⟩
 obtain ⟨u, rfl⟩ := po1_open ht
 clear ht
 have HM := Lib.hid hm
 clear hm
 have HEND := Lib.hid hend
 have m0 := hW.box.cell 0
 have m2 := hW.box.cell 2
 simp only [List.getElem?_toArray, List.getElem?_cons_zero, List.getElem?_cons_succ] at m0 m2
 have HW := Lib.hid hW
 have hpn := hr.posts
 clear hend hW
 conv => arg 2; whnf
 by_cases hlt : r < p.posts.length
 ·have hj2 : (r : Int) < (p.posts.length : Int) := by omega
  have HLT := Lib.hid hlt
  have HR : Hid (∀ t : Array Value, ∀ (r' : Nat), r' = r + 1 → t = #[t.getD 0 undef, t.getD 1 undef, .string key, .pointer (some ⟨w.heap.size, 0, none⟩), t.getD 4 undef, t.getD 5 undef, .slice none 0 0, .slice (some ⟨g, 0, none⟩) m m, .int .i64 (r' : Int), t.getD 9 undef, t.getD 10 undef, t.getD 11 undef, t.getD 12 undef, t.getD 13 undef, t.getD 14 undef, t.getD 15 undef, t.getD 16 undef, t.getD 17 undef, t.getD 18 undef, t.getD 19 undef, t.getD 20 undef, t.getD 21 undef, t.getD 22 undef, t.getD 23 undef, t.getD 24 undef, t.getD 25 undef, t.getD 26 undef, t.getD 27 undef, t.getD 28 undef, t.getD 29 undef, t.getD 30 undef, t.getD 31 undef, t.getD 32 undef, t.getD 33 undef, t.getD 34 undef, t.getD 35 undef, t.getD 36 undef, t.getD 37 undef, t.getD 38 undef, t.getD 39 undef, t.getD 40 undef, t.getD 41 undef, t.getD 42 undef, t.getD 43 undef, t.getD 44 undef, t.getD 45 undef, t.getD 46 undef, t.getD 47 undef, t.getD 48 undef, t.getD 49 undef, t.getD 50 undef, t.getD 51 undef, t.getD 52 undef, t.getD 53 undef, t.getD 54 undef, t.getD 55 undef, t.getD 56 undef, t.getD 57 undef, t.getD 58 undef, t.getD 59 undef, t.getD 60 undef, t.getD 61 undef, t.getD 62 undef, t.getD 63 undef, t.getD 64 undef, t.getD 65 undef, t.getD 66 undef, t.getD 67 undef, t.getD 68 undef, t.getD 69 undef, t.getD 70 undef, t.getD 71 undef, t.getD 72 undef] → ∀ W, PoIn w p #[.slice a1 p.posts.length c1, .slice a2 p.queues.length c2, .slice a3 p.binds.length c3] g (roundTo p key (roundsB p key k r) p.binds.length) W → po1_inv w p key #[.slice a1 p.posts.length c1, .slice a2 p.queues.length c2, .slice a3 p.binds.length c3] g m k ⟨t, []⟩ W) :=
   Lib.hid fun t r' hr' ht W hW => ⟨t, r', ht, by omega, by rw [hr']; exact hW, rfl⟩
  go_wp2
  refine po_loop2 p hr hs key hkey a1 a2 a3 c1 c2 c3 w g _ r (roundsB p key k r) (by rw [roundsB_len]; exact HM.out.symm) HM.out hpl _ ?_ _ 0 wr rfl (Nat.zero_le _) (by unfold roundTo; simpa using HW.out)
  rintro t j W ht hW
  obtain ⟨u', rfl⟩ := po2_open ht
  have HW2 := Lib.hid hW
  clear ht hW
  go_wp2
  exact ⟨HR.out _ _ rfl rfl _ HW2.out, by simp [intOf]; omega⟩
 ·obtain rfl : r = p.posts.length := by omega
  go_wp2
  exact HEND.out _ p.posts.length _ rfl HW.out
def po3_inv (w : World) (g m : Nat) (l : List Bool) (a : Act) (wr : World) : Prop :=
 ∃ (t : Array Value) (v : Value) (i : Nat), t = (po3_T g m i v t) ∧ i ≤ m ∧ BoolsB wr g l ∧ IntsO wr w.heap.size v (pickI (fun i => (l[i]?).getD false) i) ∧ Below w.heap.size w wr ∧ w.heap.size < g ∧ a = ⟨t, []⟩
set_option maxHeartbeats 4000000 in
theorem po_loop3 (w : World) (g m : Nat) (l : List Bool) (hlm : l.length = m) (hm : m ≤ 1048576) (Q0 : Exit → Act → World → Prop)
  (hend : ∀ (t : Array Value) (v : Value) (i : Nat) (W : World), t = (po3_T g m i v t) → IntsO W w.heap.size v (pickI (fun i => (l[i]?).getD false) m) → Below w.heap.size w W → Q0 (.exit 4) ⟨t, []⟩ W) (t : Array Value) (v : Value) (i : Nat) (W : World) (ht : t = (po3_T g m i v t)) (hi : i ≤ m) (h1 : BoolsB W g l) (h2 : IntsO W w.heap.size v (pickI (fun i => (l[i]?).getD false) i)) (h3 : Below w.heap.size w W) (h4 : w.heap.size < g) :
  (Code.loop poLoop3).wp Tryz.prog Q0 ⟨t, []⟩ W := by
 refine wp_loop (po3_inv w g m l) (fun a _ => m - (intOf (a.tmps.getD 12 undef)).toNat) ⟨t, v, i, ht, hi, h1, h2, h3, h4, rfl⟩ ?_
 clear ht hi h1 h2 h3 h4 t v i W
 rintro a' wr ⟨t, v, i, ht, hi, h1, h2, h3, h4, rfl⟩
 obtain ⟨u, rfl⟩ := po3_open ht
 obtain ⟨av, cv, rfl, _⟩ := own_slice h2
 clear ht
 have HEND := Lib.hid hend
 have HH := Lib.hid (And.intro h1 (And.intro h2 (And.intro h3 h4)))
 clear hend
 conv => arg 2; whnf
 by_cases hlt : i < m
 ·have m4 := h1.cell (i := i) (by omega)
  have hsu := pickI_succ (fun i => (l[i]?).getD false) i
  have hpl := pickI_len (fun i => (l[i]?).getD false) i
  rw [List.getElem?_eq_getElem (show i < l.length by omega), Option.getD_some] at hsu
  generalize l[i]'(by omega) = x at *
  have HS := Lib.hid hsu
  have hj2 : (i : Int) < (m : Int) := by omega
  clear hsu h1 h2 h3 h4
  have HR : Hid (∀ t : Array Value, ∀ (v : Value) (i' : Nat), i' = i + 1 → t = #[t.getD 0 undef, t.getD 1 undef, t.getD 2 undef, t.getD 3 undef, t.getD 4 undef, t.getD 5 undef, .slice none 0 0, .slice (some ⟨g, 0, none⟩) m m, t.getD 8 undef, t.getD 9 undef, t.getD 10 undef, v, .int .i64 (i' : Int), t.getD 13 undef, t.getD 14 undef, t.getD 15 undef, t.getD 16 undef, t.getD 17 undef, t.getD 18 undef, t.getD 19 undef, t.getD 20 undef, t.getD 21 undef, t.getD 22 undef, t.getD 23 undef, t.getD 24 undef, t.getD 25 undef, t.getD 26 undef, t.getD 27 undef, t.getD 28 undef, t.getD 29 undef, t.getD 30 undef, t.getD 31 undef, t.getD 32 undef, t.getD 33 undef, t.getD 34 undef, t.getD 35 undef, t.getD 36 undef, t.getD 37 undef, t.getD 38 undef, t.getD 39 undef, t.getD 40 undef, t.getD 41 undef, t.getD 42 undef, t.getD 43 undef, t.getD 44 undef, t.getD 45 undef, t.getD 46 undef, t.getD 47 undef, t.getD 48 undef, t.getD 49 undef, t.getD 50 undef, t.getD 51 undef, t.getD 52 undef, t.getD 53 undef, t.getD 54 undef, t.getD 55 undef, t.getD 56 undef, t.getD 57 undef, t.getD 58 undef, t.getD 59 undef, t.getD 60 undef, t.getD 61 undef, t.getD 62 undef, t.getD 63 undef, t.getD 64 undef, t.getD 65 undef, t.getD 66 undef, t.getD 67 undef, t.getD 68 undef, t.getD 69 undef, t.getD 70 undef, t.getD 71 undef, t.getD 72 undef] → ∀ W, BoolsB W g l → IntsO W w.heap.size v (if x = true then pickI (fun i => (l[i]?).getD false) i ++ [(i : Int)] else pickI (fun i => (l[i]?).getD false) i) → Below w.heap.size w W → po3_inv w g m l ⟨t, []⟩ W) :=
   Lib.hid fun t v i' hi' ht W q1 q2 q3 => ⟨t, v, i', ht, by omega, q1, by rw [hi', HS.out]; exact q2, q3, HH.out.2.2.2, rfl⟩
  cases x
  ·go_wp2
   exact ⟨HR.out _ _ _ rfl rfl _ HH.out.1 (by simpa using HH.out.2.1) HH.out.2.2.1, by simp [intOf]; omega⟩
  ·have hbs := HH.out.2.2.1.size
   have HLN := Lib.hid (show (pickI (fun i => (l[i]?).getD false) i).length < 4294967296 by omega)
   go_wp2_with (at_builtin; refine append1 rfl _ _ 40 rfl w.heap.size 3 infoInt Tryz.underlying40 rfl (by decide) (by decide) wr _ _ _ rfl HH.out.2.1 [.int .i64 (i : Int)] rfl rfl rfl (by simp [Value.oneCell']) HLN.out hbs ?_; intro v3 w3 hown' hgrow; have HO3 := Lib.hid (And.intro hown' hgrow); clear hown' hgrow)
   refine ⟨HR.out _ _ _ rfl rfl _ (HH.out.1.grown HO3.out.2 (HH.out.2.1.ne HH.out.1 (by decide))) ?_ (below_own HH.out.2.1 HO3.out.2 HH.out.2.2.1 (Nat.le_refl _) hbs), by simp [intOf]; omega⟩
   simp only [if_true]
   unfold IntsO
   rw [List.length_append, List.map_append]
   exact HO3.out.1
 ·obtain rfl : i = m := by omega
  clear h1 h2 h3 h4
  go_wp2
  exact HEND.out _ _ i _ rfl HH.out.2.1 HH.out.2.2.1
set_option maxHeartbeats 4000000 in
theorem PostsOf_any (p : PlanD) (hr : PlanRight p) (hs : PlanSmall p) (k : Nat) (hk : k < p.posts.length) (key : ByteArray) (hkey : key.size ≤ 1048576) (a1 a2 a3 : Option Addr) (c1 c2 c3 : Nat) (w : World) (hp : PlanAt w 0 w.heap.size a1 a2 a3 p) :
  Calls Tryz.prog 139 #[planV p a1 a2 a3 c1 c2 c3, .int .i64 (k : Int), .string key] w fun e w' => ∃ v, e = .returned v ∧ IntsO w' w.heap.size v (refPosts p key k) ∧ Below w.heap.size w w' := by
 unfold planV
 have hpn := hr.posts
 have hkm : (k : Int) < (p.posts.length : Int) := by omega
 obtain ⟨W0, hW0⟩ : ∃ W0, w.alloc (.cells #[.slice a1 p.posts.length c1, .slice a2 p.queues.length c2, .slice a3 p.binds.length c3] 26) = W0 := ⟨_, rfl⟩
 have k0 : Bk W0 w.heap.size 26 #[.slice a1 p.posts.length c1, .slice a2 p.queues.length c2, .slice a3 p.binds.length c3] := by rw [← hW0]; exact Bk.new _ _ _
 have hb0 : Below w.heap.size w W0 := by rw [← hW0]; exact (Below.refl _ _).alloc (Nat.le_refl _) _
 have hz0 : W0.heap.size = w.heap.size + 1 := by rw [← hW0]; simp
 have m0 := k0.cell 0
 simp only [List.getElem?_toArray, List.getElem?_cons_zero] at m0
 have hmk := run_make1 (P := Tryz.prog) (t := 159) (e := 4) (z := .bool false) (bytes := 1) Tryz.underlying159 (by kernel_rfl) rfl p.posts.length (p.posts.length : Int) rfl (by decide) (by omega) W0
 obtain ⟨W1, hW1⟩ : ∃ W1, W0.alloc (.cells (List.replicate p.posts.length (.bool false)).toArray 4) = W1 := ⟨_, rfl⟩
 rw [hW1] at hmk
 have hi1 : BoolsB W1 W0.heap.size (List.replicate p.posts.length false) := by
  unfold BoolsB
  rw [← hW1, List.map_replicate]
  exact Bk.new _ _ _
 have z4 := hi1.cell (i := k) (by simpa using hk)
 have zf := Bk.frozen hi1 k
 have zl := Bk.lt hi1
 have hP1 : PoIn w p #[.slice a1 p.posts.length c1, .slice a2 p.queues.length c2, .slice a3 p.binds.length c3] W0.heap.size (List.replicate p.posts.length false) W1 := by
  have hal : Below W0.heap.size W0 W1 := by rw [← hW1]; exact (Below.refl _ _).alloc (Nat.le_refl _) _
  exact ⟨k0.below hal k0.lt, hi1, hb0.trans (hal.mono hb0.size), by omega⟩
 have HP1 := Lib.hid hP1
 have HZ := Lib.hid hz0
 clear k0 hb0 hi1 hP1 hz0 hW1
 go_enter Tryz.func139, Tryz.ntmps139
 go_wp2
 clear z4 zf zl
 refine po_loop1 p hr hs key hkey a1 a2 a3 c1 c2 c3 w W0.heap.size _ k rfl hp _ ?_ _ 0 _ rfl (Nat.zero_le _) (HP1.out.set k)
 rintro t r W ht hW
 obtain ⟨u, rfl⟩ := po1_open ht
 have HW := Lib.hid hW
 clear ht hW
 go_wp2
 refine po_loop3 w W0.heap.size p.posts.length (roundsB p key k p.posts.length) (roundsB_len _ _ _ _) (by omega) _ ?_ _ (.slice none 0 0) 0 W rfl (Nat.zero_le _) HW.out.is (World.ownsRow_nil _ _ _ _) HW.out.below HW.out.g
 rintro t v i W2 ht h1 h2
 obtain ⟨u, rfl⟩ := po3_open ht
 obtain ⟨av, cv, rfl, _⟩ := own_slice h1
 have HF := Lib.hid (And.intro h1 h2)
 clear ht h1 h2
 go_wp2
 go_ret
 exact ⟨_, rfl, HF.out.1, HF.out.2⟩
open Go Go.RowKit
set_option maxRecDepth 100000
def qo1q_T (w : World) (key : ByteArray) (q : Nat) (vp v : Value) (t : Array Value) : Array Value := #[t.getD 0 undef, t.getD 1 undef, .string key, .pointer (some ⟨w.heap.size, 0, none⟩), t.getD 4 undef, t.getD 5 undef, .slice none 0 0, vp, v, .int .i64 (q : Int), t.getD 10 undef, t.getD 11 undef, t.getD 12 undef, t.getD 13 undef, t.getD 14 undef, t.getD 15 undef, t.getD 16 undef, t.getD 17 undef, t.getD 18 undef, t.getD 19 undef, t.getD 20 undef, t.getD 21 undef, t.getD 22 undef, t.getD 23 undef, t.getD 24 undef, t.getD 25 undef, t.getD 26 undef, t.getD 27 undef, t.getD 28 undef, t.getD 29 undef, t.getD 30 undef, t.getD 31 undef, t.getD 32 undef, t.getD 33 undef, t.getD 34 undef, t.getD 35 undef, t.getD 36 undef, t.getD 37 undef, t.getD 38 undef, t.getD 39 undef, t.getD 40 undef, t.getD 41 undef, t.getD 42 undef, t.getD 43 undef, t.getD 44 undef, t.getD 45 undef, t.getD 46 undef, t.getD 47 undef, t.getD 48 undef, t.getD 49 undef, t.getD 50 undef, t.getD 51 undef, t.getD 52 undef, t.getD 53 undef, t.getD 54 undef, t.getD 55 undef, t.getD 56 undef, t.getD 57 undef, t.getD 58 undef, t.getD 59 undef, t.getD 60 undef, t.getD 61 undef, t.getD 62 undef, t.getD 63 undef, t.getD 64 undef, t.getD 65 undef]
theorem qo1q_open {w : World} {key : ByteArray} {q : Nat} {vp v : Value} {t : Array Value} (h : t = (qo1q_T w key q vp v t)) : ∃ u : Nat → Value, t = #[u 0, u 1, .string key, .pointer (some ⟨w.heap.size, 0, none⟩), u 4, u 5, .slice none 0 0, vp, v, .int .i64 (q : Int), u 10, u 11, u 12, u 13, u 14, u 15, u 16, u 17, u 18, u 19, u 20, u 21, u 22, u 23, u 24, u 25, u 26, u 27, u 28, u 29, u 30, u 31, u 32, u 33, u 34, u 35, u 36, u 37, u 38, u 39, u 40, u 41, u 42, u 43, u 44, u 45, u 46, u 47, u 48, u 49, u 50, u 51, u 52, u 53, u 54, u 55, u 56, u 57, u 58, u 59, u 60, u 61, u 62, u 63, u 64, u 65] := ⟨fun i => t.getD i undef, h⟩
def qo2q_T (w : World) (key : ByteArray) (q : Nat) (vp v : Value) (j : Nat) (c : Bool) (t : Array Value) : Array Value := #[t.getD 0 undef, t.getD 1 undef, .string key, .pointer (some ⟨w.heap.size, 0, none⟩), t.getD 4 undef, t.getD 5 undef, .slice none 0 0, vp, v, .int .i64 (q : Int), .bool c, .int .i64 (j : Int), t.getD 12 undef, t.getD 13 undef, t.getD 14 undef, t.getD 15 undef, t.getD 16 undef, t.getD 17 undef, t.getD 18 undef, t.getD 19 undef, t.getD 20 undef, t.getD 21 undef, t.getD 22 undef, t.getD 23 undef, t.getD 24 undef, t.getD 25 undef, t.getD 26 undef, t.getD 27 undef, t.getD 28 undef, t.getD 29 undef, t.getD 30 undef, t.getD 31 undef, t.getD 32 undef, t.getD 33 undef, t.getD 34 undef, t.getD 35 undef, t.getD 36 undef, t.getD 37 undef, t.getD 38 undef, t.getD 39 undef, t.getD 40 undef, t.getD 41 undef, t.getD 42 undef, t.getD 43 undef, t.getD 44 undef, t.getD 45 undef, t.getD 46 undef, t.getD 47 undef, t.getD 48 undef, t.getD 49 undef, t.getD 50 undef, t.getD 51 undef, t.getD 52 undef, t.getD 53 undef, t.getD 54 undef, t.getD 55 undef, t.getD 56 undef, t.getD 57 undef, t.getD 58 undef, t.getD 59 undef, t.getD 60 undef, t.getD 61 undef, t.getD 62 undef, t.getD 63 undef, t.getD 64 undef, t.getD 65 undef]
theorem qo2q_open {w : World} {key : ByteArray} {q : Nat} {vp v : Value} {j : Nat} {c : Bool} {t : Array Value} (h : t = (qo2q_T w key q vp v j c t)) : ∃ u : Nat → Value, t = #[u 0, u 1, .string key, .pointer (some ⟨w.heap.size, 0, none⟩), u 4, u 5, .slice none 0 0, vp, v, .int .i64 (q : Int), .bool c, .int .i64 (j : Int), u 12, u 13, u 14, u 15, u 16, u 17, u 18, u 19, u 20, u 21, u 22, u 23, u 24, u 25, u 26, u 27, u 28, u 29, u 30, u 31, u 32, u 33, u 34, u 35, u 36, u 37, u 38, u 39, u 40, u 41, u 42, u 43, u 44, u 45, u 46, u 47, u 48, u 49, u 50, u 51, u 52, u 53, u 54, u 55, u 56, u 57, u 58, u 59, u 60, u 61, u 62, u 63, u 64, u 65] := ⟨fun i => t.getD i undef, h⟩
noncomputable def qoLoop1 : Code := loopAt Tryz.f99 0
noncomputable def qoLoop2 : Code := loopIn qoLoop1 0
structure QoIn (w : World) (p : PlanD) (a1 a2 a3 : Option Addr) (c1 c2 c3 : Nat) (W0 : World) : Prop where
 box : Bk W0 w.heap.size 26 #[.slice a1 p.posts.length c1, .slice a2 p.queues.length c2, .slice a3 p.binds.length c3]
 plan : PlanAt W0 0 W0.heap.size a1 a2 a3 p
theorem QoIn.since {w W0 W : World} {p : PlanD} {a1 a2 a3 : Option Addr} {c1 c2 c3 : Nat} (h : QoIn w p a1 a2 a3 c1 c2 c3 W0) (hb : Below W0.heap.size W0 W) : QoIn w p a1 a2 a3 c1 c2 c3 W :=
 ⟨h.box.below hb h.box.lt, (h.plan.below hb (Nat.le_refl _)).wider (Nat.le_refl _) hb.size⟩
theorem any_step {α : Type} {l : List α} {j : Nat} {x : α} (h : l[j]? = some x) (f : α → Bool) : (l.take (j + 1)).any f = ((l.take j).any f || f x) := by
 obtain ⟨hj, rfl⟩ := List.getElem?_eq_some_iff.1 h
 rw [List.take_succ_eq_append_getElem hj, List.any_append]
 simp
def qo2_inv (w : World) (p : PlanD) (key : ByteArray) (vp v : Value) (ps : List Int) (q : Nat) (W0 : World) (a : Act) (wr : World) : Prop :=
 ∃ (t : Array Value) (c : Bool) (j : Nat), t = (qo2q_T w key q vp v j c t) ∧ j ≤ p.binds.length ∧ c = (p.binds.take j).any (toQueue p key ps q) ∧ Below W0.heap.size W0 wr ∧ a = ⟨t, []⟩
set_option maxHeartbeats 8000000 in
theorem qo_loop2 (p : PlanD) (hr : PlanRight p) (hs : PlanSmall p) (key : ByteArray) (hkey : key.size ≤ 1048576) (a1 a2 a3 : Option Addr) (c1 c2 c3 : Nat) (w : World) (vp v : Value) (ps : List Int) (q : Nat) (W0 : World) (hq0 : IntsIn W0 vp ps) (hIn : QoIn w p a1 a2 a3 c1 c2 c3 W0) (Q0 : Exit → Act → World → Prop)
  (hend : ∀ (t : Array Value) (c : Bool) (j : Nat) (W : World), t = (qo2q_T w key q vp v j c t) → c = p.binds.any (toQueue p key ps q) → Below W0.heap.size W0 W → Q0 (.exit 2) ⟨t, []⟩ W) (t : Array Value) (c : Bool) (j : Nat) (W : World) (ht : t = (qo2q_T w key q vp v j c t)) (hj : j ≤ p.binds.length) (hc : c = (p.binds.take j).any (toQueue p key ps q)) (hW : Below W0.heap.size W0 W) :
  (Code.loop qoLoop2).wp Tryz.prog Q0 ⟨t, []⟩ W := by
 refine wp_loop (qo2_inv w p key vp v ps q W0) (fun a _ => p.binds.length - (intOf (a.tmps.getD 11 undef)).toNat) ⟨t, c, j, ht, hj, hc, hW, rfl⟩ ?_
 clear ht hj hc hW t c j W
 rintro a' wr ⟨t, c, j, ht, hj, hc, hW, rfl⟩
 obtain ⟨u, rfl⟩ := qo2q_open ht
 obtain ⟨ap, cp, rfl, hpl, hsl⟩ := hq0
 clear ht
 have hI := hIn.since hW
 have m2 := hI.box.cell 2
 simp only [List.getElem?_toArray, List.getElem?_cons_zero, List.getElem?_cons_succ] at m2
 have HEND := Lib.hid hend
 have HW := Lib.hid hW
 have HI := Lib.hid hI
 have HC := Lib.hid hc
 have HSL := Lib.hid hsl
 have hbn := hr.binds
 clear hend hW hI hc hIn hsl
 conv => arg 2; whnf
 by_cases hlt : j < p.binds.length
 ·obtain ⟨b, hb⟩ : ∃ b, p.binds[j]? = some b := ⟨_, List.getElem?_eq_getElem hlt⟩
  have hbr := hr.bind b (List.mem_of_getElem? hb)
  have hj2 : (j : Int) < (p.binds.length : Int) := by omega
  obtain ⟨gb, ob, hga, n0, n1, n2, n3⟩ := bind_cells3 HI.out.plan.binds hb
  subst hga
  have hst := any_step hb (toQueue p key ps q)
  rw [← HC.out] at hst
  have HST := Lib.hid hst
  obtain ⟨s, hs1⟩ : ∃ s : Nat, b.src = (s : Int) := ⟨b.src.toNat, by omega⟩
  have HFIT : Hid (∀ W, Below wr.heap.size wr W → Calls Tryz.prog 141 #[.agg #[.slice a1 p.posts.length c1, .slice a2 p.queues.length c2, .slice (some ⟨gb, ob, none⟩) p.binds.length c3], .int .i64 (j : Int), .string key] W fun e w' => e = .returned (.bool (byP p b key)) ∧ Below W.heap.size W w') := Lib.hid fun W hWb => by
   have h := reffits_any p j hlt key a1 a2 (some ⟨gb, ob, none⟩) c1 c2 c3 0 W (HI.out.since hWb).plan hs s (by omega) (by have := (List.getElem?_eq_some_iff.1 hb).2; rw [this]; exact hs1) hkey
   have e : fitsAt p (j : Int) key = byP p b key := by unfold fitsAt; rw [show ((j : Int)).toNat = j by omega, hb]
   rw [e] at h
   exact h
  have HIN : Hid (∀ W, Below wr.heap.size wr W → Calls Tryz.prog 140 #[.slice ap ps.length cp, .int .i64 b.src] W fun e w' => e = .returned (.bool (decide (b.src ∈ ps))) ∧ w' = W) := Lib.hid fun W hWb =>
   refin_any ap cp ps b.src W 0 ((HSL.out.below (HW.out.trans (hWb.mono HW.out.size)) (Nat.le_refl _)).wider (Nat.le_refl _) (Nat.le_trans HW.out.size hWb.size)) hpl
  obtain ⟨W1, hW1⟩ : ∃ W1, wr.alloc (.cells #[.int .i64 b.src, .bool b.toPost, .int .i64 b.to, .string b.pattern] 127) = W1 := ⟨_, rfl⟩
  have hal : Below wr.heap.size wr W1 := by rw [← hW1]; exact (Below.refl _ _).alloc (Nat.le_refl _) _
  have kb : Bk W1 wr.heap.size 127 #[.int .i64 b.src, .bool b.toPost, .int .i64 b.to, .string b.pattern] := by rw [← hW1]; exact Bk.new _ _ _
  have s0 := kb.cell 0
  have s1 := kb.cell 1
  have s2 := kb.cell 2
  have k1 := HI.out.since hal
  have t0 := k1.box.cell 0
  have t1 := k1.box.cell 1
  have t2 := k1.box.cell 2
  simp only [List.getElem?_toArray, List.getElem?_cons_zero, List.getElem?_cons_succ] at s0 s1 s2 t0 t1 t2
  have HAL := Lib.hid hal
  have HWW : Hid (∀ W, Below W1.heap.size W1 W → Below W0.heap.size W0 W) := Lib.hid fun W h => HW.out.trans ((hal.trans (h.mono hal.size)).mono HW.out.size)
  have HR : Hid (∀ t : Array Value, ∀ (c' : Bool) (j' : Nat), j' = j + 1 → t = #[t.getD 0 undef, t.getD 1 undef, .string key, .pointer (some ⟨w.heap.size, 0, none⟩), t.getD 4 undef, t.getD 5 undef, .slice none 0 0, .slice ap ps.length cp, v, .int .i64 (q : Int), .bool c', .int .i64 (j' : Int), t.getD 12 undef, t.getD 13 undef, t.getD 14 undef, t.getD 15 undef, t.getD 16 undef, t.getD 17 undef, t.getD 18 undef, t.getD 19 undef, t.getD 20 undef, t.getD 21 undef, t.getD 22 undef, t.getD 23 undef, t.getD 24 undef, t.getD 25 undef, t.getD 26 undef, t.getD 27 undef, t.getD 28 undef, t.getD 29 undef, t.getD 30 undef, t.getD 31 undef, t.getD 32 undef, t.getD 33 undef, t.getD 34 undef, t.getD 35 undef, t.getD 36 undef, t.getD 37 undef, t.getD 38 undef, t.getD 39 undef, t.getD 40 undef, t.getD 41 undef, t.getD 42 undef, t.getD 43 undef, t.getD 44 undef, t.getD 45 undef, t.getD 46 undef, t.getD 47 undef, t.getD 48 undef, t.getD 49 undef, t.getD 50 undef, t.getD 51 undef, t.getD 52 undef, t.getD 53 undef, t.getD 54 undef, t.getD 55 undef, t.getD 56 undef, t.getD 57 undef, t.getD 58 undef, t.getD 59 undef, t.getD 60 undef, t.getD 61 undef, t.getD 62 undef, t.getD 63 undef, t.getD 64 undef, t.getD 65 undef] → c' = (c || toQueue p key ps q b) → ∀ W, Below W0.heap.size W0 W → qo2_inv w p key (.slice ap ps.length cp) v ps q W0 ⟨t, []⟩ W) :=
   Lib.hid fun t c' j' hj' ht hc' W hW => ⟨t, c', j', ht, by omega, by rw [hj', HST.out]; exact hc', hW, rfl⟩
  have HTQ : Hid (toQueue p key ps q b = (!b.toPost && decide (b.to = (q : Int)) && decide (b.src ∈ ps) && byP p b key)) := Lib.hid (by unfold toQueue; rw [List.contains_eq_mem])
  have HMS := Lib.hid hs1
  clear hst hbr hal kb k1 hs1
  cases c
  ·cases htp : b.toPost
   ·rw [htp] at s1
    by_cases hto : b.to = (q : Int)
    ·have htb : (b.to == (q : Int)) = true := by simp [hto]
     have HTO := Lib.hid hto
     have HTP := Lib.hid htp
     clear htp hto
     go_wp2_with fail
     refine (HIN.out W1 HAL.out).mono ?_
     rintro e W2 ⟨rfl, rfl⟩
     by_cases hin : b.src ∈ ps
     ·rw [decide_eq_true hin]
      have HIM := Lib.hid hin
      clear hin
      go_wp2_with fail
      refine (HFIT.out W2 HAL.out).mono ?_
      rintro e W3 ⟨rfl, hb3⟩
      have HB3 := Lib.hid (HWW.out _ hb3)
      clear hb3 s0 s1 s2 t0 t1 t2
      have HE := Lib.hid (show (false || toQueue p key ps q b) = byP p b key by rw [HTQ.out, HTP.out, decide_eq_true HTO.out, decide_eq_true HIM.out]; simp)
      generalize byP p b key = bb at *
      go_wp2
      exact ⟨HR.out _ bb _ rfl rfl HE.out.symm _ HB3.out, by simp [intOf]; omega⟩
     ·rw [decide_eq_false hin]
      have HE := Lib.hid (show (false || toQueue p key ps q b) = false by rw [HTQ.out, decide_eq_false hin]; simp)
      clear hin
      go_wp2
      exact ⟨HR.out _ false _ rfl rfl HE.out.symm _ (HWW.out _ (Below.refl _ _)), by simp [intOf]; omega⟩
    ·have htb : (b.to == (q : Int)) = false := by simp [hto]
     have HE := Lib.hid (show (false || toQueue p key ps q b) = false by rw [HTQ.out, decide_eq_false hto]; simp)
     clear htp hto
     go_wp2
     exact ⟨HR.out _ false _ rfl rfl HE.out.symm _ (HWW.out _ (Below.refl _ _)), by simp [intOf]; omega⟩
   ·rw [htp] at s1
    have HE := Lib.hid (show (false || toQueue p key ps q b) = false by rw [HTQ.out, htp]; simp)
    clear htp
    go_wp2
    exact ⟨HR.out _ false _ rfl rfl HE.out.symm _ (HWW.out _ (Below.refl _ _)), by simp [intOf]; omega⟩
  ·go_wp2
   exact ⟨HR.out _ true _ rfl rfl rfl _ (HWW.out _ (Below.refl _ _)), by simp [intOf]; omega⟩
 ·obtain rfl : j = p.binds.length := by omega
  have hcc : c = p.binds.any (toQueue p key ps q) := by have := HC.out; rwa [List.take_length] at this
  have HCC := Lib.hid hcc
  clear hcc
  go_wp2
  exact HEND.out _ c p.binds.length _ rfl HCC.out HW.out
def qo1_inv (w : World) (p : PlanD) (key : ByteArray) (vp : Value) (ps : List Int) (W0 : World) (a : Act) (wr : World) : Prop :=
 ∃ (t : Array Value) (v : Value) (q : Nat), t = (qo1q_T w key q vp v t) ∧ q ≤ p.queues.length ∧ IntsO wr W0.heap.size v (pickI (fun q => p.binds.any (toQueue p key ps q)) q) ∧ Below W0.heap.size W0 wr ∧ a = ⟨t, []⟩
set_option maxHeartbeats 8000000 in
theorem qo_loop1 (p : PlanD) (hr : PlanRight p) (hs : PlanSmall p) (key : ByteArray) (hkey : key.size ≤ 1048576) (a1 a2 a3 : Option Addr) (c1 c2 c3 : Nat) (w : World) (vp : Value) (ps : List Int) (W0 : World) (hq0 : IntsIn W0 vp ps) (hIn : QoIn w p a1 a2 a3 c1 c2 c3 W0) (Q0 : Exit → Act → World → Prop)
  (hend : ∀ (t : Array Value) (v : Value) (q : Nat) (W : World), t = (qo1q_T w key q vp v t) → IntsO W W0.heap.size v (pickI (fun q => p.binds.any (toQueue p key ps q)) p.queues.length) → Below W0.heap.size W0 W → Q0 (.exit 0) ⟨t, []⟩ W) (t : Array Value) (v : Value) (q : Nat) (W : World) (ht : t = (qo1q_T w key q vp v t)) (hq : q ≤ p.queues.length) (hv : IntsO W W0.heap.size v (pickI (fun q => p.binds.any (toQueue p key ps q)) q)) (hW : Below W0.heap.size W0 W) :
  (Code.loop qoLoop1).wp Tryz.prog Q0 ⟨t, []⟩ W := by
 refine wp_loop (qo1_inv w p key vp ps W0) (fun a _ => p.queues.length - (intOf (a.tmps.getD 9 undef)).toNat) ⟨t, v, q, ht, hq, hv, hW, rfl⟩ ?_
 clear ht hq hv hW t v q W
 rintro a' wr ⟨t, v, q, ht, hq, hv, hW, rfl⟩
 obtain ⟨u, rfl⟩ := qo1q_open ht
 obtain ⟨av, cv, rfl, _⟩ := own_slice hv
 clear ht
 have hI := hIn.since hW
 have m1 := hI.box.cell 1
 simp only [List.getElem?_toArray, List.getElem?_cons_zero, List.getElem?_cons_succ] at m1
 have HEND := Lib.hid hend
 have HW := Lib.hid hW
 have HV := Lib.hid hv
 have HI := Lib.hid hI
 have HIN := Lib.hid (And.intro hIn hq0)
 have hqn := hr.queues
 have hpl := pickI_len (fun q => p.binds.any (toQueue p key ps q)) q
 clear hend hW hv hI hIn hq0
 conv => arg 2; whnf
 by_cases hlt : q < p.queues.length
 ·have hj2 : (q : Int) < (p.queues.length : Int) := by omega
  have HS := Lib.hid (pickI_succ (fun q => p.binds.any (toQueue p key ps q)) q)
  have HR : Hid (∀ t : Array Value, ∀ (v' : Value) (q' : Nat), q' = q + 1 → t = #[t.getD 0 undef, t.getD 1 undef, .string key, .pointer (some ⟨w.heap.size, 0, none⟩), t.getD 4 undef, t.getD 5 undef, .slice none 0 0, vp, v', .int .i64 (q' : Int), t.getD 10 undef, t.getD 11 undef, t.getD 12 undef, t.getD 13 undef, t.getD 14 undef, t.getD 15 undef, t.getD 16 undef, t.getD 17 undef, t.getD 18 undef, t.getD 19 undef, t.getD 20 undef, t.getD 21 undef, t.getD 22 undef, t.getD 23 undef, t.getD 24 undef, t.getD 25 undef, t.getD 26 undef, t.getD 27 undef, t.getD 28 undef, t.getD 29 undef, t.getD 30 undef, t.getD 31 undef, t.getD 32 undef, t.getD 33 undef, t.getD 34 undef, t.getD 35 undef, t.getD 36 undef, t.getD 37 undef, t.getD 38 undef, t.getD 39 undef, t.getD 40 undef, t.getD 41 undef, t.getD 42 undef, t.getD 43 undef, t.getD 44 undef, t.getD 45 undef, t.getD 46 undef, t.getD 47 undef, t.getD 48 undef, t.getD 49 undef, t.getD 50 undef, t.getD 51 undef, t.getD 52 undef, t.getD 53 undef, t.getD 54 undef, t.getD 55 undef, t.getD 56 undef, t.getD 57 undef, t.getD 58 undef, t.getD 59 undef, t.getD 60 undef, t.getD 61 undef, t.getD 62 undef, t.getD 63 undef, t.getD 64 undef, t.getD 65 undef] → ∀ W, IntsO W W0.heap.size v' (if p.binds.any (toQueue p key ps q) = true then pickI (fun q => p.binds.any (toQueue p key ps q)) q ++ [(q : Int)] else pickI (fun q => p.binds.any (toQueue p key ps q)) q) → Below W0.heap.size W0 W → qo1_inv w p key vp ps W0 ⟨t, []⟩ W) :=
   Lib.hid fun t v' q' hq' ht W q1 q2 => ⟨t, v', q', ht, by omega, by rw [hq', HS.out]; exact q1, q2, rfl⟩
  go_wp2
  refine qo_loop2 p hr hs key hkey a1 a2 a3 c1 c2 c3 w vp _ ps q wr (HIN.out.2.since HW.out) HI.out _ ?_ _ false 0 wr rfl (Nat.zero_le _) rfl (Below.refl _ _)
  rintro t c j W ht hc hW
  obtain ⟨u', rfl⟩ := qo2q_open ht
  have HC := Lib.hid hc
  have hb := HW.out.trans (hW.mono HW.out.size)
  have HB := Lib.hid hb
  have HV2 := Lib.hid (HV.out.grown' hW)
  clear ht hc hW hb
  cases c
  ·go_wp2
   exact ⟨HR.out _ _ _ rfl rfl _ (by rw [← HC.out]; simpa using HV2.out) HB.out, by simp [intOf]; omega⟩
  ·have hbs := HB.out.size
   have HLN := Lib.hid (show (pickI (fun q => p.binds.any (toQueue p key ps q)) q).length < 4294967296 by omega)
   go_wp2_with (at_builtin; refine append1 rfl _ _ 40 rfl W0.heap.size 3 infoInt Tryz.underlying40 rfl (by decide) (by decide) W _ _ _ rfl HV2.out [.int .i64 (q : Int)] rfl rfl rfl (by simp [Value.oneCell']) HLN.out hbs ?_; intro v3 w3 hown' hgrow; have HO3 := Lib.hid (And.intro hown' hgrow); clear hown' hgrow)
   refine ⟨HR.out _ _ _ rfl rfl _ ?_ (below_own HV2.out HO3.out.2 HB.out (Nat.le_refl _) hbs), by simp [intOf]; omega⟩
   rw [← HC.out]
   simp only [if_true]
   unfold IntsO
   rw [List.length_append, List.map_append]
   exact HO3.out.1
 ·obtain rfl : q = p.queues.length := by omega
  go_wp2
  exact HEND.out _ _ p.queues.length _ rfl HV.out HW.out
set_option maxHeartbeats 4000000 in
theorem QueuesOf_any (p : PlanD) (hr : PlanRight p) (hs : PlanSmall p) (k : Nat) (hk : k < p.posts.length) (key : ByteArray) (hkey : key.size ≤ 1048576) (a1 a2 a3 : Option Addr) (c1 c2 c3 : Nat) (w : World) (hp : PlanAt w 0 w.heap.size a1 a2 a3 p) :
  Calls Tryz.prog 99 #[planV p a1 a2 a3 c1 c2 c3, .int .i64 (k : Int), .string key] w fun e w' => ∃ v, e = .returned v ∧ IntsO w' w.heap.size v (refQueues p key k) ∧ Below w.heap.size w w' := by
 unfold planV
 obtain ⟨W0, hW0⟩ : ∃ W0, w.alloc (.cells #[.slice a1 p.posts.length c1, .slice a2 p.queues.length c2, .slice a3 p.binds.length c3] 26) = W0 := ⟨_, rfl⟩
 have k0 : Bk W0 w.heap.size 26 #[.slice a1 p.posts.length c1, .slice a2 p.queues.length c2, .slice a3 p.binds.length c3] := by rw [← hW0]; exact Bk.new _ _ _
 have hb0 : Below w.heap.size w W0 := by rw [← hW0]; exact (Below.refl _ _).alloc (Nat.le_refl _) _
 have m0 := k0.cell 0
 have m1 := k0.cell 1
 have m2 := k0.cell 2
 simp only [List.getElem?_toArray, List.getElem?_cons_zero, List.getElem?_cons_succ] at m0 m1 m2
 have HIN : Hid (QoIn w p a1 a2 a3 c1 c2 c3 W0 ∧ Below w.heap.size w W0) := Lib.hid ⟨⟨k0, (hp.below hb0 (Nat.le_refl _)).wider (Nat.le_refl _) hb0.size⟩, hb0⟩
 clear k0 hb0 hp
 go_enter Tryz.func99, Tryz.ntmps99
 go_wp2_with fail
 have hcall := PostsOf_any p hr hs k hk key hkey a1 a2 a3 c1 c2 c3 W0 HIN.out.1.plan
 unfold planV at hcall
 refine hcall.mono ?_
 clear hcall m0 m1 m2 hW0
 rintro e W1 ⟨vp, rfl, n1, n2⟩
 have hlen : (refPosts p key k).length ≤ 1048576 := by
  have := pickI_len (fun i => ((roundsB p key k p.posts.length)[i]?).getD false) p.posts.length
  have := hr.posts
  unfold refPosts
  omega
 obtain ⟨avp, cvp, rfl, _⟩ := own_slice n1
 have HIP := Lib.hid (And.intro (ints_in n1 hlen) n2)
 clear n1 n2 hlen
 go_wp2
 refine qo_loop1 p hr hs key hkey a1 a2 a3 c1 c2 c3 w _ (refPosts p key k) W1 HIP.out.1 (HIN.out.1.since HIP.out.2) _ ?_ _ (.slice none 0 0) 0 W1 rfl (Nat.zero_le _) (World.ownsRow_nil _ _ _ _) (Below.refl _ _)
 rintro t v q W2 ht h1 h2
 obtain ⟨u, rfl⟩ := qo1q_open ht
 obtain ⟨av, cv, rfl, _⟩ := own_slice h1
 have hb1 : Below w.heap.size w W1 := HIN.out.2.trans (HIP.out.2.mono HIN.out.2.size)
 have HF := Lib.hid (And.intro (IntsO.lower h1 hb1.size) (hb1.trans (h2.mono hb1.size)))
 clear ht h1 h2 hb1
 go_wp2
 go_ret
 exact ⟨_, rfl, HF.out.1, HF.out.2⟩
end Go.Proofs.YtaanpcjkflhomaaGreatDoor
