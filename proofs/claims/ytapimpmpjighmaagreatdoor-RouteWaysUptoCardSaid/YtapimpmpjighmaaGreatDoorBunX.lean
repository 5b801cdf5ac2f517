/-
  The reference's answer on ways: wayBy, WayOf.
  The reference's WayOf; the law RouteWays.
-/
import Derived.Test.YtapimpmpjighmaaGreatDoorBunV
import Derived.Test.YtapimpmpjighmaaGreatDoorBunO
import Derived.Test.YtapimpmpjighmaaGreatDoorBunB
import Derived.Test.YtapimpmpjighmaaGreatDoorBunP
set_option linter.unusedSimpArgs false
set_option linter.unusedVariables false
namespace Go.Proofs.YtapimpmpjighmaaGreatDoor
open Go Go.RowKit
set_option maxRecDepth 100000

theorem wb1_open {w : World} {key : ByteArray} {q : Int} {k m j : Nat} {t : Array Value} (h : t = #[t.getD 0 undef, .int .i64 (k : Int), .string key, .int .i64 q, .int .i64 ((m : Int) + 1), .pointer (some ⟨w.heap.size, 0, none⟩), t.getD 6 undef, t.getD 7 undef, t.getD 8 undef, t.getD 9 undef, .slice none 0 0, .bool false, .int .i64 (j : Int), t.getD 13 undef, t.getD 14 undef, t.getD 15 undef, t.getD 16 undef, t.getD 17 undef, t.getD 18 undef, t.getD 19 undef, t.getD 20 undef, t.getD 21 undef, t.getD 22 undef, t.getD 23 undef, t.getD 24 undef, t.getD 25 undef, t.getD 26 undef, t.getD 27 undef, t.getD 28 undef, t.getD 29 undef, t.getD 30 undef, t.getD 31 undef, t.getD 32 undef, t.getD 33 undef, t.getD 34 undef, t.getD 35 undef, t.getD 36 undef, t.getD 37 undef, t.getD 38 undef, t.getD 39 undef, t.getD 40 undef, t.getD 41 undef, t.getD 42 undef, t.getD 43 undef, t.getD 44 undef, t.getD 45 undef, t.getD 46 undef, t.getD 47 undef, t.getD 48 undef, t.getD 49 undef, t.getD 50 undef, t.getD 51 undef, t.getD 52 undef, t.getD 53 undef, t.getD 54 undef, t.getD 55 undef, t.getD 56 undef, t.getD 57 undef, t.getD 58 undef, t.getD 59 undef, t.getD 60 undef, t.getD 61 undef, t.getD 62 undef, t.getD 63 undef, t.getD 64 undef, t.getD 65 undef, t.getD 66 undef, t.getD 67 undef, t.getD 68 undef, t.getD 69 undef, t.getD 70 undef, t.getD 71 undef, t.getD 72 undef, t.getD 73 undef, t.getD 74 undef, t.getD 75 undef, t.getD 76 undef, t.getD 77 undef, t.getD 78 undef, t.getD 79 undef]) : ∃ u : Nat → Value, t = #[u 0, .int .i64 (k : Int), .string key, .int .i64 q, .int .i64 ((m : Int) + 1), .pointer (some ⟨w.heap.size, 0, none⟩), u 6, u 7, u 8, u 9, .slice none 0 0, .bool false, .int .i64 (j : Int), u 13, u 14, u 15, u 16, u 17, u 18, u 19, u 20, u 21, u 22, u 23, u 24, u 25, u 26, u 27, u 28, u 29, u 30, u 31, u 32, u 33, u 34, u 35, u 36, u 37, u 38, u 39, u 40, u 41, u 42, u 43, u 44, u 45, u 46, u 47, u 48, u 49, u 50, u 51, u 52, u 53, u 54, u 55, u 56, u 57, u 58, u 59, u 60, u 61, u 62, u 63, u 64, u 65, u 66, u 67, u 68, u 69, u 70, u 71, u 72, u 73, u 74, u 75, u 76, u 77, u 78, u 79] := ⟨fun i => t.getD i undef, h⟩

theorem wbr_open {v : Value} {t : Array Value} (h : t = #[t.getD 0 undef, t.getD 1 undef, t.getD 2 undef, t.getD 3 undef, t.getD 4 undef, t.getD 5 undef, t.getD 6 undef, t.getD 7 undef, t.getD 8 undef, t.getD 9 undef, v, .bool true, t.getD 12 undef, t.getD 13 undef, t.getD 14 undef, t.getD 15 undef, t.getD 16 undef, t.getD 17 undef, t.getD 18 undef, t.getD 19 undef, t.getD 20 undef, t.getD 21 undef, t.getD 22 undef, t.getD 23 undef, t.getD 24 undef, t.getD 25 undef, t.getD 26 undef, t.getD 27 undef, t.getD 28 undef, t.getD 29 undef, t.getD 30 undef, t.getD 31 undef, t.getD 32 undef, t.getD 33 undef, t.getD 34 undef, t.getD 35 undef, t.getD 36 undef, t.getD 37 undef, t.getD 38 undef, t.getD 39 undef, t.getD 40 undef, t.getD 41 undef, t.getD 42 undef, t.getD 43 undef, t.getD 44 undef, t.getD 45 undef, t.getD 46 undef, t.getD 47 undef, t.getD 48 undef, t.getD 49 undef, t.getD 50 undef, t.getD 51 undef, t.getD 52 undef, t.getD 53 undef, t.getD 54 undef, t.getD 55 undef, t.getD 56 undef, t.getD 57 undef, t.getD 58 undef, t.getD 59 undef, t.getD 60 undef, t.getD 61 undef, t.getD 62 undef, t.getD 63 undef, t.getD 64 undef, t.getD 65 undef, t.getD 66 undef, t.getD 67 undef, t.getD 68 undef, t.getD 69 undef, t.getD 70 undef, t.getD 71 undef, t.getD 72 undef, t.getD 73 undef, t.getD 74 undef, t.getD 75 undef, t.getD 76 undef, t.getD 77 undef, t.getD 78 undef, t.getD 79 undef]) : ∃ u : Nat → Value, t = #[u 0, u 1, u 2, u 3, u 4, u 5, u 6, u 7, u 8, u 9, v, .bool true, u 12, u 13, u 14, u 15, u 16, u 17, u 18, u 19, u 20, u 21, u 22, u 23, u 24, u 25, u 26, u 27, u 28, u 29, u 30, u 31, u 32, u 33, u 34, u 35, u 36, u 37, u 38, u 39, u 40, u 41, u 42, u 43, u 44, u 45, u 46, u 47, u 48, u 49, u 50, u 51, u 52, u 53, u 54, u 55, u 56, u 57, u 58, u 59, u 60, u 61, u 62, u 63, u 64, u 65, u 66, u 67, u 68, u 69, u 70, u 71, u 72, u 73, u 74, u 75, u 76, u 77, u 78, u 79] := ⟨fun i => t.getD i undef, h⟩

def WbZ (_ : Act) (_ : World) : Prop := True
theorem wbz_close {w W : World} {t : Array Value} (h : t = #[t.getD 0 undef, t.getD 1 undef, t.getD 2 undef, t.getD 3 undef, .int .i64 0, .pointer (some ⟨w.heap.size, 0, none⟩), t.getD 6 undef, t.getD 7 undef, t.getD 8 undef, t.getD 9 undef, .slice none 0 0, .bool false, .int .i64 0, t.getD 13 undef, t.getD 14 undef, t.getD 15 undef, t.getD 16 undef, t.getD 17 undef, t.getD 18 undef, t.getD 19 undef, t.getD 20 undef, t.getD 21 undef, t.getD 22 undef, t.getD 23 undef, t.getD 24 undef, t.getD 25 undef, t.getD 26 undef, t.getD 27 undef, t.getD 28 undef, t.getD 29 undef, t.getD 30 undef, t.getD 31 undef, t.getD 32 undef, t.getD 33 undef, t.getD 34 undef, t.getD 35 undef, t.getD 36 undef, t.getD 37 undef, t.getD 38 undef, t.getD 39 undef, t.getD 40 undef, t.getD 41 undef, t.getD 42 undef, t.getD 43 undef, t.getD 44 undef, t.getD 45 undef, t.getD 46 undef, t.getD 47 undef, t.getD 48 undef, t.getD 49 undef, t.getD 50 undef, t.getD 51 undef, t.getD 52 undef, t.getD 53 undef, t.getD 54 undef, t.getD 55 undef, t.getD 56 undef, t.getD 57 undef, t.getD 58 undef, t.getD 59 undef, t.getD 60 undef, t.getD 61 undef, t.getD 62 undef, t.getD 63 undef, t.getD 64 undef, t.getD 65 undef, t.getD 66 undef, t.getD 67 undef, t.getD 68 undef, t.getD 69 undef, t.getD 70 undef, t.getD 71 undef, t.getD 72 undef, t.getD 73 undef, t.getD 74 undef, t.getD 75 undef, t.getD 76 undef, t.getD 77 undef, t.getD 78 undef, t.getD 79 undef]) : ∃ (u : Nat → Value), (⟨t, []⟩ : Act) = ⟨#[u 0, u 1, u 2, u 3, .int .i64 0, .pointer (some ⟨w.heap.size, 0, none⟩), u 6, u 7, u 8, u 9, .slice none 0 0, .bool false, .int .i64 0, u 13, u 14, u 15, u 16, u 17, u 18, u 19, u 20, u 21, u 22, u 23, u 24, u 25, u 26, u 27, u 28, u 29, u 30, u 31, u 32, u 33, u 34, u 35, u 36, u 37, u 38, u 39, u 40, u 41, u 42, u 43, u 44, u 45, u 46, u 47, u 48, u 49, u 50, u 51, u 52, u 53, u 54, u 55, u 56, u 57, u 58, u 59, u 60, u 61, u 62, u 63, u 64, u 65, u 66, u 67, u 68, u 69, u 70, u 71, u 72, u 73, u 74, u 75, u 76, u 77, u 78, u 79], []⟩ ∧ W = W := ⟨fun i => t.getD i undef, by rw [← h], rfl⟩

theorem wo1_open {w : World} {key : ByteArray} {q : Int} {k i : Nat} {t : Array Value} (h : t = #[t.getD 0 undef, .int .i64 (k : Int), .string key, .int .i64 q, .pointer (some ⟨w.heap.size, 0, none⟩), t.getD 5 undef, t.getD 6 undef, t.getD 7 undef, .slice none 0 0, .bool false, .int .i64 0, t.getD 11 undef, .int .i64 (i : Int), t.getD 13 undef, t.getD 14 undef, t.getD 15 undef, t.getD 16 undef, t.getD 17 undef, t.getD 18 undef, t.getD 19 undef, t.getD 20 undef, t.getD 21 undef, t.getD 22 undef, t.getD 23 undef, t.getD 24 undef, t.getD 25 undef, t.getD 26 undef, t.getD 27 undef, t.getD 28 undef, t.getD 29 undef, t.getD 30 undef, t.getD 31 undef, t.getD 32 undef, t.getD 33 undef, t.getD 34 undef, t.getD 35 undef, t.getD 36 undef, t.getD 37 undef, t.getD 38 undef, t.getD 39 undef, t.getD 40 undef, t.getD 41 undef, t.getD 42 undef, t.getD 43 undef, t.getD 44 undef, t.getD 45 undef, t.getD 46 undef]) : ∃ u : Nat → Value, t = #[u 0, .int .i64 (k : Int), .string key, .int .i64 q, .pointer (some ⟨w.heap.size, 0, none⟩), u 5, u 6, u 7, .slice none 0 0, .bool false, .int .i64 0, u 11, .int .i64 (i : Int), u 13, u 14, u 15, u 16, u 17, u 18, u 19, u 20, u 21, u 22, u 23, u 24, u 25, u 26, u 27, u 28, u 29, u 30, u 31, u 32, u 33, u 34, u 35, u 36, u 37, u 38, u 39, u 40, u 41, u 42, u 43, u 44, u 45, u 46] := ⟨fun i => t.getD i undef, h⟩

theorem wor_open {v : Value} {t : Array Value} (h : t = #[t.getD 0 undef, t.getD 1 undef, t.getD 2 undef, t.getD 3 undef, t.getD 4 undef, t.getD 5 undef, t.getD 6 undef, t.getD 7 undef, v, .bool true, .int .i64 0, t.getD 11 undef, t.getD 12 undef, t.getD 13 undef, t.getD 14 undef, t.getD 15 undef, t.getD 16 undef, t.getD 17 undef, t.getD 18 undef, t.getD 19 undef, t.getD 20 undef, t.getD 21 undef, t.getD 22 undef, t.getD 23 undef, t.getD 24 undef, t.getD 25 undef, t.getD 26 undef, t.getD 27 undef, t.getD 28 undef, t.getD 29 undef, t.getD 30 undef, t.getD 31 undef, t.getD 32 undef, t.getD 33 undef, t.getD 34 undef, t.getD 35 undef, t.getD 36 undef, t.getD 37 undef, t.getD 38 undef, t.getD 39 undef, t.getD 40 undef, t.getD 41 undef, t.getD 42 undef, t.getD 43 undef, t.getD 44 undef, t.getD 45 undef, t.getD 46 undef]) : ∃ u : Nat → Value, t = #[u 0, u 1, u 2, u 3, u 4, u 5, u 6, u 7, v, .bool true, .int .i64 0, u 11, u 12, u 13, u 14, u 15, u 16, u 17, u 18, u 19, u 20, u 21, u 22, u 23, u 24, u 25, u 26, u 27, u 28, u 29, u 30, u 31, u 32, u 33, u 34, u 35, u 36, u 37, u 38, u 39, u 40, u 41, u 42, u 43, u 44, u 45, u 46] := ⟨fun i => t.getD i undef, h⟩

/-- What one bind gives, when so many more than one are to be gone. -/
def FW (p : PlanD) (key : ByteArray) (q : Int) (m : Nat) (y : Nat × BindD) : Option (List Int) :=
  if m = 0 then (if stopsW q y = true then some [(y.1 : Int)] else none) else if y.2.toPost = true then (wayBy p key q m y.2.to).map fun l => (y.1 : Int) :: l else none
theorem wayBy_succ (p : PlanD) (key : ByteArray) (q : Int) (m : Nat) (x : Int) : wayBy p key q (m + 1) x = (onL p x key).findSome? (FW p key q m) := rfl
theorem onTo_rest (p : PlanD) (x : Int) (key : ByteArray) {j : Nat} (h : j ≤ p.binds.length) : ∃ r, onL p x key = onTo p x key j ++ r := by
  obtain ⟨r, hr⟩ := onTo_prefix p x key h
  exact ⟨r, hr.symm⟩
theorem fw_found {p : PlanD} {key : ByteArray} {q x : Int} {m j : Nat} {b : BindD} {l : List Int} (hj : j < p.binds.length) (h0 : (onTo p x key j).findSome? (FW p key q m) = none) (h1 : onTo p x key (j + 1) = onTo p x key j ++ [(j, b)]) (h2 : FW p key q m (j, b) = some l) : wayBy p key q (m + 1) x = some l := by
  obtain ⟨r, hr⟩ := onTo_rest p x key (j := j + 1) (by omega)
  rw [wayBy_succ, hr, h1, List.append_assoc, List.findSome?_append, h0]
  simp [h2]
theorem fw_next {p : PlanD} {key : ByteArray} {q x : Int} {m j : Nat} {b : BindD} (h0 : (onTo p x key j).findSome? (FW p key q m) = none) (h1 : onTo p x key (j + 1) = onTo p x key j ++ [(j, b)]) (h2 : FW p key q m (j, b) = none) : (onTo p x key (j + 1)).findSome? (FW p key q m) = none := by
  rw [h1, List.findSome?_append, h0]
  simp [h2]
noncomputable def wbLoop : Code := loopAt Tryz.f34 0
noncomputable def woLoop : Code := loopAt Tryz.f15 0
/-- What wayBy leaves. -/
def WbPost (o : Option (List Int)) (w : World) (e : Ending) (w' : World) : Prop := ∃ v, e = .returned (.tuple #[v, .bool o.isSome]) ∧ IntsO w' w.heap.size v (o.getD []) ∧ Below w.heap.size w w'
theorem run_appInts (W : World) (base : Nat) (v : Value) (xs ys : List Int) (a : Option Addr) (c lo hi : Nat) (h : IntsO W base v xs) (hs : Sl W lo hi a (ys.map (Value.int .i64))) (hn : xs.length + ys.length ≤ 4294967296) (hb : base ≤ W.heap.size) (ty : TypeId) :
    ∃ v' w', (Builtin.append_ #[27, 27] ty #[v, .slice a ys.length c]).run Tryz.prog W = .ok v' w' ∧ IntsO w' base v' (xs ++ ys) ∧ W.grownBy w' v.ownBlock := by
  obtain ⟨v', w', h1, h2, h3⟩ := run_appendS (P := Tryz.prog) W base 27 ty 3 Tryz.underlying27 infoInt rfl (by decide) (by decide) v xs.length (xs.map (Value.int .i64)) h lo hi a ys.length c (ys.map (Value.int .i64)) (by simp) hs (by
    intro u hu
    obtain ⟨i, _, rfl⟩ := List.mem_map.1 hu
    rfl) hn hb
  exact ⟨v', w', h1, by unfold IntsO; rw [List.length_append, List.map_append]; exact h2, h3⟩

def wb1_inv (w : World) (p : PlanD) (key : ByteArray) (q : Int) (k m : Nat) (W0 : World) (a : Act) (wr : World) : Prop :=
  ∃ (t : Array Value) (j : Nat), t = #[t.getD 0 undef, .int .i64 (k : Int), .string key, .int .i64 q, .int .i64 ((m : Int) + 1), .pointer (some ⟨w.heap.size, 0, none⟩), t.getD 6 undef, t.getD 7 undef, t.getD 8 undef, t.getD 9 undef, .slice none 0 0, .bool false, .int .i64 (j : Int), t.getD 13 undef, t.getD 14 undef, t.getD 15 undef, t.getD 16 undef, t.getD 17 undef, t.getD 18 undef, t.getD 19 undef, t.getD 20 undef, t.getD 21 undef, t.getD 22 undef, t.getD 23 undef, t.getD 24 undef, t.getD 25 undef, t.getD 26 undef, t.getD 27 undef, t.getD 28 undef, t.getD 29 undef, t.getD 30 undef, t.getD 31 undef, t.getD 32 undef, t.getD 33 undef, t.getD 34 undef, t.getD 35 undef, t.getD 36 undef, t.getD 37 undef, t.getD 38 undef, t.getD 39 undef, t.getD 40 undef, t.getD 41 undef, t.getD 42 undef, t.getD 43 undef, t.getD 44 undef, t.getD 45 undef, t.getD 46 undef, t.getD 47 undef, t.getD 48 undef, t.getD 49 undef, t.getD 50 undef, t.getD 51 undef, t.getD 52 undef, t.getD 53 undef, t.getD 54 undef, t.getD 55 undef, t.getD 56 undef, t.getD 57 undef, t.getD 58 undef, t.getD 59 undef, t.getD 60 undef, t.getD 61 undef, t.getD 62 undef, t.getD 63 undef, t.getD 64 undef, t.getD 65 undef, t.getD 66 undef, t.getD 67 undef, t.getD 68 undef, t.getD 69 undef, t.getD 70 undef, t.getD 71 undef, t.getD 72 undef, t.getD 73 undef, t.getD 74 undef, t.getD 75 undef, t.getD 76 undef, t.getD 77 undef, t.getD 78 undef, t.getD 79 undef] ∧ j ≤ p.binds.length ∧ (onTo p k key j).findSome? (FW p key q m) = none ∧ Below W0.heap.size W0 wr ∧ a = ⟨t, []⟩
set_option maxHeartbeats 8000000 in
theorem wb_loop (p : PlanD) (hr : PlanRight p) (hs : PlanSmall p) (key : ByteArray) (hkey : key.size ≤ 1048576) (q : Int) (a1 a2 a3 : Option Addr) (c1 c2 c3 : Nat) (w : World) (k m : Nat) (hm : m ≤ 1048576) (W0 : World) (hIn : QoIn w p a1 a2 a3 c1 c2 c3 W0)
    (hIH : ∀ (d : Nat) (W : World), d < p.posts.length → PlanAt W 0 W.heap.size a1 a2 a3 p → Calls Tryz.prog 34 #[.agg #[.slice a1 p.posts.length c1, .slice a2 p.queues.length c2, .slice a3 p.binds.length c3], .int .i64 (d : Int), .string key, .int .i64 q, .int .i64 (m : Int)] W (WbPost (wayBy p key q m d) W)) (hlen : ∀ (d : Nat) (l : List Int), wayBy p key q m d = some l → l.length ≤ 1048576) (Q0 : Exit → Act → World → Prop)
    (hend : ∀ (t : Array Value) (j : Nat) (W : World), t = #[t.getD 0 undef, .int .i64 (k : Int), .string key, .int .i64 q, .int .i64 ((m : Int) + 1), .pointer (some ⟨w.heap.size, 0, none⟩), t.getD 6 undef, t.getD 7 undef, t.getD 8 undef, t.getD 9 undef, .slice none 0 0, .bool false, .int .i64 (j : Int), t.getD 13 undef, t.getD 14 undef, t.getD 15 undef, t.getD 16 undef, t.getD 17 undef, t.getD 18 undef, t.getD 19 undef, t.getD 20 undef, t.getD 21 undef, t.getD 22 undef, t.getD 23 undef, t.getD 24 undef, t.getD 25 undef, t.getD 26 undef, t.getD 27 undef, t.getD 28 undef, t.getD 29 undef, t.getD 30 undef, t.getD 31 undef, t.getD 32 undef, t.getD 33 undef, t.getD 34 undef, t.getD 35 undef, t.getD 36 undef, t.getD 37 undef, t.getD 38 undef, t.getD 39 undef, t.getD 40 undef, t.getD 41 undef, t.getD 42 undef, t.getD 43 undef, t.getD 44 undef, t.getD 45 undef, t.getD 46 undef, t.getD 47 undef, t.getD 48 undef, t.getD 49 undef, t.getD 50 undef, t.getD 51 undef, t.getD 52 undef, t.getD 53 undef, t.getD 54 undef, t.getD 55 undef, t.getD 56 undef, t.getD 57 undef, t.getD 58 undef, t.getD 59 undef, t.getD 60 undef, t.getD 61 undef, t.getD 62 undef, t.getD 63 undef, t.getD 64 undef, t.getD 65 undef, t.getD 66 undef, t.getD 67 undef, t.getD 68 undef, t.getD 69 undef, t.getD 70 undef, t.getD 71 undef, t.getD 72 undef, t.getD 73 undef, t.getD 74 undef, t.getD 75 undef, t.getD 76 undef, t.getD 77 undef, t.getD 78 undef, t.getD 79 undef] → wayBy p key q (m + 1) k = none → Below W0.heap.size W0 W → Q0 (.exit 0) ⟨t, []⟩ W)
    (hret : ∀ (t : Array Value) (v : Value) (l : List Int) (W : World), t = #[t.getD 0 undef, t.getD 1 undef, t.getD 2 undef, t.getD 3 undef, t.getD 4 undef, t.getD 5 undef, t.getD 6 undef, t.getD 7 undef, t.getD 8 undef, t.getD 9 undef, v, .bool true, t.getD 12 undef, t.getD 13 undef, t.getD 14 undef, t.getD 15 undef, t.getD 16 undef, t.getD 17 undef, t.getD 18 undef, t.getD 19 undef, t.getD 20 undef, t.getD 21 undef, t.getD 22 undef, t.getD 23 undef, t.getD 24 undef, t.getD 25 undef, t.getD 26 undef, t.getD 27 undef, t.getD 28 undef, t.getD 29 undef, t.getD 30 undef, t.getD 31 undef, t.getD 32 undef, t.getD 33 undef, t.getD 34 undef, t.getD 35 undef, t.getD 36 undef, t.getD 37 undef, t.getD 38 undef, t.getD 39 undef, t.getD 40 undef, t.getD 41 undef, t.getD 42 undef, t.getD 43 undef, t.getD 44 undef, t.getD 45 undef, t.getD 46 undef, t.getD 47 undef, t.getD 48 undef, t.getD 49 undef, t.getD 50 undef, t.getD 51 undef, t.getD 52 undef, t.getD 53 undef, t.getD 54 undef, t.getD 55 undef, t.getD 56 undef, t.getD 57 undef, t.getD 58 undef, t.getD 59 undef, t.getD 60 undef, t.getD 61 undef, t.getD 62 undef, t.getD 63 undef, t.getD 64 undef, t.getD 65 undef, t.getD 66 undef, t.getD 67 undef, t.getD 68 undef, t.getD 69 undef, t.getD 70 undef, t.getD 71 undef, t.getD 72 undef, t.getD 73 undef, t.getD 74 undef, t.getD 75 undef, t.getD 76 undef, t.getD 77 undef, t.getD 78 undef, t.getD 79 undef] → wayBy p key q (m + 1) k = some l → IntsO W W0.heap.size v l → Below W0.heap.size W0 W → Q0 .ret ⟨t, []⟩ W) (t : Array Value) (j : Nat) (W : World) (ht : t = #[t.getD 0 undef, .int .i64 (k : Int), .string key, .int .i64 q, .int .i64 ((m : Int) + 1), .pointer (some ⟨w.heap.size, 0, none⟩), t.getD 6 undef, t.getD 7 undef, t.getD 8 undef, t.getD 9 undef, .slice none 0 0, .bool false, .int .i64 (j : Int), t.getD 13 undef, t.getD 14 undef, t.getD 15 undef, t.getD 16 undef, t.getD 17 undef, t.getD 18 undef, t.getD 19 undef, t.getD 20 undef, t.getD 21 undef, t.getD 22 undef, t.getD 23 undef, t.getD 24 undef, t.getD 25 undef, t.getD 26 undef, t.getD 27 undef, t.getD 28 undef, t.getD 29 undef, t.getD 30 undef, t.getD 31 undef, t.getD 32 undef, t.getD 33 undef, t.getD 34 undef, t.getD 35 undef, t.getD 36 undef, t.getD 37 undef, t.getD 38 undef, t.getD 39 undef, t.getD 40 undef, t.getD 41 undef, t.getD 42 undef, t.getD 43 undef, t.getD 44 undef, t.getD 45 undef, t.getD 46 undef, t.getD 47 undef, t.getD 48 undef, t.getD 49 undef, t.getD 50 undef, t.getD 51 undef, t.getD 52 undef, t.getD 53 undef, t.getD 54 undef, t.getD 55 undef, t.getD 56 undef, t.getD 57 undef, t.getD 58 undef, t.getD 59 undef, t.getD 60 undef, t.getD 61 undef, t.getD 62 undef, t.getD 63 undef, t.getD 64 undef, t.getD 65 undef, t.getD 66 undef, t.getD 67 undef, t.getD 68 undef, t.getD 69 undef, t.getD 70 undef, t.getD 71 undef, t.getD 72 undef, t.getD 73 undef, t.getD 74 undef, t.getD 75 undef, t.getD 76 undef, t.getD 77 undef, t.getD 78 undef, t.getD 79 undef]) (hj : j ≤ p.binds.length) (hn : (onTo p k key j).findSome? (FW p key q m) = none) (hW : Below W0.heap.size W0 W) :
    (Code.loop wbLoop).wp Tryz.prog Q0 ⟨t, []⟩ W := by
  refine wp_loop (wb1_inv w p key q k m W0) (fun a _ => p.binds.length - (intOf (a.tmps.getD 12 undef)).toNat) ⟨t, j, ht, hj, hn, hW, rfl⟩ ?_
  clear ht hj hn hW t j W
  rintro a' wr ⟨t, j, ht, hj, hnone, hW, rfl⟩
  obtain ⟨u, rfl⟩ := wb1_open ht
  clear ht
  have hI := hIn.since hW
  have m2 := hI.box.cell 2
  simp only [List.getElem?_toArray, List.getElem?_cons_zero, List.getElem?_cons_succ] at m2
  have HEND := Lib.hid hend
  have HRET := Lib.hid hret
  have HW := Lib.hid hW
  have HI := Lib.hid hI
  have HNO := Lib.hid hnone
  have HIH := Lib.hid (And.intro hIH hlen)
  have hbn := hr.binds
  have hm1 : (0 : Int) < (m : Int) + 1 := by omega
  have hw0 : (m : Int) + 1 - 1 = (m : Int) := by omega
  have hpos : (0 : Int) ≤ (m : Int) := by omega
  have HM0 := Lib.hid hw0
  clear hend hret hW hI hnone hIn hIH hlen
  conv => arg 2; whnf
  by_cases hlt : j < p.binds.length
  · obtain ⟨b, hb⟩ : ∃ b, p.binds[j]? = some b := ⟨_, List.getElem?_eq_getElem hlt⟩
    have hbe := (List.getElem?_eq_some_iff.1 hb).2
    have hbr := hr.bind b (List.mem_of_getElem? hb)
    have hj2 : (j : Int) < (p.binds.length : Int) := by omega
    obtain ⟨gb, ob, hga, n0, n1, n2, n3⟩ := bind_cells3 HI.out.plan.binds hb
    subst hga
    have HYES : Hid (b.src = (k : Int) → byP p b key = true → onTo p k key (j + 1) = onTo p k key j ++ [(j, b)]) := Lib.hid fun h1 h2 => by
      have := onTo_yes (p := p) (x := (k : Int)) (key := key) hlt (by rw [hbe]; exact h1) (by rw [hbe]; exact h2)
      rw [hbe] at this
      exact this
    have HNOT : Hid (¬ (b.src = (k : Int) ∧ byP p b key = true) → onTo p k key (j + 1) = onTo p k key j) := Lib.hid fun h => onTo_no hlt (by rw [hbe]; exact h)
    obtain ⟨s, hs1⟩ : ∃ s : Nat, b.src = (s : Int) := ⟨b.src.toNat, by omega⟩
    have HFIT : Hid (∀ W, Below wr.heap.size wr W → Calls Tryz.prog 29 #[.agg #[.slice a1 p.posts.length c1, .slice a2 p.queues.length c2, .slice (some ⟨gb, ob, none⟩) p.binds.length c3], .int .i64 (j : Int), .string key] W fun e w' => e = .returned (.bool (byP p b key)) ∧ Below W.heap.size W w') := Lib.hid fun W hWb => by
      have h := reffits_any p j hlt key a1 a2 (some ⟨gb, ob, none⟩) c1 c2 c3 0 W (HI.out.since hWb).plan hs s (by omega) (by rw [hbe]; exact hs1) hkey
      have e : fitsAt p (j : Int) key = byP p b key := by unfold fitsAt; rw [show ((j : Int)).toNat = j by omega, hb]
      rw [e] at h
      exact h
    obtain ⟨W1, hW1⟩ : ∃ W1, wr.alloc (.cells #[.int .i64 b.src, .bool b.toPost, .int .i64 b.to, .string b.pattern] 61) = W1 := ⟨_, rfl⟩
    have hal : Below wr.heap.size wr W1 := by rw [← hW1]; exact (Below.refl _ _).alloc (Nat.le_refl _) _
    have kb : Bk W1 wr.heap.size 61 #[.int .i64 b.src, .bool b.toPost, .int .i64 b.to, .string b.pattern] := by rw [← hW1]; exact Bk.new _ _ _
    have s0 := kb.cell 0
    have s1 := kb.cell 1
    have s2 := kb.cell 2
    have k1 := HI.out.since hal
    have t0 := k1.box.cell 0
    have t1 := k1.box.cell 1
    have t2 := k1.box.cell 2
    simp only [List.getElem?_toArray, List.getElem?_cons_zero, List.getElem?_cons_succ] at s0 s1 s2 t0 t1 t2
    have HAL := Lib.hid hal
    have HKB := Lib.hid kb
    have HWW : Hid (∀ W, Below W1.heap.size W1 W → Below W0.heap.size W0 W ∧ QoIn w p a1 a2 (some ⟨gb, ob, none⟩) c1 c2 c3 W) := Lib.hid fun W h => ⟨HW.out.trans ((hal.trans (h.mono hal.size)).mono HW.out.size), k1.since h⟩
    have HR : Hid (∀ t : Array Value, ∀ (j' : Nat), j' = j + 1 → t = #[t.getD 0 undef, .int .i64 (k : Int), .string key, .int .i64 q, .int .i64 ((m : Int) + 1), .pointer (some ⟨w.heap.size, 0, none⟩), t.getD 6 undef, t.getD 7 undef, t.getD 8 undef, t.getD 9 undef, .slice none 0 0, .bool false, .int .i64 (j' : Int), t.getD 13 undef, t.getD 14 undef, t.getD 15 undef, t.getD 16 undef, t.getD 17 undef, t.getD 18 undef, t.getD 19 undef, t.getD 20 undef, t.getD 21 undef, t.getD 22 undef, t.getD 23 undef, t.getD 24 undef, t.getD 25 undef, t.getD 26 undef, t.getD 27 undef, t.getD 28 undef, t.getD 29 undef, t.getD 30 undef, t.getD 31 undef, t.getD 32 undef, t.getD 33 undef, t.getD 34 undef, t.getD 35 undef, t.getD 36 undef, t.getD 37 undef, t.getD 38 undef, t.getD 39 undef, t.getD 40 undef, t.getD 41 undef, t.getD 42 undef, t.getD 43 undef, t.getD 44 undef, t.getD 45 undef, t.getD 46 undef, t.getD 47 undef, t.getD 48 undef, t.getD 49 undef, t.getD 50 undef, t.getD 51 undef, t.getD 52 undef, t.getD 53 undef, t.getD 54 undef, t.getD 55 undef, t.getD 56 undef, t.getD 57 undef, t.getD 58 undef, t.getD 59 undef, t.getD 60 undef, t.getD 61 undef, t.getD 62 undef, t.getD 63 undef, t.getD 64 undef, t.getD 65 undef, t.getD 66 undef, t.getD 67 undef, t.getD 68 undef, t.getD 69 undef, t.getD 70 undef, t.getD 71 undef, t.getD 72 undef, t.getD 73 undef, t.getD 74 undef, t.getD 75 undef, t.getD 76 undef, t.getD 77 undef, t.getD 78 undef, t.getD 79 undef] → (onTo p k key (j + 1)).findSome? (FW p key q m) = none → ∀ W, Below W0.heap.size W0 W → wb1_inv w p key q k m W0 ⟨t, []⟩ W) :=
      Lib.hid fun t j' hj' ht hc' W hW => ⟨t, j', ht, by omega, by rw [hj']; exact hc', hW, rfl⟩
    have HBR := Lib.hid hbr
    clear hal kb k1 hs1 hbr hbe
    by_cases hsrc : b.src = (k : Int)
    · have hsb : (b.src != (k : Int)) = false := by simp [hsrc]
      have HSR := Lib.hid hsrc
      clear hsrc
      go_wp2_with fail
      refine (HFIT.out W1 HAL.out).mono ?_
      rintro e W2 ⟨rfl, hb2⟩
      have HB2 := Lib.hid hb2
      have kb2 := HKB.out.below hb2 HKB.out.lt
      have s0 := kb2.cell 0
      have s1 := kb2.cell 1
      have s2 := kb2.cell 2
      have t0 := (HWW.out _ hb2).2.box.cell 0
      have t1 := (HWW.out _ hb2).2.box.cell 1
      have t2 := (HWW.out _ hb2).2.box.cell 2
      simp only [List.getElem?_toArray, List.getElem?_cons_zero, List.getElem?_cons_succ] at s0 s1 s2 t0 t1 t2
      clear hb2 kb2
      cases hby : byP p b key
      · have HE := Lib.hid (HNOT.out (fun h => by rw [hby] at h; exact absurd h.2 (by decide)))
        clear hby
        go_wp2
        exact ⟨HR.out _ _ rfl rfl (by rw [HE.out]; exact HNO.out) _ (HWW.out _ HB2.out).1, by simp [intOf]; omega⟩
      · have HE := Lib.hid (HYES.out HSR.out hby)
        clear hby
        by_cases hm0 : m = 0
        · subst hm0
          cases htp : b.toPost
          · rw [htp] at s1
            by_cases hto : b.to = q
            · have htb : (b.to == q) = true := by simp [hto]
              have HF := Lib.hid (fw_found hlt HNO.out HE.out (show FW p key q 0 (j, b) = some [(j : Int)] by unfold FW; rw [if_pos rfl, if_pos (stops_yes htp hto)]))
              clear htp hto
              go_wp2
              have hz := (HWW.out _ HB2.out).1.size
              refine HRET.out _ _ _ _ rfl HF.out ?_ ((HWW.out _ HB2.out).1.alloc hz _)
              exact ⟨rfl, .inr ⟨W2.heap.size, 1, #[.int .i64 (j : Int)], rfl, hz, Bk.new _ _ _, Nat.le_refl _, by unfold maxLen; simp, by simp, by simp⟩⟩
            · have htb : (b.to == q) = false := by simp [hto]
              have HF := Lib.hid (fw_next HNO.out HE.out (show FW p key q 0 (j, b) = none by unfold FW; rw [if_pos rfl, stops_no (.inr hto)]; rfl))
              clear htp hto
              go_wp2
              exact ⟨HR.out _ _ rfl rfl HF.out _ (HWW.out _ HB2.out).1, by simp [intOf]; omega⟩
          · rw [htp] at s1
            have HF := Lib.hid (fw_next HNO.out HE.out (show FW p key q 0 (j, b) = none by unfold FW; rw [if_pos rfl, stops_no (.inl htp)]; rfl))
            clear htp
            go_wp2
            exact ⟨HR.out _ _ rfl rfl HF.out _ (HWW.out _ HB2.out).1, by simp [intOf]; omega⟩
        · have hmb : ((m : Int) + 1 == 1) = false := by simp; omega
          have hmg : (1 : Int) < (m : Int) + 1 := by omega
          cases htp : b.toPost
          · rw [htp] at s1
            have HF := Lib.hid (fw_next HNO.out HE.out (show FW p key q m (j, b) = none by unfold FW; rw [if_neg hm0, if_neg (by simp [htp])]))
            clear htp
            go_wp2
            exact ⟨HR.out _ _ rfl rfl HF.out _ (HWW.out _ HB2.out).1, by simp [intOf]; omega⟩
          · rw [htp] at s1
            have hto : 0 ≤ b.to ∧ b.to < (p.posts.length : Int) := by
              have h := HBR.out
              rw [htp] at h
              simp only [if_true] at h
              exact h.2.2
            obtain ⟨d, hd⟩ : ∃ d : Nat, b.to = (d : Int) := ⟨b.to.toNat, by omega⟩
            rw [hd] at s2
            have hFW : FW p key q m (j, b) = (wayBy p key q m d).map fun l => (j : Int) :: l := by unfold FW; rw [if_neg hm0, if_pos htp, hd]
            have HFW := Lib.hid hFW
            have HDP := Lib.hid (show d < p.posts.length by omega)
            have HL := Lib.hid (HIH.out.2 d)
            clear htp hto hd hFW
            go_wp2_with fail
            refine (HIH.out.1 d W2 HDP.out (HWW.out _ HB2.out).2.plan).mono ?_
            rintro e W3 ⟨v3, rfl, n1, n2⟩
            have HB3 := Lib.hid ((HWW.out _ HB2.out).1.trans (n2.mono (HWW.out _ HB2.out).1.size))
            obtain ⟨v3a, v3c, rfl, _⟩ := own_slice n1
            have HN1 := Lib.hid n1
            clear n1 n2 s0 s1 s2 t0 t1 t2
            generalize wayBy p key q m (d : Int) = o at *
            cases o with
            | none =>
              have HF := Lib.hid (fw_next HNO.out HE.out HFW.out)
              go_wp2
              exact ⟨HR.out _ _ rfl rfl HF.out _ HB3.out, by simp [intOf]; omega⟩
            | some l =>
              have HF := Lib.hid (fw_found hlt HNO.out HE.out HFW.out)
              have hl := HL.out l rfl
              simp only [Option.getD_some, Option.isSome_some] at HN1 ⊢
              obtain ⟨W4, hW4⟩ : ∃ W4, W3.alloc (.cells #[.int .i64 (j : Int)] 3) = W4 := ⟨_, rfl⟩
              have hz := HB3.out.size
              have hal4 : Below W3.heap.size W3 W4 := by rw [← hW4]; exact (Below.refl _ _).alloc (Nat.le_refl _) _
              have ho4 : IntsO W4 W3.heap.size (.slice (some ⟨W3.heap.size, 0, none⟩) 1 1) [(j : Int)] := by
                rw [← hW4]
                exact ⟨rfl, .inr ⟨W3.heap.size, 1, #[.int .i64 (j : Int)], rfl, Nat.le_refl _, Bk.new _ _ _, Nat.le_refl _, by unfold maxLen; simp, by simp, by simp⟩⟩
              obtain ⟨v5, W5, hr5, ho5, hg5⟩ := run_appInts W4 W3.heap.size _ [(j : Int)] l v3a v3c 0 W4.heap.size ho4 (((ints_sl HN1.out).2.below hal4 (Nat.le_refl _)).wider (Nat.le_refl _) hal4.size) (by simp; omega) hal4.size 27
              obtain ⟨v5a, v5c, rfl, _⟩ := own_slice ho5
              have HR5 := Lib.hid hr5
              have HO5 := Lib.hid (And.intro (IntsO.lower ho5 hz) (HB3.out.trans ((below_own ho4 hg5 hal4 (Nat.le_refl _) hal4.size).mono hz)))
              clear hr5 ho5 hg5 ho4 hal4 hz hl
              go_wp2_with (at_builtin; refine Lib.wpList_append_run _ rfl _ _ _ _ rfl _ _ rfl rfl _ _ HR5.out ?_)
              exact HRET.out _ _ _ _ rfl HF.out HO5.out.1 HO5.out.2
    · have hsb : (b.src != (k : Int)) = true := by simp [hsrc]
      have HE := Lib.hid (HNOT.out (fun h => hsrc h.1))
      clear hsrc
      go_wp2
      exact ⟨HR.out _ _ rfl rfl (by rw [HE.out]; exact HNO.out) _ (HWW.out _ (Below.refl _ _)).1, by simp [intOf]; omega⟩
  · obtain rfl : j = p.binds.length := by omega
    have HF := Lib.hid (show wayBy p key q (m + 1) k = none from HNO.out)
    go_wp2
    exact HEND.out _ p.binds.length _ rfl HF.out HW.out

theorem wayBy_len {p : PlanD} {key : ByteArray} {q : Int} {n : Nat} {x : Int} {l : List Int} (h : wayBy p key q n x = some l) : l.length = n := by
  cases n with
  | zero => cases h
  | succ n =>
    rw [wayBy_paths] at h
    obtain ⟨r, hr', h2⟩ := List.exists_of_findSome?_eq_some h
    have := paths_len p key n x r hr'
    unfold hitW at h2
    rw [Option.map_eq_some_iff] at h2
    obtain ⟨y, _, rfl⟩ := h2
    simp
    omega
set_option maxHeartbeats 4000000 in
theorem wayBy_any (p : PlanD) (hr : PlanRight p) (hs : PlanSmall p) (key : ByteArray) (hkey : key.size ≤ 1048576) (q : Int) (a1 a2 a3 : Option Addr) (c1 c2 c3 : Nat) : ∀ (n k : Nat) (w : World), n ≤ 1000 → k < p.posts.length → PlanAt w 0 w.heap.size a1 a2 a3 p →
    Calls Tryz.prog 34 #[.agg #[.slice a1 p.posts.length c1, .slice a2 p.queues.length c2, .slice a3 p.binds.length c3], .int .i64 (k : Int), .string key, .int .i64 q, .int .i64 (n : Int)] w (WbPost (wayBy p key q n k) w) := by
  intro n
  induction n with
  | zero =>
    intro k w hn hk hp
    have HO := Lib.hid (show wayBy p key q 0 k = none from rfl)
    obtain ⟨W0, hW0⟩ : ∃ W0, w.alloc (.cells #[.slice a1 p.posts.length c1, .slice a2 p.queues.length c2, .slice a3 p.binds.length c3] 26) = W0 := ⟨_, rfl⟩
    have k0 : Bk W0 w.heap.size 26 #[.slice a1 p.posts.length c1, .slice a2 p.queues.length c2, .slice a3 p.binds.length c3] := by rw [← hW0]; exact Bk.new _ _ _
    have hb0 : Below w.heap.size w W0 := by rw [← hW0]; exact (Below.refl _ _).alloc (Nat.le_refl _) _
    have m2 := k0.cell 2
    simp only [List.getElem?_toArray, List.getElem?_cons_zero, List.getElem?_cons_succ] at m2
    have HB := Lib.hid hb0
    clear k0 hb0
    have hbn := hr.binds
    rw [HO.out]
    go_enter Tryz.func34, Tryz.ntmps34
    go_wp2
    refine wp_loop (fun a wr => WbZ a wr ∧ ∃ (u : Nat → Value), a = ⟨#[u 0, u 1, u 2, u 3, .int .i64 0, .pointer (some ⟨w.heap.size, 0, none⟩), u 6, u 7, u 8, u 9, .slice none 0 0, .bool false, .int .i64 0, u 13, u 14, u 15, u 16, u 17, u 18, u 19, u 20, u 21, u 22, u 23, u 24, u 25, u 26, u 27, u 28, u 29, u 30, u 31, u 32, u 33, u 34, u 35, u 36, u 37, u 38, u 39, u 40, u 41, u 42, u 43, u 44, u 45, u 46, u 47, u 48, u 49, u 50, u 51, u 52, u 53, u 54, u 55, u 56, u 57, u 58, u 59, u 60, u 61, u 62, u 63, u 64, u 65, u 66, u 67, u 68, u 69, u 70, u 71, u 72, u 73, u 74, u 75, u 76, u 77, u 78, u 79], []⟩ ∧ wr = W0) (fun a _ => 0) ?_ ?_
    · refine ⟨trivial, wbz_close rfl⟩
    · rintro a' wr ⟨_, u, rfl, rfl⟩
      by_cases hl : 0 < p.binds.length
      · have hl2 : (0 : Int) < (p.binds.length : Int) := by omega
        go_wp2
        go_ret2
        exact ⟨_, rfl, World.ownsRow_nil _ _ _ _, HB.out⟩
      · have hl2 : p.binds.length = 0 := by omega
        have hl3 : ¬ (0 : Int) < (p.binds.length : Int) := by omega
        go_wp2
        go_ret2
        exact ⟨_, rfl, World.ownsRow_nil _ _ _ _, HB.out⟩
  | succ m ih =>
    intro k w hn hk hp
    obtain ⟨W0, hW0⟩ : ∃ W0, w.alloc (.cells #[.slice a1 p.posts.length c1, .slice a2 p.queues.length c2, .slice a3 p.binds.length c3] 26) = W0 := ⟨_, rfl⟩
    have k0 : Bk W0 w.heap.size 26 #[.slice a1 p.posts.length c1, .slice a2 p.queues.length c2, .slice a3 p.binds.length c3] := by rw [← hW0]; exact Bk.new _ _ _
    have hb0 : Below w.heap.size w W0 := by rw [← hW0]; exact (Below.refl _ _).alloc (Nat.le_refl _) _
    have HIN : Hid (QoIn w p a1 a2 a3 c1 c2 c3 W0 ∧ Below w.heap.size w W0) := Lib.hid ⟨⟨k0, (hp.below hb0 (Nat.le_refl _)).wider (Nat.le_refl _) hb0.size⟩, hb0⟩
    have HIH := Lib.hid ih
    clear k0 hb0 hp ih
    rw [show (((m + 1 : Nat)) : Int) = (m : Int) + 1 by omega]
    have HP : Hid (∀ e w', WbPost (wayBy p key q (m + 1) k) w e w' → WbPost (wayBy p key q (m + 1) k) w e w') := Lib.hid fun _ _ h => h
    go_enter Tryz.func34, Tryz.ntmps34
    go_wp2
    refine wb_loop p hr hs key hkey q a1 a2 a3 c1 c2 c3 w k m (by omega) W0 HIN.out.1 (fun d W hd hW => HIH.out d W (by omega) hd hW) (fun d l h => by rw [wayBy_len h]; omega) _ ?_ ?_ _ 0 W0 rfl (Nat.zero_le _) rfl (Below.refl _ _)
    · rintro t j W ht hno hW
      obtain ⟨u, rfl⟩ := wb1_open ht
      have HF := Lib.hid (And.intro hno (HIN.out.2.trans (hW.mono HIN.out.2.size)))
      clear ht hno hW
      go_wp2
      refine bodyPost_ret (v := .tuple #[.slice none 0 0, .bool false]) (by simp [results, Tryz.results34, go_sem]) rfl ?_
      exact ⟨.slice none 0 0, by rw [HF.out.1]; rfl, by rw [HF.out.1]; exact World.ownsRow_nil _ _ _ _, HF.out.2⟩
    · rintro t v l W ht hso hv hW
      obtain ⟨u, rfl⟩ := wbr_open ht
      obtain ⟨va, vc, rfl, _⟩ := own_slice hv
      have HF := Lib.hid (And.intro hso (And.intro (IntsO.lower hv HIN.out.2.size) (HIN.out.2.trans (hW.mono HIN.out.2.size))))
      clear ht hso hv hW
      go_wp2
      refine bodyPost_ret (v := .tuple #[.slice va l.length vc, .bool true]) (by simp [results, Tryz.results34, go_sem]) rfl ?_
      exact ⟨_, by rw [HF.out.1]; rfl, by rw [HF.out.1]; exact HF.out.2.1, HF.out.2.2⟩

end Go.Proofs.YtapimpmpjighmaaGreatDoor

namespace Go.Proofs.YtapimpmpjighmaaGreatDoor
open Go Go.RowKit
set_option maxRecDepth 100000

/-- None of the shorter lengths gives a way. -/
def NoWay (p : PlanD) (key : ByteArray) (q : Int) (k : Int) (i : Nat) : Prop := ∀ j < i, 0 < j → wayBy p key q j k = none
theorem NoWay.next {p : PlanD} {key : ByteArray} {q k : Int} {i : Nat} (h : NoWay p key q k i) (hn : wayBy p key q i k = none) : NoWay p key q k (i + 1) := by
  intro j hj h0
  by_cases he : j = i
  · subst he; exact hn
  · exact h j (by omega) h0
theorem range_find {α : Type} (f : Nat → Option α) (n i : Nat) (l : α) (hi : i < n) (h : ∀ j < i, f j = none) (hf : f i = some l) : (List.range n).findSome? f = some l := by
  obtain ⟨m, rfl⟩ : ∃ m, n = i + (m + 1) := ⟨n - i - 1, by omega⟩
  rw [List.range_add, List.findSome?_append, List.findSome?_eq_none_iff.2 (fun x hx => h x (List.mem_range.1 hx))]
  simp [List.range_succ_eq_map, hf]
theorem NoWay.found {p : PlanD} {key : ByteArray} {q k : Int} {i : Nat} {l : List Int} (h : NoWay p key q k i) (h0 : 0 < i) (hi : i ≤ p.posts.length) (hf : wayBy p key q i k = some l) : wayOf p k key q = some l := by
  obtain ⟨m, rfl⟩ : ∃ m, i = m + 1 := ⟨i - 1, by omega⟩
  exact range_find _ _ m l (by omega) (fun j hj => h (j + 1) (by omega) (by omega)) hf
theorem NoWay.end_ {p : PlanD} {key : ByteArray} {q k : Int} {i : Nat} (h : NoWay p key q k i) (hi : p.posts.length < i) : wayOf p k key q = none :=
  List.findSome?_eq_none_iff.2 fun x hx => h (x + 1) (by have := List.mem_range.1 hx; omega) (by omega)
def wo1_inv (w : World) (p : PlanD) (key : ByteArray) (q : Int) (k : Nat) (W0 : World) (a : Act) (wr : World) : Prop :=
  ∃ (t : Array Value) (i : Nat), t = #[t.getD 0 undef, .int .i64 (k : Int), .string key, .int .i64 q, .pointer (some ⟨w.heap.size, 0, none⟩), t.getD 5 undef, t.getD 6 undef, t.getD 7 undef, .slice none 0 0, .bool false, .int .i64 0, t.getD 11 undef, .int .i64 (i : Int), t.getD 13 undef, t.getD 14 undef, t.getD 15 undef, t.getD 16 undef, t.getD 17 undef, t.getD 18 undef, t.getD 19 undef, t.getD 20 undef, t.getD 21 undef, t.getD 22 undef, t.getD 23 undef, t.getD 24 undef, t.getD 25 undef, t.getD 26 undef, t.getD 27 undef, t.getD 28 undef, t.getD 29 undef, t.getD 30 undef, t.getD 31 undef, t.getD 32 undef, t.getD 33 undef, t.getD 34 undef, t.getD 35 undef, t.getD 36 undef, t.getD 37 undef, t.getD 38 undef, t.getD 39 undef, t.getD 40 undef, t.getD 41 undef, t.getD 42 undef, t.getD 43 undef, t.getD 44 undef, t.getD 45 undef, t.getD 46 undef] ∧ 0 < i ∧ i ≤ p.posts.length + 1 ∧ NoWay p key q k i ∧ Below W0.heap.size W0 wr ∧ a = ⟨t, []⟩
set_option maxHeartbeats 4000000 in
theorem wo_loop (p : PlanD) (hr : PlanRight p) (hs : PlanSmall p) (key : ByteArray) (hkey : key.size ≤ 1048576) (q : Int) (a1 a2 a3 : Option Addr) (c1 c2 c3 : Nat) (w : World) (k : Nat) (hk : k < p.posts.length) (W0 : World) (hIn : QoIn w p a1 a2 a3 c1 c2 c3 W0) (Q0 : Exit → Act → World → Prop)
    (hend : ∀ (t : Array Value) (i : Nat) (W : World), t = #[t.getD 0 undef, .int .i64 (k : Int), .string key, .int .i64 q, .pointer (some ⟨w.heap.size, 0, none⟩), t.getD 5 undef, t.getD 6 undef, t.getD 7 undef, .slice none 0 0, .bool false, .int .i64 0, t.getD 11 undef, .int .i64 (i : Int), t.getD 13 undef, t.getD 14 undef, t.getD 15 undef, t.getD 16 undef, t.getD 17 undef, t.getD 18 undef, t.getD 19 undef, t.getD 20 undef, t.getD 21 undef, t.getD 22 undef, t.getD 23 undef, t.getD 24 undef, t.getD 25 undef, t.getD 26 undef, t.getD 27 undef, t.getD 28 undef, t.getD 29 undef, t.getD 30 undef, t.getD 31 undef, t.getD 32 undef, t.getD 33 undef, t.getD 34 undef, t.getD 35 undef, t.getD 36 undef, t.getD 37 undef, t.getD 38 undef, t.getD 39 undef, t.getD 40 undef, t.getD 41 undef, t.getD 42 undef, t.getD 43 undef, t.getD 44 undef, t.getD 45 undef, t.getD 46 undef] → wayOf p k key q = none → Below W0.heap.size W0 W → Q0 (.exit 0) ⟨t, []⟩ W)
    (hret : ∀ (t : Array Value) (v : Value) (l : List Int) (W : World), t = #[t.getD 0 undef, t.getD 1 undef, t.getD 2 undef, t.getD 3 undef, t.getD 4 undef, t.getD 5 undef, t.getD 6 undef, t.getD 7 undef, v, .bool true, .int .i64 0, t.getD 11 undef, t.getD 12 undef, t.getD 13 undef, t.getD 14 undef, t.getD 15 undef, t.getD 16 undef, t.getD 17 undef, t.getD 18 undef, t.getD 19 undef, t.getD 20 undef, t.getD 21 undef, t.getD 22 undef, t.getD 23 undef, t.getD 24 undef, t.getD 25 undef, t.getD 26 undef, t.getD 27 undef, t.getD 28 undef, t.getD 29 undef, t.getD 30 undef, t.getD 31 undef, t.getD 32 undef, t.getD 33 undef, t.getD 34 undef, t.getD 35 undef, t.getD 36 undef, t.getD 37 undef, t.getD 38 undef, t.getD 39 undef, t.getD 40 undef, t.getD 41 undef, t.getD 42 undef, t.getD 43 undef, t.getD 44 undef, t.getD 45 undef, t.getD 46 undef] → wayOf p k key q = some l → IntsO W W0.heap.size v l → Below W0.heap.size W0 W → Q0 .ret ⟨t, []⟩ W) (t : Array Value) (i : Nat) (W : World) (ht : t = #[t.getD 0 undef, .int .i64 (k : Int), .string key, .int .i64 q, .pointer (some ⟨w.heap.size, 0, none⟩), t.getD 5 undef, t.getD 6 undef, t.getD 7 undef, .slice none 0 0, .bool false, .int .i64 0, t.getD 11 undef, .int .i64 (i : Int), t.getD 13 undef, t.getD 14 undef, t.getD 15 undef, t.getD 16 undef, t.getD 17 undef, t.getD 18 undef, t.getD 19 undef, t.getD 20 undef, t.getD 21 undef, t.getD 22 undef, t.getD 23 undef, t.getD 24 undef, t.getD 25 undef, t.getD 26 undef, t.getD 27 undef, t.getD 28 undef, t.getD 29 undef, t.getD 30 undef, t.getD 31 undef, t.getD 32 undef, t.getD 33 undef, t.getD 34 undef, t.getD 35 undef, t.getD 36 undef, t.getD 37 undef, t.getD 38 undef, t.getD 39 undef, t.getD 40 undef, t.getD 41 undef, t.getD 42 undef, t.getD 43 undef, t.getD 44 undef, t.getD 45 undef, t.getD 46 undef]) (h0 : 0 < i) (hi : i ≤ p.posts.length + 1) (hn : NoWay p key q k i) (hW : Below W0.heap.size W0 W) :
    (Code.loop woLoop).wp Tryz.prog Q0 ⟨t, []⟩ W := by
  refine wp_loop (wo1_inv w p key q k W0) (fun a _ => p.posts.length + 1 - (intOf (a.tmps.getD 12 undef)).toNat) ⟨t, i, ht, h0, hi, hn, hW, rfl⟩ ?_
  clear ht h0 hi hn hW t i W
  rintro a' wr ⟨t, i, ht, h0, hi, hnone, hW, rfl⟩
  obtain ⟨u, rfl⟩ := wo1_open ht
  clear ht
  have hI := hIn.since hW
  have m0 := hI.box.cell 0
  have m1 := hI.box.cell 1
  have m2 := hI.box.cell 2
  simp only [List.getElem?_toArray, List.getElem?_cons_zero, List.getElem?_cons_succ] at m0 m1 m2
  have HEND := Lib.hid hend
  have HRET := Lib.hid hret
  have HW := Lib.hid hW
  have HI := Lib.hid hI
  have HNO := Lib.hid hnone
  have hpn := hr.posts
  have HWB := Lib.hid (wayBy_any p hr hs key hkey q a1 a2 a3 c1 c2 c3 i k)
  have HK := Lib.hid hk
  clear hend hret hW hI hnone hIn hk
  conv => arg 2; whnf
  by_cases hlt : i ≤ p.posts.length
  · have hj2 : (i : Int) ≤ (p.posts.length : Int) := by omega
    have hj3 : (0 : Int) < (i : Int) := by omega
    have HR : Hid (∀ t : Array Value, ∀ (i' : Nat), i' = i + 1 → t = #[t.getD 0 undef, .int .i64 (k : Int), .string key, .int .i64 q, .pointer (some ⟨w.heap.size, 0, none⟩), t.getD 5 undef, t.getD 6 undef, t.getD 7 undef, .slice none 0 0, .bool false, .int .i64 0, t.getD 11 undef, .int .i64 (i' : Int), t.getD 13 undef, t.getD 14 undef, t.getD 15 undef, t.getD 16 undef, t.getD 17 undef, t.getD 18 undef, t.getD 19 undef, t.getD 20 undef, t.getD 21 undef, t.getD 22 undef, t.getD 23 undef, t.getD 24 undef, t.getD 25 undef, t.getD 26 undef, t.getD 27 undef, t.getD 28 undef, t.getD 29 undef, t.getD 30 undef, t.getD 31 undef, t.getD 32 undef, t.getD 33 undef, t.getD 34 undef, t.getD 35 undef, t.getD 36 undef, t.getD 37 undef, t.getD 38 undef, t.getD 39 undef, t.getD 40 undef, t.getD 41 undef, t.getD 42 undef, t.getD 43 undef, t.getD 44 undef, t.getD 45 undef, t.getD 46 undef] → NoWay p key q k (i + 1) → ∀ W, Below W0.heap.size W0 W → wo1_inv w p key q k W0 ⟨t, []⟩ W) :=
      Lib.hid fun t i' hi' ht hc' W hW => ⟨t, i', ht, by omega, by omega, by rw [hi']; exact hc', hW, rfl⟩
    go_wp2_with fail
    refine (HWB.out wr (by omega) HK.out HI.out.plan).mono ?_
    rintro e W3 ⟨v3, rfl, n1, n2⟩
    have HB3 := Lib.hid (HW.out.trans (n2.mono HW.out.size))
    obtain ⟨v3a, v3c, rfl, _⟩ := own_slice n1
    have HN1 := Lib.hid (IntsO.lower n1 HW.out.size)
    clear n1 n2 m0 m1 m2
    cases ho : wayBy p key q i (k : Int) with
    | none =>
      rw [ho] at HN1
      have HF := Lib.hid (HNO.out.next ho)
      clear ho
      go_wp2
      exact ⟨HR.out _ _ rfl rfl HF.out _ HB3.out, by simp [intOf]; omega⟩
    | some l =>
      rw [ho] at HN1
      have HF := Lib.hid (HNO.out.found h0 hlt ho)
      clear ho
      simp only [Option.getD_some, Option.isSome_some] at HN1 ⊢
      go_wp2
      exact HRET.out _ _ _ _ rfl HF.out HN1.out HB3.out
  · have hj2 : ¬ (i : Int) ≤ (p.posts.length : Int) := by omega
    have HF := Lib.hid (HNO.out.end_ (by omega))
    go_wp2
    exact HEND.out _ i _ rfl HF.out HW.out
theorem wayR_eq (p : PlanD) (x : Int) (key : ByteArray) (q : Int) (h : wayErr p x key q = 0) : ∃ k : Nat, x = (k : Int) ∧ k < p.posts.length ∧ PlanRight p ∧ wayR p x key q = wayOf p k key q := by
  have h2 : routeErr p x key = 0 := by
    unfold wayErr at h
    split at h <;> omega
  obtain ⟨hr, k, rfl, hk, _⟩ := routeErr_ok h2
  refine ⟨k, rfl, hk, hr, ?_⟩
  unfold wayR
  rw [if_pos h, wayF_eq hr hk]
set_option maxHeartbeats 4000000 in
theorem WayOf_any (p : PlanD) (hs : PlanSmall p) (n q : Int) (hn : -9223372036854775808 ≤ n ∧ n ≤ 9223372036854775807) (key : ByteArray) (hkey : key.size ≤ 1048576) (a1 a2 a3 : Option Addr) (c1 c2 c3 : Nat) (w : World) (hp : PlanAt w 0 w.heap.size a1 a2 a3 p) :
    Calls Tryz.prog 15 #[planV p a1 a2 a3 c1 c2 c3, .int .i64 n, .string key, .int .i64 q] w (WayPost p n key q w) := by
  unfold planV
  obtain ⟨W0, hW0⟩ : ∃ W0, w.alloc (.cells #[.slice a1 p.posts.length c1, .slice a2 p.queues.length c2, .slice a3 p.binds.length c3] 26) = W0 := ⟨_, rfl⟩
  have k0 : Bk W0 w.heap.size 26 #[.slice a1 p.posts.length c1, .slice a2 p.queues.length c2, .slice a3 p.binds.length c3] := by rw [← hW0]; exact Bk.new _ _ _
  have hb0 : Below w.heap.size w W0 := by rw [← hW0]; exact (Below.refl _ _).alloc (Nat.le_refl _) _
  have m0 := k0.cell 0
  have m1 := k0.cell 1
  have m2 := k0.cell 2
  simp only [List.getElem?_toArray, List.getElem?_cons_zero, List.getElem?_cons_succ] at m0 m1 m2
  have HIN : Hid (QoIn w p a1 a2 a3 c1 c2 c3 W0 ∧ Below w.heap.size w W0) := Lib.hid ⟨⟨k0, (hp.below hb0 (Nat.le_refl _)).wider (Nat.le_refl _) hb0.size⟩, hb0⟩
  have hql := hs.queues
  clear k0 hb0 hp
  have HPOST : Hid (∀ W, Below w.heap.size w W → wayErr p n key q ≠ 0 → WayPost p n key q w (.returned (.tuple #[.slice none 0 0, .bool false, .int .i64 (wayErr p n key q)])) W) := Lib.hid fun W hW h => by
    have : wayR p n key q = none := by unfold wayR; rw [if_neg h]
    exact ⟨_, by rw [this]; rfl, by rw [this]; exact World.ownsRow_nil _ _ _ _, hW⟩
  go_enter Tryz.func15, Tryz.ntmps15
  go_wp2_with fail
  have hcall := RouteError_any p hs n hn key hkey a1 a2 a3 c1 c2 c3 W0 HIN.out.1.plan
  unfold planV at hcall
  refine hcall.mono ?_
  clear hcall m0 m1 m2 hW0
  rintro e W1 ⟨rfl, n2⟩
  have HB := Lib.hid (HIN.out.2.trans (n2.mono HIN.out.2.size))
  have HI1 := Lib.hid (HIN.out.1.since n2)
  have m1 := HI1.out.box.cell 1
  have m0 := HI1.out.box.cell 0
  simp only [List.getElem?_toArray, List.getElem?_cons_zero, List.getElem?_cons_succ] at m0 m1
  clear n2
  by_cases hc : routeErr p n key = 0
  · have b1 : (routeErr p n key != 0) = false := by simp [hc]
    by_cases hq2 : q < 0 ∨ (p.queues.length : Int) ≤ q
    · have HE := Lib.hid (show wayErr p n key q = 5 by unfold wayErr; rw [if_neg (by simp [hc]), if_pos hq2])
      have HD := Lib.hid (show (decide ((0 : Int) ≤ q) && decide (q ≤ (p.queues.length : Int) - 1)) = false by rw [Bool.and_eq_false_iff]; simp; omega)
      have HP := Lib.hid (HPOST.out W1 HB.out (by rw [HE.out]; decide))
      clear hc hq2 m0
      go_wp2_with (go_at_call 27; refine (within_any _ _ _ _).mono ?_; rintro e W2 ⟨rfl, rfl⟩; rw [HD.out])
      refine bodyPost_ret (v := .tuple #[.slice none 0 0, .bool false, .int .i64 5]) (by simp [results, Tryz.results15, go_sem]) rfl ?_
      rw [← HE.out]; exact HP.out
    · have he : wayErr p n key q = 0 := by unfold wayErr; rw [if_neg (by simp [hc]), if_neg hq2]
      have HD := Lib.hid (show (decide ((0 : Int) ≤ q) && decide (q ≤ (p.queues.length : Int) - 1)) = true by rw [Bool.and_eq_true]; simp; omega)
      obtain ⟨k, rfl, hk, hr, hw⟩ := wayR_eq p n key q he
      have HE := Lib.hid (And.intro he hw)
      clear hc hq2 he hw m0
      go_wp2_with (go_at_call 27; refine (within_any _ _ _ _).mono ?_; rintro e W2 ⟨rfl, rfl⟩; rw [HD.out])
      refine wo_loop p hr hs key hkey q a1 a2 a3 c1 c2 c3 w k hk W1 HI1.out _ ?_ ?_ _ 1 W1 rfl (by omega) (by omega) (fun j hj h0 => by omega) (Below.refl _ _)
      · rintro t i W ht hno hW
        obtain ⟨u, rfl⟩ := wo1_open ht
        have HF := Lib.hid (And.intro hno (HB.out.trans (hW.mono HB.out.size)))
        clear ht hno hW
        go_wp2
        refine bodyPost_ret (v := .tuple #[.slice none 0 0, .bool false, .int .i64 0]) (by simp [results, Tryz.results15, go_sem]) rfl ?_
        unfold WayPost
        rw [HE.out.1, HE.out.2, HF.out.1]
        exact ⟨_, rfl, World.ownsRow_nil _ _ _ _, HF.out.2⟩
      · rintro t v l W ht hso hv hW
        obtain ⟨u, rfl⟩ := wor_open ht
        obtain ⟨va, vc, rfl, _⟩ := own_slice hv
        have HF := Lib.hid (And.intro hso (And.intro (IntsO.lower hv HB.out.size) (HB.out.trans (hW.mono HB.out.size))))
        clear ht hso hv hW
        go_wp2
        refine bodyPost_ret (v := .tuple #[.slice va l.length vc, .bool true, .int .i64 0]) (by simp [results, Tryz.results15, go_sem]) rfl ?_
        unfold WayPost
        rw [HE.out.1, HE.out.2, HF.out.1]
        exact ⟨_, rfl, HF.out.2.1, HF.out.2.2⟩
  · have b1 : (routeErr p n key != 0) = true := by simp [hc]
    have HE := Lib.hid (show wayErr p n key q = routeErr p n key by unfold wayErr; rw [if_pos hc])
    have HP := Lib.hid (HPOST.out W1 HB.out (by rw [HE.out]; exact hc))
    clear hc
    go_wp2
    refine bodyPost_ret (v := .tuple #[.slice none 0 0, .bool false, .int .i64 (routeErr p n key)]) (by simp [results, Tryz.results15, go_sem]) rfl ?_
    rw [← HE.out]; exact HP.out

theorem wayR_len {p : PlanD} {n q : Int} {key : ByteArray} : ((wayR p n key q).getD []).length ≤ 1048576 := by
  by_cases h : wayErr p n key q = 0
  · obtain ⟨k, rfl, hk, hr, hw⟩ := wayR_eq p n key q h
    rw [hw]
    cases ho : wayOf p k key q with
    | none => simp
    | some l =>
      obtain ⟨i, hi, h2⟩ := List.exists_of_findSome?_eq_some ho
      have := wayBy_len h2
      have h3 := List.mem_range.1 hi
      have := hr.posts
      simp
      omega
  · unfold wayR; rw [if_neg h]; simp
set_option maxHeartbeats 8000000 in
theorem routeWays_any (p : PlanD) (a1 a2 a3 : Option Addr) (c1 c2 c3 : Nat) (n : Int) (key : ByteArray) (q : Int) (w : World) (hp : PlanAt w 0 w.heap.size a1 a2 a3 p) (hs : PlanSmall p) (_ : PlanInts p) (hn : -9223372036854775808 ≤ n ∧ n ≤ 9223372036854775807) (hkey : key.size ≤ 1048576) (_ : -9223372036854775808 ≤ q ∧ q ≤ 9223372036854775807) (hE : Env w) :
    Calls Tryz.prog 4 #[planV p a1 a2 a3 c1 c2 c3, .int .i64 n, .string key, .int .i64 q] w fun e w' => e = .returned (.bool true) ∧ Below w.heap.size w w' := by
  unfold planV
  obtain ⟨W0, hW0⟩ : ∃ W0, w.alloc (.cells #[.slice a1 p.posts.length c1, .slice a2 p.queues.length c2, .slice a3 p.binds.length c3] 26) = W0 := ⟨_, rfl⟩
  have k0 : Bk W0 w.heap.size 26 #[.slice a1 p.posts.length c1, .slice a2 p.queues.length c2, .slice a3 p.binds.length c3] := by rw [← hW0]; exact Bk.new _ _ _
  have hb0 : Below w.heap.size w W0 := by rw [← hW0]; exact (Below.refl _ _).alloc (Nat.le_refl _) _
  have m0 := k0.cell 0
  have m1 := k0.cell 1
  have m2 := k0.cell 2
  simp only [List.getElem?_toArray, List.getElem?_cons_zero, List.getElem?_cons_succ] at m0 m1 m2
  have HIN := tells_in (c1 := c1) (c2 := c2) (c3 := c3) ⟨k0, (hp.below hb0 (Nat.le_refl _)).wider (Nat.le_refl _) hb0.size⟩ hE hb0
  have HS := Lib.hid hs
  clear k0 hb0 hp hE hs
  go_enter Tryz.func4, Tryz.ntmps4
  go_wp2_with fail
  have hcall := Way_any p n q key a1 a2 a3 c1 c2 c3 W0 (HIN.out _ (Below.refl _ _)).2.1 (HIN.out _ (Below.refl _ _)).1.plan HS.out hkey
  unfold planV at hcall
  refine hcall.mono ?_
  clear hcall m0 m1 m2 hW0
  rintro e w1 ⟨v1, rfl, n1, n2⟩
  obtain ⟨b1, d1, rfl, _⟩ := own_slice n1
  have HP1 := Lib.hid (ints_in n1 wayR_len)
  have HB1 := Lib.hid n2
  clear n1 n2
  have k1 := (HIN.out _ HB1.out).1.box
  have m0 := k1.cell 0
  have m1 := k1.cell 1
  have m2 := k1.cell 2
  simp only [List.getElem?_toArray, List.getElem?_cons_zero, List.getElem?_cons_succ] at m0 m1 m2
  clear k1
  go_wp2_with fail
  have hcall := WayOf_any p HS.out n q hn key hkey a1 a2 a3 c1 c2 c3 w1 (HIN.out _ HB1.out).1.plan
  unfold planV at hcall
  refine hcall.mono ?_
  clear hcall m0 m1 m2
  rintro e w2 ⟨v2, rfl, n1, n2⟩
  obtain ⟨b2, d2, rfl, _⟩ := own_slice n1
  have HP2 := Lib.hid (ints_in n1 wayR_len)
  have Q1 := Lib.hid (HP1.out.since n2)
  have HB2 := Lib.hid (HB1.out.trans (n2.mono HB1.out.size))
  clear n1 n2
  generalize (wayR p n key q).getD [] = L at *
  generalize (wayR p n key q).isSome = B at *
  generalize wayErr p n key q = E at *
  have hbb : (B == B) = true := by simp
  have hee : (E == E) = true := by simp
  go_wp2_with fail
  refine (routeBegun_any w2 (HIN.out _ HB2.out).2.1).mono ?_
  rintro e w6 ⟨rfl, n6⟩
  have N6 := Lib.hid n6; clear n6
  go_wp2_with fail
  refine (same_in _ _ _ w6 (Q1.out.since N6.out) (HP2.out.since N6.out)).mono ?_
  rintro e w8 ⟨rfl, n8⟩
  have N8 := Lib.hid (HB2.out.trans ((N6.out.trans (n8.mono N6.out.size)).mono HB2.out.size)); clear n8
  go_wp2_with fail
  go_ret
  exact ⟨rfl, (HIN.out _ N8.out).2.2⟩

end Go.Proofs.YtapimpmpjighmaaGreatDoor
