/-
  arrive.Room, Open; the loops of Letters.
  arrive.Letters, walked.
  The reference's dying.
  The reference's shedAt.
  What waits in the reference's arrive.
-/
import Derived.Test.YtaanpcjkflhomaaGreatDoorBunR
import Derived.Test.YtaanpcjkflhomaaGreatDoorBunE
import Derived.Test.YtaanpcjkflhomaaGreatDoorBunF
import Derived.Test.YtaanpcjkflhomaaGreatDoorStateD
import Derived.Test.YtaanpcjkflhomaaGreatDoorBunH
import Derived.Test.YtaanpcjkflhomaaGreatDoorBunV
import Derived.Test.YtaanpcjkflhomaaGreatDoorBunA
import Derived.Test.YtaanpcjkflhomaaGreatDoorLinesD
set_option linter.unusedSimpArgs false
set_option linter.unusedVariables false
namespace Go.Proofs.YtaanpcjkflhomaaGreatDoor
open Go Go.RowKit
set_option maxRecDepth 100000
theorem Room_any (s : StateD) (a1 a2 a3 : Option Addr) (c1 c2 c3 : Nat) (w : World) : Calls Tryz.prog 94 #[.agg #[.slice a1 s.ready.length c1, .slice a2 s.outs.length c2, .slice a3 s.takers.length c3, .int .i64 s.nextSeq, .int .i64 s.nextTag, .int .i64 s.came, .int .i64 s.acked, .int .i64 s.dropped]] w fun e w' => e = .returned (.bool (decide (s.nextSeq ≤ 524288))) ∧ Below w.heap.size w w' := by
 have hb := (Below.refl w.heap.size w).alloc (Nat.le_refl _) (.cells #[.slice a1 s.ready.length c1, .slice a2 s.outs.length c2, .slice a3 s.takers.length c3, .int .i64 s.nextSeq, .int .i64 s.nextTag, .int .i64 s.came, .int .i64 s.acked, .int .i64 s.dropped] 31)
 go_enter Tryz.func94, Tryz.ntmps94
 go_wp2
 go_ret
 exact ⟨rfl, hb⟩
theorem Open_any (g : Nat) (p : PlanD) (p1 p2 p3 : Option Addr) (q1 q2 q3 : Nat) (w : World) : Calls Tryz.prog 95 #[.agg #[.slice p1 p.posts.length q1, .slice p2 p.queues.length q2, .slice p3 p.binds.length q3], .pointer (some ⟨g, 0, none⟩)] w fun e w' => e = .returned (.pointer (some ⟨w.heap.size + 1, 0, none⟩)) ∧ Bk w' (w.heap.size + 1) 176 (hallV g p p1 p2 p3 q1 q2 q3 (.slice none 0 0)) ∧ Below w.heap.size w w' := by
 go_enter Tryz.func95, Tryz.ntmps95
 go_wp2
 go_ret
 refine ⟨by simp, ?_, ?_⟩
 ·exact Bk.new_at _ _ _ (by simp)
 ·exact ((Below.refl _ _).alloc (Nat.le_refl _) _).alloc (by simp) _
theorem zero_set8 {W : World} {g : Nat} {t : TypeId} (h : Bk W g t zeroCells) : Bk ((((((((W.setCell ⟨g, 0, none⟩ (.slice none 0 0)).setCell ⟨g, 1, none⟩ (.slice none 0 0)).setCell ⟨g, 2, none⟩ (.slice none 0 0)).setCell ⟨g, 3, none⟩ (.int .i64 0)).setCell ⟨g, 4, none⟩ (.int .i64 0)).setCell ⟨g, 5, none⟩ (.int .i64 0)).setCell ⟨g, 6, none⟩ (.int .i64 0)).setCell ⟨g, 7, none⟩ (.int .i64 0)) g t zeroCells :=
 (((((((h.set_ 0 (.slice none 0 0)).set_ 1 (.slice none 0 0)).set_ 2 (.slice none 0 0)).set_ 3 (.int .i64 0)).set_ 4 (.int .i64 0)).set_ 5 (.int .i64 0)).set_ 6 (.int .i64 0)).set_ 7 (.int .i64 0)
open Go Go.RowKit
set_option maxRecDepth 100000
open Go Go.RowKit
set_option maxRecDepth 100000
def dy9_T (xb gb ob Cq i n0 C0 : Nat) (A0 : Option Addr) (ys : List Int) (t : Array Value) : Array Value := #[t.getD 0 undef, t.getD 1 undef, t.getD 2 undef, t.getD 3 undef, t.getD 4 undef, .pointer (some ⟨xb, 0, none⟩), .slice none 0 0, .slice A0 n0 C0, t.getD 8 undef, .slice (some ⟨gb, ob, none⟩) ys.length Cq, .int .i64 (i : Int), t.getD 11 undef, t.getD 12 undef, t.getD 13 undef, t.getD 14 undef, t.getD 15 undef, t.getD 16 undef, t.getD 17 undef, t.getD 18 undef, t.getD 19 undef, t.getD 20 undef, t.getD 21 undef, t.getD 22 undef, t.getD 23 undef, t.getD 24 undef, t.getD 25 undef, t.getD 26 undef, t.getD 27 undef, t.getD 28 undef, t.getD 29 undef, t.getD 30 undef, t.getD 31 undef, t.getD 32 undef, t.getD 33 undef, t.getD 34 undef, t.getD 35 undef, t.getD 36 undef, t.getD 37 undef, t.getD 38 undef, t.getD 39 undef, t.getD 40 undef, t.getD 41 undef, t.getD 42 undef, t.getD 43 undef, t.getD 44 undef, t.getD 45 undef, t.getD 46 undef, t.getD 47 undef, t.getD 48 undef, t.getD 49 undef, t.getD 50 undef]
theorem dy9_open {xb gb ob Cq i n0 C0 : Nat} {A0 : Option Addr} {ys : List Int} {t : Array Value} (h : t = (dy9_T xb gb ob Cq i n0 C0 A0 ys t)) : ∃ u : Nat → Value, t = #[u 0, u 1, u 2, u 3, u 4, .pointer (some ⟨xb, 0, none⟩), .slice none 0 0, .slice A0 n0 C0, u 8, .slice (some ⟨gb, ob, none⟩) ys.length Cq, .int .i64 (i : Int), u 11, u 12, u 13, u 14, u 15, u 16, u 17, u 18, u 19, u 20, u 21, u 22, u 23, u 24, u 25, u 26, u 27, u 28, u 29, u 30, u 31, u 32, u 33, u 34, u 35, u 36, u 37, u 38, u 39, u 40, u 41, u 42, u 43, u 44, u 45, u 46, u 47, u 48, u 49, u 50] := ⟨fun i => t.getD i undef, h⟩
def dy9m_T (xb gb ob Cq i C : Nat) (A : Option Addr) (ys : List Int) (L : List ArrivalD) (t : Array Value) : Array Value := #[t.getD 0 undef, t.getD 1 undef, t.getD 2 undef, t.getD 3 undef, t.getD 4 undef, .pointer (some ⟨xb, 0, none⟩), .slice none 0 0, .slice A (L.length + 1) C, t.getD 8 undef, .slice (some ⟨gb, ob, none⟩) ys.length Cq, .int .i64 (i : Int), t.getD 11 undef, t.getD 12 undef, t.getD 13 undef, t.getD 14 undef, t.getD 15 undef, t.getD 16 undef, t.getD 17 undef, t.getD 18 undef, t.getD 19 undef, t.getD 20 undef, t.getD 21 undef, t.getD 22 undef, t.getD 23 undef, t.getD 24 undef, t.getD 25 undef, t.getD 26 undef, t.getD 27 undef, t.getD 28 undef, t.getD 29 undef, t.getD 30 undef, t.getD 31 undef, t.getD 32 undef, t.getD 33 undef, t.getD 34 undef, t.getD 35 undef, t.getD 36 undef, t.getD 37 undef, t.getD 38 undef, t.getD 39 undef, t.getD 40 undef, t.getD 41 undef, t.getD 42 undef, t.getD 43 undef, t.getD 44 undef, t.getD 45 undef, t.getD 46 undef, t.getD 47 undef, t.getD 48 undef, t.getD 49 undef, t.getD 50 undef]
theorem dy9m_open {xb gb ob Cq i C : Nat} {A : Option Addr} {ys : List Int} {L : List ArrivalD} {t : Array Value} (h : t = (dy9m_T xb gb ob Cq i C A ys L t)) : ∃ u : Nat → Value, t = #[u 0, u 1, u 2, u 3, u 4, .pointer (some ⟨xb, 0, none⟩), .slice none 0 0, .slice A (L.length + 1) C, u 8, .slice (some ⟨gb, ob, none⟩) ys.length Cq, .int .i64 (i : Int), u 11, u 12, u 13, u 14, u 15, u 16, u 17, u 18, u 19, u 20, u 21, u 22, u 23, u 24, u 25, u 26, u 27, u 28, u 29, u 30, u 31, u 32, u 33, u 34, u 35, u 36, u 37, u 38, u 39, u 40, u 41, u 42, u 43, u 44, u 45, u 46, u 47, u 48, u 49, u 50] := ⟨fun i => t.getD i undef, h⟩
def dyl_T (xb Cq i : Nat) (vw : Value) (Aq : Option Addr) (ys : List Int) (t : Array Value) : Array Value := #[t.getD 0 undef, t.getD 1 undef, t.getD 2 undef, t.getD 3 undef, t.getD 4 undef, .pointer (some ⟨xb, 0, none⟩), .slice none 0 0, vw, t.getD 8 undef, .slice Aq ys.length Cq, .int .i64 (i : Int), t.getD 11 undef, t.getD 12 undef, t.getD 13 undef, t.getD 14 undef, t.getD 15 undef, t.getD 16 undef, t.getD 17 undef, t.getD 18 undef, t.getD 19 undef, t.getD 20 undef, t.getD 21 undef, t.getD 22 undef, t.getD 23 undef, t.getD 24 undef, t.getD 25 undef, t.getD 26 undef, t.getD 27 undef, t.getD 28 undef, t.getD 29 undef, t.getD 30 undef, t.getD 31 undef, t.getD 32 undef, t.getD 33 undef, t.getD 34 undef, t.getD 35 undef, t.getD 36 undef, t.getD 37 undef, t.getD 38 undef, t.getD 39 undef, t.getD 40 undef, t.getD 41 undef, t.getD 42 undef, t.getD 43 undef, t.getD 44 undef, t.getD 45 undef, t.getD 46 undef, t.getD 47 undef, t.getD 48 undef, t.getD 49 undef, t.getD 50 undef]
theorem dyl_open {xb Cq i : Nat} {vw : Value} {Aq : Option Addr} {ys : List Int} {t : Array Value} (h : t = (dyl_T xb Cq i vw Aq ys t)) : ∃ u : Nat → Value, t = #[u 0, u 1, u 2, u 3, u 4, .pointer (some ⟨xb, 0, none⟩), .slice none 0 0, vw, u 8, .slice Aq ys.length Cq, .int .i64 (i : Int), u 11, u 12, u 13, u 14, u 15, u 16, u 17, u 18, u 19, u 20, u 21, u 22, u 23, u 24, u 25, u 26, u 27, u 28, u 29, u 30, u 31, u 32, u 33, u 34, u 35, u 36, u 37, u 38, u 39, u 40, u 41, u 42, u 43, u 44, u 45, u 46, u 47, u 48, u 49, u 50] := ⟨fun i => t.getD i undef, h⟩
theorem ints_cell {W : World} {B gb ob Cq i : Nat} {ys : List Int} {y : Int} (h : IntsO W B (.slice (some ⟨gb, ob, none⟩) ys.length Cq) ys) (hy : ys[i]? = some y) : W.cell? ⟨gb, ob + i, none⟩ = some (.int .i64 y) := by
 obtain ⟨hi, rfl⟩ := List.getElem?_eq_some_iff.1 hy
 obtain ⟨b, o, e, _, hc⟩ := sl_int (ints_sl h).2 hi
 cases e
 exact hc
theorem dy_cells {W : World} {B gb ob Cq i xb : Nat} {ys : List Int} {y : Int} {x : ItemD} (h : IntsO W B (.slice (some ⟨gb, ob, none⟩) ys.length Cq) ys) (hy : ys[i]? = some y) (hx : Bk W xb 52 (vItem x).toArray) : W.cell? ⟨gb, ob + i, none⟩ = some (.int .i64 y) ∧ W.cell? ⟨xb, 1, none⟩ = some (.string x.key) ∧ W.cell? ⟨xb, 2, none⟩ = some (.string x.body) ∧ W.cell? ⟨xb, 4, none⟩ = some (.int .i64 x.deaths) :=
 ⟨ints_cell h hy, di_cells hx⟩
def RyR (W : World) (lo : Nat) (L : List ArrivalD) (ad : ArrivalD) (F : Array Value → Option Addr → Nat → Prop) (a' : Act) (W' : World) : Prop :=
 ∃ (t : Array Value) (A : Option Addr), a' = ⟨t, []⟩ ∧ ∃ (C : Nat), F t A C ∧ W'.ownsRow lo 140 4 (.slice A (L.length + 1) C) (L.length + 1) (L.flatMap vArrival ++ vArrival ad) ∧ KeepsT [140] W W' ∧ Below lo W W'
noncomputable def dyLoop : Code := loopAt Tryz.f55 0
set_option maxHeartbeats 2000000 in
theorem dy_reg (xb gb ob lo B Cq i C0 : Nat) (A0 : Option Addr) (ys : List Int) (y : Int) (x : ItemD) (L : List ArrivalD) (W : World) (hX : Bk W xb 52 (vItem x).toArray) (hI : IntsO W B (.slice (some ⟨gb, ob, none⟩) ys.length Cq) ys) (hyi : ys[i]? = some y) (hlt : (i : Int) < (ys.length : Int))
  (hO : W.ownsRow lo 140 4 (.slice A0 L.length C0) L.length (L.flatMap vArrival)) (hlen : L.length ≤ 1048576) (hlo : lo ≤ W.heap.size) (hd : 0 ≤ x.deaths ∧ x.deaths ≤ 2) (Q : Exit → Act → World → Prop)
  (hq : ∀ (t : Array Value) (A : Option Addr) (C : Nat) (W6 : World), t = (dy9m_T xb gb ob Cq i C A ys L t) → W6.ownsRow lo 140 4 (.slice A (L.length + 1) C) (L.length + 1) (L.flatMap vArrival ++ vArrival (dieA x y)) → KeepsT [140] W W6 → Below lo W W6 → Q .normal ⟨t, []⟩ W6)
  (t : Array Value) (n0 : Nat) (hn0 : n0 = L.length) (ht : t = (dy9_T xb gb ob Cq i n0 C0 A0 ys t)) : ((regionOf 9 dyLoop).getD .skip).wp Tryz.prog Q ⟨t, []⟩ W := by
 subst hn0
 obtain ⟨u, rfl⟩ := dy9_open ht
 clear ht
 refine region_mid (RyR W lo L (dieA x y) (fun t A C => t = (dy9m_T xb gb ob Cq i C A ys L t))) ?_ ?_
 ·have HK : Hid (∀ W', Below W.heap.size W W' → (fun W => W.cell? ⟨gb, ob + i, none⟩ = some (.int .i64 y) ∧ W.cell? ⟨xb, 1, none⟩ = some (.string x.key) ∧ W.cell? ⟨xb, 2, none⟩ = some (.string x.body) ∧ W.cell? ⟨xb, 4, none⟩ = some (.int .i64 x.deaths)) W') := Lib.hid fun W' hb => dy_cells (own_below hI hb) hyi (hX.below hb hX.lt)
  have HX := Lib.hid hX
  have HI := Lib.hid hI
  have HO := Lib.hid hO
  obtain ⟨hd1, hd2⟩ := hd
  have HWR : Hid (IntKind.i64.wrap (x.deaths + 1) = x.deaths + 1) := Lib.hid (IntWalk.i64_in _ (by omega))
  clear hX hI hO hq
  conv => arg 2; whnf
  refine wp_region_held_drew (S := (fun W => W.cell? ⟨gb, ob + i, none⟩ = some (.int .i64 y) ∧ W.cell? ⟨xb, 1, none⟩ = some (.string x.key) ∧ W.cell? ⟨xb, 2, none⟩ = some (.string x.body) ∧ W.cell? ⟨xb, 4, none⟩ = some (.int .i64 x.deaths))) (by kernel_rfl) (HK.out _ (Below.refl _ _).drew) (fun hHeld => ?_)
  have hN : Below W.heap.size W W.drew := (Below.refl _ _).drew
  generalize W.drew = Wd at *
  first | (refine wpAnyH_take (i := 0) (v := ?_) rfl (by kernel_rfl) (by kernel_rfl) (by kernel_rfl) (fun _ _ _ h => h) (Or.inl ⟨by rfl, ?_⟩) (by assumption) ?_; rotate_left; focus (intro w hSw; (try dsimp only at hSw); go_simp; (all_goals with_reducible rfl); done)) | fail "op 0"
  try simp only [Act.put, zA, zB, zC, zD, zE]
  first | (refine wpAnyH_take (i := 1) (v := ?_) rfl (by kernel_rfl) (by kernel_rfl) (by kernel_rfl) (fun _ _ _ h => h) (Or.inl ⟨by rfl, ?_⟩) (by assumption) ?_; rotate_left; focus (intro w hSw; (try dsimp only at hSw); go_simp; (all_goals with_reducible rfl); done)) | fail "op 1"
  try simp only [Act.put, zA, zB, zC, zD, zE, zF]
  first | (refine wpAnyH_take (i := 2) (v := ?_) rfl (by kernel_rfl) (by kernel_rfl) (by kernel_rfl) (fun _ _ _ h => h) (Or.inl ⟨by rfl, ?_⟩) (by assumption) ?_; rotate_left; focus (intro w hSw; (try dsimp only at hSw); go_simp; (all_goals with_reducible rfl); done)) | fail "op 2"
  try simp only [Act.put, zA, zB, zC, zD, zE, zF]
  first | (refine wpAnyH_take (i := 3) (v := ?_) rfl (by kernel_rfl) (by kernel_rfl) (by kernel_rfl) (fun _ _ _ h => h) (Or.inl ⟨by rfl, ?_⟩) (by assumption) ?_; rotate_left; focus (intro w hSw; (try dsimp only at hSw); go_simp; (all_goals with_reducible rfl); done)) | fail "op 3"
  try simp only [Act.put, zA, zB, zC, zD, zE, zF]
  first | (refine wpAnyH_take (i := 4) (v := ?_) rfl (by kernel_rfl) (by kernel_rfl) (by kernel_rfl) (fun _ _ _ h => h) (Or.inl ⟨by rfl, ?_⟩) (by assumption) ?_; rotate_left; focus (intro w hSw; (try dsimp only at hSw); go_simp; (all_goals with_reducible rfl); done)) | fail "op 4"
  try simp only [Act.put, zA, zB, zC, zD, zE, zF]
  first | (refine wpAnyH_take (i := 5) (v := ?_) rfl (by kernel_rfl) (by kernel_rfl) (by kernel_rfl) (fun _ _ _ h => h) (Or.inl ⟨by rfl, ?_⟩) (by assumption) ?_; rotate_left; focus (intro w hSw; (try dsimp only at hSw); go_simp; (all_goals with_reducible rfl); done)) | fail "op 5"
  try simp only [Act.put, zA, zB, zC, zD, zE, zF]
  first | (refine wpAnyH_take (i := 6) (v := ?_) rfl (by kernel_rfl) (by kernel_rfl) (by kernel_rfl) (fun _ _ _ h => h) (Or.inl ⟨by rfl, ?_⟩) (by assumption) ?_; rotate_left; focus (intro w hSw; (try dsimp only at hSw); go_simp; (all_goals with_reducible rfl); done)) | fail "op 6"
  try simp only [Act.put, zA, zB, zC, zD, zE, zF]
  first | (refine wpAnyH_take (i := 7) (v := ?_) rfl (by kernel_rfl) (by kernel_rfl) (by kernel_rfl) (fun _ _ _ h => h) (Or.inl ⟨by rfl, ?_⟩) (by assumption) ?_; rotate_left; focus (intro w hSw; (try dsimp only at hSw); go_simp; (all_goals with_reducible rfl); done)) | fail "op 7"
  try simp only [Act.put, zA, zB, zC, zD, zE, zF]
  first | (refine wpAnyH_take (i := 8) (v := ?_) rfl (by kernel_rfl) (by kernel_rfl) (by kernel_rfl) (fun _ _ _ h => h) (Or.inl ⟨by rfl, ?_⟩) (by assumption) ?_; rotate_left; focus (intro w hSw; (try dsimp only at hSw); go_simp; (all_goals with_reducible rfl); done)) | fail "op 8"
  try simp only [Act.put, zA, zB, zC, zD, zE, zF]
  first | (refine wpAnyH_take (i := 9) (v := ?_) rfl (by kernel_rfl) (by kernel_rfl) (by kernel_rfl) (fun _ _ _ h => h) (Or.inl ⟨by rfl, ?_⟩) (by assumption) ?_; rotate_left; focus (intro w hSw; (try dsimp only at hSw); go_simp; (all_goals with_reducible rfl); done)) | fail "op 9"
  try simp only [Act.put, zA, zB, zC, zD, zE, zF]
  first | (refine wpAnyH_take (i := 10) (v := ?_) rfl (by kernel_rfl) (by kernel_rfl) (by kernel_rfl) (fun _ _ _ h => h) (Or.inl ⟨by rfl, ?_⟩) (by assumption) ?_; rotate_left; focus (intro w hSw; (try dsimp only at hSw); go_simp; (all_goals with_reducible rfl); done)) | fail "op 10"
  try simp only [Act.put, zA, zB, zC, zD, zE, zF]
  first | (refine wpAnyH_take (i := 11) (v := ?_) rfl (by kernel_rfl) (by kernel_rfl) (by kernel_rfl) (fun _ _ _ h => h) (Or.inl ⟨by rfl, ?_⟩) (by assumption) ?_; rotate_left; focus (intro w hSw; (try dsimp only at hSw); go_simp; (all_goals with_reducible rfl); done)) | fail "op 11"
  try simp only [Act.put, zA, zB, zC, zD, zE, zF]
  first | (refine wpAnyH_take (i := 12) (v := ?_) rfl (by kernel_rfl) (by kernel_rfl) (by kernel_rfl) (fun _ _ _ h => h) (Or.inl ⟨by rfl, ?_⟩) (by assumption) ?_; rotate_left; focus (intro w hSw; (try dsimp only at hSw); go_simp; (all_goals with_reducible rfl); done)) | fail "op 12"
  try simp only [Act.put, zA, zB, zC, zD, zE, zF]
  refine wpAnyH_ready (rs := [13]) (by kernel_rfl) (by simp) ?_
  refine AllReadyH.cons rfl (fun K hK => ?_) AllReadyH.nil
  go_simp
  generalize hW : World.alloc _ (Obj.cells _ _) = W5
  rw [HWR.out] at hW
  have hN5 : Below W.heap.size W W5 := by rw [← hW]; exact hN.alloc hN.size _
  have HE : Hid (Bk W5 Wd.heap.size 140 (vArrival (dieA x y)).toArray) := by rw [← hW]; exact Lib.hid (Bk.new_at _ _ _ (by rfl))
  have hN := hN5
  have HN5 := Lib.hid hN5
  clear hW hN5
  refine hK.out _ _ (by first | assumption | exact HK.out _ hN) (fun hHeld => ?_)
  clear hK K
  try simp only [Act.put, zA, zB, zC, zD, zE, zF]
  refine wpAnyH_ready (rs := [14]) (by kernel_rfl) (by simp) ?_
  refine AllReadyH.cons rfl (fun K hK => ?_) AllReadyH.nil
  rw [if_pos (by rfl)]
  refine rowA_wp (.tmp 35) (.tmp 48) rfl rfl (own_below HO.out hN) (gb := Wd.heap.size) (ad := (dieA x y)) rfl HE.out (by omega) (Nat.le_trans hlo hN.size) ?_
  intro v6 W6 ho6 hg6
  obtain ⟨A6, C6, rfl, _⟩ := own_slice ho6
  have HO6 : Hid (W6.ownsRow lo 140 4 (.slice A6 (L.length + 1) C6) (L.length + 1) (L.flatMap vArrival ++ vArrival (dieA x y)) ∧ KeepsT [140] W W6 ∧ W5.grownBy W6 (Value.slice A0 L.length C0).ownBlock ∧ Below W.heap.size W W5) := Lib.hid ⟨ho6, (KeepsT.of_below hN).trans (KeepsT.grown (own_below HO.out hN) hg6 (by simp)), hg6, hN⟩
  clear ho6 hg6
  refine hK.out _ _ (by exact dy_cells (own_keepT HI.out HO6.out.2.1 (by decide)) hyi (HO6.out.2.1 _ _ _ (by decide) HX.out)) (fun hHeld => ?_)
  clear hK K
  try simp only [Act.put, zA, zB, zC, zD, zE, zF]
  first | (refine wpAnyH_take (i := 15) (v := ?_) rfl (by kernel_rfl) (by kernel_rfl) (by kernel_rfl) (fun _ _ _ h => h) (Or.inl ⟨by rfl, ?_⟩) (by assumption) ?_; rotate_left; focus (intro w hSw; (try dsimp only at hSw); go_simp; (all_goals with_reducible rfl); done)) | fail "op 15"
  try simp only [Act.put, zA, zB, zC, zD, zE, zF]
  refine wpAnyH_done (by kernel_rfl) ?_ _
  exact ⟨_, A6, rfl, C6, rfl, HO6.out.1, HO6.out.2.1, di_below hlo HO.out HO6.out.2.2.1 HO6.out.2.2.2⟩
 ·rintro a' W' ⟨t, A, rfl, C, ht, ho, hk, hb⟩
  exact hq t A C W' ht ho hk hb
def DyR (lo xb B : Nat) (vq vw : Value) (x : ItemD) (ys : List Int) (w : World) (i : Nat) (W : World) : Prop :=
 W.ownsRow lo 140 4 vw ((ys.take i).map (dieA x)).length (((ys.take i).map (dieA x)).flatMap vArrival) ∧ Bk W xb 52 (vItem x).toArray ∧ IntsO W B vq ys ∧ Below lo w W
def dyl_inv (lo xb B Cq : Nat) (Aq : Option Addr) (x : ItemD) (ys : List Int) (w : World) (a : Act) (wr : World) : Prop :=
 ∃ (t : Array Value) (i : Nat) (vw : Value), t = (dyl_T xb Cq i vw Aq ys t) ∧ i ≤ ys.length ∧ DyR lo xb B (.slice Aq ys.length Cq) vw x ys w i wr ∧ a = ⟨t, []⟩
set_option maxHeartbeats 4000000 in
theorem dy_loop (lo xb B Cq : Nat) (Aq : Option Addr) (x : ItemD) (ys : List Int) (w : World) (hlw : lo ≤ w.heap.size) (hd : 0 ≤ x.deaths ∧ x.deaths ≤ 2) (hys : ys.length ≤ 100000) (Q0 : Exit → Act → World → Prop)
  (hend : ∀ (t : Array Value) (i : Nat) (vw : Value) (W : World), t = (dyl_T xb Cq i vw Aq ys t) → DyR lo xb B (.slice Aq ys.length Cq) vw x ys w ys.length W → Q0 (.exit 0) ⟨t, []⟩ W) (t : Array Value) (i : Nat) (vw : Value) (W : World) (ht : t = (dyl_T xb Cq i vw Aq ys t)) (hi : i ≤ ys.length) (hW : DyR lo xb B (.slice Aq ys.length Cq) vw x ys w i W) :
  (Code.loop dyLoop).wp Tryz.prog Q0 ⟨t, []⟩ W := by
 refine wp_loop (dyl_inv lo xb B Cq Aq x ys w) (fun a _ => ys.length - (intOf (a.tmps.getD 10 undef)).toNat) ⟨t, i, vw, ht, hi, hW, rfl⟩ ?_
 clear ht hi hW t i vw W
 rintro a' wr ⟨t, i, vw, ht, hi, hR, rfl⟩
 obtain ⟨u, rfl⟩ := dyl_open ht
 clear ht
 have HEND := Lib.hid hend
 clear hend
 conv => arg 2; whnf
 by_cases hlt : i < ys.length
 ·obtain ⟨hO, hX, hI, hB⟩ := hR
  have hj2 : (i : Int) < (ys.length : Int) := by omega
  obtain ⟨gb, ob, rfl, _, _⟩ := sl_int (ints_sl hI).2 hlt
  have htk : ys.take (i + 1) = ys.take i ++ [ys[i]] := by rw [List.take_add_one, List.getElem?_eq_getElem hlt]; rfl
  have hyi : ys[i]? = some ys[i] := List.getElem?_eq_getElem hlt
  generalize ys[i] = y at *
  obtain ⟨L, hL⟩ : ∃ L, (ys.take i).map (dieA x) = L := ⟨_, rfl⟩
  have hlen : L.length ≤ 1048576 := by rw [← hL]; simp; omega
  rw [hL] at hO
  have HL := Lib.hid hL
  clear hL
  obtain ⟨A0, C0, rfl, _⟩ := own_slice hO
  have HTK := Lib.hid htk
  have HO := Lib.hid hO
  have HX := Lib.hid hX
  have HI := Lib.hid hI
  have HB := Lib.hid hB
  have HYI := Lib.hid hyi
  have HLEN := Lib.hid hlen
  have HR : Hid (∀ t : Array Value, ∀ (i' : Nat) (vw : Value), i' = i + 1 → t = #[t.getD 0 undef, t.getD 1 undef, t.getD 2 undef, t.getD 3 undef, t.getD 4 undef, .pointer (some ⟨xb, 0, none⟩), .slice none 0 0, vw, t.getD 8 undef, .slice (some ⟨gb, ob, none⟩) ys.length Cq, .int .i64 (i' : Int), t.getD 11 undef, t.getD 12 undef, t.getD 13 undef, t.getD 14 undef, t.getD 15 undef, t.getD 16 undef, t.getD 17 undef, t.getD 18 undef, t.getD 19 undef, t.getD 20 undef, t.getD 21 undef, t.getD 22 undef, t.getD 23 undef, t.getD 24 undef, t.getD 25 undef, t.getD 26 undef, t.getD 27 undef, t.getD 28 undef, t.getD 29 undef, t.getD 30 undef, t.getD 31 undef, t.getD 32 undef, t.getD 33 undef, t.getD 34 undef, t.getD 35 undef, t.getD 36 undef, t.getD 37 undef, t.getD 38 undef, t.getD 39 undef, t.getD 40 undef, t.getD 41 undef, t.getD 42 undef, t.getD 43 undef, t.getD 44 undef, t.getD 45 undef, t.getD 46 undef, t.getD 47 undef, t.getD 48 undef, t.getD 49 undef, t.getD 50 undef] → ∀ W, DyR lo xb B (.slice (some ⟨gb, ob, none⟩) ys.length Cq) vw x ys w (i + 1) W → dyl_inv lo xb B Cq (some ⟨gb, ob, none⟩) x ys w ⟨t, []⟩ W) :=
   Lib.hid fun t i' vw hi' ht W hW => ⟨t, i', vw, ht, by omega, by rw [hi']; exact hW, rfl⟩
  clear htk hO hX hI hB hlen hyi
  go_wp2_with fail
  refine dy_reg xb gb ob lo B Cq i C0 A0 ys y x L wr HX.out HI.out HYI.out hj2 HO.out HLEN.out (Nat.le_trans hlw HB.out.size) hd _ ?_ _ L.length rfl rfl
  rintro t A C W6 ht ho hk hb
  obtain ⟨u, rfl⟩ := dy9m_open ht
  have HN : Hid (DyR lo xb B (.slice (some ⟨gb, ob, none⟩) ys.length Cq) (.slice A (L.length + 1) C) x ys w (i + 1) W6) := Lib.hid (by
   have e : (ys.take (i + 1)).map (dieA x) = L ++ [dieA x y] := by rw [← HL.out, HTK.out, List.map_append]; rfl
   refine ⟨?_, hk _ _ _ (by decide) HX.out, own_keepT HI.out hk (by decide), HB.out.trans hb⟩
   rw [e]
   exact ownA_snoc ho)
  clear ht ho hk hb
  go_wp2
  exact ⟨HR.out _ _ _ rfl rfl _ HN.out, by simp [intOf]; omega⟩
 ·obtain rfl : i = ys.length := by omega
  have HF := Lib.hid hR
  clear hR
  go_wp2
  exact HEND.out _ ys.length _ _ rfl HF.out
theorem queue_cells {W : World} {lo hi : Nat} {p : PlanD} {p2 : Option Addr} (h : Sl W lo hi p2 (p.queues.flatMap vQueue)) {k : Nat} (hk : k < p.queues.length) :
  ∃ b o, p2 = some ⟨b, o, none⟩ ∧ W.cell? ⟨b, o + k * 3, none⟩ = some (.string (queueAt p k).name) ∧ W.cell? ⟨b, o + k * 3 + 1, none⟩ = some (.int .i64 (queueAt p k).limit) ∧ W.cell? ⟨b, o + k * 3 + 2, none⟩ = some (.int .i64 (queueAt p k).dead) := by
 obtain ⟨b, o, rfl, _, _, hx⟩ := sl_elem vQueue_len (by decide) h hk
 have e : queueAt p (k : Int) = p.queues[k] := by
  unfold queueAt
  rw [show ((k : Int)).toNat = k by omega, List.getElem?_eq_getElem hk]
  rfl
 rw [e]
 exact ⟨b, o, rfl, hx 0 _ rfl, hx 1 _ rfl, hx 2 _ rfl⟩
set_option maxHeartbeats 4000000 in
theorem dying_any (p : PlanD) (p1 p2 p3 : Option Addr) (q1 q2 q3 : Nat) (hr : PlanRight p) (hs : PlanSmall p) (q : Nat) (hq : q < p.queues.length) (x : ItemD) (hd : 0 ≤ x.deaths ∧ x.deaths ≤ 2) (hkey : x.key.size ≤ 1048576) (w : World) (hp : PlanAt w 0 w.heap.size p1 p2 p3 p) :
  Calls Tryz.prog 55 #[.agg #[.slice p1 p.posts.length q1, .slice p2 p.queues.length q2, .slice p3 p.binds.length q3], .int .i64 (q : Int), .agg (vItem x).toArray] w fun e w' => ∃ v, e = .returned v ∧ w'.ownsRow w.heap.size 140 4 v (dyingP p q x).length ((dyingP p q x).flatMap vArrival) ∧ Below w.heap.size w w' := by
 have hbd := dead_in hr (q := (q : Int)) (by omega)
 unfold vItem
 obtain ⟨V0, hV0⟩ : ∃ V0, w.alloc (.cells #[.slice p1 p.posts.length q1, .slice p2 p.queues.length q2, .slice p3 p.binds.length q3] 26) = V0 := ⟨_, rfl⟩
 have k0 : Bk V0 w.heap.size 26 #[.slice p1 p.posts.length q1, .slice p2 p.queues.length q2, .slice p3 p.binds.length q3] := by rw [← hV0]; exact Bk.new _ _ _
 have hb0 : Below w.heap.size w V0 := by rw [← hV0]; exact (Below.refl _ _).alloc (Nat.le_refl _) _
 obtain ⟨W0, hW0⟩ : ∃ W0, V0.alloc (.cells #[.int .i64 x.seq, .string x.key, .string x.body, .bool x.again, .int .i64 x.deaths] 52) = W0 := ⟨_, rfl⟩
 have hX : Bk W0 V0.heap.size 52 (vItem x).toArray := by rw [← hW0]; exact Bk.new _ _ _
 have hb1 : Below V0.heap.size V0 W0 := by rw [← hW0]; exact (Below.refl _ _).alloc (Nat.le_refl _) _
 have hb2 : Below w.heap.size w W0 := hb0.trans (hb1.mono hb0.size)
 have hI : QoIn w p p1 p2 p3 q1 q2 q3 W0 := ⟨k0.below hb1 k0.lt, (hp.below hb2 (Nat.le_refl _)).wider (Nat.le_refl _) hb2.size⟩
 obtain ⟨b, o, rfl, _, _, d2⟩ := queue_cells hI.plan.queues hq
 have m0 := hI.box.cell 0
 have m1 := hI.box.cell 1
 have m2 := hI.box.cell 2
 have x1 := hX.cell 1
 have x4 := hX.cell 4
 simp only [vItem, List.getElem?_toArray, List.getElem?_cons_zero, List.getElem?_cons_succ] at m0 m1 m2 x1 x4
 have hj2 : (q : Int) < (p.queues.length : Int) := by omega
 have HI := Lib.hid hI
 have HX := Lib.hid hX
 have HB := Lib.hid hb2
 clear hI hX hb2 hb1 hb0 k0 hp
 go_enter Tryz.func55, Tryz.ntmps55
 by_cases hdd : (queueAt p q).dead < 0
 ·have HP := Lib.hid (dying_none (.inl hdd) : dyingP p q x = [])
  clear hbd
  go_wp2
  go_ret
  exact ⟨_, rfl, by rw [HP.out]; exact World.ownsRow_nil _ _ _ _, HB.out⟩
 ·by_cases h2 : (2 : Int) ≤ x.deaths
  ·have HP := Lib.hid (dying_none (.inr h2) : dyingP p q x = [])
   clear hbd
   go_wp2
   go_ret
   exact ⟨_, rfl, by rw [HP.out]; exact World.ownsRow_nil _ _ _ _, HB.out⟩
  ·obtain ⟨k, hk⟩ := Int.eq_ofNat_of_zero_le (show 0 ≤ (queueAt p q).dead by omega)
   have hkl : k < p.posts.length := by omega
   have HP := Lib.hid (dying_take hk h2 : dyingP p q x = _)
   have HLY := Lib.hid (ofL_len hr hkl (key := x.key))
   have hcall := QueuesOf_any p hr hs k hkl x.key hkey p1 (some ⟨b, o, none⟩) p3 q1 q2 q3 W0 HI.out.plan
   unfold planV at hcall
   rw [refQueues_eq hr hkl] at hcall
   have HQ := Lib.hid hcall
   rw [hk] at d2
   have hk0 : ¬ (k : Int) < 0 := by omega
   clear hbd hdd hk hcall
   go_wp2_with fail
   refine HQ.out.mono ?_
   rintro e w4 ⟨v4, rfl, n1, n2⟩
   obtain ⟨Aq, Cq, rfl, _⟩ := own_slice n1
   have H4 := Lib.hid (And.intro n1 n2)
   clear n1 n2 m0 m1 m2 x1 x4 d2
   go_wp2_with fail
   refine dy_loop w.heap.size _ _ Cq Aq x (ofL p k x.key) w4 (Nat.le_trans HB.out.size H4.out.2.size) hd (by have := HLY.out; omega) _ ?_ _ 0 (.slice none 0 0) w4 rfl (Nat.zero_le _) ⟨World.ownsRow_nil _ _ _ _, HX.out.below H4.out.2 HX.out.lt, H4.out.1, Below.refl _ _⟩
   rintro t i vw W ht ⟨ho, _, _, hbw⟩
   obtain ⟨u, rfl⟩ := dyl_open ht
   rw [← HP.out] at ho
   have HF := Lib.hid (And.intro ho ((HB.out.trans (H4.out.2.mono HB.out.size)).trans hbw))
   clear ht hbw ho
   go_wp2
   go_ret
   exact ⟨_, rfl, HF.out.1, HF.out.2⟩
open Go Go.RowKit
set_option maxRecDepth 100000
structure RefAt (w : World) (lo g : Nat) (v1 v2 v3 : Value) (rows : List RowD) (s : StateD) : Prop where
 size : lo ≤ w.heap.size
 box : Bk w g 31 (ownV s v1 v2 v3)
 held : HeldAt w lo v1 v2 v3 rows s
 gl : lo ≤ g
theorem RefAt.kept {ts : List TypeId} {w W : World} {lo g : Nat} {v1 v2 v3 : Value} {rows : List RowD} {s : StateD} (H : RefAt w lo g v1 v2 v3 rows s) (hk : KeepsT ts w W) (hb : Below lo w W)
  (h1 : 50 ∉ ts) (h2 : 52 ∉ ts) (h3 : 77 ∉ ts) (h4 : 79 ∉ ts) (h6 : 31 ∉ ts) : RefAt W lo g v1 v2 v3 rows s :=
 ⟨Nat.le_trans H.size hb.size, hk _ _ _ h6 H.box, H.held.kept hk h1 h2 h3 h4, H.gl⟩
theorem RefAt.since {w W : World} {lo g : Nat} {v1 v2 v3 : Value} {rows : List RowD} {s : StateD} (H : RefAt w lo g v1 v2 v3 rows s) (hb : Below w.heap.size w W) : RefAt W lo g v1 v2 v3 rows s :=
 H.kept (KeepsT.of_below (ts := []) hb) (hb.mono H.size) (by simp) (by simp) (by simp) (by simp) (by simp)
theorem RefAt.num {w : World} {lo g : Nat} {v1 v2 v3 : Value} {rows : List RowD} {s : StateD} (H : RefAt w lo g v1 v2 v3 rows s) (i : Nat) (u : Value) (a b c d e : Int)
  (hu : (ownV s v1 v2 v3).setIfInBounds i u = ownV ⟨s.ready, s.outs, s.takers, a, b, c, d, e⟩ v1 v2 v3) : RefAt (w.setCell ⟨g, i, none⟩ u) lo g v1 v2 v3 rows ⟨s.ready, s.outs, s.takers, a, b, c, d, e⟩ ∧ KeepsT [31] w (w.setCell ⟨g, i, none⟩ u) ∧ Below lo w (w.setCell ⟨g, i, none⟩ u) := by
 have hk := KeepsT.set H.box (ts := [31]) (by decide) i u
 have hb : Below lo w (w.setCell ⟨g, i, none⟩ u) := (Below.refl _ _).setCell (p := ⟨g, i, none⟩) H.gl u
 refine ⟨⟨Nat.le_trans H.size hb.size, ?_, (H.held.kept hk).nums _ _ _ _ _, H.gl⟩, hk, hb⟩
 rw [← hu]
 exact H.box.set_ i u
theorem RefAt.rowSet {w : World} {lo g gr n C k : Nat} {v2 v3 : Value} {rows : List RowD} {s : StateD} (H : RefAt w lo g (.slice (some ⟨gr, 0, none⟩) n C) v2 v3 rows s) (hn : n = s.ready.length) (ra : Option Addr) (rc : Nat) (ys : List ItemD)
  (hsl : SlT w lo 52 ra (ys.flatMap vItem)) (hc : ys.length ≤ rc) :
  RefAt (w.setCell ⟨gr, k, none⟩ (.slice ra ys.length rc)) lo g (.slice (some ⟨gr, 0, none⟩) n C) v2 v3 (rows.set k ⟨ra, rc, ys⟩) { s with ready := s.ready.set k ys } ∧ KeepsT [50] w (w.setCell ⟨gr, k, none⟩ (.slice ra ys.length rc)) ∧ Below lo w (w.setCell ⟨gr, k, none⟩ (.slice ra ys.length rc)) := by
 obtain ⟨h1, hk⟩ := H.held.rowSet (k := k) hn ra rc ys hsl hc
 have hg : lo ≤ gr := (H.held.ready.lt gr rfl).1
 have hb : Below lo w (w.setCell ⟨gr, k, none⟩ (.slice ra ys.length rc)) := (Below.refl _ _).setCell (p := ⟨gr, k, none⟩) hg _
 exact ⟨⟨Nat.le_trans H.size hb.size, hk _ _ _ (by decide) H.box, h1, H.gl⟩, hk, hb⟩
def shedP (p : PlanD) (s : StateD) (q : Int) : StateD × List ArrivalD :=
 if ((lineAt s q).length : Int) ≤ (queueAt p q).limit then (s, []) else ({ s with ready := s.ready.set q.toNat ((lineAt s q).drop 1), dropped := s.dropped + 1 }, dyingP p q (headL (lineAt s q)))
theorem shed_less {p : PlanD} {s : StateD} {q : Int} (h : ((lineAt s q).length : Int) ≤ (queueAt p q).limit) : shedP p s q = (s, []) := by
 unfold shedP; rw [if_pos h]
theorem shed_more {p : PlanD} {s : StateD} {q : Int} {y : ItemD} {r : List ItemD} (h : ¬ ((lineAt s q).length : Int) ≤ (queueAt p q).limit) (hy : lineAt s q = y :: r) : shedP p s q = ({ s with ready := s.ready.set q.toNat r, dropped := s.dropped + 1 }, dyingP p q y) := by
 unfold shedP; rw [if_neg h, hy]; rfl
theorem lay_shed {p : PlanD} {s : StateD} {q : Int} {x : ItemD} (h : q.toNat < s.ready.length) : layP p s q x = shedP p { s with ready := s.ready.set q.toNat (pushL (lineAt s q) x) } q := by
 have e : lineAt { s with ready := s.ready.set q.toNat (pushL (lineAt s q) x) } q = pushL (lineAt s q) x := by
  rw [lineAt_get (by simpa using h)]
  simp
 unfold layP shedP
 rw [e]
 simp only [List.set_set]
def ShedPost (lo g : Nat) (v1 v2 v3 : Value) (c : StateD × List ArrivalD) (w : World) (e : Ending) (w' : World) : Prop :=
 ∃ v rows, e = .returned v ∧ RefAt w' lo g v1 v2 v3 rows c.1 ∧ w'.ownsRow w.heap.size 140 4 v c.2.length (c.2.flatMap vArrival) ∧ KeepsT [50, 31] w w' ∧ Below lo w w'
set_option maxHeartbeats 8000000 in
theorem shedAt_any (lo g : Nat) (p : PlanD) (p1 p2 p3 : Option Addr) (q1 q2 q3 : Nat) (hr : PlanRight p) (hs : PlanSmall p) (v1 v2 v3 : Value) (rows : List RowD) (s : StateD) (q : Nat) (w : World) (hp : PlanAt w 0 lo p1 p2 p3 p) (H : RefAt w lo g v1 v2 v3 rows s) (hq : q < p.queues.length) (hsl : s.ready.length = p.queues.length)
  (hok : ∀ y ∈ lineAt s q, y.key.size ≤ 1048576 ∧ 0 ≤ y.deaths ∧ y.deaths ≤ 2) (hdr : 0 ≤ s.dropped ∧ s.dropped ≤ 1048576) (hlim : 1 ≤ (queueAt p q).limit) :
  Calls Tryz.prog 54 #[.agg #[.slice p1 p.posts.length q1, .slice p2 p.queues.length q2, .slice p3 p.binds.length q3], .pointer (some ⟨g, 0, none⟩), .int .i64 (q : Int)] w (ShedPost lo g v1 v2 v3 (shedP p s q) w) := by
 have hrow : s.ready[q]? = some (lineAt s q) := by
  have h1 : q < s.ready.length := by omega
  rw [lineAt_get (show ((q : Int)).toNat < s.ready.length by omega), List.getElem?_eq_getElem h1]
  rfl
 have HLAY := Lib.hid (And.intro (fun h => shed_less (p := p) (s := s) (q := (q : Int)) h) (fun y r h hy => shed_more (p := p) (s := s) (q := (q : Int)) (y := y) (r := r) h hy))
 generalize lineAt s q = line at *
 obtain ⟨A1, C1, hv1, _⟩ := own_slice H.held.ready
 subst hv1
 obtain ⟨gr, rfl⟩ := own_addr H.held.ready (by omega)
 obtain ⟨W0, hW0⟩ : ∃ W0, w.alloc (.cells #[.slice p1 p.posts.length q1, .slice p2 p.queues.length q2, .slice p3 p.binds.length q3] 26) = W0 := ⟨_, rfl⟩
 have hX : Bk W0 w.heap.size 26 #[.slice p1 p.posts.length q1, .slice p2 p.queues.length q2, .slice p3 p.binds.length q3] := by rw [← hW0]; exact Bk.new _ _ _
 have hb0 : Below w.heap.size w W0 := by rw [← hW0]; exact (Below.refl _ _).alloc (Nat.le_refl _) _
 have hH := H.since hb0
 have hlow := H.size
 have hp0 := hp.below (hb0.mono hlow) (Nat.le_refl _)
 have HPW := Lib.hid hp
 clear H hp
 obtain ⟨b, o, rfl, _, d1, _⟩ := queue_cells hp0.queues hq
 obtain ⟨ra, rc, hrc, hrsl, hcell⟩ := hH.held.rowAt rfl hrow
 have HCELL := Lib.hid hcell
 have e0 : W0.drew.cell? ⟨g, 0, none⟩ = some (.slice (some ⟨gr, 0, none⟩) s.ready.length C1) ∧ W0.drew.cell? ⟨gr, q, none⟩ = some (.slice ra line.length rc) ∧ W0.drew.cell? ⟨w.heap.size, 1, none⟩ = some (.slice (some ⟨b, o, none⟩) p.queues.length q2) ∧ W0.drew.cell? ⟨b, o + q * 3 + 1, none⟩ = some (.int .i64 (queueAt p q).limit) := ⟨hH.box.cell 0, (hcell [] W0 (by simp) (KeepsT.refl _ _)).1, hX.cell 1, d1⟩
 have hj2 : (q : Int) < (s.ready.length : Int) := by omega
 have hj3 : (q : Int) < (p.queues.length : Int) := by omega
 have HH := Lib.hid (fun (W : World) (h : Below W0.heap.size W0 W) => hH.since h)
 have H0 := Lib.hid hH
 have HX := Lib.hid hX
 have HP0 := Lib.hid hp0
 have HB := Lib.hid (And.intro hb0 hlow)
 have HSL := Lib.hid hrsl
 clear hX hb0 hH hrsl hcell hrow hsl hp0
 go_enter Tryz.func54, Tryz.ntmps54
 go_wp2_with fail
 refine nw_lay [(0, false), (1, false), (2, false), (3, false), (4, false), (5, false), (6, false), (7, false), (8, false), (9, false), (10, false), (11, false), (12, false), (13, false), (14, false)] (by kernel_rfl) (fun hOrd => ?_)
 refine nw_go (S := (fun W => W.cell? ⟨g, 0, none⟩ = some (.slice (some ⟨gr, 0, none⟩) s.ready.length C1) ∧ W.cell? ⟨gr, q, none⟩ = some (.slice ra line.length rc) ∧ W.cell? ⟨w.heap.size, 1, none⟩ = some (.slice (some ⟨b, o, none⟩) p.queues.length q2) ∧ W.cell? ⟨b, o + q * 3 + 1, none⟩ = some (.int .i64 (queueAt p q).limit))) hOrd (by kernel_rfl) (by first | assumption | exact e0) (fun hHeld => ?_)
 clear hOrd
 iterate 15 ((first | (refine NW.take (v := ?_) rfl (fun _ _ _ h => h) (Or.inl ⟨by rfl, ?_⟩) ?_; rotate_left; focus (intro w hSw; (try dsimp only at hSw); go_simp; (all_goals with_reducible rfl); done)) | (refine NW.leave rfl (fun _ _ _ h => h) (by rfl) (by assumption) ?_)); try simp only [Act.put, zA, zB, zC, zD, zE, zF])
 refine NW.done ?_
 clear e0 hHeld
 obtain ⟨W1, hW1⟩ : ∃ W1, W0.drew = W1 := ⟨_, rfl⟩
 have hbd : Below W0.heap.size W0 W1 := by rw [← hW1]; exact (Below.refl _ _).drew
 rw [hW1]
 have H1 := Lib.hid (HH.out _ hbd)
 have HX1 := Lib.hid (HX.out.below hbd HX.out.lt)
 have HD := Lib.hid hbd
 have HB1 := Lib.hid (HB.out.1.trans (hbd.mono HB.out.1.size))
 clear hbd hW1
 by_cases hc : (line.length : Int) ≤ (queueAt p q).limit
 ·have HL := Lib.hid (HLAY.out.1 hc)
  go_wp2
  go_ret
  refine ⟨_, rows, rfl, by rw [HL.out]; exact H1.out, by rw [HL.out]; exact World.ownsRow_nil _ _ _ _, KeepsT.of_below HB1.out, HB1.out.mono HB.out.2⟩
 ·obtain ⟨y, rest, hyr⟩ : ∃ y rest, line = y :: rest := by
   cases line with
   | nil => simp at hc; omega
   | cons y r => exact ⟨y, r, rfl⟩
  have HL := Lib.hid (HLAY.out.2 y rest (by omega) hyr)
  have HOK := Lib.hid (hok y (by rw [hyr]; exact List.mem_cons_self))
  have hsl1 := HSL.out.keep (KeepsT.of_below (ts := []) HD.out) (by simp)
  have hlen1 : 1 ≤ line.length := by rw [hyr]; exact Nat.succ_le_succ (Nat.zero_le _)
  have HLEN : Hid (line.length = rest.length + 1) := Lib.hid (by rw [hyr]; rfl)
  rw [hyr] at hsl1
  obtain ⟨rb, ro, rfl, hlrb, hitem⟩ := hsl1.head
  obtain ⟨i0, i1, i2, i3, i4⟩ := hitem [] W1 (by simp) (KeepsT.refl _ _)
  obtain ⟨nl, hnl⟩ : ∃ nl, line.length = nl := ⟨_, rfl⟩
  rw [hnl] at hc hlen1 hrc HLEN ⊢
  have hcb : ¬ (nl : Int) ≤ (queueAt p q).limit := hc
  have hnl0 : (0 : Int) < (nl : Int) := by omega
  have HTAIL : Hid (SlT W1 lo 52 (cutA (some ⟨rb, ro, none⟩) rc 1 5) (rest.flatMap vItem) ∧ rest.length = nl - 1 ∧ rest.length ≤ rc - 1) := by
   have hl2 : ((y :: rest).flatMap vItem).length = nl * 5 := by rw [flat_len vItem_len, List.length_cons, HLEN.out]
   have h := hsl1.cut (k := 1) hl2 hlen1 hrc
   have hd : ((y :: rest).flatMap vItem).drop (1 * 5) = rest.flatMap vItem := by rw [List.flatMap_cons]; rfl
   rw [hd] at h
   have := HLEN.out
   exact ⟨h, by omega, by omega⟩
  obtain ⟨X1, hX1⟩ : ∃ X1, W1.alloc (.cells #[.int .i64 y.seq, .string y.key, .string y.body, .bool y.again, .int .i64 y.deaths] 52) = X1 := ⟨_, rfl⟩
  have hi1 : Bk X1 W1.heap.size 52 #[.int .i64 y.seq, .string y.key, .string y.body, .bool y.again, .int .i64 y.deaths] := by rw [← hX1]; exact Bk.new _ _ _
  have hbx : Below W1.heap.size W1 X1 := by rw [← hX1]; exact (Below.refl _ _).alloc (Nat.le_refl _) _
  have hcut := cut_rowH (some ⟨rb, ro, none⟩) nl rc hlen1
  have hx1 := (H1.out.since hbx).since (Below.refl _ _).drew
  have a0 := H1.out.box.cell 0
  have c1 := (HCELL.out [] W1 (by simp) (KeepsT.of_below HD.out)).1
  obtain ⟨t1, t2, t3⟩ := HCELL.out [] X1 (by simp) (KeepsT.of_below (HD.out.trans (hbx.mono HD.out.size)))
  rw [hnl] at t1 c1
  have e0 : X1.drew.cell? ⟨g, 0, none⟩ = some (.slice (some ⟨gr, 0, none⟩) s.ready.length C1) ∧ X1.drew.cell? ⟨gr, q, none⟩ = some (.slice (some ⟨rb, ro, none⟩) nl rc) := ⟨hx1.box.cell 0, t1⟩
  simp only [ownV, List.getElem?_toArray, List.getElem?_cons_zero, List.getElem?_cons_succ] at a0
  have HTL := Lib.hid (HTAIL.out.1.keep (KeepsT.of_below (ts := []) (hbx.trans (Below.refl _ _).drew)) (by simp))
  have hset := hx1.rowSet (k := q) rfl (cutA (some ⟨rb, ro, none⟩) rc 1 5) (rc - 1) rest HTL.out HTAIL.out.2.2
  rw [HTAIL.out.2.1] at hset
  obtain ⟨Y, hYY⟩ : ∃ Y, ((X1.setCell ⟨gr, q, none⟩ (.slice (cutA (some ⟨rb, ro, none⟩) rc 1 5) (nl - 1) (rc - 1))).drew) = Y := ⟨_, rfl⟩
  have hset2 : RefAt Y lo g (.slice (some ⟨gr, 0, none⟩) s.ready.length C1) v2 v3 (rows.set q ⟨cutA (some ⟨rb, ro, none⟩) rc 1 5, rc - 1, rest⟩) { s with ready := s.ready.set q rest } ∧ KeepsT [50] X1.drew Y ∧ Below lo X1.drew Y := by rw [← hYY]; exact hset
  have hbY : Below w.heap.size w X1.drew := HB1.out.trans ((hbx.trans (Below.refl _ _).drew).mono HB1.out.size)
  have HY : Hid (RefAt Y lo g (.slice (some ⟨gr, 0, none⟩) s.ready.length C1) v2 v3 (rows.set q ⟨cutA (some ⟨rb, ro, none⟩) rc 1 5, rc - 1, rest⟩) { s with ready := s.ready.set q rest } ∧ Bk Y W1.heap.size 52 #[.int .i64 y.seq, .string y.key, .string y.body, .bool y.again, .int .i64 y.deaths] ∧ Bk Y w.heap.size 26 #[.slice p1 p.posts.length q1, .slice (some ⟨b, o, none⟩) p.queues.length q2, .slice p3 p.binds.length q3] ∧ KeepsT [50] w Y ∧ Below lo w Y) :=
   Lib.hid ⟨hset2.1, hset2.2.1 _ _ _ (by decide) hi1, hset2.2.1 _ _ _ (by decide) (HX1.out.below (hbx.trans (Below.refl _ _).drew) HX1.out.lt), (KeepsT.of_below hbY).trans hset2.2.1, (hbY.mono HB.out.2).trans hset2.2.2⟩
  have e1 : ((X1.setCell ⟨gr, q, none⟩ (.slice (cutA (some ⟨rb, ro, none⟩) rc 1 5) (nl - 1) (rc - 1))).drew).cell? ⟨g, 0, none⟩ = some (.slice (some ⟨gr, 0, none⟩) s.ready.length C1) := by rw [hYY]; exact HY.out.1.box.cell 0
  have z4 : X1.drew.cell? ⟨gr, q, none⟩ = some (.slice (some ⟨rb, ro, none⟩) nl rc) := t1
  have e2 : X1.drew.cell? ⟨g, 0, none⟩ = some (.slice (some ⟨gr, 0, none⟩) s.ready.length C1) := e0.1
  have HYY := Lib.hid hYY
  clear hset hset2 hx1 hi1 hbx hsl1 hitem hc hok hyr hnl hYY hbY
  go_wp2_with fail
  clear a0 c1 i0 i1 i2 i3 i4
  refine nw_lay [(0, false), (1, false), (2, false), (3, false), (4, false), (5, false), (6, false), (7, false), (8, false), (9, false), (10, false), (11, true), (12, true), (13, false), (14, true)] (by kernel_rfl) (fun hOrd => ?_)
  refine nw_go (S := (fun W => W.cell? ⟨g, 0, none⟩ = some (.slice (some ⟨gr, 0, none⟩) s.ready.length C1))) hOrd (by kernel_rfl) (by first | assumption | exact e2 | exact e1) (fun hHeld => ?_)
  clear hOrd
  iterate 15 ((first | (refine NW.take (v := ?_) rfl (fun _ _ _ h => h) (Or.inl ⟨by rfl, ?_⟩) ?_; rotate_left; focus (intro w hSw; (try dsimp only at hSw); go_simp; (all_goals with_reducible rfl); done)) | (refine NW.leave rfl (fun _ _ _ h => h) (by rfl) (by assumption) ?_) | (refine NW.call rfl (fun K hK => ?_); go_simp; refine hK.out _ _ (by first | assumption | exact e2 | exact e1) (fun hHeld => ?_); clear hK K)); try simp only [Act.put, zA, zB, zC, zD, zE, zF])
  refine NW.done ?_
  rw [HYY.out]
  clear e0 e1 e2 t1 t2 t3 z4 hHeld hcut HTAIL HTL
  have b7 := HY.out.1.box.cell 7
  have f7 := HY.out.1.box.frozen 7
  have l7 := HY.out.1.box.lt
  have hwr : IntKind.i64.wrap (s.dropped + 1) = s.dropped + 1 := IntWalk.i64_in _ (by omega)
  obtain ⟨Z, hZ⟩ : ∃ Z, Y.setCell ⟨g, 7, none⟩ (.int .i64 (s.dropped + 1)) = Z := ⟨_, rfl⟩
  obtain ⟨hz1, hz2, hz3⟩ := HY.out.1.num 7 (.int .i64 (s.dropped + 1)) s.nextSeq s.nextTag s.came s.acked (s.dropped + 1) rfl
  rw [hZ] at hz1 hz2 hz3
  have ky := hz2 _ _ _ (by decide) HY.out.2.1
  have kp := hz2 _ _ _ (by decide) HY.out.2.2.1
  obtain ⟨i0, i1, i2, i3, i4⟩ := (⟨ky.cell 0, ky.cell 1, ky.cell 2, ky.cell 3, ky.cell 4⟩ : Z.cell? ⟨W1.heap.size, 0, none⟩ = some (.int .i64 y.seq) ∧ Z.cell? ⟨W1.heap.size, 1, none⟩ = some (.string y.key) ∧ Z.cell? ⟨W1.heap.size, 2, none⟩ = some (.string y.body) ∧ Z.cell? ⟨W1.heap.size, 3, none⟩ = some (.bool y.again) ∧ Z.cell? ⟨W1.heap.size, 4, none⟩ = some (.int .i64 y.deaths))
  obtain ⟨j0, j1, j2⟩ := (⟨kp.cell 0, kp.cell 1, kp.cell 2⟩ : Z.cell? ⟨w.heap.size, 0, none⟩ = some (.slice p1 p.posts.length q1) ∧ Z.cell? ⟨w.heap.size, 1, none⟩ = some (.slice (some ⟨b, o, none⟩) p.queues.length q2) ∧ Z.cell? ⟨w.heap.size, 2, none⟩ = some (.slice p3 p.binds.length q3))
  simp only [ownV, List.getElem?_toArray, List.getElem?_cons_zero, List.getElem?_cons_succ] at b7
  have hbz : Below lo w Z := HY.out.2.2.2.2.trans hz3
  have HZ : Hid (RefAt Z lo g (.slice (some ⟨gr, 0, none⟩) s.ready.length C1) v2 v3 (rows.set q ⟨cutA (some ⟨rb, ro, none⟩) rc 1 5, rc - 1, rest⟩) ⟨s.ready.set q rest, s.outs, s.takers, s.nextSeq, s.nextTag, s.came, s.acked, s.dropped + 1⟩ ∧ KeepsT [50, 31] w Z ∧ Below lo w Z) := Lib.hid ⟨hz1, (HY.out.2.2.2.1.more (by simp)).trans (hz2.more (by simp)), hbz⟩
  have HDY := Lib.hid (dying_any p p1 (some ⟨b, o, none⟩) p3 q1 q2 q3 hr hs q hq y HOK.out.2 HOK.out.1 Z ((HPW.out.below hbz (Nat.le_refl _)).wider (Nat.le_refl _) hz1.size))
  clear hz1 hz2 hz3 ky kp hbz
  go_wp2_with fail
  refine HDY.out.mono ?_
  rintro e w5 ⟨v5, rfl, o5, b5⟩
  have H5 := Lib.hid (And.intro o5 b5)
  obtain ⟨A5, C5, rfl, _⟩ := own_slice o5
  clear o5 b5 i0 i1 i2 i3 i4 j0 j1 j2 b7 f7 l7
  go_wp2
  go_ret
  refine ⟨_, rows.set q ⟨cutA (some ⟨rb, ro, none⟩) rc 1 5, rc - 1, rest⟩, rfl, ?_, ?_, HZ.out.2.1.trans (KeepsT.of_below H5.out.2), HZ.out.2.2.trans (H5.out.2.mono HZ.out.1.size)⟩
  ·rw [HL.out]
   exact HZ.out.1.since H5.out.2
  ·rw [HL.out]
   exact own_mono H5.out.1 HZ.out.2.2.size
open Go Go.RowKit
set_option maxRecDepth 100000
def WaitAt (W : World) (lo : Nat) (al : Option Addr) (L : List ArrivalD) : Prop :=
 Sl W 0 lo al (L.flatMap vArrival) ∨ SlT W lo 140 al (L.flatMap vArrival)
theorem WaitAt.sl {W : World} {lo : Nat} {al : Option Addr} {L : List ArrivalD} (h : WaitAt W lo al L) (hl : lo ≤ W.heap.size) : Sl W 0 W.heap.size al (L.flatMap vArrival) := by
 rcases h with h | h
 ·exact h.wider (Nat.le_refl _) hl
 ·exact h.sl.wider (Nat.zero_le _) (Nat.le_refl _)
theorem WaitAt.kept {ts : List TypeId} {W W' : World} {lo : Nat} {al : Option Addr} {L : List ArrivalD} (h : WaitAt W lo al L) (hk : KeepsT ts W W') (hb : Below lo W W') (ha : 140 ∉ ts) : WaitAt W' lo al L := by
 rcases h with h | h
 ·exact .inl (h.below hb (Nat.le_refl _))
 ·exact .inr (h.keep hk ha)
theorem WaitAt.own {W : World} {lo n C : Nat} {al : Option Addr} {L : List ArrivalD} (h : W.ownsRow lo 140 4 (.slice al n C) n (L.flatMap vArrival)) : WaitAt W lo al L := .inr (SlT.of_own h)
theorem eg_sizeArrival : ∀ w, (sizeOf (Tryz.prog.elem 88)).run Tryz.prog w = .ok 4 w := fun _ => by kernel_rfl
theorem cut_arr (ra : Option Addr) (n rc : Nat) (hn : 1 ≤ n) (W : World) : (Instr.slice 88 (.slice ra n rc) (some (.int .i64 1)) none none).run Tryz.prog W = .ok (.slice (cutA ra rc 1 4) (n - 1) (rc - 1)) W :=
 run_cut (P := Tryz.prog) (t := 88) (size := 4) Tryz.underlying88 eg_sizeArrival ra n rc 1 1 rfl hn W
end Go.Proofs.YtaanpcjkflhomaaGreatDoor
