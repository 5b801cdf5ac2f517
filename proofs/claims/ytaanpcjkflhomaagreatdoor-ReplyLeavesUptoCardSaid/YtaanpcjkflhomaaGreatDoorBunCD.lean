/-
  The reference's LeaveOf: its loop.
  The reference's LeaveOf.
-/
import Derived.Test.YtaanpcjkflhomaaGreatDoorBunCB
import Derived.Test.YtaanpcjkflhomaaGreatDoorBunCC
set_option linter.unusedSimpArgs false
set_option linter.unusedVariables false
namespace Go.Proofs.YtaanpcjkflhomaaGreatDoor
open Go Go.RowKit
set_option maxRecDepth 100000
def lo1_T (X0 X1 X2 G i : Nat) (t0 : Int) (t : Array Value) : Array Value := #[t.getD 0 undef, t.getD 1 undef, .int .i64 t0, .pointer (some ⟨X0, 0, none⟩), .pointer (some ⟨X1, 0, none⟩), t.getD 5 undef, .pointer (some ⟨X2, 0, none⟩), .int .i64 0, t.getD 8 undef, .pointer (some ⟨G, 0, none⟩), .int .i64 (i : Int), t.getD 11 undef, t.getD 12 undef, t.getD 13 undef, t.getD 14 undef, t.getD 15 undef, t.getD 16 undef, t.getD 17 undef, t.getD 18 undef, t.getD 19 undef, t.getD 20 undef, t.getD 21 undef, t.getD 22 undef, t.getD 23 undef, t.getD 24 undef, t.getD 25 undef, t.getD 26 undef, t.getD 27 undef, t.getD 28 undef, t.getD 29 undef, t.getD 30 undef, t.getD 31 undef, t.getD 32 undef, t.getD 33 undef, t.getD 34 undef, t.getD 35 undef, t.getD 36 undef, t.getD 37 undef, t.getD 38 undef, t.getD 39 undef, t.getD 40 undef, t.getD 41 undef, t.getD 42 undef, t.getD 43 undef, t.getD 44 undef, t.getD 45 undef, t.getD 46 undef, t.getD 47 undef, t.getD 48 undef, t.getD 49 undef, t.getD 50 undef, t.getD 51 undef, t.getD 52 undef, t.getD 53 undef, t.getD 54 undef, t.getD 55 undef, t.getD 56 undef, t.getD 57 undef, t.getD 58 undef, t.getD 59 undef, t.getD 60 undef, t.getD 61 undef, t.getD 62 undef, t.getD 63 undef, t.getD 64 undef, t.getD 65 undef, t.getD 66 undef, t.getD 67 undef, t.getD 68 undef, t.getD 69 undef, t.getD 70 undef, t.getD 71 undef, t.getD 72 undef, t.getD 73 undef, t.getD 74 undef, t.getD 75 undef, t.getD 76 undef]
theorem lo1_open {X0 X1 X2 G i : Nat} {t0 : Int} {t : Array Value} (h : t = (lo1_T X0 X1 X2 G i t0 t)) : ∃ u : Nat → Value, t = #[u 0, u 1, .int .i64 t0, .pointer (some ⟨X0, 0, none⟩), .pointer (some ⟨X1, 0, none⟩), u 5, .pointer (some ⟨X2, 0, none⟩), .int .i64 0, u 8, .pointer (some ⟨G, 0, none⟩), .int .i64 (i : Int), u 11, u 12, u 13, u 14, u 15, u 16, u 17, u 18, u 19, u 20, u 21, u 22, u 23, u 24, u 25, u 26, u 27, u 28, u 29, u 30, u 31, u 32, u 33, u 34, u 35, u 36, u 37, u 38, u 39, u 40, u 41, u 42, u 43, u 44, u 45, u 46, u 47, u 48, u 49, u 50, u 51, u 52, u 53, u 54, u 55, u 56, u 57, u 58, u 59, u 60, u 61, u 62, u 63, u 64, u 65, u 66, u 67, u 68, u 69, u 70, u 71, u 72, u 73, u 74, u 75, u 76] := ⟨fun i => t.getD i undef, h⟩
def lo2_T (X0 X1 X2 G i nb : Nat) (t0 er : Int) (t : Array Value) : Array Value := #[t.getD 0 undef, t.getD 1 undef, .int .i64 t0, .pointer (some ⟨X0, 0, none⟩), .pointer (some ⟨X1, 0, none⟩), t.getD 5 undef, .pointer (some ⟨X2, 0, none⟩), .int .i64 0, t.getD 8 undef, .pointer (some ⟨G, 0, none⟩), .int .i64 (i : Int), .pointer (some ⟨nb, 0, none⟩), .int .i64 er, t.getD 13 undef, t.getD 14 undef, t.getD 15 undef, t.getD 16 undef, t.getD 17 undef, t.getD 18 undef, t.getD 19 undef, t.getD 20 undef, t.getD 21 undef, t.getD 22 undef, t.getD 23 undef, t.getD 24 undef, t.getD 25 undef, t.getD 26 undef, t.getD 27 undef, t.getD 28 undef, t.getD 29 undef, t.getD 30 undef, t.getD 31 undef, t.getD 32 undef, t.getD 33 undef, t.getD 34 undef, t.getD 35 undef, t.getD 36 undef, t.getD 37 undef, t.getD 38 undef, t.getD 39 undef, t.getD 40 undef, t.getD 41 undef, t.getD 42 undef, t.getD 43 undef, t.getD 44 undef, t.getD 45 undef, t.getD 46 undef, t.getD 47 undef, t.getD 48 undef, t.getD 49 undef, t.getD 50 undef, t.getD 51 undef, t.getD 52 undef, t.getD 53 undef, t.getD 54 undef, t.getD 55 undef, t.getD 56 undef, t.getD 57 undef, t.getD 58 undef, t.getD 59 undef, t.getD 60 undef, t.getD 61 undef, t.getD 62 undef, t.getD 63 undef, t.getD 64 undef, t.getD 65 undef, t.getD 66 undef, t.getD 67 undef, t.getD 68 undef, t.getD 69 undef, t.getD 70 undef, t.getD 71 undef, t.getD 72 undef, t.getD 73 undef, t.getD 74 undef, t.getD 75 undef, t.getD 76 undef]
theorem lo2_open {X0 X1 X2 G i nb : Nat} {t0 er : Int} {t : Array Value} (h : t = (lo2_T X0 X1 X2 G i nb t0 er t)) : ∃ u : Nat → Value, t = #[u 0, u 1, .int .i64 t0, .pointer (some ⟨X0, 0, none⟩), .pointer (some ⟨X1, 0, none⟩), u 5, .pointer (some ⟨X2, 0, none⟩), .int .i64 0, u 8, .pointer (some ⟨G, 0, none⟩), .int .i64 (i : Int), .pointer (some ⟨nb, 0, none⟩), .int .i64 er, u 13, u 14, u 15, u 16, u 17, u 18, u 19, u 20, u 21, u 22, u 23, u 24, u 25, u 26, u 27, u 28, u 29, u 30, u 31, u 32, u 33, u 34, u 35, u 36, u 37, u 38, u 39, u 40, u 41, u 42, u 43, u 44, u 45, u 46, u 47, u 48, u 49, u 50, u 51, u 52, u 53, u 54, u 55, u 56, u 57, u 58, u 59, u 60, u 61, u 62, u 63, u 64, u 65, u 66, u 67, u 68, u 69, u 70, u 71, u 72, u 73, u 74, u 75, u 76] := ⟨fun i => t.getD i undef, h⟩
theorem lor_open {X2 : Nat} {er : Int} {t : Array Value} (h : t = #[t.getD 0 undef, t.getD 1 undef, t.getD 2 undef, t.getD 3 undef, t.getD 4 undef, t.getD 5 undef, .pointer (some ⟨X2, 0, none⟩), .int .i64 er, t.getD 8 undef, t.getD 9 undef, t.getD 10 undef, t.getD 11 undef, t.getD 12 undef, t.getD 13 undef, t.getD 14 undef, t.getD 15 undef, t.getD 16 undef, t.getD 17 undef, t.getD 18 undef, t.getD 19 undef, t.getD 20 undef, t.getD 21 undef, t.getD 22 undef, t.getD 23 undef, t.getD 24 undef, t.getD 25 undef, t.getD 26 undef, t.getD 27 undef, t.getD 28 undef, t.getD 29 undef, t.getD 30 undef, t.getD 31 undef, t.getD 32 undef, t.getD 33 undef, t.getD 34 undef, t.getD 35 undef, t.getD 36 undef, t.getD 37 undef, t.getD 38 undef, t.getD 39 undef, t.getD 40 undef, t.getD 41 undef, t.getD 42 undef, t.getD 43 undef, t.getD 44 undef, t.getD 45 undef, t.getD 46 undef, t.getD 47 undef, t.getD 48 undef, t.getD 49 undef, t.getD 50 undef, t.getD 51 undef, t.getD 52 undef, t.getD 53 undef, t.getD 54 undef, t.getD 55 undef, t.getD 56 undef, t.getD 57 undef, t.getD 58 undef, t.getD 59 undef, t.getD 60 undef, t.getD 61 undef, t.getD 62 undef, t.getD 63 undef, t.getD 64 undef, t.getD 65 undef, t.getD 66 undef, t.getD 67 undef, t.getD 68 undef, t.getD 69 undef, t.getD 70 undef, t.getD 71 undef, t.getD 72 undef, t.getD 73 undef, t.getD 74 undef, t.getD 75 undef, t.getD 76 undef]) : ∃ u : Nat → Value, t = #[u 0, u 1, u 2, u 3, u 4, u 5, .pointer (some ⟨X2, 0, none⟩), .int .i64 er, u 8, u 9, u 10, u 11, u 12, u 13, u 14, u 15, u 16, u 17, u 18, u 19, u 20, u 21, u 22, u 23, u 24, u 25, u 26, u 27, u 28, u 29, u 30, u 31, u 32, u 33, u 34, u 35, u 36, u 37, u 38, u 39, u 40, u 41, u 42, u 43, u 44, u 45, u 46, u 47, u 48, u 49, u 50, u 51, u 52, u 53, u 54, u 55, u 56, u 57, u 58, u 59, u 60, u 61, u 62, u 63, u 64, u 65, u 66, u 67, u 68, u 69, u 70, u 71, u 72, u 73, u 74, u 75, u 76] := ⟨fun i => t.getD i undef, h⟩
noncomputable def loLoop : Code := loopAt Tryz.f22 0
def LoR (W : World) (X : StateD) (F : Nat → Array Value → Prop) (a' : Act) (W' : World) : Prop :=
 ∃ (t : Array Value) (nb : Nat) (b1 b2 b3 : Option Addr) (d1 d2 d3 : Nat) (rows' : List RowD), a' = ⟨t, []⟩ ∧ F nb t ∧ Bk W' nb 31 #[.slice b1 X.ready.length d1, .slice b2 X.outs.length d2, .slice b3 X.takers.length d3, .int .i64 X.nextSeq, .int .i64 X.nextTag, .int .i64 X.came, .int .i64 X.acked, .int .i64 X.dropped] ∧ HeldAt W' W.heap.size (.slice b1 X.ready.length d1) (.slice b2 X.outs.length d2) (.slice b3 X.takers.length d3) rows' X ∧ Below W.heap.size W W' ∧ W.heap.size ≤ nb
set_option maxHeartbeats 8000000 in
theorem lo_reg (X0 X1 X2 G n oc ob oo i : Nat) (p : PlanD) (p1 p2 p3 : Option Addr) (q1 q2 q3 : Nat) (t0 tag er : Int) (c X : StateD) (a1 a2 a3 : Option Addr) (c1 c2 c3 : Nat) (W : World) (hi : i < n) (hS : ∀ W', Below W.heap.size W W' → ((W'.cell? ⟨X0, 0, none⟩ = some (.slice p1 p.posts.length q1) ∧ W'.cell? ⟨X0, 1, none⟩ = some (.slice p2 p.queues.length q2) ∧ W'.cell? ⟨X0, 2, none⟩ = some (.slice p3 p.binds.length q3)) ∧ W'.cell? ⟨X1, 1, none⟩ = some (.slice (some ⟨ob, oo, none⟩) n oc) ∧ W'.cell? ⟨ob, oo + i * 8, none⟩ = some (.int .i64 tag) ∧ (W'.cell? ⟨G, 0, none⟩ = some (.slice a1 c.ready.length c1) ∧ W'.cell? ⟨G, 1, none⟩ = some (.slice a2 c.outs.length c2) ∧ W'.cell? ⟨G, 2, none⟩ = some (.slice a3 c.takers.length c3) ∧ W'.cell? ⟨G, 3, none⟩ = some (.int .i64 c.nextSeq) ∧ W'.cell? ⟨G, 4, none⟩ = some (.int .i64 c.nextTag) ∧ W'.cell? ⟨G, 5, none⟩ = some (.int .i64 c.came) ∧ W'.cell? ⟨G, 6, none⟩ = some (.int .i64 c.acked) ∧ W'.cell? ⟨G, 7, none⟩ = some (.int .i64 c.dropped))))
  (hcall : ∀ W', Below W.heap.size W W' → Calls Tryz.prog 18 #[.agg #[.slice p1 p.posts.length q1, .slice p2 p.queues.length q2, .slice p3 p.binds.length q3], .agg #[.slice a1 c.ready.length c1, .slice a2 c.outs.length c2, .slice a3 c.takers.length c3, .int .i64 c.nextSeq, .int .i64 c.nextTag, .int .i64 c.came, .int .i64 c.acked, .int .i64 c.dropped], .int .i64 tag, .bool true] W' (StPostC X er W')) (Q : Exit → Act → World → Prop)
  (hq : ∀ (t : Array Value) (nb : Nat) (b1 b2 b3 : Option Addr) (d1 d2 d3 : Nat) (rows' : List RowD) (W' : World), t = (lo2_T X0 X1 X2 G i nb t0 er t) → Bk W' nb 31 #[.slice b1 X.ready.length d1, .slice b2 X.outs.length d2, .slice b3 X.takers.length d3, .int .i64 X.nextSeq, .int .i64 X.nextTag, .int .i64 X.came, .int .i64 X.acked, .int .i64 X.dropped] → HeldAt W' W.heap.size (.slice b1 X.ready.length d1) (.slice b2 X.outs.length d2) (.slice b3 X.takers.length d3) rows' X → Below W.heap.size W W' → W.heap.size ≤ nb → Q .normal ⟨t, []⟩ W')
  (t : Array Value) (ht : t = (lo1_T X0 X1 X2 G i t0 t)) : ((regionOf 11 loLoop).getD .skip).wp Tryz.prog Q ⟨t, []⟩ W := by
 obtain ⟨u, rfl⟩ := lo1_open ht
 clear ht
 refine region_mid (LoR W X (fun nb t => t = (lo2_T X0 X1 X2 G i nb t0 er t))) ?_ ?_
 ·have HK : Hid (∀ W', Below W.heap.size W W' → ((W'.cell? ⟨X0, 0, none⟩ = some (.slice p1 p.posts.length q1) ∧ W'.cell? ⟨X0, 1, none⟩ = some (.slice p2 p.queues.length q2) ∧ W'.cell? ⟨X0, 2, none⟩ = some (.slice p3 p.binds.length q3)) ∧ W'.cell? ⟨X1, 1, none⟩ = some (.slice (some ⟨ob, oo, none⟩) n oc) ∧ W'.cell? ⟨ob, oo + i * 8, none⟩ = some (.int .i64 tag) ∧ (W'.cell? ⟨G, 0, none⟩ = some (.slice a1 c.ready.length c1) ∧ W'.cell? ⟨G, 1, none⟩ = some (.slice a2 c.outs.length c2) ∧ W'.cell? ⟨G, 2, none⟩ = some (.slice a3 c.takers.length c3) ∧ W'.cell? ⟨G, 3, none⟩ = some (.int .i64 c.nextSeq) ∧ W'.cell? ⟨G, 4, none⟩ = some (.int .i64 c.nextTag) ∧ W'.cell? ⟨G, 5, none⟩ = some (.int .i64 c.came) ∧ W'.cell? ⟨G, 6, none⟩ = some (.int .i64 c.acked) ∧ W'.cell? ⟨G, 7, none⟩ = some (.int .i64 c.dropped)))) := Lib.hid hS
  have HCALL := Lib.hid hcall
  have hj : (i : Int) < (n : Int) := by omega
  clear hS hcall hq
  conv => arg 2; whnf
  refine wp_region_held_drew (S := (fun W => ((W.cell? ⟨X0, 0, none⟩ = some (.slice p1 p.posts.length q1) ∧ W.cell? ⟨X0, 1, none⟩ = some (.slice p2 p.queues.length q2) ∧ W.cell? ⟨X0, 2, none⟩ = some (.slice p3 p.binds.length q3)) ∧ W.cell? ⟨X1, 1, none⟩ = some (.slice (some ⟨ob, oo, none⟩) n oc) ∧ W.cell? ⟨ob, oo + i * 8, none⟩ = some (.int .i64 tag) ∧ (W.cell? ⟨G, 0, none⟩ = some (.slice a1 c.ready.length c1) ∧ W.cell? ⟨G, 1, none⟩ = some (.slice a2 c.outs.length c2) ∧ W.cell? ⟨G, 2, none⟩ = some (.slice a3 c.takers.length c3) ∧ W.cell? ⟨G, 3, none⟩ = some (.int .i64 c.nextSeq) ∧ W.cell? ⟨G, 4, none⟩ = some (.int .i64 c.nextTag) ∧ W.cell? ⟨G, 5, none⟩ = some (.int .i64 c.came) ∧ W.cell? ⟨G, 6, none⟩ = some (.int .i64 c.acked) ∧ W.cell? ⟨G, 7, none⟩ = some (.int .i64 c.dropped))))) (by kernel_rfl) (HK.out _ (Below.refl _ _).drew) (fun hHeld => ?_)
  have hN : Below W.heap.size W W.drew := (Below.refl _ _).drew
  generalize W.drew = Wd at *
  first | (refine wpAnyH_take (i := 0) (v := ?_) rfl (by kernel_rfl) (by kernel_rfl) (by kernel_rfl) (fun _ _ _ h => h) (Or.inl ⟨by rfl, ?_⟩) (by assumption) ?_; rotate_left; focus (intro w hSw; (try dsimp only at hSw); go_simp; (all_goals with_reducible rfl); done)) | fail "op 0"
  try simp only [Act.put, zA, zB, zC, zD, zE]
  first | (refine wpAnyH_take (i := 1) (v := ?_) rfl (by kernel_rfl) (by kernel_rfl) (by kernel_rfl) (fun _ _ _ h => h) (Or.inl ⟨by rfl, ?_⟩) (by assumption) ?_; rotate_left; focus (intro w hSw; (try dsimp only at hSw); go_simp; (all_goals with_reducible rfl); done)) | fail "op 1"
  try simp only [Act.put, zA, zB, zC, zD, zE, zF]
  first | (refine wpAnyH_take (i := 2) (v := ?_) rfl (by kernel_rfl) (by kernel_rfl) (by kernel_rfl) (fun _ _ _ h => h) (Or.inl ⟨by rfl, ?_⟩) (by assumption) ?_; rotate_left; focus (intro w hSw; (try dsimp only at hSw); go_simp; (all_goals with_reducible rfl); done)) | fail "op 2"
  try simp only [Act.put, zA, zB, zC, zD, zE, zF]
  first | (refine wpAnyH_take (i := 3) (v := ?_) rfl (by kernel_rfl) (by kernel_rfl) (by kernel_rfl) (fun _ _ _ h => h) (Or.inl ⟨by rfl, ?_⟩) (by assumption) ?_; rotate_left; focus (intro w hSw; (try dsimp only at hSw); go_simp; (all_goals with_reducible rfl); done)) | fail "op 3"
  try simp only [Act.put, zA, zB, zC, zD, zE, zF]
  first | (refine wpAnyH_take (i := 4) (v := ?_) rfl (by kernel_rfl) (by kernel_rfl) (by kernel_rfl) (fun _ _ _ h => h) (Or.inl ⟨by rfl, ?_⟩) (by assumption) ?_; rotate_left; focus (intro w hSw; (try dsimp only at hSw); go_simp; (all_goals with_reducible rfl); done)) | fail "op 4"
  try simp only [Act.put, zA, zB, zC, zD, zE, zF]
  first | (refine wpAnyH_take (i := 5) (v := ?_) rfl (by kernel_rfl) (by kernel_rfl) (by kernel_rfl) (fun _ _ _ h => h) (Or.inl ⟨by rfl, ?_⟩) (by assumption) ?_; rotate_left; focus (intro w hSw; (try dsimp only at hSw); go_simp; (all_goals with_reducible rfl); done)) | fail "op 5"
  try simp only [Act.put, zA, zB, zC, zD, zE, zF]
  first | (refine wpAnyH_take (i := 6) (v := ?_) rfl (by kernel_rfl) (by kernel_rfl) (by kernel_rfl) (fun _ _ _ h => h) (Or.inl ⟨by rfl, ?_⟩) (by assumption) ?_; rotate_left; focus (intro w hSw; (try dsimp only at hSw); go_simp; (all_goals with_reducible rfl); done)) | fail "op 6"
  try simp only [Act.put, zA, zB, zC, zD, zE, zF]
  first | (refine wpAnyH_take (i := 7) (v := ?_) rfl (by kernel_rfl) (by kernel_rfl) (by kernel_rfl) (fun _ _ _ h => h) (Or.inl ⟨by rfl, ?_⟩) (by assumption) ?_; rotate_left; focus (intro w hSw; (try dsimp only at hSw); go_simp; (all_goals with_reducible rfl); done)) | fail "op 7"
  try simp only [Act.put, zA, zB, zC, zD, zE, zF]
  refine wpAnyH_ready (rs := [8, 12]) (by kernel_rfl) (by simp) ?_
  refine AllReadyH.cons rfl (fun K hK => ?_) (AllReadyH.cons rfl (fun K hK => ?_) AllReadyH.nil)
  ·go_simp
   go_at_call 18
   refine (HCALL.out _ hN).mono ?_
   rintro e w4 ⟨b1, b2, b3, d1, d2, d3, rows4, rfl, hs4, hb4⟩
   have hs4 := hs4.wider hN.size
   have hN := hN.trans (hb4.mono hN.size)
   clear hb4
   unfold stateV vState
   refine hK.out _ _ (by exact HK.out _ hN) (fun hHeld => ?_)
   clear hK K
   try simp only [Act.put, zA, zB, zC, zD, zE, zF]
   first | (refine wpAnyH_take (i := 9) (v := ?_) rfl (by kernel_rfl) (by kernel_rfl) (by kernel_rfl) (fun _ _ _ h => h) (Or.inl ⟨by rfl, ?_⟩) (by assumption) ?_; rotate_left; focus (intro w hSw; (try dsimp only at hSw); go_simp; (all_goals with_reducible rfl); done)) | fail "op 9"
   try simp only [Act.put, zA, zB, zC, zD, zE, zF]
   first | (refine wpAnyH_take (i := 10) (v := ?_) rfl (by kernel_rfl) (by kernel_rfl) (by kernel_rfl) (fun _ _ _ h => h) (Or.inl ⟨by rfl, ?_⟩) (by assumption) ?_; rotate_left; focus (intro w hSw; (try dsimp only at hSw); go_simp; (all_goals with_reducible rfl); done)) | fail "op 10"
   try simp only [Act.put, zA, zB, zC, zD, zE, zF]
   first | (refine wpAnyH_take (i := 11) (v := ?_) rfl (by kernel_rfl) (by kernel_rfl) (by kernel_rfl) (fun _ _ _ h => h) (Or.inl ⟨by rfl, ?_⟩) (by assumption) ?_; rotate_left; focus (intro w hSw; (try dsimp only at hSw); go_simp; (all_goals with_reducible rfl); done)) | fail "op 11"
   try simp only [Act.put, zA, zB, zC, zD, zE, zF]
   refine wpAnyH_ready (rs := [12]) (by kernel_rfl) (by simp) ?_
   refine AllReadyH.cons rfl (fun K hK => ?_) AllReadyH.nil
   go_simp
   generalize hW5 : World.alloc _ (Obj.cells _ _) = W5
   have hZ : Bk W5 w4.heap.size 31 zeroCells := by rw [← hW5]; exact Bk.new _ _ _
   have hA5 : Below w4.heap.size w4 W5 := by rw [← hW5]; exact (Below.refl _ _).alloc (Nat.le_refl _) _
   have hnb : W.heap.size ≤ w4.heap.size := hN.size
   have hs4 := hs4.kept (KeepsT.of_below (ts := []) hA5) (by simp) (by simp) (by simp) (by simp)
   have hN := hN.trans (hA5.mono hN.size)
   clear hW5 hA5
   refine hK.out _ _ (by exact HK.out _ hN) (fun hHeld => ?_)
   clear hK K
   try simp only [Act.put, zA, zB, zC, zD, zE, zF]
   refine wpAnyH_ready (rs := [13]) (by kernel_rfl) (by simp) ?_
   refine AllReadyH.cons rfl (fun K hK => ?_) AllReadyH.nil
   have hzk := hZ
   unfold zeroCells at hzk
   obtain ⟨k0, k1, k2, k3, k4, k5, k6, k7, f0, f1, f2, f3, f4, f5, f6, f7, hlt⟩ := zero_cells hzk
   clear hzk
   go_simp
   refine hK.out _ _ (by exact HK.out _ (below_set8 hN hnb _ _ _ _ _ _ _ _)) (fun hHeld => ?_)
   clear hK K
   try simp only [Act.put, zA, zB, zC, zD, zE, zF]
   first | (refine wpAnyH_take (i := 14) (v := ?_) rfl (by kernel_rfl) (by kernel_rfl) (by kernel_rfl) (fun _ _ _ h => h) (Or.inl ⟨by rfl, ?_⟩) (by assumption) ?_; rotate_left; focus (intro w hSw; (try dsimp only at hSw); go_simp; (all_goals with_reducible rfl); done)) | fail "op 14"
   try simp only [Act.put, zA, zB, zC, zD, zE, zF]
   refine wpAnyH_done (by kernel_rfl) ?_ _
   have hk8 := KeepsT.set8 hZ (ts := [31]) (by decide) (.slice b1 X.ready.length d1) (.slice b2 X.outs.length d2) (.slice b3 X.takers.length d3) (.int .i64 X.nextSeq) (.int .i64 X.nextTag) (.int .i64 X.came) (.int .i64 X.acked) (.int .i64 X.dropped)
   exact ⟨_, w4.heap.size, b1, b2, b3, d1, d2, d3, rows4, rfl, rfl, (((((((hZ.set_ 0 _).set_ 1 _).set_ 2 _).set_ 3 _).set_ 4 _).set_ 5 _).set_ 6 _).set_ 7 _, hs4.kept hk8, below_set8 hN hnb _ _ _ _ _ _ _ _, hnb⟩
  ·go_simp
   generalize hW5 : World.alloc _ (Obj.cells _ _) = W5
   have hZ : Bk W5 Wd.heap.size 31 zeroCells := by rw [← hW5]; exact Bk.new _ _ _
   have hA5 : Below Wd.heap.size Wd W5 := by rw [← hW5]; exact (Below.refl _ _).alloc (Nat.le_refl _) _
   have hnb : W.heap.size ≤ Wd.heap.size := hN.size
   have hN := hN.trans (hA5.mono hN.size)
   clear hW5 hA5
   refine hK.out _ _ (by exact HK.out _ hN) (fun hHeld => ?_)
   clear hK K
   try simp only [Act.put, zA, zB, zC, zD, zE, zF]
   refine wpAnyH_ready (rs := [8]) (by kernel_rfl) (by simp) ?_
   refine AllReadyH.cons rfl (fun K hK => ?_) AllReadyH.nil
   go_simp
   go_at_call 18
   refine (HCALL.out _ hN).mono ?_
   rintro e w4 ⟨b1, b2, b3, d1, d2, d3, rows4, rfl, hs4, hb4⟩
   have hs4 := hs4.wider hN.size
   have hN := hN.trans (hb4.mono hN.size)
   have hZ := hZ.below hb4 hZ.lt
   clear hb4
   unfold stateV vState
   refine hK.out _ _ (by exact HK.out _ hN) (fun hHeld => ?_)
   clear hK K
   try simp only [Act.put, zA, zB, zC, zD, zE, zF]
   first | (refine wpAnyH_take (i := 9) (v := ?_) rfl (by kernel_rfl) (by kernel_rfl) (by kernel_rfl) (fun _ _ _ h => h) (Or.inl ⟨by rfl, ?_⟩) (by assumption) ?_; rotate_left; focus (intro w hSw; (try dsimp only at hSw); go_simp; (all_goals with_reducible rfl); done)) | fail "op 9"
   try simp only [Act.put, zA, zB, zC, zD, zE, zF]
   first | (refine wpAnyH_take (i := 10) (v := ?_) rfl (by kernel_rfl) (by kernel_rfl) (by kernel_rfl) (fun _ _ _ h => h) (Or.inl ⟨by rfl, ?_⟩) (by assumption) ?_; rotate_left; focus (intro w hSw; (try dsimp only at hSw); go_simp; (all_goals with_reducible rfl); done)) | fail "op 10"
   try simp only [Act.put, zA, zB, zC, zD, zE, zF]
   first | (refine wpAnyH_take (i := 11) (v := ?_) rfl (by kernel_rfl) (by kernel_rfl) (by kernel_rfl) (fun _ _ _ h => h) (Or.inl ⟨by rfl, ?_⟩) (by assumption) ?_; rotate_left; focus (intro w hSw; (try dsimp only at hSw); go_simp; (all_goals with_reducible rfl); done)) | fail "op 11"
   try simp only [Act.put, zA, zB, zC, zD, zE, zF]
   refine wpAnyH_ready (rs := [13]) (by kernel_rfl) (by simp) ?_
   refine AllReadyH.cons rfl (fun K hK => ?_) AllReadyH.nil
   have hzk := hZ
   unfold zeroCells at hzk
   obtain ⟨k0, k1, k2, k3, k4, k5, k6, k7, f0, f1, f2, f3, f4, f5, f6, f7, hlt⟩ := zero_cells hzk
   clear hzk
   go_simp
   refine hK.out _ _ (by exact HK.out _ (below_set8 hN hnb _ _ _ _ _ _ _ _)) (fun hHeld => ?_)
   clear hK K
   try simp only [Act.put, zA, zB, zC, zD, zE, zF]
   first | (refine wpAnyH_take (i := 14) (v := ?_) rfl (by kernel_rfl) (by kernel_rfl) (by kernel_rfl) (fun _ _ _ h => h) (Or.inl ⟨by rfl, ?_⟩) (by assumption) ?_; rotate_left; focus (intro w hSw; (try dsimp only at hSw); go_simp; (all_goals with_reducible rfl); done)) | fail "op 14"
   try simp only [Act.put, zA, zB, zC, zD, zE, zF]
   refine wpAnyH_done (by kernel_rfl) ?_ _
   have hk8 := KeepsT.set8 hZ (ts := [31]) (by decide) (.slice b1 X.ready.length d1) (.slice b2 X.outs.length d2) (.slice b3 X.takers.length d3) (.int .i64 X.nextSeq) (.int .i64 X.nextTag) (.int .i64 X.came) (.int .i64 X.acked) (.int .i64 X.dropped)
   exact ⟨_, Wd.heap.size, b1, b2, b3, d1, d2, d3, rows4, rfl, rfl, (((((((hZ.set_ 0 _).set_ 1 _).set_ 2 _).set_ 3 _).set_ 4 _).set_ 5 _).set_ 6 _).set_ 7 _, hs4.kept hk8, below_set8 hN hnb _ _ _ _ _ _ _ _, hnb⟩
 ·rintro a' W' ⟨t, nb, b1, b2, b3, d1, d2, d3, rows', rfl, ht, h1, h2, h3, h4⟩
  exact hq t nb b1 b2 b3 d1 d2 d3 rows' W' ht h1 h2 h3 h4
open Go Go.RowKit
set_option maxRecDepth 100000
structure LoIn (X0 X1 X2 n oc : Nat) (oa : Option Addr) (p : PlanD) (p1 p2 p3 : Option Addr) (q1 q2 q3 : Nat) (s : StateD) (w W : World) : Prop where
 plan : W.cell? ⟨X0, 0, none⟩ = some (.slice p1 p.posts.length q1) ∧ W.cell? ⟨X0, 1, none⟩ = some (.slice p2 p.queues.length q2) ∧ W.cell? ⟨X0, 2, none⟩ = some (.slice p3 p.binds.length q3)
 outs : W.cell? ⟨X1, 1, none⟩ = some (.slice oa n oc)
 row : Sl W 0 W.heap.size oa (s.outs.flatMap vOut)
 env : Env W
 planAt : PlanAt W 0 W.heap.size p1 p2 p3 p
 zero : Bk W X2 31 zeroCells
 below : Below w.heap.size w W
structure LoS (lo G : Nat) (p : PlanD) (s : StateD) (t0 : Int) (Wb : World) (i : Nat) (c : StateD) (v1 v2 v3 : Value) (rows : List RowD) (W : World) : Prop where
 at_ : LeaveAt p s t0 i c
 st : RefAt W lo G v1 v2 v3 rows c
 below : Below lo Wb W
def lo1_inv (lo X0 X1 X2 G n oc : Nat) (oa : Option Addr) (p : PlanD) (p1 p2 p3 : Option Addr) (q1 q2 q3 : Nat) (s : StateD) (t0 : Int) (w Wb : World) (a : Act) (wr : World) : Prop :=
 ∃ (t : Array Value) (i : Nat) (c : StateD) (v1 v2 v3 : Value) (rows : List RowD), t = #[t.getD 0 undef, t.getD 1 undef, .int .i64 t0, .pointer (some ⟨X0, 0, none⟩), .pointer (some ⟨X1, 0, none⟩), t.getD 5 undef, .pointer (some ⟨X2, 0, none⟩), .int .i64 0, t.getD 8 undef, .pointer (some ⟨G, 0, none⟩), .int .i64 (i : Int), t.getD 11 undef, t.getD 12 undef, t.getD 13 undef, t.getD 14 undef, t.getD 15 undef, t.getD 16 undef, t.getD 17 undef, t.getD 18 undef, t.getD 19 undef, t.getD 20 undef, t.getD 21 undef, t.getD 22 undef, t.getD 23 undef, t.getD 24 undef, t.getD 25 undef, t.getD 26 undef, t.getD 27 undef, t.getD 28 undef, t.getD 29 undef, t.getD 30 undef, t.getD 31 undef, t.getD 32 undef, t.getD 33 undef, t.getD 34 undef, t.getD 35 undef, t.getD 36 undef, t.getD 37 undef, t.getD 38 undef, t.getD 39 undef, t.getD 40 undef, t.getD 41 undef, t.getD 42 undef, t.getD 43 undef, t.getD 44 undef, t.getD 45 undef, t.getD 46 undef, t.getD 47 undef, t.getD 48 undef, t.getD 49 undef, t.getD 50 undef, t.getD 51 undef, t.getD 52 undef, t.getD 53 undef, t.getD 54 undef, t.getD 55 undef, t.getD 56 undef, t.getD 57 undef, t.getD 58 undef, t.getD 59 undef, t.getD 60 undef, t.getD 61 undef, t.getD 62 undef, t.getD 63 undef, t.getD 64 undef, t.getD 65 undef, t.getD 66 undef, t.getD 67 undef, t.getD 68 undef, t.getD 69 undef, t.getD 70 undef, t.getD 71 undef, t.getD 72 undef, t.getD 73 undef, t.getD 74 undef, t.getD 75 undef, t.getD 76 undef] ∧ i ≤ n ∧ LoS lo G p s t0 Wb i c v1 v2 v3 rows wr ∧ a = ⟨t, []⟩
set_option maxHeartbeats 8000000 in
theorem lo_loop (lo X0 X1 X2 G n oc : Nat) (oa : Option Addr) (p : PlanD) (p1 p2 p3 : Option Addr) (q1 q2 q3 : Nat) (s : StateD) (t0 : Int) (w Wb : World) (hn : s.outs.length = n) (hn2 : n ≤ 1048576) (hps : PlanSmall p) (hX2 : X2 < lo) (hwX : w.heap.size ≤ X2) (hIn : ∀ W, Below lo Wb W → LoIn X0 X1 X2 n oc oa p p1 p2 p3 q1 q2 q3 s w W) (Q0 : Exit → Act → World → Prop)
  (hend : ∀ (t : Array Value) (i : Nat) (c : StateD) (v1 v2 v3 : Value) (rows : List RowD) (W : World), t = #[t.getD 0 undef, t.getD 1 undef, .int .i64 t0, .pointer (some ⟨X0, 0, none⟩), .pointer (some ⟨X1, 0, none⟩), t.getD 5 undef, .pointer (some ⟨X2, 0, none⟩), .int .i64 0, t.getD 8 undef, .pointer (some ⟨G, 0, none⟩), .int .i64 (i : Int), t.getD 11 undef, t.getD 12 undef, t.getD 13 undef, t.getD 14 undef, t.getD 15 undef, t.getD 16 undef, t.getD 17 undef, t.getD 18 undef, t.getD 19 undef, t.getD 20 undef, t.getD 21 undef, t.getD 22 undef, t.getD 23 undef, t.getD 24 undef, t.getD 25 undef, t.getD 26 undef, t.getD 27 undef, t.getD 28 undef, t.getD 29 undef, t.getD 30 undef, t.getD 31 undef, t.getD 32 undef, t.getD 33 undef, t.getD 34 undef, t.getD 35 undef, t.getD 36 undef, t.getD 37 undef, t.getD 38 undef, t.getD 39 undef, t.getD 40 undef, t.getD 41 undef, t.getD 42 undef, t.getD 43 undef, t.getD 44 undef, t.getD 45 undef, t.getD 46 undef, t.getD 47 undef, t.getD 48 undef, t.getD 49 undef, t.getD 50 undef, t.getD 51 undef, t.getD 52 undef, t.getD 53 undef, t.getD 54 undef, t.getD 55 undef, t.getD 56 undef, t.getD 57 undef, t.getD 58 undef, t.getD 59 undef, t.getD 60 undef, t.getD 61 undef, t.getD 62 undef, t.getD 63 undef, t.getD 64 undef, t.getD 65 undef, t.getD 66 undef, t.getD 67 undef, t.getD 68 undef, t.getD 69 undef, t.getD 70 undef, t.getD 71 undef, t.getD 72 undef, t.getD 73 undef, t.getD 74 undef, t.getD 75 undef, t.getD 76 undef] → LoS lo G p s t0 Wb n c v1 v2 v3 rows W → Q0 (.exit 0) ⟨t, []⟩ W)
  (hret : ∀ (t : Array Value) (er : Int) (W : World), t = #[t.getD 0 undef, t.getD 1 undef, t.getD 2 undef, t.getD 3 undef, t.getD 4 undef, t.getD 5 undef, .pointer (some ⟨X2, 0, none⟩), .int .i64 er, t.getD 8 undef, t.getD 9 undef, t.getD 10 undef, t.getD 11 undef, t.getD 12 undef, t.getD 13 undef, t.getD 14 undef, t.getD 15 undef, t.getD 16 undef, t.getD 17 undef, t.getD 18 undef, t.getD 19 undef, t.getD 20 undef, t.getD 21 undef, t.getD 22 undef, t.getD 23 undef, t.getD 24 undef, t.getD 25 undef, t.getD 26 undef, t.getD 27 undef, t.getD 28 undef, t.getD 29 undef, t.getD 30 undef, t.getD 31 undef, t.getD 32 undef, t.getD 33 undef, t.getD 34 undef, t.getD 35 undef, t.getD 36 undef, t.getD 37 undef, t.getD 38 undef, t.getD 39 undef, t.getD 40 undef, t.getD 41 undef, t.getD 42 undef, t.getD 43 undef, t.getD 44 undef, t.getD 45 undef, t.getD 46 undef, t.getD 47 undef, t.getD 48 undef, t.getD 49 undef, t.getD 50 undef, t.getD 51 undef, t.getD 52 undef, t.getD 53 undef, t.getD 54 undef, t.getD 55 undef, t.getD 56 undef, t.getD 57 undef, t.getD 58 undef, t.getD 59 undef, t.getD 60 undef, t.getD 61 undef, t.getD 62 undef, t.getD 63 undef, t.getD 64 undef, t.getD 65 undef, t.getD 66 undef, t.getD 67 undef, t.getD 68 undef, t.getD 69 undef, t.getD 70 undef, t.getD 71 undef, t.getD 72 undef, t.getD 73 undef, t.getD 74 undef, t.getD 75 undef, t.getD 76 undef] → er ≠ 0 → (leaveL p t0 s.outs s).2 = er → Bk W X2 31 zeroCells → Below w.heap.size w W → Q0 .ret ⟨t, []⟩ W)
  (t : Array Value) (i : Nat) (c : StateD) (v1 v2 v3 : Value) (rows : List RowD) (W : World) (ht : t = #[t.getD 0 undef, t.getD 1 undef, .int .i64 t0, .pointer (some ⟨X0, 0, none⟩), .pointer (some ⟨X1, 0, none⟩), t.getD 5 undef, .pointer (some ⟨X2, 0, none⟩), .int .i64 0, t.getD 8 undef, .pointer (some ⟨G, 0, none⟩), .int .i64 (i : Int), t.getD 11 undef, t.getD 12 undef, t.getD 13 undef, t.getD 14 undef, t.getD 15 undef, t.getD 16 undef, t.getD 17 undef, t.getD 18 undef, t.getD 19 undef, t.getD 20 undef, t.getD 21 undef, t.getD 22 undef, t.getD 23 undef, t.getD 24 undef, t.getD 25 undef, t.getD 26 undef, t.getD 27 undef, t.getD 28 undef, t.getD 29 undef, t.getD 30 undef, t.getD 31 undef, t.getD 32 undef, t.getD 33 undef, t.getD 34 undef, t.getD 35 undef, t.getD 36 undef, t.getD 37 undef, t.getD 38 undef, t.getD 39 undef, t.getD 40 undef, t.getD 41 undef, t.getD 42 undef, t.getD 43 undef, t.getD 44 undef, t.getD 45 undef, t.getD 46 undef, t.getD 47 undef, t.getD 48 undef, t.getD 49 undef, t.getD 50 undef, t.getD 51 undef, t.getD 52 undef, t.getD 53 undef, t.getD 54 undef, t.getD 55 undef, t.getD 56 undef, t.getD 57 undef, t.getD 58 undef, t.getD 59 undef, t.getD 60 undef, t.getD 61 undef, t.getD 62 undef, t.getD 63 undef, t.getD 64 undef, t.getD 65 undef, t.getD 66 undef, t.getD 67 undef, t.getD 68 undef, t.getD 69 undef, t.getD 70 undef, t.getD 71 undef, t.getD 72 undef, t.getD 73 undef, t.getD 74 undef, t.getD 75 undef, t.getD 76 undef]) (hi : i ≤ n) (hW : LoS lo G p s t0 Wb i c v1 v2 v3 rows W) :
  (Code.loop loLoop).wp Tryz.prog Q0 ⟨t, []⟩ W := by
 refine wp_loop (lo1_inv lo X0 X1 X2 G n oc oa p p1 p2 p3 q1 q2 q3 s t0 w Wb) (fun a _ => n - (intOf (a.tmps.getD 10 undef)).toNat) ⟨t, i, c, v1, v2, v3, rows, ht, hi, hW, rfl⟩ ?_
 clear ht hi hW t i c v1 v2 v3 rows W
 rintro a' wr ⟨t, i, c, v1, v2, v3, rows, ht, hi, hR, rfl⟩
 obtain ⟨u, rfl⟩ := lo1_open ht
 clear ht
 have HEND := Lib.hid hend
 have HRET := Lib.hid hret
 have HPS := Lib.hid hps
 have HN := Lib.hid hn
 have HIN := Lib.hid hIn
 have HX2 := Lib.hid (And.intro hX2 hwX)
 clear hend hret hps hIn hX2 hwX
 conv => arg 2; whnf
 have n1 := (HIN.out _ hR.below).outs
 by_cases hlt : i < n
 ·have hlt2 : i < s.outs.length := by omega
  have hj2 : (i : Int) < (n : Int) := by omega
  obtain ⟨ob, oo, rfl, _, _, hc⟩ := sl_elem vOut_len (by decide) (HIN.out _ hR.below).row hlt2
  obtain ⟨e0, e1, e2, e3, e4, e5, e6, e7⟩ := out_cells (wr := wr) (b := ob) (o := oo) (k := i) (x := s.outs[i]) hc
  have HRR := Lib.hid hR
  have HSK := Lib.hid (fun h => hR.at_.skip hlt2 h)
  have HBK := Lib.hid (fun h1 h2 => hR.at_.back hlt2 h1 h2)
  have HST := Lib.hid (fun h1 h2 => hR.at_.stop hlt2 h1 h2)
  have HR : Hid (∀ t : Array Value, ∀ (i' : Nat) (c : StateD) (v1 v2 v3 : Value) (rows : List RowD), i' = i + 1 → t = #[t.getD 0 undef, t.getD 1 undef, .int .i64 t0, .pointer (some ⟨X0, 0, none⟩), .pointer (some ⟨X1, 0, none⟩), t.getD 5 undef, .pointer (some ⟨X2, 0, none⟩), .int .i64 0, t.getD 8 undef, .pointer (some ⟨G, 0, none⟩), .int .i64 (i' : Int), t.getD 11 undef, t.getD 12 undef, t.getD 13 undef, t.getD 14 undef, t.getD 15 undef, t.getD 16 undef, t.getD 17 undef, t.getD 18 undef, t.getD 19 undef, t.getD 20 undef, t.getD 21 undef, t.getD 22 undef, t.getD 23 undef, t.getD 24 undef, t.getD 25 undef, t.getD 26 undef, t.getD 27 undef, t.getD 28 undef, t.getD 29 undef, t.getD 30 undef, t.getD 31 undef, t.getD 32 undef, t.getD 33 undef, t.getD 34 undef, t.getD 35 undef, t.getD 36 undef, t.getD 37 undef, t.getD 38 undef, t.getD 39 undef, t.getD 40 undef, t.getD 41 undef, t.getD 42 undef, t.getD 43 undef, t.getD 44 undef, t.getD 45 undef, t.getD 46 undef, t.getD 47 undef, t.getD 48 undef, t.getD 49 undef, t.getD 50 undef, t.getD 51 undef, t.getD 52 undef, t.getD 53 undef, t.getD 54 undef, t.getD 55 undef, t.getD 56 undef, t.getD 57 undef, t.getD 58 undef, t.getD 59 undef, t.getD 60 undef, t.getD 61 undef, t.getD 62 undef, t.getD 63 undef, t.getD 64 undef, t.getD 65 undef, t.getD 66 undef, t.getD 67 undef, t.getD 68 undef, t.getD 69 undef, t.getD 70 undef, t.getD 71 undef, t.getD 72 undef, t.getD 73 undef, t.getD 74 undef, t.getD 75 undef, t.getD 76 undef] → ∀ W, LoS lo G p s t0 Wb (i + 1) c v1 v2 v3 rows W → lo1_inv lo X0 X1 X2 G n oc (some ⟨ob, oo, none⟩) p p1 p2 p3 q1 q2 q3 s t0 w Wb ⟨t, []⟩ W) :=
   Lib.hid fun t i' c v1 v2 v3 rows hi' ht W hW => ⟨t, i', c, v1, v2, v3, rows, ht, by omega, by rw [hi']; exact hW, rfl⟩
  have HOB : Hid (ob < wr.heap.size) := Lib.hid (lt_of_cell e0)
  have HE0 := Lib.hid e0
  have HN1 := Lib.hid n1
  clear hc hR e2 e3 e4 e5 e6 e7
  generalize s.outs[i] = x at *
  by_cases hx : x.taker = t0
  ·have bx : (x.taker != t0) = false := by simp [hx]
   have HX := Lib.hid hx
   clear hx
   go_upto_region 11 with fail
   clear e0 e1 n1
   obtain ⟨a1, c1, rfl, _⟩ := own_slice HRR.out.st.held.ready
   obtain ⟨a2, c2, rfl, hc2⟩ := own_slice HRR.out.st.held.outs
   obtain ⟨a3, c3, rfl, _⟩ := own_slice HRR.out.st.held.takers
   have hrr := HRR.out.at_.right
   have HS : Hid (∀ W', Below wr.heap.size wr W' → ((W'.cell? ⟨X0, 0, none⟩ = some (.slice p1 p.posts.length q1) ∧ W'.cell? ⟨X0, 1, none⟩ = some (.slice p2 p.queues.length q2) ∧ W'.cell? ⟨X0, 2, none⟩ = some (.slice p3 p.binds.length q3)) ∧ W'.cell? ⟨X1, 1, none⟩ = some (.slice (some ⟨ob, oo, none⟩) n oc) ∧ W'.cell? ⟨ob, oo + i * 8, none⟩ = some (.int .i64 x.tag) ∧ (W'.cell? ⟨G, 0, none⟩ = some (.slice a1 c.ready.length c1) ∧ W'.cell? ⟨G, 1, none⟩ = some (.slice a2 c.outs.length c2) ∧ W'.cell? ⟨G, 2, none⟩ = some (.slice a3 c.takers.length c3) ∧ W'.cell? ⟨G, 3, none⟩ = some (.int .i64 c.nextSeq) ∧ W'.cell? ⟨G, 4, none⟩ = some (.int .i64 c.nextTag) ∧ W'.cell? ⟨G, 5, none⟩ = some (.int .i64 c.came) ∧ W'.cell? ⟨G, 6, none⟩ = some (.int .i64 c.acked) ∧ W'.cell? ⟨G, 7, none⟩ = some (.int .i64 c.dropped)))) := Lib.hid fun W' hW => by
    have h1 := HIN.out _ (HRR.out.below.trans (hW.mono HRR.out.st.size))
    have h2 := HRR.out.st.since hW
    exact ⟨h1.plan, h1.outs, (hW.cell (p := ⟨ob, _, none⟩) HOB.out).trans HE0.out, h2.box.cell 0, h2.box.cell 1, h2.box.cell 2, h2.box.cell 3, h2.box.cell 4, h2.box.cell 5, h2.box.cell 6, h2.box.cell 7⟩
   have HCALL : Hid (∀ W', Below wr.heap.size wr W' → Calls Tryz.prog 18 #[.agg #[.slice p1 p.posts.length q1, .slice p2 p.queues.length q2, .slice p3 p.binds.length q3], .agg #[.slice a1 c.ready.length c1, .slice a2 c.outs.length c2, .slice a3 c.takers.length c3, .int .i64 c.nextSeq, .int .i64 c.nextTag, .int .i64 c.came, .int .i64 c.acked, .int .i64 c.dropped], .int .i64 x.tag, .bool true] W' (StPostC (rejectS p c x.tag true) (rejectErr p c x.tag) W')) := Lib.hid fun W' hW => by
    have h1 := HIN.out _ (HRR.out.below.trans (hW.mono HRR.out.st.size))
    have h2 := (HRR.out.st.since hW).held.stateAt.1
    exact RejectOf_any p c x.tag true p1 p2 p3 a1 a2 a3 q1 q2 q3 c1 c2 c3 rows W' h1.env h1.planAt HPS.out (h2.wider (Nat.zero_le _) (Nat.le_refl _)) hrr.small hrr.ints hc2
   clear hc2 hrr
   refine lo_reg X0 X1 X2 G n oc ob oo i p p1 p2 p3 q1 q2 q3 t0 x.tag (rejectErr p c x.tag) c (rejectS p c x.tag true) a1 a2 a3 c1 c2 c3 wr hlt HS.out HCALL.out _ ?_ _ rfl
   rintro t nb b1 b2 b3 d1 d2 d3 rows' W2 ht hk2 hh2 hb2 hnb
   obtain ⟨u, rfl⟩ := lo2_open ht
   clear ht HS HCALL
   have HB2 := Lib.hid (HRR.out.below.trans (hb2.mono HRR.out.st.size))
   have hg2 := HRR.out.st.box.below hb2 HRR.out.st.box.lt
   have HRX := Lib.hid (And.intro hk2 (And.intro hh2 (And.intro hg2 (hb2.size))))
   have HGL := Lib.hid HRR.out.st.gl
   have HSZ := Lib.hid HRR.out.st.size
   by_cases he : rejectErr p c x.tag = 0
   ·have be : (rejectErr p c x.tag != 0) = false := by simp [he]
    have HAT := Lib.hid (HBK.out HX.out he)
    clear he
    generalize rejectS p c x.tag true = X at *
    obtain ⟨z0, z1, z2, z3, z4, z5, z6, z7, _, _, _, _, _, _, _, _, _⟩ := zero_cells hk2
    have hg3 : Bk W2 G 31 #[.slice a1 c.ready.length c1, .slice a2 c.outs.length c2, .slice a3 c.takers.length c3, .int .i64 c.nextSeq, .int .i64 c.nextTag, .int .i64 c.came, .int .i64 c.acked, .int .i64 c.dropped] := hg2
    obtain ⟨k0, k1, k2, k3, k4, k5, k6, k7, f0, f1, f2, f3, f4, f5, f6, f7, hltg⟩ := zero_cells hg3
    have hk8 := KeepsT.set8 HRX.out.2.2.1 (ts := [31]) (by decide) (.slice b1 X.ready.length d1) (.slice b2 X.outs.length d2) (.slice b3 X.takers.length d3) (.int .i64 X.nextSeq) (.int .i64 X.nextTag) (.int .i64 X.came) (.int .i64 X.acked) (.int .i64 X.dropped)
    have HNX := Lib.hid (show LoS lo G p s t0 Wb (i + 1) X (.slice b1 X.ready.length d1) (.slice b2 X.outs.length d2) (.slice b3 X.takers.length d3) rows' _ from ⟨HAT.out, ⟨Nat.le_trans HSZ.out (Nat.le_trans HRX.out.2.2.2 (by simp)), (((((((HRX.out.2.2.1.set_ 0 (.slice b1 X.ready.length d1)).set_ 1 (.slice b2 X.outs.length d2)).set_ 2 (.slice b3 X.takers.length d3)).set_ 3 (.int .i64 X.nextSeq)).set_ 4 (.int .i64 X.nextTag)).set_ 5 (.int .i64 X.came)).set_ 6 (.int .i64 X.acked)).set_ 7 (.int .i64 X.dropped), (HRX.out.2.1.kept hk8).wider HSZ.out, HGL.out⟩, below_set8 HB2.out HGL.out _ _ _ _ _ _ _ _⟩)
    clear hk2 hh2 hb2 hnb hg2 hg3 hk8
    go_wp2_with fail
    exact ⟨HR.out _ _ _ _ _ _ _ rfl rfl _ HNX.out, by simp [intOf]; omega⟩
   ·have be : (rejectErr p c x.tag != 0) = true := by simp [he]
    have HE := Lib.hid (And.intro he (by rw [(HST.out HX.out he).1] : (leaveL p t0 s.outs s).2 = rejectErr p c x.tag))
    clear he hk2 hh2 hb2 hnb hg2
    have hzk := (HIN.out _ HB2.out).zero
    unfold zeroCells at hzk
    obtain ⟨k0, k1, k2, k3, k4, k5, k6, k7, f0, f1, f2, f3, f4, f5, f6, f7, hltg⟩ := zero_cells hzk
    clear hzk
    go_wp2_with fail
    exact HRET.out _ _ _ rfl HE.out.1 HE.out.2 (zero_set8 (HIN.out _ HB2.out).zero) (below_set8 (HIN.out _ HB2.out).below HX2.out.2 _ _ _ _ _ _ _ _)
  ·have bx : (x.taker != t0) = true := by simp [hx]
   have HNX := Lib.hid (show LoS lo G p s t0 Wb (i + 1) c v1 v2 v3 rows wr from ⟨HSK.out hx, HRR.out.st, HRR.out.below⟩)
   clear hx
   go_wp2_with fail
   exact ⟨HR.out _ _ _ _ _ _ _ rfl rfl _ HNX.out, by simp [intOf]; omega⟩
 ·obtain rfl : i = n := by omega
  have hj3 : ¬ (i : Int) < (i : Int) := by omega
  have HF := Lib.hid hR
  clear hR
  go_wp2_with fail
  exact HEND.out _ i _ _ _ _ _ _ rfl HF.out
set_option maxHeartbeats 8000000 in
theorem LeaveOf_any (p : PlanD) (s : StateD) (t0 : Int) (ht0 : -9223372036854775808 ≤ t0 ∧ t0 ≤ 9223372036854775807) (p1 p2 p3 a1 a2 a3 : Option Addr) (q1 q2 q3 c1 c2 c3 : Nat) (rows : List RowD) (w : World) (hE : Env w) (hp : PlanAt w 0 w.heap.size p1 p2 p3 p) (hps : PlanSmall p) (hs : StateAt w 0 w.heap.size a1 a2 a3 rows s) (hss : StateSmall s) (hsi : StateInts s) :
  Calls Tryz.prog 22 #[planV p p1 p2 p3 q1 q2 q3, stateV s a1 a2 a3 c1 c2 c3, .int .i64 t0] w (StPostC (leaveS p s t0) (leaveErr p s t0) w) := by
 have HPQ := Lib.hid hp
 have hbx := two_boxes q1 q2 q3 c1 c2 c3 hE hp hs 26 31
 unfold vState at hbx
 unfold stateV planV vState
 have htl := hss.takers
 have HPS := Lib.hid hps
 have HSS := Lib.hid hss
 have HSI := Lib.hid hsi
 clear hE hp hs hps hss hsi
 go_enter Tryz.func22, Tryz.ntmps22
 obtain ⟨⟨m0, m1, m2⟩, ⟨n0, n1, n2, n3, n4, n5, n6, n7⟩, _, _, _, _⟩ := hbx _ ((Below.refl _ _).alloc (Nat.le_refl _) (.cells #[.slice none 0 0, .slice none 0 0, .slice none 0 0, .int .i64 0, .int .i64 0, .int .i64 0, .int .i64 0, .int .i64 0] 31))
 go_wp2_with fail
 clear m0 m1 m2 n0 n1 n2 n3 n4 n5 n6 n7
 obtain ⟨V0, hV0⟩ : ∃ V0, ((w.alloc (.cells #[.slice p1 p.posts.length q1, .slice p2 p.queues.length q2, .slice p3 p.binds.length q3] 26)).alloc (.cells #[Value.slice a1 s.ready.length c1, Value.slice a2 s.outs.length c2, Value.slice a3 s.takers.length c3, Value.int IntKind.i64 s.nextSeq, Value.int IntKind.i64 s.nextTag, Value.int IntKind.i64 s.came, Value.int IntKind.i64 s.acked, Value.int IntKind.i64 s.dropped] 31)) = V0 := ⟨_, rfl⟩
 have hzV : V0.heap.size = w.heap.size + 1 + 1 := by rw [← hV0]; simp
 rw [hV0] at hbx
 have HBV := Lib.hid hbx
 obtain ⟨W0, hW0⟩ : ∃ W0, V0.alloc (.cells #[.slice none 0 0, .slice none 0 0, .slice none 0 0, .int .i64 0, .int .i64 0, .int .i64 0, .int .i64 0, .int .i64 0] 31) = W0 := ⟨_, rfl⟩
 have hbV : Below V0.heap.size V0 W0 := by rw [← hW0]; exact (Below.refl _ _).alloc (Nat.le_refl _) _
 have HZ : Hid (W0.heap.size = w.heap.size + 1 + 1 + 1) := by refine (?_ : W0.heap.size = _); rw [← hW0, ← hzV]; simp
 have HBX : Hid (∀ W, Below W0.heap.size W0 W → CkIn w p s p1 p2 p3 a1 a2 a3 q1 q2 q3 c1 c2 c3 rows W ∧ Bk W (w.heap.size + 1 + 1) 31 zeroCells) := fun W hW => by
  have k : Bk W0 (w.heap.size + 1 + 1) 31 zeroCells := by rw [← hW0]; exact Bk.new_at _ _ _ hzV.symm
  exact ⟨HBV.out W (hbV.trans (hW.mono hbV.size)), k.below hW k.lt⟩
 rw [hV0, hW0]
 clear hbx hbV hzV HBV hV0 hW0
 have hcall := CheckState_any p s p1 p2 p3 a1 a2 a3 q1 q2 q3 c1 c2 c3 rows W0 (HBX.out _ (Below.refl _ _)).1.env (HBX.out _ (Below.refl _ _)).1.planAt HPS.out (HBX.out _ (Below.refl _ _)).1.stateAt HSS.out HSI.out
 unfold stateV planV vState at hcall
 refine hcall.mono ?_
 clear hcall
 rintro e W1 ⟨rfl, hb1⟩
 have HB1 := Lib.hid hb1
 clear hb1
 by_cases hc : stateErr p s = 0
 ·have b1 : (stateErr p s != 0) = false := by simp [hc]
  have HC := Lib.hid hc
  have HRT := Lib.hid (right_iff.1 hc)
  have hmany := HRT.out.many
  have hwr : IntKind.i64.wrap ((s.takers.length : Int) - 1) = (s.takers.length : Int) - 1 := IntWalk.i64_in _ (by omega)
  have n2 := (HBX.out _ HB1.out).1.state.2.2.1
  have HLE : Hid (leaveErr p s t0 = if noTaker s t0 then 5 else (leaveL p t0 s.outs s).2) := Lib.hid (by unfold leaveErr; rw [if_neg (by rw [hc]; decide)])
  have h5 : Hid (noTaker s t0 → leaveS p s t0 = zeroS ∧ leaveErr p s t0 = 5) := Lib.hid fun h => by
   have e : leaveErr p s t0 = 5 := by rw [HLE.out, if_pos h]
   exact ⟨by unfold leaveS; rw [if_neg (by rw [e]; decide)], e⟩
  clear hc
  by_cases hin : 0 ≤ t0 ∧ t0 ≤ (s.takers.length : Int) - 1
  ·obtain ⟨k, rfl⟩ := Int.eq_ofNat_of_zero_le hin.1
   have hkl : k < s.takers.length := by omega
   have hta : takerAt s (k : Int) = s.takers[k] := by unfold takerAt; rw [Int.toNat_natCast, List.getElem?_eq_getElem hkl]; rfl
   have h4 := taker_four HRT.out (List.getElem?_eq_getElem hkl)
   have hin2 : (decide (0 ≤ (k : Int)) && decide ((k : Int) ≤ (s.takers.length : Int) - 1)) = true := by simp; omega
   obtain ⟨tb, tt, rfl, _, htb, htc⟩ := sl_elem vTaker_len (by decide) (HBX.out _ HB1.out).1.stateAt.takers hkl
   have c0 : W1.cell? ⟨tb, tt + k * 2, none⟩ = some (.int .i64 s.takers[k].queue) := by simpa using htc 0 _ rfl
   have hkj : (k : Int) < (s.takers.length : Int) := by omega
   by_cases hq : s.takers[k].queue = -1
   ·have bq : (s.takers[k].queue == -1) = true := by simp [hq]
    have HY := Lib.hid (h5.out (.inr (.inr (by rw [hta]; omega))))
    clear hta htc h4 hq h5 HLE
    generalize s.takers[k] = tk at *
    go_wp2_with fail
    refine (within_any (k : Int) 0 ((s.takers.length : Int) - 1) W1).mono ?_
    rw [hin2]
    rintro e W2 ⟨rfl, rfl⟩
    have hzk := (HBX.out _ HB1.out).2
    unfold zeroCells at hzk
    obtain ⟨k0, k1, k2, k3, k4, k5, k6, k7, f0, f1, f2, f3, f4, f5, f6, f7, hlt⟩ := zero_cells hzk
    clear hzk
    go_wp2_with fail
    refine bodyPost_ret (v := .tuple #[stateV zeroS none none none 0 0 0, .int .i64 5]) (by simp [results, Tryz.results22, go_sem, stateV, vState, zeroS, k0, k1, k2, k3, k4, k5, k6, k7, hlt]) rfl ?_
    exact ⟨none, none, none, 0, 0, 0, [], by rw [HY.out.1, HY.out.2], by rw [HY.out.1]; exact held_zero _ _, below_set8 (HBX.out _ HB1.out).1.below (by omega) _ _ _ _ _ _ _ _⟩
   ·have bq : (s.takers[k].queue == -1) = false := by simp [hq]
    have hno : ¬ noTaker s (k : Int) := by unfold noTaker; rw [hta]; omega
    have HLL : Hid (leaveErr p s (k : Int) = (leaveL p (k : Int) s.outs s).2) := Lib.hid (by rw [HLE.out, if_neg hno])
    have HLS : Hid (∀ c, LeaveAt p s (k : Int) s.outs.length c → leaveErr p s (k : Int) = 0 ∧ leaveS p s (k : Int) = { c with takers := c.takers.set k ⟨-1, s.takers[k].atOnce⟩ }) := Lib.hid fun c hc => by
     have h0 : leaveErr p s (k : Int) = 0 := by rw [HLL.out, hc.end_.1]
     refine ⟨h0, ?_⟩
     unfold leaveS leaveF
     rw [if_pos h0, hc.end_.1, hta, Int.toNat_natCast, hc.takers]
    clear hta htc h4 hq h5 HLE hno
    generalize hTK : s.takers[k] = tk at *
    go_wp2_with fail
    refine (within_any (k : Int) 0 ((s.takers.length : Int) - 1) W1).mono ?_
    rw [hin2]
    rintro e W2 ⟨rfl, rfl⟩
    obtain ⟨n0, n1, n2, n3, n4, n5, n6, n7⟩ := (HBX.out _ HB1.out).1.state
    go_wp2_with fail
    have hcall := OwnState_any s a1 a2 (some ⟨tb, tt, none⟩) c1 c2 c3 rows W1 (HBX.out _ HB1.out).1.stateAt HSS.out
    unfold stateV vState at hcall
    refine hcall.mono ?_
    clear hcall n0 n1 n2 n3 n4 n5 n6 n7 c0
    rintro e W5 ⟨v1, v2, v3, rows5, rfl, ho5, hb5⟩
    unfold ownV
    obtain ⟨W6, hW6⟩ : ∃ W6, W5.alloc (.cells #[v1, v2, v3, .int .i64 s.nextSeq, .int .i64 s.nextTag, .int .i64 s.came, .int .i64 s.acked, .int .i64 s.dropped] 31) = W6 := ⟨_, rfl⟩
    have kb6 : Bk W6 W5.heap.size 31 (ownV s v1 v2 v3) := by rw [← hW6]; exact Bk.new _ _ _
    have hal6 : Below W5.heap.size W5 W6 := by rw [← hW6]; exact (Below.refl _ _).alloc (Nat.le_refl _) _
    have h16 : Below W1.heap.size W1 W6 := hb5.trans (hal6.mono hb5.size)
    have HB6 := Lib.hid (HB1.out.trans (h16.mono HB1.out.size))
    have HLO := Lib.hid (Nat.le_trans (HBX.out _ (Below.refl _ _)).1.below.size HB1.out.size)
    have HR6 := Lib.hid (show RefAt W6 W1.heap.size W5.heap.size v1 v2 v3 rows5 s from ⟨h16.size, kb6, (ho5.below hal6).held, hb5.size⟩)
    have HIN : Hid (∀ W, Below W1.heap.size W6 W → LoIn w.heap.size (w.heap.size + 1) (w.heap.size + 1 + 1) s.outs.length c2 a2 p p1 p2 p3 q1 q2 q3 s w W) := Lib.hid fun W hW => by
     have h1 := HBX.out W (HB6.out.trans (hW.mono HB1.out.size))
     exact ⟨h1.1.plan, h1.1.state.2.1, h1.1.stateAt.outs, h1.1.env, h1.1.planAt, h1.2, h1.1.below⟩
    obtain ⟨A1, C1, rfl, _⟩ := own_slice ho5.ready
    obtain ⟨A2, C2, rfl, _⟩ := own_slice ho5.outs
    obtain ⟨A3, C3, rfl, _⟩ := own_slice ho5.takers
    clear ho5 hb5 kb6 hal6 h16
    go_wp2_with fail
    clear hW6
    refine lo_loop W1.heap.size w.heap.size (w.heap.size + 1) (w.heap.size + 1 + 1) W5.heap.size s.outs.length c2 a2 p p1 p2 p3 q1 q2 q3 s (k : Int) w W6 rfl HSS.out.outs HPS.out (by have := HB1.out.size; have := HZ.out; omega) (by omega) HIN.out _ ?_ ?_ _ 0 s _ _ _ rows5 W6 rfl (Nat.zero_le _) ⟨LeaveAt.start HRT.out _, HR6.out, Below.refl _ _⟩
    ·rintro t i c u1 u2 u3 rows' W ht hL
     obtain ⟨u, rfl⟩ := lo1_open ht
     have hct := hL.at_.takers
     obtain ⟨he0, hS0⟩ := HLS.out c hL.at_
     have HY := Lib.hid (And.intro hS0 he0)
     have hkc : k < c.takers.length := by rw [hct]; exact hkl
     obtain ⟨B3, D3, rfl, _⟩ := own_slice hL.st.held.takers
     obtain ⟨g4, rfl⟩ := own_addr hL.st.held.takers (by omega)
     obtain ⟨⟨k0, f0, l0⟩, hgone, hbg⟩ := hL.st.gone hkc
     have htk : c.takers[k] = tk := by rw [← hTK]; simp only [hct]
     rw [htk] at hgone k0
     have n2 := hL.st.box.cell 2
     simp only [ownV, List.getElem?_toArray, List.getElem?_cons_zero, List.getElem?_cons_succ] at n2
     have hkc2 : (k : Int) < (c.takers.length : Int) := by omega
     obtain ⟨W8, hW8⟩ : ∃ W8, W.setCell ⟨g4, k * 2, none⟩ (.int .i64 (-1)) = W8 := ⟨_, rfl⟩
     rw [hW8] at hgone hbg
     have HB8 := Lib.hid (HB6.out.trans ((hL.below.trans hbg).mono HB1.out.size))
     obtain ⟨X, hX⟩ : ∃ X : StateD, ({ c with takers := c.takers.set k ⟨-1, tk.atOnce⟩ } : StateD) = X := ⟨_, rfl⟩
     have HX := Lib.hid hX
     rw [hX] at hgone
     obtain ⟨w1, w2, w3, h8⟩ : ∃ w1 w2 w3, RefAt W8 W1.heap.size W5.heap.size w1 w2 w3 rows' X := ⟨_, _, _, hgone⟩
     clear ht hgone hbg hL htk hct he0 hS0 hkc hX
     go_upto_region 16 with fail
     clear k0 f0 l0 n2 hW8 hkc2
     obtain ⟨A1, C1, rfl, _⟩ := own_slice h8.held.ready
     obtain ⟨A2, C2, rfl, _⟩ := own_slice h8.held.outs
     obtain ⟨A3, C3, rfl, _⟩ := own_slice h8.held.takers
     have g0 := h8.box.cell 0
     have g1 := h8.box.cell 1
     have g2 := h8.box.cell 2
     have g3 := h8.box.cell 3
     have g4 := h8.box.cell 4
     have g5 := h8.box.cell 5
     have g6 := h8.box.cell 6
     have g7 := h8.box.cell 7
     simp only [ownV, List.getElem?_toArray, List.getElem?_cons_zero, List.getElem?_cons_succ] at g0 g1 g2 g3 g4 g5 g6 g7
     have HH8 := Lib.hid h8
     clear h8
     have hzk := (HBX.out _ HB8.out).2
     have HZS := Lib.hid hzk
     unfold zeroCells at hzk
     obtain ⟨k0, k1, k2, k3, k4, k5, k6, k7, f0, f1, f2, f3, f4, f5, f6, f7, hlt⟩ := zero_cells hzk
     clear hzk
     go_wp2_with fail
     refine bodyPost_ret (v := .tuple #[.agg #[.slice A1 X.ready.length C1, .slice A2 X.outs.length C2, .slice A3 X.takers.length C3, .int .i64 X.nextSeq, .int .i64 X.nextTag, .int .i64 X.came, .int .i64 X.acked, .int .i64 X.dropped], .int .i64 0]) (by simp [results, Tryz.results22, go_sem, k0, k1, k2, k3, k4, k5, k6, k7, hlt]) rfl ?_
     have hfin := (HH8.out.held.kept (KeepsT.set8 HZS.out (ts := [31]) (by decide) (.slice A1 X.ready.length C1) (.slice A2 X.outs.length C2) (.slice A3 X.takers.length C3) (.int .i64 X.nextSeq) (.int .i64 X.nextTag) (.int .i64 X.came) (.int .i64 X.acked) (.int .i64 X.dropped)))
     refine ⟨A1, A2, A3, C1, C2, C3, _, (by rw [HY.out.1, HX.out, HY.out.2]; rfl), (by rw [HY.out.1, HX.out]; exact hfin.wider HLO.out), below_set8 (HBX.out _ HB8.out).1.below (by omega) _ _ _ _ _ _ _ _⟩
    ·rintro t er W ht he hl hz hb
     obtain ⟨u, rfl⟩ := lor_open ht
     have e2 : leaveErr p s (k : Int) = er := by rw [HLL.out, hl]
     have HY := Lib.hid (And.intro (show leaveS p s (k : Int) = zeroS by unfold leaveS; rw [if_neg (by rw [e2]; exact he)]) e2)
     have HB := Lib.hid hb
     have hzk := hz
     unfold zeroCells at hzk
     obtain ⟨k0, k1, k2, k3, k4, k5, k6, k7, f0, f1, f2, f3, f4, f5, f6, f7, hlt⟩ := zero_cells hzk
     clear hzk ht he hl hz hb e2
     go_wp2_with fail
     refine bodyPost_ret (v := .tuple #[stateV zeroS none none none 0 0 0, .int .i64 er]) (by simp [results, Tryz.results22, go_sem, stateV, vState, zeroS, k0, k1, k2, k3, k4, k5, k6, k7, hlt]) rfl ?_
     exact ⟨none, none, none, 0, 0, 0, [], by rw [HY.out.1, HY.out.2], by rw [HY.out.1]; exact held_zero _ _, HB.out⟩
  ·have HY := Lib.hid (h5.out (by unfold noTaker; omega))
   have hin2 : (decide (0 ≤ t0) && decide (t0 ≤ (s.takers.length : Int) - 1)) = false := by
    rw [Bool.and_eq_false_iff]
    simp only [decide_eq_false_iff_not]
    omega
   clear hin h5 HLE
   go_wp2_with fail
   refine (within_any t0 0 ((s.takers.length : Int) - 1) W1).mono ?_
   rw [hin2]
   rintro e W2 ⟨rfl, rfl⟩
   have hzk := (HBX.out _ HB1.out).2
   unfold zeroCells at hzk
   obtain ⟨k0, k1, k2, k3, k4, k5, k6, k7, f0, f1, f2, f3, f4, f5, f6, f7, hlt⟩ := zero_cells hzk
   clear hzk
   go_wp2_with fail
   refine bodyPost_ret (v := .tuple #[stateV zeroS none none none 0 0 0, .int .i64 5]) (by simp [results, Tryz.results22, go_sem, stateV, vState, zeroS, k0, k1, k2, k3, k4, k5, k6, k7, hlt]) rfl ?_
   exact ⟨none, none, none, 0, 0, 0, [], by rw [HY.out.1, HY.out.2], by rw [HY.out.1]; exact held_zero _ _, below_set8 (HBX.out _ HB1.out).1.below (by omega) _ _ _ _ _ _ _ _⟩
 ·have b1 : (stateErr p s != 0) = true := by simp [hc]
  have he : leaveErr p s t0 = stateErr p s := by unfold leaveErr; rw [if_pos hc]
  have HY := Lib.hid (And.intro (show leaveS p s t0 = zeroS by unfold leaveS; rw [if_neg (by rw [he]; exact hc)]) he)
  clear he
  have hzk := (HBX.out _ HB1.out).2
  unfold zeroCells at hzk
  obtain ⟨k0, k1, k2, k3, k4, k5, k6, k7, f0, f1, f2, f3, f4, f5, f6, f7, hlt⟩ := zero_cells hzk
  clear hzk
  go_wp2_with fail
  refine bodyPost_ret (v := .tuple #[stateV zeroS none none none 0 0 0, .int .i64 (stateErr p s)]) (by simp [results, Tryz.results22, go_sem, stateV, vState, zeroS, k0, k1, k2, k3, k4, k5, k6, k7, hlt]) rfl ?_
  exact ⟨none, none, none, 0, 0, 0, [], by rw [HY.out.1, HY.out.2], by rw [HY.out.1]; exact held_zero _ _, below_set8 (HBX.out _ HB1.out).1.below (by omega) _ _ _ _ _ _ _ _⟩
end Go.Proofs.YtaanpcjkflhomaaGreatDoor
