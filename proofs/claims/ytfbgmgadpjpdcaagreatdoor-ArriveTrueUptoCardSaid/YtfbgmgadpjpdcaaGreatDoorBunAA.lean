/-
  Parts of a line that reads; a slice cut at its end.
  The law's choose, walked.
  The law ArriveTrue: how many old letters lie in front, counted.
  The law ArriveTrue answers true.
-/
import Derived.Test.YtfbgmgadpjpdcaaGreatDoorLinesGA
import Derived.Test.YtfbgmgadpjpdcaaGreatDoorBunB
import Derived.Test.YtfbgmgadpjpdcaaGreatDoorBunA
import Derived.Test.YtfbgmgadpjpdcaaGreatDoorBunT
import Derived.Test.YtfbgmgadpjpdcaaGreatDoorBunG
import Derived.Deep.CutRange
set_option linter.unusedSimpArgs false
set_option linter.unusedVariables false
namespace Go.Proofs.YtfbgmgadpjpdcaaGreatDoor
open Go Go.RowKit
set_option maxRecDepth 100000

theorem line_drop {w : World} {lo hi : Nat} {a : Option Addr} {l : List ItemD} {c k : Nat} (h : Sl w lo hi a (l.flatMap vItem)) (hk : k ≤ l.length) (hc : l.length ≤ c) : Sl w lo hi (cutA a c k 5) ((l.drop k).flatMap vItem) := by
  rw [← flat_dropN vItem_len]
  exact h.cut (flat_len vItem_len l) hk hc
theorem line_take {w : World} {lo hi : Nat} {a : Option Addr} {l : List ItemD} {k : Nat} (h : Sl w lo hi a (l.flatMap vItem)) : Sl w lo hi a ((l.take k).flatMap vItem) := by
  rw [← flat_takeN vItem_len]
  exact h.take _

theorem run_cutHi {P : Program} {t size : Nat} (ht : P.underlying t = some (.slice (P.elem t))) (hs : ∀ w, (sizeOf (P.elem t)).run P w = .ok size w) (a : Option Addr) (len cap k : Nat) (i : Int) (hi : i = (k : Int)) (hk : k ≤ cap) (w : World) :
    (Instr.slice t (.slice a len cap) none (some (.int .i64 i)) none).run P w = .ok (.slice a k cap) w := by
  subst hi
  rw [run_slice_h w t a len cap ht .i64 k (by omega) (by omega), hs]
  cases a with
  | none => simp [sliced, Result.andThen]
  | some a => simp [sliced, Result.andThen, Addr.add]


end Go.Proofs.YtfbgmgadpjpdcaaGreatDoor

namespace Go.Proofs.YtfbgmgadpjpdcaaGreatDoor
open Go.RowKit
set_option maxRecDepth 100000

set_option maxHeartbeats 400000 in
theorem choose_any (c : Int) (n : Int) (w : World) (h0 : -9223372036854775808 ≤ c) (h1 : c ≤ 9223372036854775807) (hn : 1 ≤ n) (hn2 : n ≤ 1048576) :
    Calls Tryz.prog 19 #[.int .i64 c, .int .i64 n] w fun e w' => ∃ r : Nat, (r : Int) < n ∧ e = .returned (.int .i64 r) ∧ w = w' := by
  by_cases hc : c < 0
  · have hr : -((c + 1).tmod n) = (((-(c + 1)) % n).toNat : Int) := by
      rw [← Int.neg_tmod, Int.tmod_eq_emod_of_nonneg (by omega), Int.toNat_of_nonneg (Int.emod_nonneg _ (by omega))]
    have hl : (-(c + 1)) % n < n := Int.emod_lt_of_pos _ (by omega)
    have hz : 0 ≤ (-(c + 1)) % n := Int.emod_nonneg _ (by omega)
    have HR := Lib.hid (And.intro hr (And.intro hl hz)); clear hr hl hz
    go_enter Tryz.func19, Tryz.ntmps19
    go_wp2
    go_ret
    exact ⟨((-(c + 1)) % n).toNat, by have := HR.out; omega, by rw [← HR.out.1]; rfl, rfl⟩
  · have hl : c % n < n := Int.emod_lt_of_pos _ (by omega)
    have hz : 0 ≤ c % n := Int.emod_nonneg _ (by omega)
    have HR := Lib.hid (And.intro hl hz); clear hl hz
    go_enter Tryz.func19, Tryz.ntmps19
    go_wp2
    go_ret
    exact ⟨(c % n).toNat, by have := HR.out; omega, by rw [Int.toNat_of_nonneg HR.out.2]; rfl, rfl⟩

end Go.Proofs.YtfbgmgadpjpdcaaGreatDoor

namespace Go.Proofs.YtfbgmgadpjpdcaaGreatDoor
open Go Go.RowKit
set_option maxRecDepth 100000

def at1_T (P0 S0 g r j : Nat) (t : Array Value) : Array Value := #[t.getD 0 undef, t.getD 1 undef, t.getD 2 undef, t.getD 3 undef, .pointer (some ⟨P0, 0, none⟩), .pointer (some ⟨S0, 0, none⟩), t.getD 6 undef, t.getD 7 undef, .bool false, .pointer (some ⟨g, 0, none⟩), t.getD 10 undef, t.getD 11 undef, t.getD 12 undef, .int .i64 (r : Int), .int .i64 (j : Int), t.getD 15 undef, t.getD 16 undef, t.getD 17 undef, t.getD 18 undef, t.getD 19 undef, t.getD 20 undef, t.getD 21 undef, t.getD 22 undef, t.getD 23 undef, t.getD 24 undef, t.getD 25 undef, t.getD 26 undef, t.getD 27 undef, t.getD 28 undef, t.getD 29 undef, t.getD 30 undef, t.getD 31 undef, t.getD 32 undef, t.getD 33 undef, t.getD 34 undef, t.getD 35 undef, t.getD 36 undef, t.getD 37 undef, t.getD 38 undef, t.getD 39 undef, t.getD 40 undef, t.getD 41 undef, t.getD 42 undef, t.getD 43 undef, t.getD 44 undef, t.getD 45 undef, t.getD 46 undef, t.getD 47 undef, t.getD 48 undef, t.getD 49 undef, t.getD 50 undef, t.getD 51 undef, t.getD 52 undef, t.getD 53 undef, t.getD 54 undef, t.getD 55 undef, t.getD 56 undef, t.getD 57 undef, t.getD 58 undef, t.getD 59 undef, t.getD 60 undef, t.getD 61 undef, t.getD 62 undef, t.getD 63 undef, t.getD 64 undef, t.getD 65 undef, t.getD 66 undef, t.getD 67 undef, t.getD 68 undef, t.getD 69 undef, t.getD 70 undef, t.getD 71 undef, t.getD 72 undef, t.getD 73 undef, t.getD 74 undef, t.getD 75 undef, t.getD 76 undef, t.getD 77 undef, t.getD 78 undef, t.getD 79 undef, t.getD 80 undef, t.getD 81 undef, t.getD 82 undef, t.getD 83 undef, t.getD 84 undef, t.getD 85 undef, t.getD 86 undef, t.getD 87 undef, t.getD 88 undef, t.getD 89 undef, t.getD 90 undef, t.getD 91 undef, t.getD 92 undef, t.getD 93 undef, t.getD 94 undef, t.getD 95 undef, t.getD 96 undef, t.getD 97 undef, t.getD 98 undef, t.getD 99 undef, t.getD 100 undef, t.getD 101 undef, t.getD 102 undef, t.getD 103 undef, t.getD 104 undef, t.getD 105 undef, t.getD 106 undef, t.getD 107 undef, t.getD 108 undef, t.getD 109 undef, t.getD 110 undef, t.getD 111 undef, t.getD 112 undef, t.getD 113 undef, t.getD 114 undef, t.getD 115 undef, t.getD 116 undef, t.getD 117 undef, t.getD 118 undef, t.getD 119 undef, t.getD 120 undef, t.getD 121 undef, t.getD 122 undef, t.getD 123 undef, t.getD 124 undef, t.getD 125 undef, t.getD 126 undef, t.getD 127 undef, t.getD 128 undef, t.getD 129 undef, t.getD 130 undef, t.getD 131 undef, t.getD 132 undef, t.getD 133 undef, t.getD 134 undef, t.getD 135 undef, t.getD 136 undef, t.getD 137 undef, t.getD 138 undef, t.getD 139 undef, t.getD 140 undef, t.getD 141 undef, t.getD 142 undef, t.getD 143 undef, t.getD 144 undef, t.getD 145 undef, t.getD 146 undef, t.getD 147 undef, t.getD 148 undef, t.getD 149 undef, t.getD 150 undef, t.getD 151 undef, t.getD 152 undef, t.getD 153 undef, t.getD 154 undef, t.getD 155 undef, t.getD 156 undef, t.getD 157 undef, t.getD 158 undef, t.getD 159 undef, t.getD 160 undef]
theorem at1_open {P0 S0 g r j : Nat} {t : Array Value} (h : t = (at1_T P0 S0 g r j t)) : ∃ u : Nat → Value, t = #[u 0, u 1, u 2, u 3, .pointer (some ⟨P0, 0, none⟩), .pointer (some ⟨S0, 0, none⟩), u 6, u 7, .bool false, .pointer (some ⟨g, 0, none⟩), u 10, u 11, u 12, .int .i64 (r : Int), .int .i64 (j : Int), u 15, u 16, u 17, u 18, u 19, u 20, u 21, u 22, u 23, u 24, u 25, u 26, u 27, u 28, u 29, u 30, u 31, u 32, u 33, u 34, u 35, u 36, u 37, u 38, u 39, u 40, u 41, u 42, u 43, u 44, u 45, u 46, u 47, u 48, u 49, u 50, u 51, u 52, u 53, u 54, u 55, u 56, u 57, u 58, u 59, u 60, u 61, u 62, u 63, u 64, u 65, u 66, u 67, u 68, u 69, u 70, u 71, u 72, u 73, u 74, u 75, u 76, u 77, u 78, u 79, u 80, u 81, u 82, u 83, u 84, u 85, u 86, u 87, u 88, u 89, u 90, u 91, u 92, u 93, u 94, u 95, u 96, u 97, u 98, u 99, u 100, u 101, u 102, u 103, u 104, u 105, u 106, u 107, u 108, u 109, u 110, u 111, u 112, u 113, u 114, u 115, u 116, u 117, u 118, u 119, u 120, u 121, u 122, u 123, u 124, u 125, u 126, u 127, u 128, u 129, u 130, u 131, u 132, u 133, u 134, u 135, u 136, u 137, u 138, u 139, u 140, u 141, u 142, u 143, u 144, u 145, u 146, u 147, u 148, u 149, u 150, u 151, u 152, u 153, u 154, u 155, u 156, u 157, u 158, u 159, u 160] := ⟨fun i => t.getD i undef, h⟩

noncomputable def atLoop : Code := loopAt Tryz.f4 0
structure AtIn (S0 g xb xo r m xc rc : Nat) (ra : Option Addr) (b : Int) (line : List ItemD) (W : World) : Prop where
  seq : W.cell? ⟨S0, 3, none⟩ = some (.int .i64 b)
  ready : W.cell? ⟨g, 0, none⟩ = some (.slice (some ⟨xb, xo, none⟩) m xc)
  row : W.cell? ⟨xb, xo + r, none⟩ = some (.slice ra line.length rc)
  items : Sl W 0 W.heap.size ra (line.flatMap vItem)
def at1_inv (P0 S0 g xb xo r m xc rc : Nat) (ra : Option Addr) (b : Int) (line : List ItemD) (W0 : World) (a : Act) (wr : World) : Prop :=
  ∃ (t : Array Value) (j : Nat), t = (at1_T P0 S0 g r j t) ∧ j ≤ oldN b line ∧ Below W0.heap.size W0 wr ∧ a = ⟨t, []⟩
set_option maxHeartbeats 4000000 in
theorem at_loop (P0 S0 g xb xo r m xc rc : Nat) (ra : Option Addr) (b : Int) (line : List ItemD) (hr : r < m) (hln : line.length ≤ 1048576) (W0 : World) (hIn : ∀ W, Below W0.heap.size W0 W → AtIn S0 g xb xo r m xc rc ra b line W) (Q0 : Exit → Act → World → Prop)
    (hend : ∀ (t : Array Value) (j : Nat) (W : World), t = (at1_T P0 S0 g r j t) → j = oldN b line → Below W0.heap.size W0 W → Q0 (.exit 0) ⟨t, []⟩ W) (t : Array Value) (j : Nat) (W : World) (ht : t = (at1_T P0 S0 g r j t)) (hj : j ≤ oldN b line) (hW : Below W0.heap.size W0 W) :
    (Code.loop atLoop).wp Tryz.prog Q0 ⟨t, []⟩ W := by
  refine wp_loop (at1_inv P0 S0 g xb xo r m xc rc ra b line W0) (fun a _ => line.length + 1 - (intOf (a.tmps.getD 14 undef)).toNat) ⟨t, j, ht, hj, hW, rfl⟩ ?_
  clear ht hj hW t j W
  rintro a' wr ⟨t, j, ht, hj, hW, rfl⟩
  obtain ⟨u, rfl⟩ := at1_open ht
  clear ht
  have HEND := Lib.hid hend
  clear hend
  have hold := oldN_le b line
  have hd : Below W0.heap.size W0 wr.drew := hW.drew
  have HV := Lib.hid hd
  have hrr : (r : Int) < (m : Int) := by omega
  conv => arg 2; whnf
  by_cases hjl : j < line.length
  · have hj2 : (j : Int) < (line.length : Int) := by omega
    have hin := hIn _ hd
    obtain ⟨ib, io, rfl, _, _, hi⟩ := sl_elem vItem_len (by decide) hin.items hjl
    have hi0 : wr.drew.cell? ⟨ib, io + j * 5, none⟩ = some (.int .i64 line[j].seq) := by simpa using hi 0 _ rfl
    have hget : line[j]? = some line[j] := List.getElem?_eq_getElem hjl
    have hst := oldN_step hj
    rw [hget] at hst
    simp only [Option.some.injEq, forall_eq'] at hst
    generalize line[j].seq = sq at *
    have e0 : (wr.drew.cell? ⟨S0, 3, none⟩ = some (.int .i64 b) ∧ wr.drew.cell? ⟨g, 0, none⟩ = some (.slice (some ⟨xb, xo, none⟩) m xc) ∧ wr.drew.cell? ⟨xb, xo + r, none⟩ = some (.slice (some ⟨ib, io, none⟩) line.length rc) ∧ wr.drew.cell? ⟨ib, io + j * 5, none⟩ = some (.int .i64 sq)) := ⟨hin.seq, hin.ready, hin.row, hi0⟩
    clear hi hi0 hget hin
    by_cases hb : sq < b
    · have HJ : Hid (j + 1 ≤ oldN b line) := Lib.hid (by omega)
      have HR : Hid (∀ (t : Array Value) (j' : Nat) (W : World), j' = j + 1 → t = #[t.getD 0 undef, t.getD 1 undef, t.getD 2 undef, t.getD 3 undef, .pointer (some ⟨P0, 0, none⟩), .pointer (some ⟨S0, 0, none⟩), t.getD 6 undef, t.getD 7 undef, .bool false, .pointer (some ⟨g, 0, none⟩), t.getD 10 undef, t.getD 11 undef, t.getD 12 undef, .int .i64 (r : Int), .int .i64 (j' : Int), t.getD 15 undef, t.getD 16 undef, t.getD 17 undef, t.getD 18 undef, t.getD 19 undef, t.getD 20 undef, t.getD 21 undef, t.getD 22 undef, t.getD 23 undef, t.getD 24 undef, t.getD 25 undef, t.getD 26 undef, t.getD 27 undef, t.getD 28 undef, t.getD 29 undef, t.getD 30 undef, t.getD 31 undef, t.getD 32 undef, t.getD 33 undef, t.getD 34 undef, t.getD 35 undef, t.getD 36 undef, t.getD 37 undef, t.getD 38 undef, t.getD 39 undef, t.getD 40 undef, t.getD 41 undef, t.getD 42 undef, t.getD 43 undef, t.getD 44 undef, t.getD 45 undef, t.getD 46 undef, t.getD 47 undef, t.getD 48 undef, t.getD 49 undef, t.getD 50 undef, t.getD 51 undef, t.getD 52 undef, t.getD 53 undef, t.getD 54 undef, t.getD 55 undef, t.getD 56 undef, t.getD 57 undef, t.getD 58 undef, t.getD 59 undef, t.getD 60 undef, t.getD 61 undef, t.getD 62 undef, t.getD 63 undef, t.getD 64 undef, t.getD 65 undef, t.getD 66 undef, t.getD 67 undef, t.getD 68 undef, t.getD 69 undef, t.getD 70 undef, t.getD 71 undef, t.getD 72 undef, t.getD 73 undef, t.getD 74 undef, t.getD 75 undef, t.getD 76 undef, t.getD 77 undef, t.getD 78 undef, t.getD 79 undef, t.getD 80 undef, t.getD 81 undef, t.getD 82 undef, t.getD 83 undef, t.getD 84 undef, t.getD 85 undef, t.getD 86 undef, t.getD 87 undef, t.getD 88 undef, t.getD 89 undef, t.getD 90 undef, t.getD 91 undef, t.getD 92 undef, t.getD 93 undef, t.getD 94 undef, t.getD 95 undef, t.getD 96 undef, t.getD 97 undef, t.getD 98 undef, t.getD 99 undef, t.getD 100 undef, t.getD 101 undef, t.getD 102 undef, t.getD 103 undef, t.getD 104 undef, t.getD 105 undef, t.getD 106 undef, t.getD 107 undef, t.getD 108 undef, t.getD 109 undef, t.getD 110 undef, t.getD 111 undef, t.getD 112 undef, t.getD 113 undef, t.getD 114 undef, t.getD 115 undef, t.getD 116 undef, t.getD 117 undef, t.getD 118 undef, t.getD 119 undef, t.getD 120 undef, t.getD 121 undef, t.getD 122 undef, t.getD 123 undef, t.getD 124 undef, t.getD 125 undef, t.getD 126 undef, t.getD 127 undef, t.getD 128 undef, t.getD 129 undef, t.getD 130 undef, t.getD 131 undef, t.getD 132 undef, t.getD 133 undef, t.getD 134 undef, t.getD 135 undef, t.getD 136 undef, t.getD 137 undef, t.getD 138 undef, t.getD 139 undef, t.getD 140 undef, t.getD 141 undef, t.getD 142 undef, t.getD 143 undef, t.getD 144 undef, t.getD 145 undef, t.getD 146 undef, t.getD 147 undef, t.getD 148 undef, t.getD 149 undef, t.getD 150 undef, t.getD 151 undef, t.getD 152 undef, t.getD 153 undef, t.getD 154 undef, t.getD 155 undef, t.getD 156 undef, t.getD 157 undef, t.getD 158 undef, t.getD 159 undef, t.getD 160 undef] → Below W0.heap.size W0 W → at1_inv P0 S0 g xb xo r m xc rc (some ⟨ib, io, none⟩) b line W0 ⟨t, []⟩ W) :=
        Lib.hid fun t j' W hj' ht hW => ⟨t, j', ht, by rw [hj']; exact HJ.out, hW, rfl⟩
      clear hst hj hW hd hold
      go_wp2_with fail
      refine region_calm ?_
      refine nw_lay [(0, false), (1, false), (2, false), (3, false), (4, false), (5, false), (6, false), (7, false), (8, false), (9, false), (10, false), (11, false), (12, false), (13, false), (14, false), (15, false), (16, false), (17, false), (18, false), (19, false), (20, false), (21, false)] (by kernel_rfl) (fun hOrd => ?_)
      refine nw_go (S := (fun W => (W.cell? ⟨S0, 3, none⟩ = some (.int .i64 b) ∧ W.cell? ⟨g, 0, none⟩ = some (.slice (some ⟨xb, xo, none⟩) m xc) ∧ W.cell? ⟨xb, xo + r, none⟩ = some (.slice (some ⟨ib, io, none⟩) line.length rc) ∧ W.cell? ⟨ib, io + j * 5, none⟩ = some (.int .i64 sq)))) hOrd (by kernel_rfl) (by first | assumption | exact e0) (fun hHeld => ?_)
      clear hOrd
      iterate 22 ((first | (refine NW.take (v := ?_) rfl (fun _ _ _ h => h) (Or.inl ⟨by rfl, ?_⟩) ?_; rotate_left; focus (intro w hSw; (try dsimp only at hSw); go_simp; (all_goals with_reducible rfl); done)) | (refine NW.leave rfl (fun _ _ _ h => h) (by rfl) (by assumption) ?_)); try simp only [Act.put, List.setIfInBounds_toArray, List.set_cons_zero, List.set_cons_succ, List.getElem_toArray, List.getElem_cons_zero, List.getElem_cons_succ])
      refine NW.done ?_
      refine RQ0.normal ?_
      clear hHeld e0
      go_wp2
      exact ⟨HR.out _ _ _ rfl rfl HV.out, by simp [intOf]; omega⟩
    · have HJ := Lib.hid (hst.2 (by omega))
      clear hst hj hW hd hold
      go_wp2_with fail
      refine region_calm ?_
      refine nw_lay [(0, false), (1, false), (2, false), (3, false), (4, false), (5, false), (6, false), (7, false), (8, false), (9, false), (10, false), (11, false), (12, false), (13, false), (14, false), (15, false), (16, false), (17, false), (18, false), (19, false), (20, false), (21, false)] (by kernel_rfl) (fun hOrd => ?_)
      refine nw_go (S := (fun W => (W.cell? ⟨S0, 3, none⟩ = some (.int .i64 b) ∧ W.cell? ⟨g, 0, none⟩ = some (.slice (some ⟨xb, xo, none⟩) m xc) ∧ W.cell? ⟨xb, xo + r, none⟩ = some (.slice (some ⟨ib, io, none⟩) line.length rc) ∧ W.cell? ⟨ib, io + j * 5, none⟩ = some (.int .i64 sq)))) hOrd (by kernel_rfl) (by first | assumption | exact e0) (fun hHeld => ?_)
      clear hOrd
      iterate 22 ((first | (refine NW.take (v := ?_) rfl (fun _ _ _ h => h) (Or.inl ⟨by rfl, ?_⟩) ?_; rotate_left; focus (intro w hSw; (try dsimp only at hSw); go_simp; (all_goals with_reducible rfl); done)) | (refine NW.leave rfl (fun _ _ _ h => h) (by rfl) (by assumption) ?_)); try simp only [Act.put, List.setIfInBounds_toArray, List.set_cons_zero, List.set_cons_succ, List.getElem_toArray, List.getElem_cons_zero, List.getElem_cons_succ])
      refine NW.done ?_
      refine RQ0.normal ?_
      clear hHeld e0
      go_wp2
      exact HEND.out _ j _ rfl HJ.out HV.out
  · have hj3 : ¬ (j : Int) < (line.length : Int) := by omega
    have HJ := Lib.hid (show j = oldN b line by omega)
    have hin := hIn _ hd
    have e0 : (wr.drew.cell? ⟨S0, 3, none⟩ = some (.int .i64 b) ∧ wr.drew.cell? ⟨g, 0, none⟩ = some (.slice (some ⟨xb, xo, none⟩) m xc) ∧ wr.drew.cell? ⟨xb, xo + r, none⟩ = some (.slice ra line.length rc)) := ⟨hin.seq, hin.ready, hin.row⟩
    clear hin hj hW hd hold
    go_wp2_with fail
    refine region_calm ?_
    refine nw_lay [(0, false), (1, false), (2, false), (3, false), (4, false), (5, false), (6, false), (7, false), (8, false), (9, false), (10, false), (11, false), (12, false), (13, false), (14, false), (15, false), (16, false), (17, false), (18, false), (19, false), (20, false), (21, false)] (by kernel_rfl) (fun hOrd => ?_)
    refine nw_go (S := (fun W => (W.cell? ⟨S0, 3, none⟩ = some (.int .i64 b) ∧ W.cell? ⟨g, 0, none⟩ = some (.slice (some ⟨xb, xo, none⟩) m xc) ∧ W.cell? ⟨xb, xo + r, none⟩ = some (.slice ra line.length rc)))) hOrd (by kernel_rfl) (by first | assumption | exact e0) (fun hHeld => ?_)
    clear hOrd
    iterate 22 ((first | (refine NW.take (v := ?_) rfl (fun _ _ _ h => h) (Or.inl ⟨by rfl, ?_⟩) ?_; rotate_left; focus (intro w hSw; (try dsimp only at hSw); go_simp; (all_goals with_reducible rfl); done)) | (refine NW.leave rfl (fun _ _ _ h => h) (by rfl) (by assumption) ?_)); try simp only [Act.put, List.setIfInBounds_toArray, List.set_cons_zero, List.set_cons_succ, List.getElem_toArray, List.getElem_cons_zero, List.getElem_cons_succ])
    refine NW.done ?_
    refine RQ0.normal ?_
    clear hHeld e0
    go_wp2
    exact HEND.out _ j _ rfl HJ.out HV.out

end Go.Proofs.YtfbgmgadpjpdcaaGreatDoor

namespace Go.Proofs.YtfbgmgadpjpdcaaGreatDoor
open Go Go.RowKit
set_option maxRecDepth 100000

theorem kept_form {s X : StateD} {l : List ArrivalD} {n : Nat} (h : Kept s l n (X, [])) : ∃ R ns cm dr, X = ⟨R, s.outs, s.takers, ns, s.nextTag, cm, s.acked, dr⟩ := by
  have h1 := h.outs
  have h2 := h.takers
  have h3 := h.acked
  have h4 := h.tag
  obtain ⟨R, O, K, ns, nt, cm, ak, dr⟩ := X
  simp only at h1 h2 h3 h4
  subst h1 h2 h3 h4
  exact ⟨R, ns, cm, dr, rfl⟩
set_option maxHeartbeats 4000000 in
theorem arriveTrue_go (p : PlanD) (s : StateD) (l : List ArrivalD) (al : Option Addr) (cl : Nat) (q : Int) (p1 p2 p3 a1 a2 a3 : Option Addr) (q1 q2 q3 c1 c2 c3 : Nat) (rows : List RowD) (w : World) (hE : Env w) (hp : PlanAt w 0 w.heap.size p1 p2 p3 p) (hps : PlanSmall p) (hs : StateAt w 0 w.heap.size a1 a2 a3 rows s) (hss : StateSmall s) (hsi : StateInts s) (hl : Sl w 0 w.heap.size al (l.flatMap vArrival)) (hsm : ∀ a ∈ l, ArrSmall a) (hlc : l.length ≤ cl) (hll : l.length ≤ 1048576) (hq : -9223372036854775808 ≤ q ∧ q ≤ 9223372036854775807) :
    Calls Tryz.prog 4 #[planV p p1 p2 p3 q1 q2 q3, stateV s a1 a2 a3 c1 c2 c3, .slice al l.length cl, .int .i64 q] w fun e w' => e = .returned (.bool true) ∧ Below w.heap.size w w' := by
  have hbx := two_boxes q1 q2 q3 c1 c2 c3 hE hp hs 26 31
  unfold vState at hbx
  unfold stateV planV vState
  have HBX := Lib.hid hbx
  have HPS := Lib.hid hps
  have HSS := Lib.hid hss
  have HSI := Lib.hid hsi
  have HL := Lib.hid hl
  have HSM := Lib.hid hsm
  have HSLW : Hid (∀ W, Below w.heap.size w W → Sl W 0 W.heap.size al (l.flatMap vArrival)) := fun W hW => (HL.out.below hW (Nat.le_refl _)).wider (Nat.le_refl _) hW.size
  have hrl := hss.ready
  clear hbx hE hp hs hps hss hsi hl hsm HL
  go_enter Tryz.func4, Tryz.ntmps4
  obtain ⟨⟨m0, m1, m2⟩, ⟨n0, n1, n2, n3, n4, n5, n6, n7⟩, _, _, _, _⟩ := HBX.out _ (Below.refl _ _)
  go_wp2_with fail
  clear m0 m1 m2 n0 n1 n2 n3 n4 n5 n6 n7
  generalize ((w.alloc (.cells #[.slice p1 p.posts.length q1, .slice p2 p.queues.length q2, .slice p3 p.binds.length q3] 26)).alloc (.cells #[Value.slice a1 s.ready.length c1, Value.slice a2 s.outs.length c2, Value.slice a3 s.takers.length c3, Value.int IntKind.i64 s.nextSeq, Value.int IntKind.i64 s.nextTag, Value.int IntKind.i64 s.came, Value.int IntKind.i64 s.acked, Value.int IntKind.i64 s.dropped] 31)) = W0 at *
  have HC1 : Hid (∀ W, Below W0.heap.size W0 W → Calls Tryz.prog 14 #[.agg #[.slice p1 p.posts.length q1, .slice p2 p.queues.length q2, .slice p3 p.binds.length q3], .agg #[.slice a1 s.ready.length c1, .slice a2 s.outs.length c2, .slice a3 s.takers.length c3, .int .i64 s.nextSeq, .int .i64 s.nextTag, .int .i64 s.came, .int .i64 s.acked, .int .i64 s.dropped], .slice al l.length cl] W (ArPost (arriveS p s l) (arriveN p s l) (arriveErr p s l) W)) := fun W hW =>
    Letters_any p s l p1 p2 p3 a1 a2 a3 al q1 q2 q3 c1 c2 c3 cl rows W (HBX.out _ hW).env (HBX.out _ hW).planAt HPS.out (HBX.out _ hW).stateAt HSS.out HSI.out (HSLW.out _ (HBX.out _ hW).below) hll HSM.out
  have HC := HC1.out _ (Below.refl _ _)
  clear HC1
  by_cases hc : arriveErr p s l = 0
  · obtain ⟨m, hm, hrun, hk⟩ := arrive_kept hc
    have hR := arrive_right hc
    have hRs : Right p s := (arrive_ok hc).1.right
    obtain ⟨X, hXe⟩ : ∃ X, arriveS p s l = X := ⟨_, rfl⟩
    rw [hXe] at HC hrun hk hR
    rw [hm, hc] at HC
    obtain ⟨R, ns, cm, dr, rfl⟩ := kept_form hk
    have hRl : R.length = s.ready.length := hk.len
    have hseq : ns = s.nextSeq + m := hrun.seq
    have hsame : cm = ns := hR.same
    have hsame2 := hRs.same
    have hdr : s.dropped ≤ dr := hk.dropped
    have hmore : l.length ≤ m + 0 := hk.more
    have hn2 := count_in' hR.nextSeq
    have hn1 := count_in' hRs.nextSeq
    simp only at hn2
    have HXR := Lib.hid (And.intro (right_iff.2 hR) (And.intro hR.small hR.ints))
    have HTAIL : Hid (∀ r : Nat, oldN s.nextSeq (lineAt ⟨R, s.outs, s.takers, ns, s.nextTag, cm, s.acked, dr⟩ r) ≤ (lineAt s r).length ∧ (lineAt ⟨R, s.outs, s.takers, ns, s.nextTag, cm, s.acked, dr⟩ r).take (oldN s.nextSeq (lineAt ⟨R, s.outs, s.takers, ns, s.nextTag, cm, s.acked, dr⟩ r)) = (lineAt s r).drop ((lineAt s r).length - oldN s.nextSeq (lineAt ⟨R, s.outs, s.takers, ns, s.nextTag, cm, s.acked, dr⟩ r))) := Lib.hid fun r => tail_old (hk.tail r) (lineAt_below hRs r)
    have HRL := Lib.hid hRl
    have HRS := Lib.hid hRs
    have hnl : ¬ (m : Int) < (l.length : Int) := by omega
    have hsub0 : IntKind.i64.wrap (cm - s.came) = cm - s.came := IntWalk.i64_in _ (by omega)
    have hsub : IntKind.i64.wrap (cm - s.came) = (m : Int) := by rw [hsub0]; omega
    clear hsub0
    have hdd : ¬ dr < s.dropped := by omega
    clear hc hm hrun hk hR hRs hXe hseq hsame hsame2 hdr hmore hn1 hn2 hRl
    refine HC.mono ?_
    clear HC
    rintro e w1 ⟨x1, x2, x3, xc1, xc2, xc3, rx, rfl, hs1, hb1⟩
    unfold stateV vState
    simp only [HRL.out]
    obtain ⟨⟨m0, m1, m2⟩, ⟨n0, n1, n2, n3, n4, n5, n6, n7⟩, _, _, _, _⟩ := HBX.out _ hb1
    go_upto_region 2 with fail
    obtain ⟨W1, hW1⟩ : ∃ W1, w1.alloc (.cells #[.slice x1 s.ready.length xc1, .slice x2 s.outs.length xc2, .slice x3 s.takers.length xc3, .int .i64 ns, .int .i64 s.nextTag, .int .i64 cm, .int .i64 s.acked, .int .i64 dr] 31) = W1 := ⟨_, rfl⟩
    have HX : Hid (∀ W, Below W1.heap.size W1 W → (Bk W w1.heap.size 31 #[.slice x1 s.ready.length xc1, .slice x2 s.outs.length xc2, .slice x3 s.takers.length xc3, .int .i64 ns, .int .i64 s.nextTag, .int .i64 cm, .int .i64 s.acked, .int .i64 dr] ∧ StateAt W 0 W.heap.size x1 x2 x3 rx ⟨R, s.outs, s.takers, ns, s.nextTag, cm, s.acked, dr⟩) ∧ Below W0.heap.size W0 W) := Lib.hid fun W hW => by
      have h := box_since (x := ⟨R, s.outs, s.takers, ns, s.nextTag, cm, s.acked, dr⟩) xc1 xc2 xc3 hs1 hb1 (W1 := W1) (by rw [← hW1]; unfold vState; simp only [HRL.out]) W hW
      have hk := h.1.bk
      unfold vState at hk
      simp only [HRL.out] at hk
      exact ⟨⟨hk, h.1.at_⟩, h.2⟩
    rw [hW1]
    clear hW1 hs1 hb1 m0 m1 m2 n0 n1 n2 n3 n4 n5 n6 n7
    obtain ⟨⟨m0, m1, m2⟩, _, _, _, _, _⟩ := HBX.out _ (HX.out _ (Below.refl _ _)).2
    obtain ⟨k0, k1, k2, k3, k4, k5, k6, k7⟩ := cells8 (HX.out _ (Below.refl _ _)).1.1
    have HCK := Lib.hid (SCheck_any p ⟨R, s.outs, s.takers, ns, s.nextTag, cm, s.acked, dr⟩ p1 p2 p3 x1 x2 x3 q1 q2 q3 xc1 xc2 xc3 rx W1 (HBX.out _ (HX.out _ (Below.refl _ _)).2).env (HBX.out _ (HX.out _ (Below.refl _ _)).2).planAt HPS.out (HX.out _ (Below.refl _ _)).1.2 HXR.out.2.1 HXR.out.2.2)
    go_wp2_with fail
    have hcall := HCK.out
    unfold stateV planV vState at hcall
    simp only [HRL.out] at hcall
    refine hcall.mono ?_
    clear hcall HCK m0 m1 m2 k0 k1 k2 k3 k4 k5 k6 k7
    rintro e w2 ⟨rfl, hb2⟩
    rw [HXR.out.1]
    have HB2 := Lib.hid hb2
    clear hb2
    obtain ⟨_, ⟨n0, n1, n2, n3, n4, n5, n6, n7⟩, _, _, _, _⟩ := HBX.out _ (HX.out _ HB2.out).2
    obtain ⟨k0, k1, k2, k3, k4, k5, k6, k7⟩ := cells8 (HX.out _ HB2.out).1.1
    go_upto_region 7 with fail
    clear n0 n1 n2 n3 n4 n5 n6 n7 k0 k1 k2 k3 k4 k5 k6 k7
    obtain ⟨W3, hW3⟩ : ∃ W3, w2.alloc (.cells #[.slice a1 s.ready.length c1, .slice a2 s.outs.length c2, .slice a3 s.takers.length c3, .int .i64 s.nextSeq, .int .i64 s.nextTag, .int .i64 s.came, .int .i64 s.acked, .int .i64 s.dropped] 31) = W3 := ⟨_, rfl⟩
    have kd0 : Bk W3 w2.heap.size 31 #[.slice a1 s.ready.length c1, .slice a2 s.outs.length c2, .slice a3 s.takers.length c3, .int .i64 s.nextSeq, .int .i64 s.nextTag, .int .i64 s.came, .int .i64 s.acked, .int .i64 s.dropped] := by rw [← hW3]; exact Bk.new _ _ _
    have hb3 : Below w2.heap.size w2 W3 := by rw [← hW3]; exact (Below.refl _ _).alloc (Nat.le_refl _) _
    have hb13 : Below W1.heap.size W1 W3 := HB2.out.trans (hb3.mono HB2.out.size)
    have kx0 := (HX.out _ hb13).1.1
    have hne : w1.heap.size ≠ w2.heap.size := by
      have h1 := HB2.out.size
      have h2 := (HX.out _ (Below.refl _ _)).1.1.lt
      omega
    have kd1 := kd0.set_ 0 (.slice x1 s.ready.length xc1)
    have kd2 := kd1.set_ 3 (.int .i64 ns)
    have kd3 := kd2.set_ 5 (.int .i64 cm)
    have kd4 := kd3.set_ 7 (.int .i64 dr)
    have kx1 := kx0.far (p := ⟨w2.heap.size, 0, none⟩) hne (.slice x1 s.ready.length xc1)
    have kx2 := kx1.far (p := ⟨w2.heap.size, 3, none⟩) hne (.int .i64 ns)
    have kx3 := kx2.far (p := ⟨w2.heap.size, 5, none⟩) hne (.int .i64 cm)
    have kx4 := kx3.far (p := ⟨w2.heap.size, 7, none⟩) hne (.int .i64 dr)
    have e0 : (W3.drew.cell? ⟨w1.heap.size, 0, none⟩ = some (.slice x1 s.ready.length xc1) ∧ W3.drew.cell? ⟨w1.heap.size, 3, none⟩ = some (.int .i64 ns) ∧ W3.drew.cell? ⟨w1.heap.size, 5, none⟩ = some (.int .i64 cm) ∧ W3.drew.cell? ⟨w1.heap.size, 7, none⟩ = some (.int .i64 dr)) := ⟨kx0.cell 0, kx0.cell 3, kx0.cell 5, kx0.cell 7⟩
    have e1 : ((W3.setCell ⟨w2.heap.size, 0, none⟩ (.slice x1 s.ready.length xc1)).drew.cell? ⟨w1.heap.size, 0, none⟩ = some (.slice x1 s.ready.length xc1) ∧ (W3.setCell ⟨w2.heap.size, 0, none⟩ (.slice x1 s.ready.length xc1)).drew.cell? ⟨w1.heap.size, 3, none⟩ = some (.int .i64 ns) ∧ (W3.setCell ⟨w2.heap.size, 0, none⟩ (.slice x1 s.ready.length xc1)).drew.cell? ⟨w1.heap.size, 5, none⟩ = some (.int .i64 cm) ∧ (W3.setCell ⟨w2.heap.size, 0, none⟩ (.slice x1 s.ready.length xc1)).drew.cell? ⟨w1.heap.size, 7, none⟩ = some (.int .i64 dr)) := ⟨kx1.cell 0, kx1.cell 3, kx1.cell 5, kx1.cell 7⟩
    have e2 : (((W3.setCell ⟨w2.heap.size, 0, none⟩ (.slice x1 s.ready.length xc1)).setCell ⟨w2.heap.size, 3, none⟩ (.int .i64 ns)).drew.cell? ⟨w1.heap.size, 0, none⟩ = some (.slice x1 s.ready.length xc1) ∧ ((W3.setCell ⟨w2.heap.size, 0, none⟩ (.slice x1 s.ready.length xc1)).setCell ⟨w2.heap.size, 3, none⟩ (.int .i64 ns)).drew.cell? ⟨w1.heap.size, 3, none⟩ = some (.int .i64 ns) ∧ ((W3.setCell ⟨w2.heap.size, 0, none⟩ (.slice x1 s.ready.length xc1)).setCell ⟨w2.heap.size, 3, none⟩ (.int .i64 ns)).drew.cell? ⟨w1.heap.size, 5, none⟩ = some (.int .i64 cm) ∧ ((W3.setCell ⟨w2.heap.size, 0, none⟩ (.slice x1 s.ready.length xc1)).setCell ⟨w2.heap.size, 3, none⟩ (.int .i64 ns)).drew.cell? ⟨w1.heap.size, 7, none⟩ = some (.int .i64 dr)) := ⟨kx2.cell 0, kx2.cell 3, kx2.cell 5, kx2.cell 7⟩
    have e3 : ((((W3.setCell ⟨w2.heap.size, 0, none⟩ (.slice x1 s.ready.length xc1)).setCell ⟨w2.heap.size, 3, none⟩ (.int .i64 ns)).setCell ⟨w2.heap.size, 5, none⟩ (.int .i64 cm)).drew.cell? ⟨w1.heap.size, 0, none⟩ = some (.slice x1 s.ready.length xc1) ∧ (((W3.setCell ⟨w2.heap.size, 0, none⟩ (.slice x1 s.ready.length xc1)).setCell ⟨w2.heap.size, 3, none⟩ (.int .i64 ns)).setCell ⟨w2.heap.size, 5, none⟩ (.int .i64 cm)).drew.cell? ⟨w1.heap.size, 3, none⟩ = some (.int .i64 ns) ∧ (((W3.setCell ⟨w2.heap.size, 0, none⟩ (.slice x1 s.ready.length xc1)).setCell ⟨w2.heap.size, 3, none⟩ (.int .i64 ns)).setCell ⟨w2.heap.size, 5, none⟩ (.int .i64 cm)).drew.cell? ⟨w1.heap.size, 5, none⟩ = some (.int .i64 cm) ∧ (((W3.setCell ⟨w2.heap.size, 0, none⟩ (.slice x1 s.ready.length xc1)).setCell ⟨w2.heap.size, 3, none⟩ (.int .i64 ns)).setCell ⟨w2.heap.size, 5, none⟩ (.int .i64 cm)).drew.cell? ⟨w1.heap.size, 7, none⟩ = some (.int .i64 dr)) := ⟨kx3.cell 0, kx3.cell 3, kx3.cell 5, kx3.cell 7⟩
    have e4 : (((((W3.setCell ⟨w2.heap.size, 0, none⟩ (.slice x1 s.ready.length xc1)).setCell ⟨w2.heap.size, 3, none⟩ (.int .i64 ns)).setCell ⟨w2.heap.size, 5, none⟩ (.int .i64 cm)).setCell ⟨w2.heap.size, 7, none⟩ (.int .i64 dr)).drew.cell? ⟨w1.heap.size, 0, none⟩ = some (.slice x1 s.ready.length xc1) ∧ ((((W3.setCell ⟨w2.heap.size, 0, none⟩ (.slice x1 s.ready.length xc1)).setCell ⟨w2.heap.size, 3, none⟩ (.int .i64 ns)).setCell ⟨w2.heap.size, 5, none⟩ (.int .i64 cm)).setCell ⟨w2.heap.size, 7, none⟩ (.int .i64 dr)).drew.cell? ⟨w1.heap.size, 3, none⟩ = some (.int .i64 ns) ∧ ((((W3.setCell ⟨w2.heap.size, 0, none⟩ (.slice x1 s.ready.length xc1)).setCell ⟨w2.heap.size, 3, none⟩ (.int .i64 ns)).setCell ⟨w2.heap.size, 5, none⟩ (.int .i64 cm)).setCell ⟨w2.heap.size, 7, none⟩ (.int .i64 dr)).drew.cell? ⟨w1.heap.size, 5, none⟩ = some (.int .i64 cm) ∧ ((((W3.setCell ⟨w2.heap.size, 0, none⟩ (.slice x1 s.ready.length xc1)).setCell ⟨w2.heap.size, 3, none⟩ (.int .i64 ns)).setCell ⟨w2.heap.size, 5, none⟩ (.int .i64 cm)).setCell ⟨w2.heap.size, 7, none⟩ (.int .i64 dr)).drew.cell? ⟨w1.heap.size, 7, none⟩ = some (.int .i64 dr)) := ⟨kx4.cell 0, kx4.cell 3, kx4.cell 5, kx4.cell 7⟩
    obtain ⟨d0, d1, d2, d3, d4, d5, d6, d7, f0, f1, f2, f3, f4, f5, f6, f7, hlt⟩ := zero_cells kd0
    have HY : Hid (Bk ((((W3.setCell ⟨w2.heap.size, 0, none⟩ (.slice x1 s.ready.length xc1)).setCell ⟨w2.heap.size, 3, none⟩ (.int .i64 ns)).setCell ⟨w2.heap.size, 5, none⟩ (.int .i64 cm)).setCell ⟨w2.heap.size, 7, none⟩ (.int .i64 dr)).drew w2.heap.size 31 #[.slice x1 s.ready.length xc1, .slice a2 s.outs.length c2, .slice a3 s.takers.length c3, .int .i64 ns, .int .i64 s.nextTag, .int .i64 cm, .int .i64 s.acked, .int .i64 dr] ∧ Below W1.heap.size W1 ((((W3.setCell ⟨w2.heap.size, 0, none⟩ (.slice x1 s.ready.length xc1)).setCell ⟨w2.heap.size, 3, none⟩ (.int .i64 ns)).setCell ⟨w2.heap.size, 5, none⟩ (.int .i64 cm)).setCell ⟨w2.heap.size, 7, none⟩ (.int .i64 dr)).drew) := Lib.hid ⟨kd4, ((((hb13.setCell (p := ⟨w2.heap.size, 0, none⟩) HB2.out.size _).setCell (p := ⟨w2.heap.size, 3, none⟩) HB2.out.size _).setCell (p := ⟨w2.heap.size, 5, none⟩) HB2.out.size _).setCell (p := ⟨w2.heap.size, 7, none⟩) HB2.out.size _).drew⟩
    rw [hW3]
    clear hW3 kd0 kd1 kd2 kd3 kd4 kx0 kx1 kx2 kx3 kx4 hb3 hb13
    go_cut [] from 15 to 87 (fun wx => Bk wx w2.heap.size 31 #[.slice x1 s.ready.length xc1, .slice a2 s.outs.length c2, .slice a3 s.takers.length c3, .int .i64 ns, .int .i64 s.nextTag, .int .i64 cm, .int .i64 s.acked, .int .i64 dr] ∧ Below W1.heap.size W1 wx)
    case first =>
      refine nw_lay [(0, false), (1, false), (2, false), (3, false), (4, false), (5, false), (6, false), (7, false), (8, false), (9, true), (10, false), (11, true), (12, false), (13, true), (14, false), (15, true)] (by kernel_rfl) (fun hOrd => ?_)
      refine nw_go (S := (fun W => (W.cell? ⟨w1.heap.size, 0, none⟩ = some (.slice x1 s.ready.length xc1) ∧ W.cell? ⟨w1.heap.size, 3, none⟩ = some (.int .i64 ns) ∧ W.cell? ⟨w1.heap.size, 5, none⟩ = some (.int .i64 cm) ∧ W.cell? ⟨w1.heap.size, 7, none⟩ = some (.int .i64 dr)))) hOrd (by kernel_rfl) (by first | assumption | exact e0 | exact e1 | exact e2 | exact e3 | exact e4) (fun hHeld => ?_)
      clear hOrd
      iterate 9 ((first | (refine NW.take (v := ?_) rfl (fun _ _ _ h => h) (Or.inl ⟨by rfl, ?_⟩) ?_; rotate_left; focus (intro w hSw; (try dsimp only at hSw); go_simp; (all_goals with_reducible rfl); done)) | (refine NW.leave rfl (fun _ _ _ h => h) (by rfl) (by assumption) ?_)); try simp only [Act.put, List.setIfInBounds_toArray, List.set_cons_zero, List.set_cons_succ, List.getElem_toArray, List.getElem_cons_zero, List.getElem_cons_succ])
      (refine NW.call rfl (fun K hK => ?_); go_simp; refine hK.out _ _ (by first | assumption | exact e0 | exact e1 | exact e2 | exact e3 | exact e4) (fun hHeld => ?_); clear hK K; try simp only [Act.put, List.setIfInBounds_toArray, List.set_cons_zero, List.set_cons_succ, List.getElem_toArray, List.getElem_cons_zero, List.getElem_cons_succ])
      ((first | (refine NW.take (v := ?_) rfl (fun _ _ _ h => h) (Or.inl ⟨by rfl, ?_⟩) ?_; rotate_left; focus (intro w hSw; (try dsimp only at hSw); go_simp; (all_goals with_reducible rfl); done)) | (refine NW.leave rfl (fun _ _ _ h => h) (by rfl) (by assumption) ?_)); try simp only [Act.put, List.setIfInBounds_toArray, List.set_cons_zero, List.set_cons_succ, List.getElem_toArray, List.getElem_cons_zero, List.getElem_cons_succ])
      (refine NW.call rfl (fun K hK => ?_); go_simp; refine hK.out _ _ (by first | assumption | exact e0 | exact e1 | exact e2 | exact e3 | exact e4) (fun hHeld => ?_); clear hK K; try simp only [Act.put, List.setIfInBounds_toArray, List.set_cons_zero, List.set_cons_succ, List.getElem_toArray, List.getElem_cons_zero, List.getElem_cons_succ])
      ((first | (refine NW.take (v := ?_) rfl (fun _ _ _ h => h) (Or.inl ⟨by rfl, ?_⟩) ?_; rotate_left; focus (intro w hSw; (try dsimp only at hSw); go_simp; (all_goals with_reducible rfl); done)) | (refine NW.leave rfl (fun _ _ _ h => h) (by rfl) (by assumption) ?_)); try simp only [Act.put, List.setIfInBounds_toArray, List.set_cons_zero, List.set_cons_succ, List.getElem_toArray, List.getElem_cons_zero, List.getElem_cons_succ])
      (refine NW.call rfl (fun K hK => ?_); go_simp; refine hK.out _ _ (by first | assumption | exact e0 | exact e1 | exact e2 | exact e3 | exact e4) (fun hHeld => ?_); clear hK K; try simp only [Act.put, List.setIfInBounds_toArray, List.set_cons_zero, List.set_cons_succ, List.getElem_toArray, List.getElem_cons_zero, List.getElem_cons_succ])
      ((first | (refine NW.take (v := ?_) rfl (fun _ _ _ h => h) (Or.inl ⟨by rfl, ?_⟩) ?_; rotate_left; focus (intro w hSw; (try dsimp only at hSw); go_simp; (all_goals with_reducible rfl); done)) | (refine NW.leave rfl (fun _ _ _ h => h) (by rfl) (by assumption) ?_)); try simp only [Act.put, List.setIfInBounds_toArray, List.set_cons_zero, List.set_cons_succ, List.getElem_toArray, List.getElem_cons_zero, List.getElem_cons_succ])
      (refine NW.call rfl (fun K hK => ?_); go_simp; refine hK.out _ _ (by first | assumption | exact e0 | exact e1 | exact e2 | exact e3 | exact e4) (fun hHeld => ?_); clear hK K; try simp only [Act.put, List.setIfInBounds_toArray, List.set_cons_zero, List.set_cons_succ, List.getElem_toArray, List.getElem_cons_zero, List.getElem_cons_succ])
      refine NW.done ?_
      go_wp2_with fail
      go_meet
      exact HY.out
    case rest =>
      have HY4 := Lib.hid hcut
      clear hcut HY e0 e1 e2 e3 e4 d0 d1 d2 d3 d4 d5 d6 d7 f0 f1 f2 f3 f4 f5 f6 f7 hlt hne
      obtain ⟨k0, k1, k2, k3, k4, k5, k6, k7⟩ := cells8 (HX.out _ HY4.out.2).1.1
      obtain ⟨d0, d1, d2, d3, d4, d5, d6, d7⟩ := cells8 HY4.out.1
      have hcall : Calls Tryz.prog 17 #[.agg #[.slice x1 s.ready.length xc1, .slice a2 s.outs.length c2, .slice a3 s.takers.length c3, .int .i64 ns, .int .i64 s.nextTag, .int .i64 cm, .int .i64 s.acked, .int .i64 dr], .agg #[.slice x1 s.ready.length xc1, .slice x2 s.outs.length xc2, .slice x3 s.takers.length xc3, .int .i64 ns, .int .i64 s.nextTag, .int .i64 cm, .int .i64 s.acked, .int .i64 dr]] wc fun e w' => e = .returned (.bool true) ∧ Below wc.heap.size wc w' := by
        have hx := (HX.out _ HY4.out.2).1.2
        have hst := (HBX.out _ (HX.out _ HY4.out.2).2).stateAt
        have h := SameStates_any ⟨R, s.outs, s.takers, ns, s.nextTag, cm, s.acked, dr⟩ ⟨R, s.outs, s.takers, ns, s.nextTag, cm, s.acked, dr⟩ x1 a2 a3 x1 x2 x3 xc1 c2 c3 xc1 xc2 xc3 rx rx wc ⟨hx.same, hx.ready, hx.row, hst.outs, hst.takers⟩ HXR.out.2.1 hx HXR.out.2.1
        rw [stateEq_refl] at h
        unfold stateV vState at h
        simp only [HRL.out] at h
        exact h
      go_wp2_with fail
      refine hcall.mono ?_
      clear hcall k0 k1 k2 k3 k4 k5 k6 k7 d0 d1 d2 d3 d4 d5 d6 d7
      rintro e w4 ⟨rfl, hb4⟩
      have HB4 := Lib.hid (HY4.out.2.trans (hb4.mono HY4.out.2.size))
      clear hb4
      have n0 := (HBX.out _ (HX.out _ HB4.out).2).state.1
      by_cases hz : s.ready.length = 0
      · have hzi : (s.ready.length : Int) = 0 := by omega
        go_wp2_with fail
        refine (arriveBegun_any _ (HBX.out _ (HX.out _ HB4.out).2).env).mono ?_
        rintro e w5 ⟨rfl, hb5⟩
        have HB5 := Lib.hid (HB4.out.trans (hb5.mono HB4.out.size))
        clear hb5
        go_wp2_with fail
        go_ret
        exact ⟨rfl, (HBX.out _ (HX.out _ HB5.out).2).below⟩
      · have hzi : ¬ (s.ready.length : Int) = 0 := by omega
        go_wp2_with fail
        refine (choose_any q s.ready.length w4 hq.1 hq.2 (by omega) (by omega)).mono ?_
        rintro e w5 ⟨r, hr, rfl, rfl⟩
        have hrl2 : r < s.ready.length := by omega
        have hrR : r < R.length := by rw [HRL.out]; exact hrl2
        obtain ⟨xb, xo, rfl, _, hxb, _⟩ := sl_elem vRow_len (by decide) (HX.out _ HB4.out).1.2.ready (k := r) (by have := congrArg List.length (HX.out _ HB4.out).1.2.same; rw [List.length_map] at this; simp only at this; omega)
        obtain ⟨sb, so, rfl, _, hsb, _⟩ := sl_elem vRow_len (by decide) (HBX.out _ (HX.out _ HB4.out).2).stateAt.ready (k := r) (by have := congrArg List.length (HBX.out _ (HX.out _ HB4.out).2).stateAt.same; rw [List.length_map] at this; omega)
        have hT := HTAIL.out r
        have hlx : R[r]? = some (lineAt ⟨R, s.outs, s.takers, ns, s.nextTag, cm, s.acked, dr⟩ r) := by
          rw [lineAt_get (show ((r : Int)).toNat < R.length by omega)]
          exact List.getElem?_eq_getElem hrR
        have hls : s.ready[r]? = some (lineAt s r) := by
          rw [lineAt_get (show ((r : Int)).toNat < s.ready.length by omega)]
          exact List.getElem?_eq_getElem hrl2
        have hsmall := HXR.out.2.1.row _ (List.mem_of_getElem? hlx)
        have hsmalls := HSS.out.row _ (List.mem_of_getElem? hls)
        generalize lineAt ⟨R, s.outs, s.takers, ns, s.nextTag, cm, s.acked, dr⟩ r = lx at *
        generalize lineAt s r = ls at *
        obtain ⟨ra, rc, hxr, hxi, hxc⟩ := row_cell (HX.out _ HB4.out).1.2 hlx
        obtain ⟨sa, sc, hsr, hsli, hsc⟩ := row_cell (HBX.out _ (HX.out _ HB4.out).2).stateAt hls
        have HIN : Hid (∀ W, Below w4.heap.size w4 W → AtIn (w.heap.size + 1) w1.heap.size xb xo r s.ready.length xc1 rc ra s.nextSeq lx W) := Lib.hid fun W hW => by
          have hbW := HB4.out.trans (hW.mono HB4.out.size)
          obtain ⟨q0, q1, q2, q3, q4, q5, q6, q7⟩ := (HBX.out _ (HX.out _ hbW).2).state
          exact ⟨q3, (HX.out _ hbW).1.1.cell 0, (hW.cell (p := ⟨xb, xo + r, none⟩) hxb).trans hxr, (hxi.below hW (Nat.le_refl _)).wider (Nat.le_refl _) hW.size⟩
        have HS2 : Hid (∀ W, Below w4.heap.size w4 W → W.cell? ⟨sb, so + r, none⟩ = some (.slice sa ls.length sc) ∧ Sl W 0 W.heap.size sa (ls.flatMap vItem)) := Lib.hid fun W hW => ⟨(hW.cell (p := ⟨sb, so + r, none⟩) hsb).trans hsr, (hsli.below hW (Nat.le_refl _)).wider (Nat.le_refl _) hW.size⟩
        have HLEN := Lib.hid (And.intro hsmall.len (And.intro hsmalls.len (And.intro hxc hsc)))
        have HT := Lib.hid hT
        have HLX := Lib.hid (And.intro hrl2 hrl)
        clear n0 hT hsmall hsmalls hxc hsc hlx hls hxr hxi hsr hsli hz hzi hq
        obtain ⟨_, ⟨n0, n1, n2, n3, n4, n5, n6, n7⟩, _, _, _, _⟩ := HBX.out _ (HX.out _ HB4.out).2
        go_wp2_with fail
        clear n0 n1 n2 n3 n4 n5 n6 n7
        refine at_loop w.heap.size (w.heap.size + 1) w1.heap.size xb xo r s.ready.length xc1 rc ra s.nextSeq lx HLX.out.1 HLEN.out.1 w4 HIN.out _ ?_ _ 0 w4 rfl (Nat.zero_le _) (Below.refl _ _)
        rintro t j W ht hj hW
        obtain ⟨u, rfl⟩ := at1_open ht
        have hT := HT.out
        rw [← hj] at hT
        have hjx := oldN_le s.nextSeq lx
        rw [← hj] at hjx
        obtain ⟨d, hd⟩ : ∃ d, ls.length = j + d := ⟨ls.length - j, by omega⟩
        have HSI : Hid (∀ W, Below w4.heap.size w4 W → Calls Tryz.prog 20 #[.slice ra j rc, .slice (cutA sa sc d 5) j (sc - d)] W fun e w' => e = .returned (.bool true) ∧ Below W.heap.size W w') := Lib.hid fun W hW => by
          have h := SameItems_any ra (cutA sa sc d 5) rc (sc - d) (lx.take j) (ls.drop d) W 0 (line_take (HIN.out W hW).items) (line_drop (HS2.out W hW).2 (by omega) HLEN.out.2.2.2) (by rw [List.length_take]; have := HLEN.out.1; omega) (by rw [List.length_drop]; have := HLEN.out.2.1; omega)
          rw [hT.2, show ls.length - j = d by omega, itemsEq_iff.2 rfl, List.length_drop, show ls.length - d = j by omega] at h
          exact h
        have hcutH : ∀ W, (Instr.slice 41 (.slice ra lx.length rc) none (some (.int .i64 (j : Int))) none).run Tryz.prog W = .ok (.slice ra j rc) W := fun W => run_cutHi (P := Tryz.prog) (t := 41) (size := 5) Tryz.underlying41 eg_sizeItem ra lx.length rc j (j : Int) rfl (by have := HLEN.out.2.2.1; omega) W
        have hcutL : ∀ W, (Instr.slice 41 (.slice sa ls.length sc) (some (.int .i64 (d : Int))) none none).run Tryz.prog W = .ok (.slice (cutA sa sc d 5) j (sc - d)) W := fun W => by
          have h := run_cut (P := Tryz.prog) (t := 41) (size := 5) Tryz.underlying41 eg_sizeItem sa ls.length sc d (d : Int) rfl (by omega) W
          rw [show ls.length - d = j by omega] at h
          exact h
        have hwr : IntKind.i64.wrap ((ls.length : Int) - (j : Int)) = (d : Int) := by
          have h0 : IntKind.i64.wrap ((ls.length : Int) - (j : Int)) = (ls.length : Int) - (j : Int) := IntWalk.i64_in _ (by have := HLEN.out.2.1; omega)
          rw [h0]; omega
        have hj1 : (j : Int) ≤ (ls.length : Int) := by omega
        have hr1 : (r : Int) < (s.ready.length : Int) := by have := HLX.out.1; omega
        have HK : Hid (∀ W, Below w4.heap.size w4 W → (W.cell? ⟨w.heap.size + 1, 0, none⟩ = some (.slice (some ⟨sb, so, none⟩) s.ready.length c1) ∧ W.cell? ⟨w1.heap.size, 0, none⟩ = some (.slice (some ⟨xb, xo, none⟩) s.ready.length xc1) ∧ W.cell? ⟨xb, xo + r, none⟩ = some (.slice ra lx.length rc) ∧ W.cell? ⟨sb, so + r, none⟩ = some (.slice sa ls.length sc)) ∧ Below w4.heap.size w4 W) := Lib.hid fun W hW => by
          have hbW := HB4.out.trans (hW.mono HB4.out.size)
          exact ⟨⟨(HBX.out _ (HX.out _ hbW).2).state.1, (HIN.out W hW).ready, (HIN.out W hW).row, (HS2.out W hW).1⟩, hW⟩
        have HENV : Hid (∀ W, Below w4.heap.size w4 W → Env W) := Lib.hid fun W hW => (HBX.out _ (HX.out _ (HB4.out.trans (hW.mono HB4.out.size))).2).env
        have hW0 := hW.drew
        clear ht hj hT hjx hd HT
        go_wp2_with fail
        refine nw_lay [(0, true), (1, false), (2, false), (3, false), (4, false), (5, false), (6, false), (7, false), (8, false), (9, false), (10, false), (11, false), (12, false), (13, false), (14, false), (15, false), (16, false), (17, false), (18, false), (19, false), (20, false), (21, false), (22, false), (23, false), (24, false), (25, false), (26, false), (27, false), (28, false), (29, false), (30, false), (31, false), (32, false), (33, true), (34, false), (35, false)] (by kernel_rfl) (fun hOrd => ?_)
        refine nw_go (S := (fun W => (W.cell? ⟨w.heap.size + 1, 0, none⟩ = some (.slice (some ⟨sb, so, none⟩) s.ready.length c1) ∧ W.cell? ⟨w1.heap.size, 0, none⟩ = some (.slice (some ⟨xb, xo, none⟩) s.ready.length xc1) ∧ W.cell? ⟨xb, xo + r, none⟩ = some (.slice ra lx.length rc) ∧ W.cell? ⟨sb, so + r, none⟩ = some (.slice sa ls.length sc)) ∧ Below w4.heap.size w4 W)) hOrd (by kernel_rfl) (by first | assumption | exact HK.out _ hN | exact HK.out _ hW0) (fun hHeld => ?_)
        clear hOrd
        first
          | (refine NW.leave rfl (fun _ _ _ h => h) (by rfl) (by assumption) ?_)
          | (refine NW.call rfl (fun K hK => ?_); go_simp; (first | (go_at_call 16; (with_reducible refine (arriveBegun_any _ (HENV.out _ hHeld.2)).mono ?_); rintro e w6 ⟨rfl, n2⟩; have hN : Below w4.heap.size w4 w6 := hHeld.2.trans (n2.mono hHeld.2.size); clear n2) | (go_at_call 20; (with_reducible refine (HSI.out _ hHeld.2).mono ?_); rintro e w7 ⟨rfl, n2⟩; have hN : Below w4.heap.size w4 w7 := hHeld.2.trans (n2.mono hHeld.2.size); have HN7 := Lib.hid hN; clear n2)); refine hK.out _ _ (by first | assumption | exact HK.out _ hN | exact HK.out _ hW0) (fun hHeld => ?_); clear hK K)
        try simp only [Act.put, List.setIfInBounds_toArray, List.set_cons_zero, List.set_cons_succ, List.getElem_toArray, List.getElem_cons_zero, List.getElem_cons_succ]
        iterate 32 ((first | (refine NW.take (v := ?_) rfl (fun _ _ _ h => h) (Or.inl ⟨by rfl, ?_⟩) ?_; rotate_left; focus (intro w hSw; (try dsimp only at hSw); go_simp; (all_goals with_reducible rfl); done)) | (refine NW.leave rfl (fun _ _ _ h => h) (by rfl) (by assumption) ?_)); try simp only [Act.put, List.setIfInBounds_toArray, List.set_cons_zero, List.set_cons_succ, List.getElem_toArray, List.getElem_cons_zero, List.getElem_cons_succ])
        first
          | (refine NW.leave rfl (fun _ _ _ h => h) (by rfl) (by assumption) ?_)
          | (refine NW.call rfl (fun K hK => ?_); go_simp; (first | (go_at_call 16; (with_reducible refine (arriveBegun_any _ (HENV.out _ hHeld.2)).mono ?_); rintro e w6 ⟨rfl, n2⟩; have hN : Below w4.heap.size w4 w6 := hHeld.2.trans (n2.mono hHeld.2.size); clear n2) | (go_at_call 20; (with_reducible refine (HSI.out _ hHeld.2).mono ?_); rintro e w7 ⟨rfl, n2⟩; have hN : Below w4.heap.size w4 w7 := hHeld.2.trans (n2.mono hHeld.2.size); have HN7 := Lib.hid hN; clear n2)); refine hK.out _ _ (by first | assumption | exact HK.out _ hN | exact HK.out _ hW0) (fun hHeld => ?_); clear hK K)
        try simp only [Act.put, List.setIfInBounds_toArray, List.set_cons_zero, List.set_cons_succ, List.getElem_toArray, List.getElem_cons_zero, List.getElem_cons_succ]
        iterate 2 ((first | (refine NW.take (v := ?_) rfl (fun _ _ _ h => h) (Or.inl ⟨by rfl, ?_⟩) ?_; rotate_left; focus (intro w hSw; (try dsimp only at hSw); go_simp; (all_goals with_reducible rfl); done)) | (refine NW.leave rfl (fun _ _ _ h => h) (by rfl) (by assumption) ?_)); try simp only [Act.put, List.setIfInBounds_toArray, List.set_cons_zero, List.set_cons_succ, List.getElem_toArray, List.getElem_cons_zero, List.getElem_cons_succ])
        refine NW.done ?_
        go_wp2_with fail
        go_ret
        exact ⟨rfl, (HBX.out _ (HX.out _ (HB4.out.trans (HN7.out.mono HB4.out.size))).2).below⟩
  · have b1 : (arriveErr p s l != 0) = true := by simp [hc]
    refine HC.mono ?_
    clear HC
    rintro e w1 ⟨x1, x2, x3, xc1, xc2, xc3, rx, rfl, hs1, hb1⟩
    unfold stateV vState
    go_upto_region 2 with fail
    have hb2 := hb1.alloc hb1.size (.cells #[.slice x1 (arriveS p s l).ready.length xc1, .slice x2 (arriveS p s l).outs.length xc2, .slice x3 (arriveS p s l).takers.length xc3, .int .i64 (arriveS p s l).nextSeq, .int .i64 (arriveS p s l).nextTag, .int .i64 (arriveS p s l).came, .int .i64 (arriveS p s l).acked, .int .i64 (arriveS p s l).dropped] 31)
    have HB2 := Lib.hid hb2
    clear hb1 hs1 hb2
    go_wp2_with fail
    refine (arriveBegun_any _ (HBX.out _ HB2.out).env).mono ?_
    rintro e w3 ⟨rfl, hb3⟩
    have HB3 := Lib.hid (HB2.out.trans (hb3.mono HB2.out.size))
    clear hb3
    go_wp2_with fail
    go_ret
    exact ⟨rfl, (HBX.out _ HB3.out).below⟩

theorem arriveTrue_any (p : PlanD) (p1 p2 p3 : Option Addr) (q1 q2 q3 : Nat) (s : StateD) (a1 a2 a3 : Option Addr) (c1 c2 c3 : Nat) (rows : List RowD) (al : Option Addr) (cl : Nat) (l : List ArrivalD) (q : Int) (w : World) (hp : PlanAt w 0 w.heap.size p1 p2 p3 p) (hps : PlanSmall p) (_ : PlanInts p) (hs : StateAt w 0 w.heap.size a1 a2 a3 rows s) (hss : StateSmall s) (hsi : StateInts s)
    (_ : s.ready.length ≤ c1 ∧ s.outs.length ≤ c2 ∧ s.takers.length ≤ c3) (hl : Sl w 0 w.heap.size al (l.flatMap vArrival)) (hsm : ∀ a ∈ l, ArrSmall a) (hlc : l.length ≤ cl) (hll : l.length ≤ 1048576) (hq : -9223372036854775808 ≤ q ∧ q ≤ 9223372036854775807) (hE : Env w) :
    Calls Tryz.prog 4 #[planV p p1 p2 p3 q1 q2 q3, stateV s a1 a2 a3 c1 c2 c3, .slice al l.length cl, .int .i64 q] w fun e w' => e = .returned (.bool true) ∧ Below w.heap.size w w' :=
  arriveTrue_go p s l al cl q p1 p2 p3 a1 a2 a3 q1 q2 q3 c1 c2 c3 rows w hE hp hps hs hss hsi hl hsm hlc hll hq

end Go.Proofs.YtfbgmgadpjpdcaaGreatDoor
