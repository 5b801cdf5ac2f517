/-
  The law RouteMore: the plan with one bind more.
  The law RouteMore.
  The law RouteMore.
-/
import Derived.Test.YtapimpmpjighmaaDoorBunP
import Derived.Test.YtapimpmpjighmaaDoorBunE
import Derived.Test.YtapimpmpjighmaaDoorBunB
import Derived.Test.YtapimpmpjighmaaDoorBunQ
set_option linter.unusedSimpArgs false
set_option linter.unusedVariables false
namespace Go.Proofs.YtapimpmpjighmaaDoor
open Go Go.RowKit
set_option maxRecDepth 100000

def regionOf (n : Nat) : Code → Option Code
  | .region id ops b => if id = n then some (.region id ops b) else none
  | .loop c => regionOf n c
  | .seq a b => match regionOf n a with
    | some c => some c
    | none => regionOf n b
  | .block _ c => regionOf n c
  | .scope c => regionOf n c
  | .cond _ a b => match regionOf n a with
    | some c => some c
    | none => regionOf n b
  | _ => none
def RM (R : Act → World → Prop) : Exit → Act → World → Prop
  | .normal, a, W => R a W
  | _, _, _ => False
theorem region_mid {P : Program} {c : Code} {Q : Exit → Act → World → Prop} {a : Act} {w : World} (R : Act → World → Prop) (h : c.wp P (RM R) a w) (hq : ∀ a' W', R a' W' → Q .normal a' W') : c.wp P Q a w :=
  Code.wp_mono (fun e a W h => by cases e <;> first | exact hq _ _ h | exact h.elim) h
theorem infoBindR : (Tryd.prog.info? 64).map (fun i => (i.zero, i.size, i.bytes)) = some (some (.agg #[.int .i64 0, .bool false, .int .i64 0, .string ⟨#[]⟩]), 4, 40) := by kernel_rfl
def RmR (W : World) (Y : Nat) (bs : List BindD) (bd : BindD) (F : Array Value → Prop) (a' : Act) (W' : World) : Prop :=
  ∃ (t : Array Value) (A : Option Addr), a' = ⟨t, []⟩ ∧ F t ∧ ∃ (C : Nat) (W6 : World), W6.ownsRow W.heap.size 64 4 (.slice A (bs.length + 1) C) (bs.length + 1) (bs.flatMap vBind ++ vBind bd) ∧ Below W.heap.size W W6 ∧ W' = W6.setCell ⟨Y, 2, none⟩ (.slice A (bs.length + 1) C)
theorem rm_far {W W6 : World} {X Y Bb : Nat} {bs : List BindD} {bd : BindD} {a3 : Option Addr} {c3 : Nat} (hX : W.cell? ⟨X, 2, none⟩ = some (.slice a3 bs.length c3)) (hBb : Bk W Bb 64 (vBind bd).toArray) (hXY : X ≠ Y) (hBY : Bb ≠ Y) (hN : Below W.heap.size W W6) (v : Value) :
    (W6.setCell ⟨Y, 2, none⟩ v).cell? ⟨X, 2, none⟩ = some (.slice a3 bs.length c3) ∧ (W6.setCell ⟨Y, 2, none⟩ v).cell? ⟨Bb, 0, none⟩ = some (.int .i64 bd.src) ∧ (W6.setCell ⟨Y, 2, none⟩ v).cell? ⟨Bb, 1, none⟩ = some (.bool bd.toPost) ∧ (W6.setCell ⟨Y, 2, none⟩ v).cell? ⟨Bb, 2, none⟩ = some (.int .i64 bd.to) ∧ (W6.setCell ⟨Y, 2, none⟩ v).cell? ⟨Bb, 3, none⟩ = some (.string bd.pattern) := by
  have k := (hBb.below hN hBb.lt).far (p := ⟨Y, 2, none⟩) hBY v
  exact ⟨(World.cell?_setCell_far _ ⟨Y, 2, none⟩ ⟨X, 2, none⟩ v hXY.symm).trans ((hN.cell (p := ⟨X, 2, none⟩) (World.block_lt_of_cell? _ _ hX)).trans hX), k.cell 0, k.cell 1, k.cell 2, k.cell 3⟩
theorem own_lower {w : World} {base base' : Nat} {e : TypeId} {size n : Nat} {v : Value} {us : List Value} (h : w.ownsRow base e size v n us) (hb : base' ≤ base) : w.ownsRow base' e size v n us := by
  refine ⟨h.1, ?_⟩
  rcases h.2 with h1 | ⟨g, cap, cur, h1, h2, h3⟩
  · exact .inl h1
  · exact .inr ⟨g, cap, cur, h1, by omega, h3⟩
theorem zeroB_wp {W : World} {o : Oper} {a : Act} {K : Act → World → Prop} {Q : Exit → Act → World → Prop} (s x : Operand) (ho : o.op = .call { callee := .builtin .append, args := #[s, x], argTypes := #[24, 24] }) {b0 : Addr} {ad : Option Addr} {m c B lo hi : Nat} {news : List BindD} (hs : a.eval s = .slice (some b0) 0 0) (hx : a.eval x = .slice ad m c)
    (hz : W.ownsRow B 64 4 (.slice (some b0) 0 0) 0 []) (hsl : Sl W lo hi ad (news.flatMap vBind)) (hm : news.length ≤ 1048576) (hBW : B ≤ W.heap.size) (hmn : m = news.length)
    (h : ∀ v' w', w'.ownsRow B 64 4 v' m (news.flatMap vBind) → Below W.heap.size W w' → K (a.put o.dst v') w') : o.wp Tryd.prog a W K Q := by
  subst hmn
  obtain ⟨v', w', hr, hb, hx'⟩ := run_append_zero (P := Tryd.prog) W 24 o.type 64 Tryd.underlying24 infoBindR rfl (by decide) (by decide) b0 lo hi ad news.length c (news.flatMap vBind) (flat_len vBind_len _) hsl (by omega)
  refine Lib.wp_append_run W s x _ _ ho _ _ hs hx _ _ hr (h _ w' ?_ hb)
  rcases hx' with ⟨_, h1⟩ | ⟨h0, rfl, rfl⟩
  · exact own_lower h1 hBW
  · have : news = [] := List.eq_nil_of_length_eq_zero h0
    subst this
    exact hz
theorem rowB_wp {W : World} {B : Nat} {o : Oper} {a : Act} {K : Act → World → Prop} {Q : Exit → Act → World → Prop} (s x : Operand) (ho : o.op = .call { callee := .builtin .append, args := #[s, x], argTypes := #[24, 24] }) {v : Value} {n : Nat} {us : List Value} (hs : a.eval s = v) (hown : W.ownsRow B 64 4 v n us)
    {gb : Nat} {bd : BindD} (hx : a.eval x = .slice (some ⟨gb, 0, none⟩) 1 1) (hb : Bk W gb 64 (vBind bd).toArray) (hn : n ≤ 4294967290) (hBW : B ≤ W.heap.size)
    (h : ∀ v' w', w'.ownsRow B 64 4 v' (n + 1) (us ++ vBind bd) → W.grownBy w' v.ownBlock → K (a.put o.dst v') w') : o.wp Tryd.prog a W K Q := by
  obtain ⟨v', w', hr, ho', hg⟩ := run_appendS (P := Tryd.prog) W B 24 o.type 64 Tryd.underlying24 infoBindR rfl (by decide) (by decide) v n us hown 0 W.heap.size (some ⟨gb, 0, none⟩) 1 1 (vBind bd) (vBind_len bd) (Sl.of_bk hb (Nat.zero_le _) hb.lt (by simp)) (by
    intro u hu
    simp only [vBind, List.mem_cons, List.not_mem_nil, or_false] at hu
    rcases hu with rfl | rfl | rfl | rfl <;> rfl) (by omega) hBW
  exact Lib.wp_append_run W s x _ _ ho _ _ hs hx _ _ hr (h _ w' ho' hg)

theorem rm2_open {n : Int} {key : ByteArray} {Bb X Y : Nat} {t : Array Value} (h : t = #[t.getD 0 undef, .int .i64 n, .string key, t.getD 3 undef, .pointer (some ⟨X, 0, none⟩), t.getD 5 undef, t.getD 6 undef, .pointer (some ⟨Bb, 0, none⟩), .bool false, .pointer (some ⟨Y, 0, none⟩), t.getD 10 undef, t.getD 11 undef, t.getD 12 undef, t.getD 13 undef, t.getD 14 undef, t.getD 15 undef, t.getD 16 undef, t.getD 17 undef, t.getD 18 undef, t.getD 19 undef, t.getD 20 undef, t.getD 21 undef, t.getD 22 undef, t.getD 23 undef, t.getD 24 undef, t.getD 25 undef, t.getD 26 undef, t.getD 27 undef, t.getD 28 undef, t.getD 29 undef, t.getD 30 undef, t.getD 31 undef, t.getD 32 undef, t.getD 33 undef, t.getD 34 undef, t.getD 35 undef, t.getD 36 undef, t.getD 37 undef, t.getD 38 undef, t.getD 39 undef, t.getD 40 undef, t.getD 41 undef, t.getD 42 undef, t.getD 43 undef, t.getD 44 undef, t.getD 45 undef, t.getD 46 undef, t.getD 47 undef, t.getD 48 undef, t.getD 49 undef, t.getD 50 undef, t.getD 51 undef, t.getD 52 undef, t.getD 53 undef, t.getD 54 undef, t.getD 55 undef, t.getD 56 undef, t.getD 57 undef, t.getD 58 undef, t.getD 59 undef, t.getD 60 undef, t.getD 61 undef, t.getD 62 undef, t.getD 63 undef, t.getD 64 undef, t.getD 65 undef, t.getD 66 undef, t.getD 67 undef, t.getD 68 undef, t.getD 69 undef, t.getD 70 undef, t.getD 71 undef, t.getD 72 undef, t.getD 73 undef, t.getD 74 undef, t.getD 75 undef, t.getD 76 undef, t.getD 77 undef, t.getD 78 undef, t.getD 79 undef, t.getD 80 undef, t.getD 81 undef, t.getD 82 undef, t.getD 83 undef, t.getD 84 undef, t.getD 85 undef, t.getD 86 undef, t.getD 87 undef, t.getD 88 undef, t.getD 89 undef, t.getD 90 undef, t.getD 91 undef, t.getD 92 undef, t.getD 93 undef, t.getD 94 undef, t.getD 95 undef, t.getD 96 undef, t.getD 97 undef, t.getD 98 undef, t.getD 99 undef, t.getD 100 undef, t.getD 101 undef]) : ∃ u : Nat → Value, t = #[u 0, .int .i64 n, .string key, u 3, .pointer (some ⟨X, 0, none⟩), u 5, u 6, .pointer (some ⟨Bb, 0, none⟩), .bool false, .pointer (some ⟨Y, 0, none⟩), u 10, u 11, u 12, u 13, u 14, u 15, u 16, u 17, u 18, u 19, u 20, u 21, u 22, u 23, u 24, u 25, u 26, u 27, u 28, u 29, u 30, u 31, u 32, u 33, u 34, u 35, u 36, u 37, u 38, u 39, u 40, u 41, u 42, u 43, u 44, u 45, u 46, u 47, u 48, u 49, u 50, u 51, u 52, u 53, u 54, u 55, u 56, u 57, u 58, u 59, u 60, u 61, u 62, u 63, u 64, u 65, u 66, u 67, u 68, u 69, u 70, u 71, u 72, u 73, u 74, u 75, u 76, u 77, u 78, u 79, u 80, u 81, u 82, u 83, u 84, u 85, u 86, u 87, u 88, u 89, u 90, u 91, u 92, u 93, u 94, u 95, u 96, u 97, u 98, u 99, u 100, u 101] := ⟨fun i => t.getD i undef, h⟩

set_option maxHeartbeats 2000000 in
theorem rm_reg2 (n : Int) (key : ByteArray) (Bb X Y : Nat) (bs : List BindD) (bd : BindD) (a3 : Option Addr) (c3 : Nat) (v1 v2 v3 : Value) (W : World) (hX : W.cell? ⟨X, 2, none⟩ = some (.slice a3 bs.length c3)) (hBb : Bk W Bb 64 (vBind bd).toArray) (hY : Bk W Y 26 #[v1, v2, v3])
    (hsl : Sl W 0 W.heap.size a3 (bs.flatMap vBind)) (hlen : bs.length ≤ 1048576) (hXY : X ≠ Y) (hBY : Bb ≠ Y) (Q : Exit → Act → World → Prop)
    (hq : ∀ (t : Array Value) (A : Option Addr) (C : Nat) (W6 : World), t = #[t.getD 0 undef, .int .i64 n, .string key, t.getD 3 undef, .pointer (some ⟨X, 0, none⟩), t.getD 5 undef, t.getD 6 undef, .pointer (some ⟨Bb, 0, none⟩), .bool false, .pointer (some ⟨Y, 0, none⟩), t.getD 10 undef, t.getD 11 undef, t.getD 12 undef, t.getD 13 undef, t.getD 14 undef, t.getD 15 undef, t.getD 16 undef, t.getD 17 undef, t.getD 18 undef, t.getD 19 undef, t.getD 20 undef, t.getD 21 undef, t.getD 22 undef, t.getD 23 undef, t.getD 24 undef, t.getD 25 undef, t.getD 26 undef, t.getD 27 undef, t.getD 28 undef, t.getD 29 undef, t.getD 30 undef, t.getD 31 undef, t.getD 32 undef, t.getD 33 undef, t.getD 34 undef, t.getD 35 undef, t.getD 36 undef, t.getD 37 undef, t.getD 38 undef, t.getD 39 undef, t.getD 40 undef, t.getD 41 undef, t.getD 42 undef, t.getD 43 undef, t.getD 44 undef, t.getD 45 undef, t.getD 46 undef, t.getD 47 undef, t.getD 48 undef, t.getD 49 undef, t.getD 50 undef, t.getD 51 undef, t.getD 52 undef, t.getD 53 undef, t.getD 54 undef, t.getD 55 undef, t.getD 56 undef, t.getD 57 undef, t.getD 58 undef, t.getD 59 undef, t.getD 60 undef, t.getD 61 undef, t.getD 62 undef, t.getD 63 undef, t.getD 64 undef, t.getD 65 undef, t.getD 66 undef, t.getD 67 undef, t.getD 68 undef, t.getD 69 undef, t.getD 70 undef, t.getD 71 undef, t.getD 72 undef, t.getD 73 undef, t.getD 74 undef, t.getD 75 undef, t.getD 76 undef, t.getD 77 undef, t.getD 78 undef, t.getD 79 undef, t.getD 80 undef, t.getD 81 undef, t.getD 82 undef, t.getD 83 undef, t.getD 84 undef, t.getD 85 undef, t.getD 86 undef, t.getD 87 undef, t.getD 88 undef, t.getD 89 undef, t.getD 90 undef, t.getD 91 undef, t.getD 92 undef, t.getD 93 undef, t.getD 94 undef, t.getD 95 undef, t.getD 96 undef, t.getD 97 undef, t.getD 98 undef, t.getD 99 undef, t.getD 100 undef, t.getD 101 undef] → W6.ownsRow W.heap.size 64 4 (.slice A (bs.length + 1) C) (bs.length + 1) (bs.flatMap vBind ++ vBind bd) → Below W.heap.size W W6 → Q .normal ⟨t, []⟩ (W6.setCell ⟨Y, 2, none⟩ (.slice A (bs.length + 1) C)))
    (t : Array Value) (ht : t = #[t.getD 0 undef, .int .i64 n, .string key, t.getD 3 undef, .pointer (some ⟨X, 0, none⟩), t.getD 5 undef, t.getD 6 undef, .pointer (some ⟨Bb, 0, none⟩), .bool false, .pointer (some ⟨Y, 0, none⟩), t.getD 10 undef, t.getD 11 undef, t.getD 12 undef, t.getD 13 undef, t.getD 14 undef, t.getD 15 undef, t.getD 16 undef, t.getD 17 undef, t.getD 18 undef, t.getD 19 undef, t.getD 20 undef, t.getD 21 undef, t.getD 22 undef, t.getD 23 undef, t.getD 24 undef, t.getD 25 undef, t.getD 26 undef, t.getD 27 undef, t.getD 28 undef, t.getD 29 undef, t.getD 30 undef, t.getD 31 undef, t.getD 32 undef, t.getD 33 undef, t.getD 34 undef, t.getD 35 undef, t.getD 36 undef, t.getD 37 undef, t.getD 38 undef, t.getD 39 undef, t.getD 40 undef, t.getD 41 undef, t.getD 42 undef, t.getD 43 undef, t.getD 44 undef, t.getD 45 undef, t.getD 46 undef, t.getD 47 undef, t.getD 48 undef, t.getD 49 undef, t.getD 50 undef, t.getD 51 undef, t.getD 52 undef, t.getD 53 undef, t.getD 54 undef, t.getD 55 undef, t.getD 56 undef, t.getD 57 undef, t.getD 58 undef, t.getD 59 undef, t.getD 60 undef, t.getD 61 undef, t.getD 62 undef, t.getD 63 undef, t.getD 64 undef, t.getD 65 undef, t.getD 66 undef, t.getD 67 undef, t.getD 68 undef, t.getD 69 undef, t.getD 70 undef, t.getD 71 undef, t.getD 72 undef, t.getD 73 undef, t.getD 74 undef, t.getD 75 undef, t.getD 76 undef, t.getD 77 undef, t.getD 78 undef, t.getD 79 undef, t.getD 80 undef, t.getD 81 undef, t.getD 82 undef, t.getD 83 undef, t.getD 84 undef, t.getD 85 undef, t.getD 86 undef, t.getD 87 undef, t.getD 88 undef, t.getD 89 undef, t.getD 90 undef, t.getD 91 undef, t.getD 92 undef, t.getD 93 undef, t.getD 94 undef, t.getD 95 undef, t.getD 96 undef, t.getD 97 undef, t.getD 98 undef, t.getD 99 undef, t.getD 100 undef, t.getD 101 undef]) : ((Tryd.f9.body.bind (regionOf 2)).getD .skip).wp Tryd.prog Q ⟨t, []⟩ W := by
  obtain ⟨u, rfl⟩ := rm2_open ht
  clear ht
  refine region_mid (RmR W Y bs bd (fun t => t = #[t.getD 0 undef, .int .i64 n, .string key, t.getD 3 undef, .pointer (some ⟨X, 0, none⟩), t.getD 5 undef, t.getD 6 undef, .pointer (some ⟨Bb, 0, none⟩), .bool false, .pointer (some ⟨Y, 0, none⟩), t.getD 10 undef, t.getD 11 undef, t.getD 12 undef, t.getD 13 undef, t.getD 14 undef, t.getD 15 undef, t.getD 16 undef, t.getD 17 undef, t.getD 18 undef, t.getD 19 undef, t.getD 20 undef, t.getD 21 undef, t.getD 22 undef, t.getD 23 undef, t.getD 24 undef, t.getD 25 undef, t.getD 26 undef, t.getD 27 undef, t.getD 28 undef, t.getD 29 undef, t.getD 30 undef, t.getD 31 undef, t.getD 32 undef, t.getD 33 undef, t.getD 34 undef, t.getD 35 undef, t.getD 36 undef, t.getD 37 undef, t.getD 38 undef, t.getD 39 undef, t.getD 40 undef, t.getD 41 undef, t.getD 42 undef, t.getD 43 undef, t.getD 44 undef, t.getD 45 undef, t.getD 46 undef, t.getD 47 undef, t.getD 48 undef, t.getD 49 undef, t.getD 50 undef, t.getD 51 undef, t.getD 52 undef, t.getD 53 undef, t.getD 54 undef, t.getD 55 undef, t.getD 56 undef, t.getD 57 undef, t.getD 58 undef, t.getD 59 undef, t.getD 60 undef, t.getD 61 undef, t.getD 62 undef, t.getD 63 undef, t.getD 64 undef, t.getD 65 undef, t.getD 66 undef, t.getD 67 undef, t.getD 68 undef, t.getD 69 undef, t.getD 70 undef, t.getD 71 undef, t.getD 72 undef, t.getD 73 undef, t.getD 74 undef, t.getD 75 undef, t.getD 76 undef, t.getD 77 undef, t.getD 78 undef, t.getD 79 undef, t.getD 80 undef, t.getD 81 undef, t.getD 82 undef, t.getD 83 undef, t.getD 84 undef, t.getD 85 undef, t.getD 86 undef, t.getD 87 undef, t.getD 88 undef, t.getD 89 undef, t.getD 90 undef, t.getD 91 undef, t.getD 92 undef, t.getD 93 undef, t.getD 94 undef, t.getD 95 undef, t.getD 96 undef, t.getD 97 undef, t.getD 98 undef, t.getD 99 undef, t.getD 100 undef, t.getD 101 undef])) ?_ ?_
  · have hb0 := hBb.cell 0
    have hb1 := hBb.cell 1
    have hb2 := hBb.cell 2
    have hb3 := hBb.cell 3
    simp only [vBind, List.getElem?_toArray, List.getElem?_cons_zero, List.getElem?_cons_succ] at hb0 hb1 hb2 hb3
    have HK : Hid (∀ W', Below W.heap.size W W' → (fun W => W.cell? ⟨X, 2, none⟩ = some (.slice a3 bs.length c3) ∧ W.cell? ⟨Bb, 0, none⟩ = some (.int .i64 bd.src) ∧ W.cell? ⟨Bb, 1, none⟩ = some (.bool bd.toPost) ∧ W.cell? ⟨Bb, 2, none⟩ = some (.int .i64 bd.to) ∧ W.cell? ⟨Bb, 3, none⟩ = some (.string bd.pattern)) W') := Lib.hid fun W' h => ⟨(h.cell (p := ⟨X, 2, none⟩) (World.block_lt_of_cell? _ _ hX)).trans hX, (h.cell (p := ⟨Bb, 0, none⟩) hBb.lt).trans hb0, (h.cell (p := ⟨Bb, 1, none⟩) hBb.lt).trans hb1, (h.cell (p := ⟨Bb, 2, none⟩) hBb.lt).trans hb2, (h.cell (p := ⟨Bb, 3, none⟩) hBb.lt).trans hb3⟩
    clear hb0 hb1 hb2 hb3
    conv => arg 2; whnf
    refine wp_region_held_drew (S := (fun W => W.cell? ⟨X, 2, none⟩ = some (.slice a3 bs.length c3) ∧ W.cell? ⟨Bb, 0, none⟩ = some (.int .i64 bd.src) ∧ W.cell? ⟨Bb, 1, none⟩ = some (.bool bd.toPost) ∧ W.cell? ⟨Bb, 2, none⟩ = some (.int .i64 bd.to) ∧ W.cell? ⟨Bb, 3, none⟩ = some (.string bd.pattern))) (by kernel_rfl) (HK.out _ (Below.refl _ _).drew) (fun hHeld => ?_)
    have hN : Below W.heap.size W W.drew := (Below.refl _ _).drew
    generalize W.drew = Wd at *
    first | (refine wpAnyH_take (i := 1) (v := ?_) rfl (by kernel_rfl) (by kernel_rfl) (by kernel_rfl) (fun _ _ _ h => h) (Or.inl ⟨by rfl, ?_⟩) (by assumption) ?_; rotate_left; focus (intro w hSw; (try dsimp only at hSw); go_simp; (all_goals with_reducible rfl); done)) | fail "op 1"
    try simp only [Act.put, List.setIfInBounds_toArray, List.set_cons_zero, List.set_cons_succ, List.getElem_toArray, List.getElem_cons_zero]
    first | (refine wpAnyH_take (i := 2) (v := ?_) rfl (by kernel_rfl) (by kernel_rfl) (by kernel_rfl) (fun _ _ _ h => h) (Or.inl ⟨by rfl, ?_⟩) (by assumption) ?_; rotate_left; focus (intro w hSw; (try dsimp only at hSw); go_simp; (all_goals with_reducible rfl); done)) | fail "op 2"
    try simp only [Act.put, List.setIfInBounds_toArray, List.set_cons_zero, List.set_cons_succ, List.getElem_toArray, List.getElem_cons_zero, List.getElem_cons_succ]
    first | (refine wpAnyH_take (i := 4) (v := ?_) rfl (by kernel_rfl) (by kernel_rfl) (by kernel_rfl) (fun _ _ _ h => h) (Or.inl ⟨by rfl, ?_⟩) (by assumption) ?_; rotate_left; focus (intro w hSw; (try dsimp only at hSw); go_simp; (all_goals with_reducible rfl); done)) | fail "op 4"
    try simp only [Act.put, List.setIfInBounds_toArray, List.set_cons_zero, List.set_cons_succ, List.getElem_toArray, List.getElem_cons_zero, List.getElem_cons_succ]
    refine wpAnyH_ready (rs := [0, 5]) (by kernel_rfl) (by simp) ?_
    refine AllReadyH.cons rfl (fun K hK => ?_) (AllReadyH.cons rfl (fun K hK => ?_) AllReadyH.nil)
    · go_simp
      generalize hW : World.alloc _ (Obj.cells _ _) = W0
      have hS0 := hN.size
      have hN : Below W.heap.size W W0 := by rw [← hW]; exact hN.alloc hN.size _
      have HZ : Hid (W0.ownsRow W.heap.size 64 4 (.slice (some ⟨Wd.heap.size, 0, none⟩) 0 0) 0 []) := by rw [← hW]; exact Lib.hid (World.ownsRow_lit _ #[] 0 hS0 (by decide) rfl)
      clear hW
      refine hK.out _ _ (by first | assumption | exact HK.out _ hN) (fun hHeld => ?_)
      clear hK K
      try simp only [Act.put, List.setIfInBounds_toArray, List.set_cons_zero, List.set_cons_succ, List.getElem_toArray, List.getElem_cons_zero, List.getElem_cons_succ]
      refine wpAnyH_ready (rs := [3, 5]) (by kernel_rfl) (by simp) ?_
      refine AllReadyH.cons rfl (fun K hK => ?_) (AllReadyH.cons rfl (fun K hK => ?_) AllReadyH.nil)
      · rw [if_pos (by rfl)]
        refine zeroB_wp (.tmp 21) (.tmp 23) rfl (b0 := ⟨Wd.heap.size, 0, none⟩) rfl rfl HZ.out (hsl.below hN (Nat.le_refl _)) hlen (Nat.le_trans (by omega) hN.size) rfl ?_
        intro v3 W3 ho3 hb3
        obtain ⟨A3, C3, rfl, _⟩ := own_slice ho3
        have HO3 := Lib.hid ho3
        have hN3 : Below W.heap.size W W3 := hN.trans (hb3.mono hN.size)
        have hN := hN3
        clear hN3 hb3 ho3
        refine hK.out _ _ (by first | assumption | exact HK.out _ hN) (fun hHeld => ?_)
        clear hK K
        try simp only [Act.put, List.setIfInBounds_toArray, List.set_cons_zero, List.set_cons_succ, List.getElem_toArray, List.getElem_cons_zero, List.getElem_cons_succ]
        refine wpAnyH_ready (rs := [5]) (by kernel_rfl) (by simp) ?_
        refine AllReadyH.cons rfl (fun K hK => ?_) AllReadyH.nil
        go_simp
        generalize hW : World.alloc _ (Obj.cells _ _) = W5
        have hN : Below W.heap.size W W5 := by rw [← hW]; exact hN.alloc hN.size _
        have HE : Hid (Bk W5 W3.heap.size 64 (vBind bd).toArray) := by rw [← hW]; exact Lib.hid (Bk.new_at _ _ _ (by rfl))
        have HO5 : Hid (W5.ownsRow W.heap.size 64 4 (.slice A3 bs.length C3) bs.length (bs.flatMap vBind)) := by rw [← hW]; exact Lib.hid (World.ownsRow.alloc HO3.out _)
        clear hW
        refine hK.out _ _ (by first | assumption | exact HK.out _ hN) (fun hHeld => ?_)
        clear hK K
        try simp only [Act.put, List.setIfInBounds_toArray, List.set_cons_zero, List.set_cons_succ, List.getElem_toArray, List.getElem_cons_zero, List.getElem_cons_succ]
        refine wpAnyH_ready (rs := [6]) (by kernel_rfl) (by simp) ?_
        refine AllReadyH.cons rfl (fun K hK => ?_) AllReadyH.nil
        rw [if_pos (by rfl)]
        refine rowB_wp (.tmp 24) (.tmp 26) rfl rfl HO5.out (gb := W3.heap.size) rfl HE.out (by omega) hN.size ?_
        intro v6 W6 ho6 hg6
        obtain ⟨A6, C6, rfl, _⟩ := own_slice ho6
        have HO6 := Lib.hid ho6
        have hN6 : Below W.heap.size W W6 := below_own HO5.out hg6 hN (Nat.le_refl _) hN.size
        have hN := hN6
        have ky := hY.below hN hY.lt
        have y2 := ky.cell 2
        have yf := ky.frozen 2
        have yl := ky.lt
        simp only [List.getElem?_toArray, List.getElem?_cons_zero, List.getElem?_cons_succ] at y2
        clear hN6 ho6 hg6
        refine hK.out _ _ (by first | assumption | exact HK.out _ hN) (fun hHeld => ?_)
        clear hK K
        try simp only [Act.put, List.setIfInBounds_toArray, List.set_cons_zero, List.set_cons_succ, List.getElem_toArray, List.getElem_cons_zero, List.getElem_cons_succ]
        first | (refine wpAnyH_take (i := 7) (v := ?_) rfl (by kernel_rfl) (by kernel_rfl) (by kernel_rfl) (fun _ _ _ h => h) (Or.inl ⟨by rfl, ?_⟩) (by assumption) ?_; rotate_left; focus (intro w hSw; (try dsimp only at hSw); go_simp; (all_goals with_reducible rfl); done)) | fail "op 7"
        try simp only [Act.put, List.setIfInBounds_toArray, List.set_cons_zero, List.set_cons_succ, List.getElem_toArray, List.getElem_cons_zero, List.getElem_cons_succ]
        refine wpAnyH_ready (rs := [8]) (by kernel_rfl) (by simp) ?_
        refine AllReadyH.cons rfl (fun K hK => ?_) AllReadyH.nil
        go_simp
        skip
        refine hK.out _ _ (by exact rm_far hX hBb hXY hBY hN (.slice A6 (bs.length + 1) C6)) (fun hHeld => ?_)
        clear hK K
        try simp only [Act.put, List.setIfInBounds_toArray, List.set_cons_zero, List.set_cons_succ, List.getElem_toArray, List.getElem_cons_zero, List.getElem_cons_succ]
        refine wpAnyH_done (by kernel_rfl) ?_ _
        exact ⟨_, A6, rfl, rfl, C6, W6, HO6.out, hN, rfl⟩
      · go_simp
        generalize hW : World.alloc _ (Obj.cells _ _) = W5
        have hN : Below W.heap.size W W5 := by rw [← hW]; exact hN.alloc hN.size _
        have HE : Hid (Bk W5 W0.heap.size 64 (vBind bd).toArray) := by rw [← hW]; exact Lib.hid (Bk.new_at _ _ _ (by rfl))
        have HZ5 : Hid (W5.ownsRow W.heap.size 64 4 (.slice (some ⟨Wd.heap.size, 0, none⟩) 0 0) 0 []) := by rw [← hW]; exact Lib.hid (World.ownsRow.alloc HZ.out _)
        clear hW
        refine hK.out _ _ (by first | assumption | exact HK.out _ hN) (fun hHeld => ?_)
        clear hK K
        try simp only [Act.put, List.setIfInBounds_toArray, List.set_cons_zero, List.set_cons_succ, List.getElem_toArray, List.getElem_cons_zero, List.getElem_cons_succ]
        refine wpAnyH_ready (rs := [3]) (by kernel_rfl) (by simp) ?_
        refine AllReadyH.cons rfl (fun K hK => ?_) AllReadyH.nil
        rw [if_pos (by rfl)]
        refine zeroB_wp (.tmp 21) (.tmp 23) rfl (b0 := ⟨Wd.heap.size, 0, none⟩) rfl rfl HZ5.out (hsl.below hN (Nat.le_refl _)) hlen (Nat.le_trans (by omega) hN.size) rfl ?_
        intro v3 W3 ho3 hb3
        obtain ⟨A3, C3, rfl, _⟩ := own_slice ho3
        have HO3 := Lib.hid ho3
        have hN3 : Below W.heap.size W W3 := hN.trans (hb3.mono hN.size)
        have HE3 : Hid (Bk W3 W0.heap.size 64 (vBind bd).toArray) := Lib.hid (HE.out.below hb3 HE.out.lt)
        have hN := hN3
        clear hN3 hb3 ho3
        refine hK.out _ _ (by first | assumption | exact HK.out _ hN) (fun hHeld => ?_)
        clear hK K
        try simp only [Act.put, List.setIfInBounds_toArray, List.set_cons_zero, List.set_cons_succ, List.getElem_toArray, List.getElem_cons_zero, List.getElem_cons_succ]
        refine wpAnyH_ready (rs := [6]) (by kernel_rfl) (by simp) ?_
        refine AllReadyH.cons rfl (fun K hK => ?_) AllReadyH.nil
        rw [if_pos (by rfl)]
        refine rowB_wp (.tmp 24) (.tmp 26) rfl rfl HO3.out (gb := W0.heap.size) rfl HE3.out (by omega) hN.size ?_
        intro v6 W6 ho6 hg6
        obtain ⟨A6, C6, rfl, _⟩ := own_slice ho6
        have HO6 := Lib.hid ho6
        have hN6 : Below W.heap.size W W6 := below_own HO3.out hg6 hN (Nat.le_refl _) hN.size
        have hN := hN6
        have ky := hY.below hN hY.lt
        have y2 := ky.cell 2
        have yf := ky.frozen 2
        have yl := ky.lt
        simp only [List.getElem?_toArray, List.getElem?_cons_zero, List.getElem?_cons_succ] at y2
        clear hN6 ho6 hg6
        refine hK.out _ _ (by first | assumption | exact HK.out _ hN) (fun hHeld => ?_)
        clear hK K
        try simp only [Act.put, List.setIfInBounds_toArray, List.set_cons_zero, List.set_cons_succ, List.getElem_toArray, List.getElem_cons_zero, List.getElem_cons_succ]
        first | (refine wpAnyH_take (i := 7) (v := ?_) rfl (by kernel_rfl) (by kernel_rfl) (by kernel_rfl) (fun _ _ _ h => h) (Or.inl ⟨by rfl, ?_⟩) (by assumption) ?_; rotate_left; focus (intro w hSw; (try dsimp only at hSw); go_simp; (all_goals with_reducible rfl); done)) | fail "op 7"
        try simp only [Act.put, List.setIfInBounds_toArray, List.set_cons_zero, List.set_cons_succ, List.getElem_toArray, List.getElem_cons_zero, List.getElem_cons_succ]
        refine wpAnyH_ready (rs := [8]) (by kernel_rfl) (by simp) ?_
        refine AllReadyH.cons rfl (fun K hK => ?_) AllReadyH.nil
        go_simp
        skip
        refine hK.out _ _ (by exact rm_far hX hBb hXY hBY hN (.slice A6 (bs.length + 1) C6)) (fun hHeld => ?_)
        clear hK K
        try simp only [Act.put, List.setIfInBounds_toArray, List.set_cons_zero, List.set_cons_succ, List.getElem_toArray, List.getElem_cons_zero, List.getElem_cons_succ]
        refine wpAnyH_done (by kernel_rfl) ?_ _
        exact ⟨_, A6, rfl, rfl, C6, W6, HO6.out, hN, rfl⟩
    · go_simp
      generalize hW : World.alloc _ (Obj.cells _ _) = W5
      have hN : Below W.heap.size W W5 := by rw [← hW]; exact hN.alloc hN.size _
      have HE : Hid (Bk W5 Wd.heap.size 64 (vBind bd).toArray) := by rw [← hW]; exact Lib.hid (Bk.new_at _ _ _ (by rfl))
      clear hW
      refine hK.out _ _ (by first | assumption | exact HK.out _ hN) (fun hHeld => ?_)
      clear hK K
      try simp only [Act.put, List.setIfInBounds_toArray, List.set_cons_zero, List.set_cons_succ, List.getElem_toArray, List.getElem_cons_zero, List.getElem_cons_succ]
      refine wpAnyH_ready (rs := [0]) (by kernel_rfl) (by simp) ?_
      refine AllReadyH.cons rfl (fun K hK => ?_) AllReadyH.nil
      go_simp
      generalize hW : World.alloc _ (Obj.cells _ _) = W0
      have hS0 := hN.size
      have hN : Below W.heap.size W W0 := by rw [← hW]; exact hN.alloc hN.size _
      have HZ : Hid (W0.ownsRow W.heap.size 64 4 (.slice (some ⟨W5.heap.size, 0, none⟩) 0 0) 0 []) := by rw [← hW]; exact Lib.hid (World.ownsRow_lit _ #[] 0 hS0 (by decide) rfl)
      have HE0 : Hid (Bk W0 Wd.heap.size 64 (vBind bd).toArray) := by rw [← hW]; exact Lib.hid (HE.out.alloc _)
      clear hW
      refine hK.out _ _ (by first | assumption | exact HK.out _ hN) (fun hHeld => ?_)
      clear hK K
      try simp only [Act.put, List.setIfInBounds_toArray, List.set_cons_zero, List.set_cons_succ, List.getElem_toArray, List.getElem_cons_zero, List.getElem_cons_succ]
      refine wpAnyH_ready (rs := [3]) (by kernel_rfl) (by simp) ?_
      refine AllReadyH.cons rfl (fun K hK => ?_) AllReadyH.nil
      rw [if_pos (by rfl)]
      refine zeroB_wp (.tmp 21) (.tmp 23) rfl (b0 := ⟨W5.heap.size, 0, none⟩) rfl rfl HZ.out (hsl.below hN (Nat.le_refl _)) hlen (Nat.le_trans (by omega) hN.size) rfl ?_
      intro v3 W3 ho3 hb3
      obtain ⟨A3, C3, rfl, _⟩ := own_slice ho3
      have HO3 := Lib.hid ho3
      have hN3 : Below W.heap.size W W3 := hN.trans (hb3.mono hN.size)
      have HE3 : Hid (Bk W3 Wd.heap.size 64 (vBind bd).toArray) := Lib.hid (HE0.out.below hb3 HE0.out.lt)
      have hN := hN3
      clear hN3 hb3 ho3
      refine hK.out _ _ (by first | assumption | exact HK.out _ hN) (fun hHeld => ?_)
      clear hK K
      try simp only [Act.put, List.setIfInBounds_toArray, List.set_cons_zero, List.set_cons_succ, List.getElem_toArray, List.getElem_cons_zero, List.getElem_cons_succ]
      refine wpAnyH_ready (rs := [6]) (by kernel_rfl) (by simp) ?_
      refine AllReadyH.cons rfl (fun K hK => ?_) AllReadyH.nil
      rw [if_pos (by rfl)]
      refine rowB_wp (.tmp 24) (.tmp 26) rfl rfl HO3.out (gb := Wd.heap.size) rfl HE3.out (by omega) hN.size ?_
      intro v6 W6 ho6 hg6
      obtain ⟨A6, C6, rfl, _⟩ := own_slice ho6
      have HO6 := Lib.hid ho6
      have hN6 : Below W.heap.size W W6 := below_own HO3.out hg6 hN (Nat.le_refl _) hN.size
      have hN := hN6
      have ky := hY.below hN hY.lt
      have y2 := ky.cell 2
      have yf := ky.frozen 2
      have yl := ky.lt
      simp only [List.getElem?_toArray, List.getElem?_cons_zero, List.getElem?_cons_succ] at y2
      clear hN6 ho6 hg6
      refine hK.out _ _ (by first | assumption | exact HK.out _ hN) (fun hHeld => ?_)
      clear hK K
      try simp only [Act.put, List.setIfInBounds_toArray, List.set_cons_zero, List.set_cons_succ, List.getElem_toArray, List.getElem_cons_zero, List.getElem_cons_succ]
      first | (refine wpAnyH_take (i := 7) (v := ?_) rfl (by kernel_rfl) (by kernel_rfl) (by kernel_rfl) (fun _ _ _ h => h) (Or.inl ⟨by rfl, ?_⟩) (by assumption) ?_; rotate_left; focus (intro w hSw; (try dsimp only at hSw); go_simp; (all_goals with_reducible rfl); done)) | fail "op 7"
      try simp only [Act.put, List.setIfInBounds_toArray, List.set_cons_zero, List.set_cons_succ, List.getElem_toArray, List.getElem_cons_zero, List.getElem_cons_succ]
      refine wpAnyH_ready (rs := [8]) (by kernel_rfl) (by simp) ?_
      refine AllReadyH.cons rfl (fun K hK => ?_) AllReadyH.nil
      go_simp
      skip
      refine hK.out _ _ (by exact rm_far hX hBb hXY hBY hN (.slice A6 (bs.length + 1) C6)) (fun hHeld => ?_)
      clear hK K
      try simp only [Act.put, List.setIfInBounds_toArray, List.set_cons_zero, List.set_cons_succ, List.getElem_toArray, List.getElem_cons_zero, List.getElem_cons_succ]
      refine wpAnyH_done (by kernel_rfl) ?_ _
      exact ⟨_, A6, rfl, rfl, C6, W6, HO6.out, hN, rfl⟩
  · rintro a' W' ⟨t, A, rfl, ht, C, W6, ho, hb, rfl⟩
    exact hq t A C W6 ht ho hb
theorem rm4_open {n : Int} {key : ByteArray} {Bb X Y Z : Nat} {t : Array Value} (h : t = #[t.getD 0 undef, .int .i64 n, .string key, t.getD 3 undef, .pointer (some ⟨Z, 0, none⟩), t.getD 5 undef, t.getD 6 undef, .pointer (some ⟨Bb, 0, none⟩), .bool false, .pointer (some ⟨X, 0, none⟩), .pointer (some ⟨Y, 0, none⟩), t.getD 11 undef, t.getD 12 undef, t.getD 13 undef, t.getD 14 undef, t.getD 15 undef, t.getD 16 undef, t.getD 17 undef, t.getD 18 undef, t.getD 19 undef, t.getD 20 undef, t.getD 21 undef, t.getD 22 undef, t.getD 23 undef, t.getD 24 undef, t.getD 25 undef, t.getD 26 undef, t.getD 27 undef, t.getD 28 undef, t.getD 29 undef, t.getD 30 undef, t.getD 31 undef, t.getD 32 undef, t.getD 33 undef, t.getD 34 undef, t.getD 35 undef, t.getD 36 undef, t.getD 37 undef, t.getD 38 undef, t.getD 39 undef, t.getD 40 undef, t.getD 41 undef, t.getD 42 undef, t.getD 43 undef, t.getD 44 undef, t.getD 45 undef, t.getD 46 undef, t.getD 47 undef, t.getD 48 undef, t.getD 49 undef, t.getD 50 undef, t.getD 51 undef, t.getD 52 undef, t.getD 53 undef, t.getD 54 undef, t.getD 55 undef, t.getD 56 undef, t.getD 57 undef, t.getD 58 undef, t.getD 59 undef, t.getD 60 undef, t.getD 61 undef, t.getD 62 undef, t.getD 63 undef, t.getD 64 undef, t.getD 65 undef, t.getD 66 undef, t.getD 67 undef, t.getD 68 undef, t.getD 69 undef, t.getD 70 undef, t.getD 71 undef, t.getD 72 undef, t.getD 73 undef, t.getD 74 undef, t.getD 75 undef, t.getD 76 undef, t.getD 77 undef, t.getD 78 undef, t.getD 79 undef, t.getD 80 undef, t.getD 81 undef, t.getD 82 undef, t.getD 83 undef, t.getD 84 undef, t.getD 85 undef, t.getD 86 undef, t.getD 87 undef, t.getD 88 undef, t.getD 89 undef, t.getD 90 undef, t.getD 91 undef, t.getD 92 undef, t.getD 93 undef, t.getD 94 undef, t.getD 95 undef, t.getD 96 undef, t.getD 97 undef, t.getD 98 undef, t.getD 99 undef, t.getD 100 undef, t.getD 101 undef]) : ∃ u : Nat → Value, t = #[u 0, .int .i64 n, .string key, u 3, .pointer (some ⟨Z, 0, none⟩), u 5, u 6, .pointer (some ⟨Bb, 0, none⟩), .bool false, .pointer (some ⟨X, 0, none⟩), .pointer (some ⟨Y, 0, none⟩), u 11, u 12, u 13, u 14, u 15, u 16, u 17, u 18, u 19, u 20, u 21, u 22, u 23, u 24, u 25, u 26, u 27, u 28, u 29, u 30, u 31, u 32, u 33, u 34, u 35, u 36, u 37, u 38, u 39, u 40, u 41, u 42, u 43, u 44, u 45, u 46, u 47, u 48, u 49, u 50, u 51, u 52, u 53, u 54, u 55, u 56, u 57, u 58, u 59, u 60, u 61, u 62, u 63, u 64, u 65, u 66, u 67, u 68, u 69, u 70, u 71, u 72, u 73, u 74, u 75, u 76, u 77, u 78, u 79, u 80, u 81, u 82, u 83, u 84, u 85, u 86, u 87, u 88, u 89, u 90, u 91, u 92, u 93, u 94, u 95, u 96, u 97, u 98, u 99, u 100, u 101] := ⟨fun i => t.getD i undef, h⟩

set_option maxHeartbeats 2000000 in
theorem rm_reg4 (n : Int) (key : ByteArray) (Bb X Y Z : Nat) (bs : List BindD) (bd : BindD) (a3 : Option Addr) (c3 : Nat) (v1 v2 v3 : Value) (W : World) (hX : W.cell? ⟨X, 2, none⟩ = some (.slice a3 bs.length c3)) (hBb : Bk W Bb 64 (vBind bd).toArray) (hY : Bk W Y 26 #[v1, v2, v3])
    (hsl : Sl W 0 W.heap.size a3 (bs.flatMap vBind)) (hlen : bs.length ≤ 1048576) (hXY : X ≠ Y) (hBY : Bb ≠ Y) (Q : Exit → Act → World → Prop)
    (hq : ∀ (t : Array Value) (A : Option Addr) (C : Nat) (W6 : World), t = #[t.getD 0 undef, .int .i64 n, .string key, t.getD 3 undef, .pointer (some ⟨Z, 0, none⟩), t.getD 5 undef, t.getD 6 undef, .pointer (some ⟨Bb, 0, none⟩), .bool false, .pointer (some ⟨X, 0, none⟩), .pointer (some ⟨Y, 0, none⟩), t.getD 11 undef, t.getD 12 undef, t.getD 13 undef, t.getD 14 undef, t.getD 15 undef, t.getD 16 undef, t.getD 17 undef, t.getD 18 undef, t.getD 19 undef, t.getD 20 undef, t.getD 21 undef, t.getD 22 undef, t.getD 23 undef, t.getD 24 undef, t.getD 25 undef, t.getD 26 undef, t.getD 27 undef, t.getD 28 undef, t.getD 29 undef, t.getD 30 undef, t.getD 31 undef, t.getD 32 undef, t.getD 33 undef, t.getD 34 undef, t.getD 35 undef, t.getD 36 undef, t.getD 37 undef, t.getD 38 undef, t.getD 39 undef, t.getD 40 undef, t.getD 41 undef, t.getD 42 undef, t.getD 43 undef, t.getD 44 undef, t.getD 45 undef, t.getD 46 undef, t.getD 47 undef, t.getD 48 undef, t.getD 49 undef, t.getD 50 undef, t.getD 51 undef, t.getD 52 undef, t.getD 53 undef, t.getD 54 undef, t.getD 55 undef, t.getD 56 undef, t.getD 57 undef, t.getD 58 undef, t.getD 59 undef, t.getD 60 undef, t.getD 61 undef, t.getD 62 undef, t.getD 63 undef, t.getD 64 undef, t.getD 65 undef, t.getD 66 undef, t.getD 67 undef, t.getD 68 undef, t.getD 69 undef, t.getD 70 undef, t.getD 71 undef, t.getD 72 undef, t.getD 73 undef, t.getD 74 undef, t.getD 75 undef, t.getD 76 undef, t.getD 77 undef, t.getD 78 undef, t.getD 79 undef, t.getD 80 undef, t.getD 81 undef, t.getD 82 undef, t.getD 83 undef, t.getD 84 undef, t.getD 85 undef, t.getD 86 undef, t.getD 87 undef, t.getD 88 undef, t.getD 89 undef, t.getD 90 undef, t.getD 91 undef, t.getD 92 undef, t.getD 93 undef, t.getD 94 undef, t.getD 95 undef, t.getD 96 undef, t.getD 97 undef, t.getD 98 undef, t.getD 99 undef, t.getD 100 undef, t.getD 101 undef] → W6.ownsRow W.heap.size 64 4 (.slice A (bs.length + 1) C) (bs.length + 1) (bs.flatMap vBind ++ vBind bd) → Below W.heap.size W W6 → Q .normal ⟨t, []⟩ (W6.setCell ⟨Y, 2, none⟩ (.slice A (bs.length + 1) C)))
    (t : Array Value) (ht : t = #[t.getD 0 undef, .int .i64 n, .string key, t.getD 3 undef, .pointer (some ⟨Z, 0, none⟩), t.getD 5 undef, t.getD 6 undef, .pointer (some ⟨Bb, 0, none⟩), .bool false, .pointer (some ⟨X, 0, none⟩), .pointer (some ⟨Y, 0, none⟩), t.getD 11 undef, t.getD 12 undef, t.getD 13 undef, t.getD 14 undef, t.getD 15 undef, t.getD 16 undef, t.getD 17 undef, t.getD 18 undef, t.getD 19 undef, t.getD 20 undef, t.getD 21 undef, t.getD 22 undef, t.getD 23 undef, t.getD 24 undef, t.getD 25 undef, t.getD 26 undef, t.getD 27 undef, t.getD 28 undef, t.getD 29 undef, t.getD 30 undef, t.getD 31 undef, t.getD 32 undef, t.getD 33 undef, t.getD 34 undef, t.getD 35 undef, t.getD 36 undef, t.getD 37 undef, t.getD 38 undef, t.getD 39 undef, t.getD 40 undef, t.getD 41 undef, t.getD 42 undef, t.getD 43 undef, t.getD 44 undef, t.getD 45 undef, t.getD 46 undef, t.getD 47 undef, t.getD 48 undef, t.getD 49 undef, t.getD 50 undef, t.getD 51 undef, t.getD 52 undef, t.getD 53 undef, t.getD 54 undef, t.getD 55 undef, t.getD 56 undef, t.getD 57 undef, t.getD 58 undef, t.getD 59 undef, t.getD 60 undef, t.getD 61 undef, t.getD 62 undef, t.getD 63 undef, t.getD 64 undef, t.getD 65 undef, t.getD 66 undef, t.getD 67 undef, t.getD 68 undef, t.getD 69 undef, t.getD 70 undef, t.getD 71 undef, t.getD 72 undef, t.getD 73 undef, t.getD 74 undef, t.getD 75 undef, t.getD 76 undef, t.getD 77 undef, t.getD 78 undef, t.getD 79 undef, t.getD 80 undef, t.getD 81 undef, t.getD 82 undef, t.getD 83 undef, t.getD 84 undef, t.getD 85 undef, t.getD 86 undef, t.getD 87 undef, t.getD 88 undef, t.getD 89 undef, t.getD 90 undef, t.getD 91 undef, t.getD 92 undef, t.getD 93 undef, t.getD 94 undef, t.getD 95 undef, t.getD 96 undef, t.getD 97 undef, t.getD 98 undef, t.getD 99 undef, t.getD 100 undef, t.getD 101 undef]) : ((Tryd.f9.body.bind (regionOf 4)).getD .skip).wp Tryd.prog Q ⟨t, []⟩ W := by
  obtain ⟨u, rfl⟩ := rm4_open ht
  clear ht
  refine region_mid (RmR W Y bs bd (fun t => t = #[t.getD 0 undef, .int .i64 n, .string key, t.getD 3 undef, .pointer (some ⟨Z, 0, none⟩), t.getD 5 undef, t.getD 6 undef, .pointer (some ⟨Bb, 0, none⟩), .bool false, .pointer (some ⟨X, 0, none⟩), .pointer (some ⟨Y, 0, none⟩), t.getD 11 undef, t.getD 12 undef, t.getD 13 undef, t.getD 14 undef, t.getD 15 undef, t.getD 16 undef, t.getD 17 undef, t.getD 18 undef, t.getD 19 undef, t.getD 20 undef, t.getD 21 undef, t.getD 22 undef, t.getD 23 undef, t.getD 24 undef, t.getD 25 undef, t.getD 26 undef, t.getD 27 undef, t.getD 28 undef, t.getD 29 undef, t.getD 30 undef, t.getD 31 undef, t.getD 32 undef, t.getD 33 undef, t.getD 34 undef, t.getD 35 undef, t.getD 36 undef, t.getD 37 undef, t.getD 38 undef, t.getD 39 undef, t.getD 40 undef, t.getD 41 undef, t.getD 42 undef, t.getD 43 undef, t.getD 44 undef, t.getD 45 undef, t.getD 46 undef, t.getD 47 undef, t.getD 48 undef, t.getD 49 undef, t.getD 50 undef, t.getD 51 undef, t.getD 52 undef, t.getD 53 undef, t.getD 54 undef, t.getD 55 undef, t.getD 56 undef, t.getD 57 undef, t.getD 58 undef, t.getD 59 undef, t.getD 60 undef, t.getD 61 undef, t.getD 62 undef, t.getD 63 undef, t.getD 64 undef, t.getD 65 undef, t.getD 66 undef, t.getD 67 undef, t.getD 68 undef, t.getD 69 undef, t.getD 70 undef, t.getD 71 undef, t.getD 72 undef, t.getD 73 undef, t.getD 74 undef, t.getD 75 undef, t.getD 76 undef, t.getD 77 undef, t.getD 78 undef, t.getD 79 undef, t.getD 80 undef, t.getD 81 undef, t.getD 82 undef, t.getD 83 undef, t.getD 84 undef, t.getD 85 undef, t.getD 86 undef, t.getD 87 undef, t.getD 88 undef, t.getD 89 undef, t.getD 90 undef, t.getD 91 undef, t.getD 92 undef, t.getD 93 undef, t.getD 94 undef, t.getD 95 undef, t.getD 96 undef, t.getD 97 undef, t.getD 98 undef, t.getD 99 undef, t.getD 100 undef, t.getD 101 undef])) ?_ ?_
  · have hb0 := hBb.cell 0
    have hb1 := hBb.cell 1
    have hb2 := hBb.cell 2
    have hb3 := hBb.cell 3
    simp only [vBind, List.getElem?_toArray, List.getElem?_cons_zero, List.getElem?_cons_succ] at hb0 hb1 hb2 hb3
    have HK : Hid (∀ W', Below W.heap.size W W' → (fun W => W.cell? ⟨X, 2, none⟩ = some (.slice a3 bs.length c3) ∧ W.cell? ⟨Bb, 0, none⟩ = some (.int .i64 bd.src) ∧ W.cell? ⟨Bb, 1, none⟩ = some (.bool bd.toPost) ∧ W.cell? ⟨Bb, 2, none⟩ = some (.int .i64 bd.to) ∧ W.cell? ⟨Bb, 3, none⟩ = some (.string bd.pattern)) W') := Lib.hid fun W' h => ⟨(h.cell (p := ⟨X, 2, none⟩) (World.block_lt_of_cell? _ _ hX)).trans hX, (h.cell (p := ⟨Bb, 0, none⟩) hBb.lt).trans hb0, (h.cell (p := ⟨Bb, 1, none⟩) hBb.lt).trans hb1, (h.cell (p := ⟨Bb, 2, none⟩) hBb.lt).trans hb2, (h.cell (p := ⟨Bb, 3, none⟩) hBb.lt).trans hb3⟩
    clear hb0 hb1 hb2 hb3
    conv => arg 2; whnf
    refine wp_region_held_drew (S := (fun W => W.cell? ⟨X, 2, none⟩ = some (.slice a3 bs.length c3) ∧ W.cell? ⟨Bb, 0, none⟩ = some (.int .i64 bd.src) ∧ W.cell? ⟨Bb, 1, none⟩ = some (.bool bd.toPost) ∧ W.cell? ⟨Bb, 2, none⟩ = some (.int .i64 bd.to) ∧ W.cell? ⟨Bb, 3, none⟩ = some (.string bd.pattern))) (by kernel_rfl) (HK.out _ (Below.refl _ _).drew) (fun hHeld => ?_)
    have hN : Below W.heap.size W W.drew := (Below.refl _ _).drew
    generalize W.drew = Wd at *
    first | (refine wpAnyH_take (i := 1) (v := ?_) rfl (by kernel_rfl) (by kernel_rfl) (by kernel_rfl) (fun _ _ _ h => h) (Or.inl ⟨by rfl, ?_⟩) (by assumption) ?_; rotate_left; focus (intro w hSw; (try dsimp only at hSw); go_simp; (all_goals with_reducible rfl); done)) | fail "op 1"
    try simp only [Act.put, List.setIfInBounds_toArray, List.set_cons_zero, List.set_cons_succ, List.getElem_toArray, List.getElem_cons_zero]
    first | (refine wpAnyH_take (i := 2) (v := ?_) rfl (by kernel_rfl) (by kernel_rfl) (by kernel_rfl) (fun _ _ _ h => h) (Or.inl ⟨by rfl, ?_⟩) (by assumption) ?_; rotate_left; focus (intro w hSw; (try dsimp only at hSw); go_simp; (all_goals with_reducible rfl); done)) | fail "op 2"
    try simp only [Act.put, List.setIfInBounds_toArray, List.set_cons_zero, List.set_cons_succ, List.getElem_toArray, List.getElem_cons_zero, List.getElem_cons_succ]
    first | (refine wpAnyH_take (i := 4) (v := ?_) rfl (by kernel_rfl) (by kernel_rfl) (by kernel_rfl) (fun _ _ _ h => h) (Or.inl ⟨by rfl, ?_⟩) (by assumption) ?_; rotate_left; focus (intro w hSw; (try dsimp only at hSw); go_simp; (all_goals with_reducible rfl); done)) | fail "op 4"
    try simp only [Act.put, List.setIfInBounds_toArray, List.set_cons_zero, List.set_cons_succ, List.getElem_toArray, List.getElem_cons_zero, List.getElem_cons_succ]
    refine wpAnyH_ready (rs := [0, 5]) (by kernel_rfl) (by simp) ?_
    refine AllReadyH.cons rfl (fun K hK => ?_) (AllReadyH.cons rfl (fun K hK => ?_) AllReadyH.nil)
    · go_simp
      generalize hW : World.alloc _ (Obj.cells _ _) = W0
      have hS0 := hN.size
      have hN : Below W.heap.size W W0 := by rw [← hW]; exact hN.alloc hN.size _
      have HZ : Hid (W0.ownsRow W.heap.size 64 4 (.slice (some ⟨Wd.heap.size, 0, none⟩) 0 0) 0 []) := by rw [← hW]; exact Lib.hid (World.ownsRow_lit _ #[] 0 hS0 (by decide) rfl)
      clear hW
      refine hK.out _ _ (by first | assumption | exact HK.out _ hN) (fun hHeld => ?_)
      clear hK K
      try simp only [Act.put, List.setIfInBounds_toArray, List.set_cons_zero, List.set_cons_succ, List.getElem_toArray, List.getElem_cons_zero, List.getElem_cons_succ]
      refine wpAnyH_ready (rs := [3, 5]) (by kernel_rfl) (by simp) ?_
      refine AllReadyH.cons rfl (fun K hK => ?_) (AllReadyH.cons rfl (fun K hK => ?_) AllReadyH.nil)
      · rw [if_pos (by rfl)]
        refine zeroB_wp (.tmp 30) (.tmp 32) rfl (b0 := ⟨Wd.heap.size, 0, none⟩) rfl rfl HZ.out (hsl.below hN (Nat.le_refl _)) hlen (Nat.le_trans (by omega) hN.size) rfl ?_
        intro v3 W3 ho3 hb3
        obtain ⟨A3, C3, rfl, _⟩ := own_slice ho3
        have HO3 := Lib.hid ho3
        have hN3 : Below W.heap.size W W3 := hN.trans (hb3.mono hN.size)
        have hN := hN3
        clear hN3 hb3 ho3
        refine hK.out _ _ (by first | assumption | exact HK.out _ hN) (fun hHeld => ?_)
        clear hK K
        try simp only [Act.put, List.setIfInBounds_toArray, List.set_cons_zero, List.set_cons_succ, List.getElem_toArray, List.getElem_cons_zero, List.getElem_cons_succ]
        refine wpAnyH_ready (rs := [5]) (by kernel_rfl) (by simp) ?_
        refine AllReadyH.cons rfl (fun K hK => ?_) AllReadyH.nil
        go_simp
        generalize hW : World.alloc _ (Obj.cells _ _) = W5
        have hN : Below W.heap.size W W5 := by rw [← hW]; exact hN.alloc hN.size _
        have HE : Hid (Bk W5 W3.heap.size 64 (vBind bd).toArray) := by rw [← hW]; exact Lib.hid (Bk.new_at _ _ _ (by rfl))
        have HO5 : Hid (W5.ownsRow W.heap.size 64 4 (.slice A3 bs.length C3) bs.length (bs.flatMap vBind)) := by rw [← hW]; exact Lib.hid (World.ownsRow.alloc HO3.out _)
        clear hW
        refine hK.out _ _ (by first | assumption | exact HK.out _ hN) (fun hHeld => ?_)
        clear hK K
        try simp only [Act.put, List.setIfInBounds_toArray, List.set_cons_zero, List.set_cons_succ, List.getElem_toArray, List.getElem_cons_zero, List.getElem_cons_succ]
        refine wpAnyH_ready (rs := [6]) (by kernel_rfl) (by simp) ?_
        refine AllReadyH.cons rfl (fun K hK => ?_) AllReadyH.nil
        rw [if_pos (by rfl)]
        refine rowB_wp (.tmp 33) (.tmp 35) rfl rfl HO5.out (gb := W3.heap.size) rfl HE.out (by omega) hN.size ?_
        intro v6 W6 ho6 hg6
        obtain ⟨A6, C6, rfl, _⟩ := own_slice ho6
        have HO6 := Lib.hid ho6
        have hN6 : Below W.heap.size W W6 := below_own HO5.out hg6 hN (Nat.le_refl _) hN.size
        have hN := hN6
        have ky := hY.below hN hY.lt
        have y2 := ky.cell 2
        have yf := ky.frozen 2
        have yl := ky.lt
        simp only [List.getElem?_toArray, List.getElem?_cons_zero, List.getElem?_cons_succ] at y2
        clear hN6 ho6 hg6
        refine hK.out _ _ (by first | assumption | exact HK.out _ hN) (fun hHeld => ?_)
        clear hK K
        try simp only [Act.put, List.setIfInBounds_toArray, List.set_cons_zero, List.set_cons_succ, List.getElem_toArray, List.getElem_cons_zero, List.getElem_cons_succ]
        first | (refine wpAnyH_take (i := 7) (v := ?_) rfl (by kernel_rfl) (by kernel_rfl) (by kernel_rfl) (fun _ _ _ h => h) (Or.inl ⟨by rfl, ?_⟩) (by assumption) ?_; rotate_left; focus (intro w hSw; (try dsimp only at hSw); go_simp; (all_goals with_reducible rfl); done)) | fail "op 7"
        try simp only [Act.put, List.setIfInBounds_toArray, List.set_cons_zero, List.set_cons_succ, List.getElem_toArray, List.getElem_cons_zero, List.getElem_cons_succ]
        refine wpAnyH_ready (rs := [8]) (by kernel_rfl) (by simp) ?_
        refine AllReadyH.cons rfl (fun K hK => ?_) AllReadyH.nil
        go_simp
        skip
        refine hK.out _ _ (by exact rm_far hX hBb hXY hBY hN (.slice A6 (bs.length + 1) C6)) (fun hHeld => ?_)
        clear hK K
        try simp only [Act.put, List.setIfInBounds_toArray, List.set_cons_zero, List.set_cons_succ, List.getElem_toArray, List.getElem_cons_zero, List.getElem_cons_succ]
        refine wpAnyH_done (by kernel_rfl) ?_ _
        exact ⟨_, A6, rfl, rfl, C6, W6, HO6.out, hN, rfl⟩
      · go_simp
        generalize hW : World.alloc _ (Obj.cells _ _) = W5
        have hN : Below W.heap.size W W5 := by rw [← hW]; exact hN.alloc hN.size _
        have HE : Hid (Bk W5 W0.heap.size 64 (vBind bd).toArray) := by rw [← hW]; exact Lib.hid (Bk.new_at _ _ _ (by rfl))
        have HZ5 : Hid (W5.ownsRow W.heap.size 64 4 (.slice (some ⟨Wd.heap.size, 0, none⟩) 0 0) 0 []) := by rw [← hW]; exact Lib.hid (World.ownsRow.alloc HZ.out _)
        clear hW
        refine hK.out _ _ (by first | assumption | exact HK.out _ hN) (fun hHeld => ?_)
        clear hK K
        try simp only [Act.put, List.setIfInBounds_toArray, List.set_cons_zero, List.set_cons_succ, List.getElem_toArray, List.getElem_cons_zero, List.getElem_cons_succ]
        refine wpAnyH_ready (rs := [3]) (by kernel_rfl) (by simp) ?_
        refine AllReadyH.cons rfl (fun K hK => ?_) AllReadyH.nil
        rw [if_pos (by rfl)]
        refine zeroB_wp (.tmp 30) (.tmp 32) rfl (b0 := ⟨Wd.heap.size, 0, none⟩) rfl rfl HZ5.out (hsl.below hN (Nat.le_refl _)) hlen (Nat.le_trans (by omega) hN.size) rfl ?_
        intro v3 W3 ho3 hb3
        obtain ⟨A3, C3, rfl, _⟩ := own_slice ho3
        have HO3 := Lib.hid ho3
        have hN3 : Below W.heap.size W W3 := hN.trans (hb3.mono hN.size)
        have HE3 : Hid (Bk W3 W0.heap.size 64 (vBind bd).toArray) := Lib.hid (HE.out.below hb3 HE.out.lt)
        have hN := hN3
        clear hN3 hb3 ho3
        refine hK.out _ _ (by first | assumption | exact HK.out _ hN) (fun hHeld => ?_)
        clear hK K
        try simp only [Act.put, List.setIfInBounds_toArray, List.set_cons_zero, List.set_cons_succ, List.getElem_toArray, List.getElem_cons_zero, List.getElem_cons_succ]
        refine wpAnyH_ready (rs := [6]) (by kernel_rfl) (by simp) ?_
        refine AllReadyH.cons rfl (fun K hK => ?_) AllReadyH.nil
        rw [if_pos (by rfl)]
        refine rowB_wp (.tmp 33) (.tmp 35) rfl rfl HO3.out (gb := W0.heap.size) rfl HE3.out (by omega) hN.size ?_
        intro v6 W6 ho6 hg6
        obtain ⟨A6, C6, rfl, _⟩ := own_slice ho6
        have HO6 := Lib.hid ho6
        have hN6 : Below W.heap.size W W6 := below_own HO3.out hg6 hN (Nat.le_refl _) hN.size
        have hN := hN6
        have ky := hY.below hN hY.lt
        have y2 := ky.cell 2
        have yf := ky.frozen 2
        have yl := ky.lt
        simp only [List.getElem?_toArray, List.getElem?_cons_zero, List.getElem?_cons_succ] at y2
        clear hN6 ho6 hg6
        refine hK.out _ _ (by first | assumption | exact HK.out _ hN) (fun hHeld => ?_)
        clear hK K
        try simp only [Act.put, List.setIfInBounds_toArray, List.set_cons_zero, List.set_cons_succ, List.getElem_toArray, List.getElem_cons_zero, List.getElem_cons_succ]
        first | (refine wpAnyH_take (i := 7) (v := ?_) rfl (by kernel_rfl) (by kernel_rfl) (by kernel_rfl) (fun _ _ _ h => h) (Or.inl ⟨by rfl, ?_⟩) (by assumption) ?_; rotate_left; focus (intro w hSw; (try dsimp only at hSw); go_simp; (all_goals with_reducible rfl); done)) | fail "op 7"
        try simp only [Act.put, List.setIfInBounds_toArray, List.set_cons_zero, List.set_cons_succ, List.getElem_toArray, List.getElem_cons_zero, List.getElem_cons_succ]
        refine wpAnyH_ready (rs := [8]) (by kernel_rfl) (by simp) ?_
        refine AllReadyH.cons rfl (fun K hK => ?_) AllReadyH.nil
        go_simp
        skip
        refine hK.out _ _ (by exact rm_far hX hBb hXY hBY hN (.slice A6 (bs.length + 1) C6)) (fun hHeld => ?_)
        clear hK K
        try simp only [Act.put, List.setIfInBounds_toArray, List.set_cons_zero, List.set_cons_succ, List.getElem_toArray, List.getElem_cons_zero, List.getElem_cons_succ]
        refine wpAnyH_done (by kernel_rfl) ?_ _
        exact ⟨_, A6, rfl, rfl, C6, W6, HO6.out, hN, rfl⟩
    · go_simp
      generalize hW : World.alloc _ (Obj.cells _ _) = W5
      have hN : Below W.heap.size W W5 := by rw [← hW]; exact hN.alloc hN.size _
      have HE : Hid (Bk W5 Wd.heap.size 64 (vBind bd).toArray) := by rw [← hW]; exact Lib.hid (Bk.new_at _ _ _ (by rfl))
      clear hW
      refine hK.out _ _ (by first | assumption | exact HK.out _ hN) (fun hHeld => ?_)
      clear hK K
      try simp only [Act.put, List.setIfInBounds_toArray, List.set_cons_zero, List.set_cons_succ, List.getElem_toArray, List.getElem_cons_zero, List.getElem_cons_succ]
      refine wpAnyH_ready (rs := [0]) (by kernel_rfl) (by simp) ?_
      refine AllReadyH.cons rfl (fun K hK => ?_) AllReadyH.nil
      go_simp
      generalize hW : World.alloc _ (Obj.cells _ _) = W0
      have hS0 := hN.size
      have hN : Below W.heap.size W W0 := by rw [← hW]; exact hN.alloc hN.size _
      have HZ : Hid (W0.ownsRow W.heap.size 64 4 (.slice (some ⟨W5.heap.size, 0, none⟩) 0 0) 0 []) := by rw [← hW]; exact Lib.hid (World.ownsRow_lit _ #[] 0 hS0 (by decide) rfl)
      have HE0 : Hid (Bk W0 Wd.heap.size 64 (vBind bd).toArray) := by rw [← hW]; exact Lib.hid (HE.out.alloc _)
      clear hW
      refine hK.out _ _ (by first | assumption | exact HK.out _ hN) (fun hHeld => ?_)
      clear hK K
      try simp only [Act.put, List.setIfInBounds_toArray, List.set_cons_zero, List.set_cons_succ, List.getElem_toArray, List.getElem_cons_zero, List.getElem_cons_succ]
      refine wpAnyH_ready (rs := [3]) (by kernel_rfl) (by simp) ?_
      refine AllReadyH.cons rfl (fun K hK => ?_) AllReadyH.nil
      rw [if_pos (by rfl)]
      refine zeroB_wp (.tmp 30) (.tmp 32) rfl (b0 := ⟨W5.heap.size, 0, none⟩) rfl rfl HZ.out (hsl.below hN (Nat.le_refl _)) hlen (Nat.le_trans (by omega) hN.size) rfl ?_
      intro v3 W3 ho3 hb3
      obtain ⟨A3, C3, rfl, _⟩ := own_slice ho3
      have HO3 := Lib.hid ho3
      have hN3 : Below W.heap.size W W3 := hN.trans (hb3.mono hN.size)
      have HE3 : Hid (Bk W3 Wd.heap.size 64 (vBind bd).toArray) := Lib.hid (HE0.out.below hb3 HE0.out.lt)
      have hN := hN3
      clear hN3 hb3 ho3
      refine hK.out _ _ (by first | assumption | exact HK.out _ hN) (fun hHeld => ?_)
      clear hK K
      try simp only [Act.put, List.setIfInBounds_toArray, List.set_cons_zero, List.set_cons_succ, List.getElem_toArray, List.getElem_cons_zero, List.getElem_cons_succ]
      refine wpAnyH_ready (rs := [6]) (by kernel_rfl) (by simp) ?_
      refine AllReadyH.cons rfl (fun K hK => ?_) AllReadyH.nil
      rw [if_pos (by rfl)]
      refine rowB_wp (.tmp 33) (.tmp 35) rfl rfl HO3.out (gb := Wd.heap.size) rfl HE3.out (by omega) hN.size ?_
      intro v6 W6 ho6 hg6
      obtain ⟨A6, C6, rfl, _⟩ := own_slice ho6
      have HO6 := Lib.hid ho6
      have hN6 : Below W.heap.size W W6 := below_own HO3.out hg6 hN (Nat.le_refl _) hN.size
      have hN := hN6
      have ky := hY.below hN hY.lt
      have y2 := ky.cell 2
      have yf := ky.frozen 2
      have yl := ky.lt
      simp only [List.getElem?_toArray, List.getElem?_cons_zero, List.getElem?_cons_succ] at y2
      clear hN6 ho6 hg6
      refine hK.out _ _ (by first | assumption | exact HK.out _ hN) (fun hHeld => ?_)
      clear hK K
      try simp only [Act.put, List.setIfInBounds_toArray, List.set_cons_zero, List.set_cons_succ, List.getElem_toArray, List.getElem_cons_zero, List.getElem_cons_succ]
      first | (refine wpAnyH_take (i := 7) (v := ?_) rfl (by kernel_rfl) (by kernel_rfl) (by kernel_rfl) (fun _ _ _ h => h) (Or.inl ⟨by rfl, ?_⟩) (by assumption) ?_; rotate_left; focus (intro w hSw; (try dsimp only at hSw); go_simp; (all_goals with_reducible rfl); done)) | fail "op 7"
      try simp only [Act.put, List.setIfInBounds_toArray, List.set_cons_zero, List.set_cons_succ, List.getElem_toArray, List.getElem_cons_zero, List.getElem_cons_succ]
      refine wpAnyH_ready (rs := [8]) (by kernel_rfl) (by simp) ?_
      refine AllReadyH.cons rfl (fun K hK => ?_) AllReadyH.nil
      go_simp
      skip
      refine hK.out _ _ (by exact rm_far hX hBb hXY hBY hN (.slice A6 (bs.length + 1) C6)) (fun hHeld => ?_)
      clear hK K
      try simp only [Act.put, List.setIfInBounds_toArray, List.set_cons_zero, List.set_cons_succ, List.getElem_toArray, List.getElem_cons_zero, List.getElem_cons_succ]
      refine wpAnyH_done (by kernel_rfl) ?_ _
      exact ⟨_, A6, rfl, rfl, C6, W6, HO6.out, hN, rfl⟩
  · rintro a' W' ⟨t, A, rfl, ht, C, W6, ho, hb, rfl⟩
    exact hq t A C W6 ht ho hb

end Go.Proofs.YtapimpmpjighmaaDoor

namespace Go.Proofs.YtapimpmpjighmaaDoor
open Go Go.RowKit
set_option maxRecDepth 100000

theorem rml1_open {vx vy vz : Value} {g : Int} {j : Nat} {t : Array Value} (h : t = #[t.getD 0 undef, t.getD 1 undef, t.getD 2 undef, t.getD 3 undef, t.getD 4 undef, t.getD 5 undef, t.getD 6 undef, t.getD 7 undef, .bool false, t.getD 9 undef, t.getD 10 undef, vx, t.getD 12 undef, vy, t.getD 14 undef, vz, .int .i64 g, .int .i64 (j : Int), t.getD 18 undef, t.getD 19 undef, t.getD 20 undef, t.getD 21 undef, t.getD 22 undef, t.getD 23 undef, t.getD 24 undef, t.getD 25 undef, t.getD 26 undef, t.getD 27 undef, t.getD 28 undef, t.getD 29 undef, t.getD 30 undef, t.getD 31 undef, t.getD 32 undef, t.getD 33 undef, t.getD 34 undef, t.getD 35 undef, t.getD 36 undef, t.getD 37 undef, t.getD 38 undef, t.getD 39 undef, t.getD 40 undef, t.getD 41 undef, t.getD 42 undef, t.getD 43 undef, t.getD 44 undef, t.getD 45 undef, t.getD 46 undef, t.getD 47 undef, t.getD 48 undef, t.getD 49 undef, t.getD 50 undef, t.getD 51 undef, t.getD 52 undef, t.getD 53 undef, t.getD 54 undef, t.getD 55 undef, t.getD 56 undef, t.getD 57 undef, t.getD 58 undef, t.getD 59 undef, t.getD 60 undef, t.getD 61 undef, t.getD 62 undef, t.getD 63 undef, t.getD 64 undef, t.getD 65 undef, t.getD 66 undef, t.getD 67 undef, t.getD 68 undef, t.getD 69 undef, t.getD 70 undef, t.getD 71 undef, t.getD 72 undef, t.getD 73 undef, t.getD 74 undef, t.getD 75 undef, t.getD 76 undef, t.getD 77 undef, t.getD 78 undef, t.getD 79 undef, t.getD 80 undef, t.getD 81 undef, t.getD 82 undef, t.getD 83 undef, t.getD 84 undef, t.getD 85 undef, t.getD 86 undef, t.getD 87 undef, t.getD 88 undef, t.getD 89 undef, t.getD 90 undef, t.getD 91 undef, t.getD 92 undef, t.getD 93 undef, t.getD 94 undef, t.getD 95 undef, t.getD 96 undef, t.getD 97 undef, t.getD 98 undef, t.getD 99 undef, t.getD 100 undef, t.getD 101 undef]) : ∃ u : Nat → Value, t = #[u 0, u 1, u 2, u 3, u 4, u 5, u 6, u 7, .bool false, u 9, u 10, vx, u 12, vy, u 14, vz, .int .i64 g, .int .i64 (j : Int), u 18, u 19, u 20, u 21, u 22, u 23, u 24, u 25, u 26, u 27, u 28, u 29, u 30, u 31, u 32, u 33, u 34, u 35, u 36, u 37, u 38, u 39, u 40, u 41, u 42, u 43, u 44, u 45, u 46, u 47, u 48, u 49, u 50, u 51, u 52, u 53, u 54, u 55, u 56, u 57, u 58, u 59, u 60, u 61, u 62, u 63, u 64, u 65, u 66, u 67, u 68, u 69, u 70, u 71, u 72, u 73, u 74, u 75, u 76, u 77, u 78, u 79, u 80, u 81, u 82, u 83, u 84, u 85, u 86, u 87, u 88, u 89, u 90, u 91, u 92, u 93, u 94, u 95, u 96, u 97, u 98, u 99, u 100, u 101] := ⟨fun i => t.getD i undef, h⟩

theorem rml2_open {vx vy vz : Value} {g : Int} {j i : Nat} {c : Bool} {t : Array Value} (h : t = #[t.getD 0 undef, t.getD 1 undef, t.getD 2 undef, t.getD 3 undef, t.getD 4 undef, t.getD 5 undef, t.getD 6 undef, t.getD 7 undef, .bool false, t.getD 9 undef, t.getD 10 undef, vx, t.getD 12 undef, vy, t.getD 14 undef, vz, .int .i64 g, .int .i64 (j : Int), .bool c, .int .i64 (i : Int), t.getD 20 undef, t.getD 21 undef, t.getD 22 undef, t.getD 23 undef, t.getD 24 undef, t.getD 25 undef, t.getD 26 undef, t.getD 27 undef, t.getD 28 undef, t.getD 29 undef, t.getD 30 undef, t.getD 31 undef, t.getD 32 undef, t.getD 33 undef, t.getD 34 undef, t.getD 35 undef, t.getD 36 undef, t.getD 37 undef, t.getD 38 undef, t.getD 39 undef, t.getD 40 undef, t.getD 41 undef, t.getD 42 undef, t.getD 43 undef, t.getD 44 undef, t.getD 45 undef, t.getD 46 undef, t.getD 47 undef, t.getD 48 undef, t.getD 49 undef, t.getD 50 undef, t.getD 51 undef, t.getD 52 undef, t.getD 53 undef, t.getD 54 undef, t.getD 55 undef, t.getD 56 undef, t.getD 57 undef, t.getD 58 undef, t.getD 59 undef, t.getD 60 undef, t.getD 61 undef, t.getD 62 undef, t.getD 63 undef, t.getD 64 undef, t.getD 65 undef, t.getD 66 undef, t.getD 67 undef, t.getD 68 undef, t.getD 69 undef, t.getD 70 undef, t.getD 71 undef, t.getD 72 undef, t.getD 73 undef, t.getD 74 undef, t.getD 75 undef, t.getD 76 undef, t.getD 77 undef, t.getD 78 undef, t.getD 79 undef, t.getD 80 undef, t.getD 81 undef, t.getD 82 undef, t.getD 83 undef, t.getD 84 undef, t.getD 85 undef, t.getD 86 undef, t.getD 87 undef, t.getD 88 undef, t.getD 89 undef, t.getD 90 undef, t.getD 91 undef, t.getD 92 undef, t.getD 93 undef, t.getD 94 undef, t.getD 95 undef, t.getD 96 undef, t.getD 97 undef, t.getD 98 undef, t.getD 99 undef, t.getD 100 undef, t.getD 101 undef]) : ∃ u : Nat → Value, t = #[u 0, u 1, u 2, u 3, u 4, u 5, u 6, u 7, .bool false, u 9, u 10, vx, u 12, vy, u 14, vz, .int .i64 g, .int .i64 (j : Int), .bool c, .int .i64 (i : Int), u 20, u 21, u 22, u 23, u 24, u 25, u 26, u 27, u 28, u 29, u 30, u 31, u 32, u 33, u 34, u 35, u 36, u 37, u 38, u 39, u 40, u 41, u 42, u 43, u 44, u 45, u 46, u 47, u 48, u 49, u 50, u 51, u 52, u 53, u 54, u 55, u 56, u 57, u 58, u 59, u 60, u 61, u 62, u 63, u 64, u 65, u 66, u 67, u 68, u 69, u 70, u 71, u 72, u 73, u 74, u 75, u 76, u 77, u 78, u 79, u 80, u 81, u 82, u 83, u 84, u 85, u 86, u 87, u 88, u 89, u 90, u 91, u 92, u 93, u 94, u 95, u 96, u 97, u 98, u 99, u 100, u 101] := ⟨fun i => t.getD i undef, h⟩

noncomputable def rmLoop1 : Code := loopAt Tryd.f9 0
noncomputable def rmLoop2 : Code := loopIn rmLoop1 0
def rml2_inv (vx vy vz : Value) (g : Int) (j : Nat) (x : Int) (ys : List Int) (W0 : World) (a : Act) (wr : World) : Prop :=
  ∃ (t : Array Value) (c : Bool) (i : Nat), t = #[t.getD 0 undef, t.getD 1 undef, t.getD 2 undef, t.getD 3 undef, t.getD 4 undef, t.getD 5 undef, t.getD 6 undef, t.getD 7 undef, .bool false, t.getD 9 undef, t.getD 10 undef, vx, t.getD 12 undef, vy, t.getD 14 undef, vz, .int .i64 g, .int .i64 (j : Int), .bool c, .int .i64 (i : Int), t.getD 20 undef, t.getD 21 undef, t.getD 22 undef, t.getD 23 undef, t.getD 24 undef, t.getD 25 undef, t.getD 26 undef, t.getD 27 undef, t.getD 28 undef, t.getD 29 undef, t.getD 30 undef, t.getD 31 undef, t.getD 32 undef, t.getD 33 undef, t.getD 34 undef, t.getD 35 undef, t.getD 36 undef, t.getD 37 undef, t.getD 38 undef, t.getD 39 undef, t.getD 40 undef, t.getD 41 undef, t.getD 42 undef, t.getD 43 undef, t.getD 44 undef, t.getD 45 undef, t.getD 46 undef, t.getD 47 undef, t.getD 48 undef, t.getD 49 undef, t.getD 50 undef, t.getD 51 undef, t.getD 52 undef, t.getD 53 undef, t.getD 54 undef, t.getD 55 undef, t.getD 56 undef, t.getD 57 undef, t.getD 58 undef, t.getD 59 undef, t.getD 60 undef, t.getD 61 undef, t.getD 62 undef, t.getD 63 undef, t.getD 64 undef, t.getD 65 undef, t.getD 66 undef, t.getD 67 undef, t.getD 68 undef, t.getD 69 undef, t.getD 70 undef, t.getD 71 undef, t.getD 72 undef, t.getD 73 undef, t.getD 74 undef, t.getD 75 undef, t.getD 76 undef, t.getD 77 undef, t.getD 78 undef, t.getD 79 undef, t.getD 80 undef, t.getD 81 undef, t.getD 82 undef, t.getD 83 undef, t.getD 84 undef, t.getD 85 undef, t.getD 86 undef, t.getD 87 undef, t.getD 88 undef, t.getD 89 undef, t.getD 90 undef, t.getD 91 undef, t.getD 92 undef, t.getD 93 undef, t.getD 94 undef, t.getD 95 undef, t.getD 96 undef, t.getD 97 undef, t.getD 98 undef, t.getD 99 undef, t.getD 100 undef, t.getD 101 undef] ∧ i ≤ ys.length ∧ c = decide (x ∈ ys.take i) ∧ Below W0.heap.size W0 wr ∧ a = ⟨t, []⟩
set_option maxHeartbeats 4000000 in
theorem rm_loop2 (vz : Value) (g : Int) (j bx ox cx : Nat) (vy : Value) (x : Int) (xs ys : List Int) (W0 : World) (hy : IntsIn W0 vy ys) (hjx : j < xs.length) (hx : W0.cell? ⟨bx, ox + j, none⟩ = some (.int .i64 x)) (Q0 : Exit → Act → World → Prop)
    (hend : ∀ (t : Array Value) (W : World) (c : Bool) (i : Nat), c = decide (x ∈ ys) → t = #[t.getD 0 undef, t.getD 1 undef, t.getD 2 undef, t.getD 3 undef, t.getD 4 undef, t.getD 5 undef, t.getD 6 undef, t.getD 7 undef, .bool false, t.getD 9 undef, t.getD 10 undef, .slice (some ⟨bx, ox, none⟩) xs.length cx, t.getD 12 undef, vy, t.getD 14 undef, vz, .int .i64 g, .int .i64 (j : Int), .bool c, .int .i64 (i : Int), t.getD 20 undef, t.getD 21 undef, t.getD 22 undef, t.getD 23 undef, t.getD 24 undef, t.getD 25 undef, t.getD 26 undef, t.getD 27 undef, t.getD 28 undef, t.getD 29 undef, t.getD 30 undef, t.getD 31 undef, t.getD 32 undef, t.getD 33 undef, t.getD 34 undef, t.getD 35 undef, t.getD 36 undef, t.getD 37 undef, t.getD 38 undef, t.getD 39 undef, t.getD 40 undef, t.getD 41 undef, t.getD 42 undef, t.getD 43 undef, t.getD 44 undef, t.getD 45 undef, t.getD 46 undef, t.getD 47 undef, t.getD 48 undef, t.getD 49 undef, t.getD 50 undef, t.getD 51 undef, t.getD 52 undef, t.getD 53 undef, t.getD 54 undef, t.getD 55 undef, t.getD 56 undef, t.getD 57 undef, t.getD 58 undef, t.getD 59 undef, t.getD 60 undef, t.getD 61 undef, t.getD 62 undef, t.getD 63 undef, t.getD 64 undef, t.getD 65 undef, t.getD 66 undef, t.getD 67 undef, t.getD 68 undef, t.getD 69 undef, t.getD 70 undef, t.getD 71 undef, t.getD 72 undef, t.getD 73 undef, t.getD 74 undef, t.getD 75 undef, t.getD 76 undef, t.getD 77 undef, t.getD 78 undef, t.getD 79 undef, t.getD 80 undef, t.getD 81 undef, t.getD 82 undef, t.getD 83 undef, t.getD 84 undef, t.getD 85 undef, t.getD 86 undef, t.getD 87 undef, t.getD 88 undef, t.getD 89 undef, t.getD 90 undef, t.getD 91 undef, t.getD 92 undef, t.getD 93 undef, t.getD 94 undef, t.getD 95 undef, t.getD 96 undef, t.getD 97 undef, t.getD 98 undef, t.getD 99 undef, t.getD 100 undef, t.getD 101 undef] → Below W0.heap.size W0 W → Q0 (.exit 2) ⟨t, []⟩ W) (t : Array Value) (c : Bool) (i : Nat) (W : World) (ht : t = #[t.getD 0 undef, t.getD 1 undef, t.getD 2 undef, t.getD 3 undef, t.getD 4 undef, t.getD 5 undef, t.getD 6 undef, t.getD 7 undef, .bool false, t.getD 9 undef, t.getD 10 undef, .slice (some ⟨bx, ox, none⟩) xs.length cx, t.getD 12 undef, vy, t.getD 14 undef, vz, .int .i64 g, .int .i64 (j : Int), .bool c, .int .i64 (i : Int), t.getD 20 undef, t.getD 21 undef, t.getD 22 undef, t.getD 23 undef, t.getD 24 undef, t.getD 25 undef, t.getD 26 undef, t.getD 27 undef, t.getD 28 undef, t.getD 29 undef, t.getD 30 undef, t.getD 31 undef, t.getD 32 undef, t.getD 33 undef, t.getD 34 undef, t.getD 35 undef, t.getD 36 undef, t.getD 37 undef, t.getD 38 undef, t.getD 39 undef, t.getD 40 undef, t.getD 41 undef, t.getD 42 undef, t.getD 43 undef, t.getD 44 undef, t.getD 45 undef, t.getD 46 undef, t.getD 47 undef, t.getD 48 undef, t.getD 49 undef, t.getD 50 undef, t.getD 51 undef, t.getD 52 undef, t.getD 53 undef, t.getD 54 undef, t.getD 55 undef, t.getD 56 undef, t.getD 57 undef, t.getD 58 undef, t.getD 59 undef, t.getD 60 undef, t.getD 61 undef, t.getD 62 undef, t.getD 63 undef, t.getD 64 undef, t.getD 65 undef, t.getD 66 undef, t.getD 67 undef, t.getD 68 undef, t.getD 69 undef, t.getD 70 undef, t.getD 71 undef, t.getD 72 undef, t.getD 73 undef, t.getD 74 undef, t.getD 75 undef, t.getD 76 undef, t.getD 77 undef, t.getD 78 undef, t.getD 79 undef, t.getD 80 undef, t.getD 81 undef, t.getD 82 undef, t.getD 83 undef, t.getD 84 undef, t.getD 85 undef, t.getD 86 undef, t.getD 87 undef, t.getD 88 undef, t.getD 89 undef, t.getD 90 undef, t.getD 91 undef, t.getD 92 undef, t.getD 93 undef, t.getD 94 undef, t.getD 95 undef, t.getD 96 undef, t.getD 97 undef, t.getD 98 undef, t.getD 99 undef, t.getD 100 undef, t.getD 101 undef]) (hi : i ≤ ys.length) (hc : c = decide (x ∈ ys.take i)) (hW : Below W0.heap.size W0 W) :
    (Code.loop rmLoop2).wp Tryd.prog Q0 ⟨t, []⟩ W := by
  refine wp_loop (rml2_inv (.slice (some ⟨bx, ox, none⟩) xs.length cx) vy vz g j x ys W0) (fun a _ => ys.length - (intOf (a.tmps.getD 19 undef)).toNat) ⟨t, c, i, ht, hi, hc, hW, rfl⟩ ?_
  clear ht hi hc hW t c i W
  rintro a' wr ⟨t, c, i, ht, hi, hc, hW, rfl⟩
  obtain ⟨u, rfl⟩ := rml2_open ht
  clear ht
  obtain ⟨a, cy, rfl, hlen, hsl⟩ := hy
  have HC := Lib.hid hc
  have HW := Lib.hid hW
  have HEND := Lib.hid hend
  have n0 := (hW.cell (p := ⟨bx, ox + j, none⟩) (World.block_lt_of_cell? _ _ hx)).trans hx
  clear hc hW hend hx
  conv => arg 2; whnf
  by_cases hlt : i < ys.length
  · obtain ⟨by_, oy, rfl, hcell⟩ := IntsIn.at_ (c := cy) hsl HW.out hlt
    have m0 := hcell i hlt
    have hst := mem_step hlt x
    rw [← HC.out] at hst
    have HST := Lib.hid hst
    clear hsl hcell hst
    generalize ys[i] = y at *
    have HLT := Lib.hid hlt
    have hj2 : (i : Int) < (ys.length : Int) := by omega
    have HR : Hid (∀ c' : Bool, c' = (c || decide (y = x)) → ∀ t : Array Value, ∀ (i' : Nat), i' = i + 1 → t = #[t.getD 0 undef, t.getD 1 undef, t.getD 2 undef, t.getD 3 undef, t.getD 4 undef, t.getD 5 undef, t.getD 6 undef, t.getD 7 undef, .bool false, t.getD 9 undef, t.getD 10 undef, .slice (some ⟨bx, ox, none⟩) xs.length cx, t.getD 12 undef, .slice (some ⟨by_, oy, none⟩) ys.length cy, t.getD 14 undef, vz, .int .i64 g, .int .i64 (j : Int), .bool c', .int .i64 (i' : Int), t.getD 20 undef, t.getD 21 undef, t.getD 22 undef, t.getD 23 undef, t.getD 24 undef, t.getD 25 undef, t.getD 26 undef, t.getD 27 undef, t.getD 28 undef, t.getD 29 undef, t.getD 30 undef, t.getD 31 undef, t.getD 32 undef, t.getD 33 undef, t.getD 34 undef, t.getD 35 undef, t.getD 36 undef, t.getD 37 undef, t.getD 38 undef, t.getD 39 undef, t.getD 40 undef, t.getD 41 undef, t.getD 42 undef, t.getD 43 undef, t.getD 44 undef, t.getD 45 undef, t.getD 46 undef, t.getD 47 undef, t.getD 48 undef, t.getD 49 undef, t.getD 50 undef, t.getD 51 undef, t.getD 52 undef, t.getD 53 undef, t.getD 54 undef, t.getD 55 undef, t.getD 56 undef, t.getD 57 undef, t.getD 58 undef, t.getD 59 undef, t.getD 60 undef, t.getD 61 undef, t.getD 62 undef, t.getD 63 undef, t.getD 64 undef, t.getD 65 undef, t.getD 66 undef, t.getD 67 undef, t.getD 68 undef, t.getD 69 undef, t.getD 70 undef, t.getD 71 undef, t.getD 72 undef, t.getD 73 undef, t.getD 74 undef, t.getD 75 undef, t.getD 76 undef, t.getD 77 undef, t.getD 78 undef, t.getD 79 undef, t.getD 80 undef, t.getD 81 undef, t.getD 82 undef, t.getD 83 undef, t.getD 84 undef, t.getD 85 undef, t.getD 86 undef, t.getD 87 undef, t.getD 88 undef, t.getD 89 undef, t.getD 90 undef, t.getD 91 undef, t.getD 92 undef, t.getD 93 undef, t.getD 94 undef, t.getD 95 undef, t.getD 96 undef, t.getD 97 undef, t.getD 98 undef, t.getD 99 undef, t.getD 100 undef, t.getD 101 undef] → ∀ W, Below W0.heap.size W0 W → rml2_inv (.slice (some ⟨bx, ox, none⟩) xs.length cx) (.slice (some ⟨by_, oy, none⟩) ys.length cy) vz g j x ys W0 ⟨t, []⟩ W) :=
      Lib.hid fun c' hc' t i' hi' ht W hW => ⟨t, c', i', ht, by omega, by rw [hi', hc']; exact HST.out.symm, hW, rfl⟩
    cases c
    · by_cases hy : y = x
      · have hyb : (y == x) = true := by simp [hy]
        have HY := Lib.hid hy
        clear hy
        go_wp2
        go_quiet (fail)
        all_goals go_wp2
        all_goals exact ⟨HR.out true (by simp [HY.out]) _ _ rfl rfl _ (below_draws HW.out _), by simp [intOf]; omega⟩
      · have hyb : (y == x) = false := by simp [hy]
        have HY := Lib.hid hy
        clear hy
        go_wp2
        go_quiet (fail)
        all_goals go_wp2
        all_goals exact ⟨HR.out false (by simp [HY.out]) _ _ rfl rfl _ (below_draws HW.out _), by simp [intOf]; omega⟩
    · go_wp2
      go_quiet (fail)
      all_goals go_wp2
      all_goals exact ⟨HR.out true rfl _ _ rfl rfl _ (below_draws HW.out _), by simp [intOf]; omega⟩
  · obtain rfl : i = ys.length := by omega
    have hcc : c = decide (x ∈ ys) := by have := HC.out; rwa [List.take_length] at this
    have HCC := Lib.hid hcc
    clear hcc hsl
    go_wp2
    exact HEND.out _ _ c ys.length HCC.out rfl HW.out

def rml1_inv (vx vy vz : Value) (g : Int) (xs : List Int) (W0 : World) (a : Act) (wr : World) : Prop :=
  ∃ (t : Array Value) (j : Nat), t = #[t.getD 0 undef, t.getD 1 undef, t.getD 2 undef, t.getD 3 undef, t.getD 4 undef, t.getD 5 undef, t.getD 6 undef, t.getD 7 undef, .bool false, t.getD 9 undef, t.getD 10 undef, vx, t.getD 12 undef, vy, t.getD 14 undef, vz, .int .i64 g, .int .i64 (j : Int), t.getD 18 undef, t.getD 19 undef, t.getD 20 undef, t.getD 21 undef, t.getD 22 undef, t.getD 23 undef, t.getD 24 undef, t.getD 25 undef, t.getD 26 undef, t.getD 27 undef, t.getD 28 undef, t.getD 29 undef, t.getD 30 undef, t.getD 31 undef, t.getD 32 undef, t.getD 33 undef, t.getD 34 undef, t.getD 35 undef, t.getD 36 undef, t.getD 37 undef, t.getD 38 undef, t.getD 39 undef, t.getD 40 undef, t.getD 41 undef, t.getD 42 undef, t.getD 43 undef, t.getD 44 undef, t.getD 45 undef, t.getD 46 undef, t.getD 47 undef, t.getD 48 undef, t.getD 49 undef, t.getD 50 undef, t.getD 51 undef, t.getD 52 undef, t.getD 53 undef, t.getD 54 undef, t.getD 55 undef, t.getD 56 undef, t.getD 57 undef, t.getD 58 undef, t.getD 59 undef, t.getD 60 undef, t.getD 61 undef, t.getD 62 undef, t.getD 63 undef, t.getD 64 undef, t.getD 65 undef, t.getD 66 undef, t.getD 67 undef, t.getD 68 undef, t.getD 69 undef, t.getD 70 undef, t.getD 71 undef, t.getD 72 undef, t.getD 73 undef, t.getD 74 undef, t.getD 75 undef, t.getD 76 undef, t.getD 77 undef, t.getD 78 undef, t.getD 79 undef, t.getD 80 undef, t.getD 81 undef, t.getD 82 undef, t.getD 83 undef, t.getD 84 undef, t.getD 85 undef, t.getD 86 undef, t.getD 87 undef, t.getD 88 undef, t.getD 89 undef, t.getD 90 undef, t.getD 91 undef, t.getD 92 undef, t.getD 93 undef, t.getD 94 undef, t.getD 95 undef, t.getD 96 undef, t.getD 97 undef, t.getD 98 undef, t.getD 99 undef, t.getD 100 undef, t.getD 101 undef] ∧ j ≤ xs.length ∧ Below W0.heap.size W0 wr ∧ a = ⟨t, []⟩
set_option maxHeartbeats 4000000 in
theorem rm_loop1 (vx vy vz : Value) (g : Int) (xs ys : List Int) (W0 : World) (hx : IntsIn W0 vx xs) (hy : IntsIn W0 vy ys) (hsub : ∀ x ∈ xs, x ∈ ys) (Q0 : Exit → Act → World → Prop)
    (hend : ∀ (t : Array Value) (W : World) (j : Nat), t = #[t.getD 0 undef, t.getD 1 undef, t.getD 2 undef, t.getD 3 undef, t.getD 4 undef, t.getD 5 undef, t.getD 6 undef, t.getD 7 undef, .bool false, t.getD 9 undef, t.getD 10 undef, vx, t.getD 12 undef, vy, t.getD 14 undef, vz, .int .i64 g, .int .i64 (j : Int), t.getD 18 undef, t.getD 19 undef, t.getD 20 undef, t.getD 21 undef, t.getD 22 undef, t.getD 23 undef, t.getD 24 undef, t.getD 25 undef, t.getD 26 undef, t.getD 27 undef, t.getD 28 undef, t.getD 29 undef, t.getD 30 undef, t.getD 31 undef, t.getD 32 undef, t.getD 33 undef, t.getD 34 undef, t.getD 35 undef, t.getD 36 undef, t.getD 37 undef, t.getD 38 undef, t.getD 39 undef, t.getD 40 undef, t.getD 41 undef, t.getD 42 undef, t.getD 43 undef, t.getD 44 undef, t.getD 45 undef, t.getD 46 undef, t.getD 47 undef, t.getD 48 undef, t.getD 49 undef, t.getD 50 undef, t.getD 51 undef, t.getD 52 undef, t.getD 53 undef, t.getD 54 undef, t.getD 55 undef, t.getD 56 undef, t.getD 57 undef, t.getD 58 undef, t.getD 59 undef, t.getD 60 undef, t.getD 61 undef, t.getD 62 undef, t.getD 63 undef, t.getD 64 undef, t.getD 65 undef, t.getD 66 undef, t.getD 67 undef, t.getD 68 undef, t.getD 69 undef, t.getD 70 undef, t.getD 71 undef, t.getD 72 undef, t.getD 73 undef, t.getD 74 undef, t.getD 75 undef, t.getD 76 undef, t.getD 77 undef, t.getD 78 undef, t.getD 79 undef, t.getD 80 undef, t.getD 81 undef, t.getD 82 undef, t.getD 83 undef, t.getD 84 undef, t.getD 85 undef, t.getD 86 undef, t.getD 87 undef, t.getD 88 undef, t.getD 89 undef, t.getD 90 undef, t.getD 91 undef, t.getD 92 undef, t.getD 93 undef, t.getD 94 undef, t.getD 95 undef, t.getD 96 undef, t.getD 97 undef, t.getD 98 undef, t.getD 99 undef, t.getD 100 undef, t.getD 101 undef] → Below W0.heap.size W0 W → Q0 (.exit 0) ⟨t, []⟩ W) (t : Array Value) (j : Nat) (W : World) (ht : t = #[t.getD 0 undef, t.getD 1 undef, t.getD 2 undef, t.getD 3 undef, t.getD 4 undef, t.getD 5 undef, t.getD 6 undef, t.getD 7 undef, .bool false, t.getD 9 undef, t.getD 10 undef, vx, t.getD 12 undef, vy, t.getD 14 undef, vz, .int .i64 g, .int .i64 (j : Int), t.getD 18 undef, t.getD 19 undef, t.getD 20 undef, t.getD 21 undef, t.getD 22 undef, t.getD 23 undef, t.getD 24 undef, t.getD 25 undef, t.getD 26 undef, t.getD 27 undef, t.getD 28 undef, t.getD 29 undef, t.getD 30 undef, t.getD 31 undef, t.getD 32 undef, t.getD 33 undef, t.getD 34 undef, t.getD 35 undef, t.getD 36 undef, t.getD 37 undef, t.getD 38 undef, t.getD 39 undef, t.getD 40 undef, t.getD 41 undef, t.getD 42 undef, t.getD 43 undef, t.getD 44 undef, t.getD 45 undef, t.getD 46 undef, t.getD 47 undef, t.getD 48 undef, t.getD 49 undef, t.getD 50 undef, t.getD 51 undef, t.getD 52 undef, t.getD 53 undef, t.getD 54 undef, t.getD 55 undef, t.getD 56 undef, t.getD 57 undef, t.getD 58 undef, t.getD 59 undef, t.getD 60 undef, t.getD 61 undef, t.getD 62 undef, t.getD 63 undef, t.getD 64 undef, t.getD 65 undef, t.getD 66 undef, t.getD 67 undef, t.getD 68 undef, t.getD 69 undef, t.getD 70 undef, t.getD 71 undef, t.getD 72 undef, t.getD 73 undef, t.getD 74 undef, t.getD 75 undef, t.getD 76 undef, t.getD 77 undef, t.getD 78 undef, t.getD 79 undef, t.getD 80 undef, t.getD 81 undef, t.getD 82 undef, t.getD 83 undef, t.getD 84 undef, t.getD 85 undef, t.getD 86 undef, t.getD 87 undef, t.getD 88 undef, t.getD 89 undef, t.getD 90 undef, t.getD 91 undef, t.getD 92 undef, t.getD 93 undef, t.getD 94 undef, t.getD 95 undef, t.getD 96 undef, t.getD 97 undef, t.getD 98 undef, t.getD 99 undef, t.getD 100 undef, t.getD 101 undef]) (hj : j ≤ xs.length) (hW : Below W0.heap.size W0 W) :
    (Code.loop rmLoop1).wp Tryd.prog Q0 ⟨t, []⟩ W := by
  refine wp_loop (rml1_inv vx vy vz g xs W0) (fun a _ => xs.length - (intOf (a.tmps.getD 17 undef)).toNat) ⟨t, j, ht, hj, hW, rfl⟩ ?_
  clear ht hj hW t j W
  rintro a' wr ⟨t, j, ht, hj, hW, rfl⟩
  obtain ⟨u, rfl⟩ := rml1_open ht
  clear ht
  obtain ⟨a, cx, rfl, hlen, hsl⟩ := hx
  have HW := Lib.hid hW
  have HEND := Lib.hid hend
  have HY := Lib.hid hy
  clear hW hend hy
  conv => arg 2; whnf
  by_cases hlt : j < xs.length
  · obtain ⟨bx, ox, rfl, hcell⟩ := IntsIn.at_ (c := cx) hsl HW.out hlt
    have HM := Lib.hid (hcell j hlt)
    have HS := Lib.hid (hsub _ (List.getElem_mem hlt))
    clear hsl hcell hsub
    generalize xs[j] = x at *
    have HLT := Lib.hid hlt
    have hj2 : (j : Int) < (xs.length : Int) := by omega
    have HR : Hid (∀ t : Array Value, ∀ (j' : Nat), j' = j + 1 → t = #[t.getD 0 undef, t.getD 1 undef, t.getD 2 undef, t.getD 3 undef, t.getD 4 undef, t.getD 5 undef, t.getD 6 undef, t.getD 7 undef, .bool false, t.getD 9 undef, t.getD 10 undef, .slice (some ⟨bx, ox, none⟩) xs.length cx, t.getD 12 undef, vy, t.getD 14 undef, vz, .int .i64 g, .int .i64 (j' : Int), t.getD 18 undef, t.getD 19 undef, t.getD 20 undef, t.getD 21 undef, t.getD 22 undef, t.getD 23 undef, t.getD 24 undef, t.getD 25 undef, t.getD 26 undef, t.getD 27 undef, t.getD 28 undef, t.getD 29 undef, t.getD 30 undef, t.getD 31 undef, t.getD 32 undef, t.getD 33 undef, t.getD 34 undef, t.getD 35 undef, t.getD 36 undef, t.getD 37 undef, t.getD 38 undef, t.getD 39 undef, t.getD 40 undef, t.getD 41 undef, t.getD 42 undef, t.getD 43 undef, t.getD 44 undef, t.getD 45 undef, t.getD 46 undef, t.getD 47 undef, t.getD 48 undef, t.getD 49 undef, t.getD 50 undef, t.getD 51 undef, t.getD 52 undef, t.getD 53 undef, t.getD 54 undef, t.getD 55 undef, t.getD 56 undef, t.getD 57 undef, t.getD 58 undef, t.getD 59 undef, t.getD 60 undef, t.getD 61 undef, t.getD 62 undef, t.getD 63 undef, t.getD 64 undef, t.getD 65 undef, t.getD 66 undef, t.getD 67 undef, t.getD 68 undef, t.getD 69 undef, t.getD 70 undef, t.getD 71 undef, t.getD 72 undef, t.getD 73 undef, t.getD 74 undef, t.getD 75 undef, t.getD 76 undef, t.getD 77 undef, t.getD 78 undef, t.getD 79 undef, t.getD 80 undef, t.getD 81 undef, t.getD 82 undef, t.getD 83 undef, t.getD 84 undef, t.getD 85 undef, t.getD 86 undef, t.getD 87 undef, t.getD 88 undef, t.getD 89 undef, t.getD 90 undef, t.getD 91 undef, t.getD 92 undef, t.getD 93 undef, t.getD 94 undef, t.getD 95 undef, t.getD 96 undef, t.getD 97 undef, t.getD 98 undef, t.getD 99 undef, t.getD 100 undef, t.getD 101 undef] → ∀ W, Below W0.heap.size W0 W → rml1_inv (.slice (some ⟨bx, ox, none⟩) xs.length cx) vy vz g xs W0 ⟨t, []⟩ W) :=
      Lib.hid fun t j' hj' ht W hW => ⟨t, j', ht, by omega, hW, rfl⟩
    go_wp2
    refine rm_loop2 vz g j bx ox cx vy x xs ys wr (HY.out.since HW.out) HLT.out HM.out _ ?_ _ false 0 wr rfl (Nat.zero_le _) rfl (Below.refl _ _)
    rintro t W c i hc ht hW'
    obtain ⟨u', rfl⟩ := rml2_open ht
    obtain rfl : c = true := by
      rw [hc]
      exact decide_eq_true HS.out
    have HW2 := Lib.hid (HW.out.trans (hW'.mono HW.out.size))
    clear hc ht hW'
    go_wp2
    exact ⟨HR.out _ _ rfl rfl _ HW2.out, by simp [intOf]; omega⟩
  · obtain rfl : j = xs.length := by omega
    clear hsl
    go_wp2
    exact HEND.out _ _ xs.length rfl HW.out
end Go.Proofs.YtapimpmpjighmaaDoor

namespace Go.Proofs.YtapimpmpjighmaaDoor
open Go Go.RowKit
set_option maxRecDepth 100000

def pMore (p : PlanD) (b : BindD) : PlanD := { p with binds := p.binds ++ [b] }
theorem byP_more (p : PlanD) (b x : BindD) (key : ByteArray) : byP (pMore p b) x key = byP p x key := rfl
theorem reach_sub {p p' : PlanD} {key : ByteArray} {k x : Int} (hb : ∀ b ∈ p.binds, b ∈ p'.binds) (hf : ∀ b, byP p b key = true → byP p' b key = true) (h : Reach p key k x) : Reach p' key k x := by
  induction h with
  | start => exact .start
  | step _ h2 h3 h4 ih => exact .step ih (hb _ h2) h3 (hf _ h4)
theorem ofL_sub {p p' : PlanD} (hr : PlanRight p) (hr' : PlanRight p') {k : Nat} (hk : k < p.posts.length) (hk' : k < p'.posts.length) {key : ByteArray} (hb : ∀ b ∈ p.binds, b ∈ p'.binds) (hf : ∀ b, byP p b key = true → byP p' b key = true) {z : Int} (h : z ∈ ofL p k key) : z ∈ ofL p' k key := by
  obtain ⟨b, h1, h2, h3, h4, h5⟩ := (ofL_mem hr hk).1 h
  exact (ofL_mem hr' hk').2 ⟨b, hb b h1, h2, h3, hf b h4, reach_sub hb hf h5⟩
theorem more_sub {p : PlanD} {b : BindD} {n : Int} {key : ByteArray} (h1 : routeErr p n key = 0) (h2 : routeErr (pMore p b) n key = 0) : ∀ z ∈ queuesR p n key, z ∈ queuesR (pMore p b) n key := by
  obtain ⟨hr, k, rfl, hk, _⟩ := routeErr_ok h1
  obtain ⟨hr', _, _, _, _⟩ := routeErr_ok h2
  intro z hz
  unfold queuesR at hz ⊢
  rw [if_pos h1] at hz
  rw [if_pos h2]
  exact ofL_sub hr hr' hk hk (fun x hx => List.mem_append_left _ hx) (fun x hx => hx) hz
theorem more_same {p : PlanD} {b : BindD} {n : Int} {key : ByteArray} (h1 : routeErr (pMore p b) n key = 0) (h2 : routeErr (pMore (pMore p b) b) n key = 0) : queuesR (pMore p b) n key = queuesR (pMore (pMore p b) b) n key := by
  obtain ⟨hr, k, rfl, hk, _⟩ := routeErr_ok h1
  obtain ⟨hr', _, _, _, _⟩ := routeErr_ok h2
  unfold queuesR
  rw [if_pos h1, if_pos h2]
  refine asc_ext (ofL_asc _ _ _) (ofL_asc _ _ _) fun z => ⟨ofL_sub hr hr' hk hk (fun x hx => List.mem_append_left _ hx) (fun x hx => hx), ofL_sub hr' hr hk hk (fun x hx => ?_) (fun x hx => hx)⟩
  rcases List.mem_append.1 hx with h | h
  · exact h
  · obtain rfl : x = b := by simpa using h
    exact List.mem_append_right _ (by simp)
theorem queuesR_len {p : PlanD} {n : Int} {key : ByteArray} : (queuesR p n key).length ≤ 1048576 := by
  unfold queuesR
  split
  · rename_i h
    obtain ⟨hr, k, rfl, hk, _⟩ := routeErr_ok h
    have h1 := nodup_bound p.queues.length ((ofL_asc p k key).imp fun h => by omega) fun x hx => ofL_lt hr hk hx
    have := hr.queues
    omega
  · simp
/-- The three plans in their boxes. -/
structure MoreIn (w : World) (p : PlanD) (b : BindD) (Y Z : Nat) (a1 a2 a3 A B : Option Addr) (c1 c2 c3 C D : Nat) (W : World) : Prop where
  p0 : Bk W w.heap.size 26 #[.slice a1 p.posts.length c1, .slice a2 p.queues.length c2, .slice a3 p.binds.length c3]
  p1 : Bk W Y 26 #[.slice a1 p.posts.length c1, .slice a2 p.queues.length c2, .slice A (p.binds.length + 1) C]
  p2 : Bk W Z 26 #[.slice a1 p.posts.length c1, .slice a2 p.queues.length c2, .slice B (p.binds.length + 1 + 1) D]
  at0 : PlanAt W 0 W.heap.size a1 a2 a3 p
  at1 : PlanAt W 0 W.heap.size a1 a2 A (pMore p b)
  at2 : PlanAt W 0 W.heap.size a1 a2 B (pMore (pMore p b) b)
  below : Below w.heap.size w W
theorem MoreIn.since {w W W' : World} {p : PlanD} {b : BindD} {Y Z : Nat} {a1 a2 a3 A B : Option Addr} {c1 c2 c3 C D : Nat} (h : MoreIn w p b Y Z a1 a2 a3 A B c1 c2 c3 C D W) (hb : Below W.heap.size W W') : MoreIn w p b Y Z a1 a2 a3 A B c1 c2 c3 C D W' :=
  ⟨h.p0.below hb h.p0.lt, h.p1.below hb h.p1.lt, h.p2.below hb h.p2.lt, (h.at0.below hb (Nat.le_refl _)).wider (Nat.le_refl _) hb.size, (h.at1.below hb (Nat.le_refl _)).wider (Nat.le_refl _) hb.size, (h.at2.below hb (Nat.le_refl _)).wider (Nat.le_refl _) hb.size, h.below.trans (hb.mono h.below.size)⟩
theorem more_small {p : PlanD} {b : BindD} (h : PlanSmall p) (hl : p.binds.length + 1 ≤ 1048576) (hb : b.pattern.size ≤ 1048576) : PlanSmall (pMore p b) :=
  ⟨h.posts, h.queues, by unfold pMore; simp; omega, h.post, h.queue, fun x hx => by
    rcases List.mem_append.1 hx with h1 | h1
    · exact h.bind x h1
    · obtain rfl : x = b := by simpa using h1
      exact hb⟩
theorem queues_at (P : PlanD) (n : Int) (key : ByteArray) (a1 a2 a3 : Option Addr) (c1 c2 c3 l1 l2 l3 : Nat) (e1 : P.posts.length = l1) (e2 : P.queues.length = l2) (e3 : P.binds.length = l3) (w : World) (hv : Env w) (hp : PlanAt w 0 w.heap.size a1 a2 a3 P) (hs : PlanSmall P) (hk : key.size ≤ 1048576) :
    Calls Tryd.prog 30 #[.agg #[.slice a1 l1 c1, .slice a2 l2 c2, .slice a3 l3 c3], .int .i64 n, .string key] w fun e w' => ∃ v, e = .returned (.tuple #[v, .int .i64 (routeErr P n key)]) ∧ IntsO w' w.heap.size v (queuesR P n key) ∧ Below w.heap.size w w' := by
  subst e1 e2 e3
  exact Queues_any P n key a1 a2 a3 c1 c2 c3 w hv hp hs hk
theorem sl_own4 {w : World} {base n C : Nat} {A : Option Addr} {bs : List BindD} (h : w.ownsRow base 64 4 (.slice A n C) n (bs.flatMap vBind)) : Sl w 0 w.heap.size A (bs.flatMap vBind) := (Sl.of_own h).wider (Nat.zero_le _) (Nat.le_refl _)
theorem flat_snoc (bs : List BindD) (b : BindD) : bs.flatMap vBind ++ vBind b = (bs ++ [b]).flatMap vBind := by rw [List.flatMap_append]; simp

set_option maxHeartbeats 8000000 in
theorem routeMore_any (p : PlanD) (a1 a2 a3 : Option Addr) (c1 c2 c3 : Nat) (n : Int) (key : ByteArray) (b : BindD) (w : World) (hp : PlanAt w 0 w.heap.size a1 a2 a3 p) (hs : PlanSmall p) (_ : PlanInts p) (hlim : p.binds.length + 2 ≤ 1048576) (_ : -9223372036854775808 ≤ n ∧ n ≤ 9223372036854775807) (hkey : key.size ≤ 1048576) (hbs : b.pattern.size ≤ 1048576) (hE : Env w) :
    Calls Tryd.prog 9 #[planV p a1 a2 a3 c1 c2 c3, .int .i64 n, .string key, .agg (vBind b).toArray] w fun e w' => e = .returned (.bool true) ∧ Below w.heap.size w w' := by
  have HS := Lib.hid hs
  have HE := Lib.hid hE
  have HP := Lib.hid hp
  unfold planV vBind
  clear hp hs hE
  go_enter Tryd.func9, Tryd.ntmps9
  go_wp2_with fail
  obtain ⟨W1, hW1⟩ : ∃ W1, ((w.alloc (.cells #[Value.slice a1 p.posts.length c1, Value.slice a2 p.queues.length c2, Value.slice a3 p.binds.length c3] 26)).alloc (.cells #[.int .i64 b.src, .bool b.toPost, .int .i64 b.to, .string b.pattern] 64)).alloc (.cells #[Value.slice a1 p.posts.length c1, Value.slice a2 p.queues.length c2, Value.slice a3 p.binds.length c3] 26) = W1 := ⟨_, rfl⟩
  have k0 : Bk W1 w.heap.size 26 #[Value.slice a1 p.posts.length c1, Value.slice a2 p.queues.length c2, Value.slice a3 p.binds.length c3] := by rw [← hW1]; exact ((Bk.new _ _ _).alloc _).alloc _
  have k1 : Bk W1 (w.heap.size + 1) 64 (vBind b).toArray := by rw [← hW1]; exact (Bk.new_at _ _ _ (by simp)).alloc _
  have k2 : Bk W1 (w.heap.size + 1 + 1) 26 #[Value.slice a1 p.posts.length c1, Value.slice a2 p.queues.length c2, Value.slice a3 p.binds.length c3] := by rw [← hW1]; exact Bk.new_at _ _ _ (by simp)
  have hb1 : Below w.heap.size w W1 := by rw [← hW1]; exact Own3 w _ _ _
  rw [hW1]
  clear hW1
  have hp1 : PlanAt W1 0 W1.heap.size a1 a2 a3 p := (HP.out.below hb1 (Nat.le_refl _)).wider (Nat.le_refl _) hb1.size
  refine rm_reg2 n key (w.heap.size + 1) w.heap.size (w.heap.size + 1 + 1) p.binds b a3 c3 _ _ _ W1 (k0.cell 2) k1 k2 hp1.binds (by omega) (by omega) (by omega) _ ?_ _ rfl
  rintro t A C W6 ht ho hb6
  obtain ⟨u, rfl⟩ := rm2_open ht
  obtain ⟨W2, hW2⟩ : ∃ W2, W6.setCell ⟨w.heap.size + 1 + 1, 2, none⟩ (.slice A (p.binds.length + 1) C) = W2 := ⟨_, rfl⟩
  have q0 : Bk W2 w.heap.size 26 #[Value.slice a1 p.posts.length c1, Value.slice a2 p.queues.length c2, Value.slice a3 p.binds.length c3] := by rw [← hW2]; exact (k0.below hb6 k0.lt).far (p := ⟨w.heap.size + 1 + 1, 2, none⟩) (by show w.heap.size ≠ w.heap.size + 1 + 1; omega) _
  have q1 : Bk W2 (w.heap.size + 1) 64 (vBind b).toArray := by rw [← hW2]; exact (k1.below hb6 k1.lt).far (p := ⟨w.heap.size + 1 + 1, 2, none⟩) (by show w.heap.size + 1 ≠ w.heap.size + 1 + 1; omega) _
  have q2 : Bk W2 (w.heap.size + 1 + 1) 26 #[Value.slice a1 p.posts.length c1, Value.slice a2 p.queues.length c2, Value.slice A (p.binds.length + 1) C] := by rw [← hW2]; exact (k2.below hb6 k2.lt).set_ 2 _
  have q3 : W2.ownsRow W1.heap.size 64 4 (.slice A (p.binds.length + 1) C) (p.binds.length + 1) ((p.binds ++ [b]).flatMap vBind) := by rw [← hW2, ← flat_snoc]; exact ownsRow_setCell_below ho k2.lt _
  have hb2 : Below w.heap.size w W2 := by rw [← hW2]; exact (hb1.trans (hb6.mono hb1.size)).setCell (p := ⟨w.heap.size + 1 + 1, 2, none⟩) (by show w.heap.size ≤ w.heap.size + 1 + 1; omega) _
  rw [hW2]
  have m0 := q2.cell 0
  have m1 := q2.cell 1
  have m2 := q2.cell 2
  simp only [List.getElem?_toArray, List.getElem?_cons_zero, List.getElem?_cons_succ] at m0 m1 m2
  have HQ := Lib.hid (And.intro q0 (And.intro q1 (And.intro q2 (And.intro q3 hb2))))
  clear hW2 k0 k1 k2 hb1 hp1 ho hb6 ht q0 q1 q2 q3 hb2
  go_wp2_with fail
  clear m0 m1 m2
  obtain ⟨W3, hW3⟩ : ∃ W3, W2.alloc (.cells #[Value.slice a1 p.posts.length c1, Value.slice a2 p.queues.length c2, Value.slice A (p.binds.length + 1) C] 26) = W3 := ⟨_, rfl⟩
  have hal : Below W2.heap.size W2 W3 := by rw [← hW3]; exact (Below.refl _ _).alloc (Nat.le_refl _) _
  have kz : Bk W3 W2.heap.size 26 #[Value.slice a1 p.posts.length c1, Value.slice a2 p.queues.length c2, Value.slice A (p.binds.length + 1) C] := by rw [← hW3]; exact Bk.new _ _ _
  rw [hW3]
  clear hW3
  have k0 := HQ.out.1.below hal HQ.out.1.lt
  have k1 := HQ.out.2.1.below hal HQ.out.2.1.lt
  have k2 := HQ.out.2.2.1.below hal HQ.out.2.2.1.lt
  have k3 := own_below HQ.out.2.2.2.1 hal
  have hlA : (p.binds ++ [b]).length = p.binds.length + 1 := by simp
  have hz1 := HQ.out.1.lt
  have hz2 := HQ.out.2.1.lt
  have hz3 := HQ.out.2.2.1.lt
  refine rm_reg4 n key (w.heap.size + 1) (w.heap.size + 1 + 1) W2.heap.size w.heap.size (p.binds ++ [b]) b A C _ _ _ W3 (by rw [hlA]; exact k2.cell 2) k1 kz (sl_own4 k3) (by rw [hlA]; omega) (by omega) (by omega) _ ?_ _ rfl
  rintro t B D W6 ht ho hb6
  obtain ⟨u, rfl⟩ := rm4_open ht
  rw [hlA] at ho ⊢
  obtain ⟨W4, hW4⟩ : ∃ W4, W6.setCell ⟨W2.heap.size, 2, none⟩ (.slice B (p.binds.length + 1 + 1) D) = W4 := ⟨_, rfl⟩
  have HM : Hid (MoreIn w p b (w.heap.size + 1 + 1) W2.heap.size a1 a2 a3 A B c1 c2 c3 C D W4) := by
    have hb4 : Below W2.heap.size W2 W4 := by rw [← hW4]; exact (hal.trans (hb6.mono hal.size)).setCell (p := ⟨W2.heap.size, 2, none⟩) (Nat.le_refl _) _
    have hb5 : Below w.heap.size w W4 := HQ.out.2.2.2.2.trans (hb4.mono HQ.out.2.2.2.2.size)
    have e0 : PlanAt W4 0 W4.heap.size a1 a2 a3 p := (HP.out.below hb5 (Nat.le_refl _)).wider (Nat.le_refl _) hb5.size
    have e1 : W4.ownsRow W1.heap.size 64 4 (.slice A (p.binds.length + 1) C) (p.binds.length + 1) ((p.binds ++ [b]).flatMap vBind) := own_below HQ.out.2.2.2.1 hb4
    have e2 : W4.ownsRow W3.heap.size 64 4 (.slice B (p.binds.length + 1 + 1) D) (p.binds.length + 1 + 1) (((p.binds ++ [b]) ++ [b]).flatMap vBind) := by rw [← hW4, ← flat_snoc]; exact ownsRow_setCell_below ho kz.lt _
    refine Lib.hid ⟨HQ.out.1.below hb4 HQ.out.1.lt, HQ.out.2.2.1.below hb4 HQ.out.2.2.1.lt, by rw [← hW4]; exact (kz.below hb6 kz.lt).set_ 2 _, e0, ⟨e0.posts, e0.queues, sl_own4 e1⟩, ⟨e0.posts, e0.queues, sl_own4 e2⟩, hb5⟩
  rw [hW4]
  clear hW4 hal kz k0 k1 k2 k3 hlA hz1 hz2 hz3 ht ho hb6 HQ
  have HS1 : Hid (PlanSmall (pMore p b) ∧ PlanSmall (pMore (pMore p b) b)) := by
    have h1 := more_small (b := b) HS.out (by omega) hbs
    exact Lib.hid ⟨h1, more_small h1 (by unfold pMore; simp; omega) hbs⟩
  have m0 := HM.out.p0.cell 0
  have m1 := HM.out.p0.cell 1
  have m2 := HM.out.p0.cell 2
  simp only [List.getElem?_toArray, List.getElem?_cons_zero, List.getElem?_cons_succ] at m0 m1 m2
  go_wp2_with fail
  refine (queues_at p n key a1 a2 a3 c1 c2 c3 _ _ _ rfl rfl rfl W4 (below_env HM.out.below HE.out) HM.out.at0 HS.out hkey).mono ?_
  clear m0 m1 m2
  rintro e w5 ⟨vx, rfl, n1, n2⟩
  obtain ⟨ax, cx, rfl, _⟩ := own_slice n1
  have HX := Lib.hid (ints_in n1 queuesR_len)
  have HM5 := Lib.hid (HM.out.since n2)
  clear n1 n2
  have m0 := HM5.out.p1.cell 0
  have m1 := HM5.out.p1.cell 1
  have m2 := HM5.out.p1.cell 2
  simp only [List.getElem?_toArray, List.getElem?_cons_zero, List.getElem?_cons_succ] at m0 m1 m2
  go_wp2_with fail
  refine (queues_at (pMore p b) n key a1 a2 A c1 c2 C _ _ _ rfl rfl (by simp [pMore]) w5 (below_env HM5.out.below HE.out) HM5.out.at1 HS1.out.1 hkey).mono ?_
  clear m0 m1 m2
  rintro e w6 ⟨vy, rfl, n1, n2⟩
  obtain ⟨ay, cy, rfl, _⟩ := own_slice n1
  have HY := Lib.hid (ints_in n1 queuesR_len)
  have HM6 := Lib.hid (HM5.out.since n2)
  have HB6 := Lib.hid n2
  clear n1 n2
  have m0 := HM6.out.p2.cell 0
  have m1 := HM6.out.p2.cell 1
  have m2 := HM6.out.p2.cell 2
  simp only [List.getElem?_toArray, List.getElem?_cons_zero, List.getElem?_cons_succ] at m0 m1 m2
  go_wp2_with fail
  refine (queues_at (pMore (pMore p b) b) n key a1 a2 B c1 c2 D _ _ _ rfl rfl (by simp [pMore]) w6 (below_env HM6.out.below HE.out) HM6.out.at2 HS1.out.2 hkey).mono ?_
  clear m0 m1 m2
  rintro e w7 ⟨vz, rfl, n1, n2⟩
  obtain ⟨az, cz, rfl, _⟩ := own_slice n1
  have HZ := Lib.hid (ints_in n1 queuesR_len)
  have HM7 := Lib.hid (HM6.out.since n2)
  have HB7 := Lib.hid n2
  clear n1 n2
  have hsub := @more_sub p b n key
  have hsame := @more_same p b n key
  generalize hqx : queuesR p n key = xs at *
  generalize hqy : queuesR (pMore p b) n key = ys at *
  generalize hqz : queuesR (pMore (pMore p b) b) n key = zs at *
  generalize hex : routeErr p n key = ex at *
  generalize hey : routeErr (pMore p b) n key = ey at *
  generalize hez : routeErr (pMore (pMore p b) b) n key = ez at *
  have HSUB := Lib.hid (And.intro hsub hsame)
  clear hqx hqy hqz hex hey hez hsub hsame
  have hend : Hid (∀ W, Below w7.heap.size w7 W → Below w.heap.size w W ∧ Env W) := Lib.hid fun W hW => ⟨(HM7.out.since hW).below, below_env (HM7.out.since hW).below HE.out⟩
  by_cases h1 : ex = 0
  · by_cases h2 : ey = 0
    · have HXY := Lib.hid (HSUB.out.1 h1 h2)
      have hyz := HSUB.out.2 h2
      subst h1 h2
      have HYZ := Lib.hid hyz
      clear hyz HSUB
      go_wp2
      refine rm_loop1 _ _ _ ez xs ys w7 ((HX.out.since HB6.out).since HB7.out) (HY.out.since HB7.out) HXY.out _ ?_ _ 0 w7 rfl (Nat.zero_le _) (Below.refl _ _)
      rintro t W j ht hW
      obtain ⟨u, rfl⟩ := rml1_open ht
      have HW := Lib.hid hW
      clear ht hW
      go_wp2_with fail
      refine (routeBegun_any W (hend.out _ HW.out).2).mono ?_
      rintro e w8 ⟨rfl, n8⟩
      have HN8 := Lib.hid (HW.out.trans (n8.mono HW.out.size))
      clear n8
      by_cases h3 : ez = 0
      · have hE := HYZ.out h3
        subst h3
        subst hE
        clear HYZ
        go_wp2_with fail
        obtain ⟨_, _, e1, h4, h5⟩ := HY.out.since (HB7.out.trans (HN8.out.mono HB7.out.size))
        obtain ⟨_, _, e2, h6, h7⟩ := HZ.out.since HN8.out
        cases e1
        cases e2
        refine (SameInts_any _ _ _ _ ys ys w8 0 h5 h7 (by omega) (by omega)).mono ?_
        rintro e w9 ⟨rfl, n9⟩
        have HN9 := Lib.hid (HN8.out.trans (n9.mono HN8.out.size))
        clear n9 h5 h7
        rw [decide_eq_true rfl]
        go_wp2_with fail
        go_ret
        exact ⟨rfl, (hend.out _ HN9.out).1⟩
      · have b3 : (ez != 0) = true := by simp [h3]
        clear h3 HYZ
        go_wp2_with fail
        go_ret
        exact ⟨rfl, (hend.out _ HN8.out).1⟩
    · have b2 : (ey != 0) = true := by simp [h2]
      subst h1
      clear h2
      go_wp2_with fail
      refine (routeBegun_any w7 (hend.out _ (Below.refl _ _)).2).mono ?_
      rintro e w8 ⟨rfl, n8⟩
      have HN8 := Lib.hid n8
      clear n8
      go_wp2_with fail
      go_ret
      exact ⟨rfl, (hend.out _ HN8.out).1⟩
  · have b1 : (ex != 0) = true := by simp [h1]
    clear h1
    go_wp2_with fail
    refine (routeBegun_any w7 (hend.out _ (Below.refl _ _)).2).mono ?_
    rintro e w8 ⟨rfl, n8⟩
    have HN8 := Lib.hid n8
    clear n8
    go_wp2_with fail
    go_ret
    exact ⟨rfl, (hend.out _ HN8.out).1⟩

end Go.Proofs.YtapimpmpjighmaaDoor
