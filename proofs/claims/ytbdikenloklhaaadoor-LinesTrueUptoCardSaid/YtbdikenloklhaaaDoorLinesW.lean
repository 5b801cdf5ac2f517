/-
  LinesTrue answers true.
-/
import Derived.Test.YtbdikenloklhaaaDoorLinesV
import Derived.Deep.CutRange
import Derived.Deep.RegionHeld3
import Derived.Deep.QuietTactic
import Derived.BigQuiet
import Derived.BigFrame
namespace Go.Proofs.YtbdikenloklhaaaDoor
open Go.RowKit
set_option maxRecDepth 100000

/-- Two letters that a call has boxed. -/
def BoxedII (w W0 : World) (x y : ItemD) : Prop := ∀ W, Below W0.heap.size W0 W →
  (W.cell? ⟨w.heap.size, 0, none⟩ = some (.int .i64 x.seq) ∧ W.cell? ⟨w.heap.size, 1, none⟩ = some (.string x.key) ∧ W.cell? ⟨w.heap.size, 2, none⟩ = some (.string x.body) ∧ W.cell? ⟨w.heap.size, 3, none⟩ = some (.bool x.again) ∧ W.cell? ⟨w.heap.size, 4, none⟩ = some (.int .i64 x.deaths)) ∧
  (W.cell? ⟨w.heap.size + 1, 0, none⟩ = some (.int .i64 y.seq) ∧ W.cell? ⟨w.heap.size + 1, 1, none⟩ = some (.string y.key) ∧ W.cell? ⟨w.heap.size + 1, 2, none⟩ = some (.string y.body) ∧ W.cell? ⟨w.heap.size + 1, 3, none⟩ = some (.bool y.again) ∧ W.cell? ⟨w.heap.size + 1, 4, none⟩ = some (.int .i64 y.deaths)) ∧ Below w.heap.size w W
theorem boxedII_new (w : World) (x y : ItemD) (t : TypeId) : BoxedII w ((w.alloc (.cells #[.int .i64 x.seq, .string x.key, .string x.body, .bool x.again, .int .i64 x.deaths] t)).alloc (.cells #[.int .i64 y.seq, .string y.key, .string y.body, .bool y.again, .int .i64 y.deaths] t)) x y := fun W hW => by
  have h1 := boxedI_new w x t _ (((Below.refl _ _).alloc (Nat.le_refl _) (.cells #[.int .i64 y.seq, .string y.key, .string y.body, .bool y.again, .int .i64 y.deaths] t)).trans (hW.mono (by simp)))
  have h2 := boxedI_new (w.alloc (.cells #[.int .i64 x.seq, .string x.key, .string x.body, .bool x.again, .int .i64 x.deaths] t)) y t _ hW
  have e : (w.alloc (.cells #[.int .i64 x.seq, .string x.key, .string x.body, .bool x.again, .int .i64 x.deaths] t)).heap.size = w.heap.size + 1 := by simp
  rw [e] at h2
  exact ⟨h1.1, h2.1, h1.2⟩

/-- Push of what may be pushed. -/
theorem push_zero {a : Option Addr} {c : Nat} {l : List ItemD} {x : ItemD} {w : World} (h : pushErr l x = 0) (hv : Env w) (hl : Sl w 0 w.heap.size a (l.flatMap vItem)) (hs : LineSmall l) (hx : ItemSmall x) :
    Calls Tryd.prog 26 #[.slice a l.length c, .agg #[.int .i64 x.seq, .string x.key, .string x.body, .bool x.again, .int .i64 x.deaths]] w fun e w' => ∃ a' c', e = .returned (.tuple #[.slice a' (l.length + 1) c', .int .i64 0]) ∧ Sl w' w.heap.size w'.heap.size a' ((pushL l x).flatMap vItem) ∧ l.length + 1 ≤ c' ∧ Below w.heap.size w w' := by
  have hp := Push_any a c l x 0 w hv hl hs hx
  unfold PushPost at hp
  have ho : pushOut l x = pushL l x := by unfold pushOut; rw [if_pos h]
  rw [h, ho, pushL_len] at hp
  exact hp
/-- The first letter is pushed, then the second. -/
theorem push_then {a : Option Addr} {c : Nat} {l : List ItemD} {x y : ItemD} {w : World} (hv : Env w) (hl : Sl w 0 w.heap.size a ((pushL l x).flatMap vItem)) (hs : LineSmall (pushL l x)) (hy : ItemSmall y) :
    Calls Tryd.prog 26 #[.slice a (l.length + 1) c, .agg #[.int .i64 y.seq, .string y.key, .string y.body, .bool y.again, .int .i64 y.deaths]] w fun e w' => ∃ a' c', e = .returned (.tuple #[.slice a' (pushOut (pushL l x) y).length c', .int .i64 (pushErr (pushL l x) y)]) ∧ Sl w' w.heap.size w'.heap.size a' ((pushOut (pushL l x) y).flatMap vItem) ∧ Below w.heap.size w w' := by
  have hp := Push_any a c (pushL l x) y 0 w hv hl hs hy
  unfold PushPost at hp
  rw [pushL_len] at hp
  refine hp.mono ?_
  rintro e w' ⟨a', c', rfl, h1, _, h2⟩
  exact ⟨a', c', rfl, h1, h2⟩

/-- append to a row of the call's own, as one step of a drawn region. -/
theorem own_wp {w W : World} {B : Nat} {o : Oper} {a : Act} {K : Act → World → Prop} {Q : Exit → Act → World → Prop} (s x : Operand) (ho : o.op = .call { callee := .builtin .append, args := #[s, x], argTypes := #[43, 43] }) {v : Value} {n : Nat} {us : List Value} (hs : a.eval s = v) (hown : W.ownsRow B 45 5 v n us)
    {ad : Option Addr} {m c : Nat} (hx : a.eval x = .slice ad m c) (hW : True ∧ Below w.heap.size w W) (hB : w.heap.size ≤ B) (hBW : B ≤ W.heap.size) {news : List Value} (hn : news.length = m * 5) (hm : n + m ≤ 4294967296) (hsl : Sl w 0 w.heap.size ad news) (h1 : ∀ u ∈ news, u.oneCell' = true)
    (h : ∀ v' w', w'.ownsRow B 45 5 v' (n + m) (us ++ news) → Below w.heap.size w w' → K (a.put o.dst v') w') : o.wp Tryd.prog a W K Q := by
  obtain ⟨v', w', hr, ho', hg⟩ := run_appendS (P := Tryd.prog) W B 43 o.type 45 Tryd.underlying43 infoItem rfl (by decide) (by decide) v n us hown 0 w.heap.size ad m c news hn (hsl.below hW.2 (Nat.le_refl _)) h1 hm hBW
  exact Lib.wp_append_run W s x _ _ ho _ _ hs hx _ _ hr (h _ w' ho' (below_own hown hg hW.2 hB hW.2.size))
theorem appendSW {P : Program} {ops : Array Oper} {rest : List Oper} {o : Oper} {a : Act} {w : World} {Q : Exit → Act → World → Prop} (hw : Region.wanted o (yielded ops a.tmps) = true) (s x : Operand) (t : TypeId)
    (ho : o.op = .call { callee := .builtin .append, args := #[s, x], argTypes := #[t, t] })
    (base : Nat) (e : TypeId) {z : Value} {size bytes : Nat} (hinfo : (P.info? e).map (fun i => (i.zero, i.size, i.bytes)) = some (some z, size, bytes)) (ht : P.underlying t = some (.slice e)) (hzs : z.cells.size = size) (hsz : 0 < size) (hb : bytes ≤ 4096)
    (v : Value) (n : Nat) (us : List Value) (hs : a.eval s = v) (hown : w.ownsRow base e size v n us) (ad : Option Addr) (m c : Nat) (hx : a.eval x = .slice ad m c)
    (lo hi : Nat) (news : List Value) (hl : news.length = m * size) (hsl : Sl w lo hi ad news) (h1 : ∀ u ∈ news, u.oneCell' = true) (hn : n + m ≤ 4294967296) (hbase : base ≤ w.heap.size)
    (h : ∀ v' w', w'.ownsRow base e size v' (n + m) (us ++ news) → w.grownBy w' v.ownBlock → wpList P ops Q rest (a.put o.dst v') w') : wpList P ops Q (o :: rest) a w := by
  obtain ⟨v', w', r1, r2, r3⟩ := run_appendS (P := P) w base t o.type e ht hinfo hzs hsz hb v n us hown lo hi ad m c news hl hsl h1 hn hbase
  exact BigFrame.wpList_want hw fun K hK => Lib.wp_append_run w s x t t ho v (.slice ad m c) hs hx v' w' r1 (hK _ _ (h v' w' r2 r3))
theorem sz_of {w W : World} {C : Prop} (h : C ∧ Below w.heap.size w W) : w.heap.size ≤ W.heap.size := h.2.size
theorem below_sl {w W : World} {a : Option Addr} {us : List Value} (h : Sl w 0 w.heap.size a us) (hb : Below w.heap.size w W) : Sl W 0 W.heap.size a us := (h.below hb (Nat.le_refl _)).wider (Nat.le_refl _) hb.size

theorem ck_push {a : Option Addr} {c : Nat} {l : List ItemD} {x : ItemD} {w : World} (h : pushErr l x = 0) (hv : Env w) (hl : Sl w 0 w.heap.size a ((pushL l x).flatMap vItem)) (hs : LineSmall (pushL l x)) :
    Calls Tryd.prog 29 #[.slice a (l.length + 1) c] w fun e w' => e = .returned (.int .i64 0) ∧ Below w.heap.size w w' := by
  have hc := LCheck_any a c (pushL l x) 0 w hv hl hs
  rw [pushL_len, show lineErr (pushL l x) = 0 by simp [lineErr, pushL_fine h]] at hc
  exact hc
theorem same_refl {a b : Option Addr} {c d : Nat} {l : List ItemD} {w : World} (ha : Sl w 0 w.heap.size a (l.flatMap vItem)) (hb : Sl w 0 w.heap.size b (l.flatMap vItem)) (hl : l.length ≤ 4294967296) :
    Calls Tryd.prog 31 #[.slice a l.length c, .slice b l.length d] w fun e w' => e = .returned (.bool true) ∧ Below w.heap.size w w' := by
  have h := SameItems_any a b c d l l w 0 ha hb hl hl
  rw [itemsEq_refl] at h
  exact h

def AtRel (p : Nat) (w : World) (i : Value) (wr : World) : Prop :=
  ∃ k : Nat, k ≤ p ∧ i = .int .i64 k ∧ Below w.heap.size w wr

set_option maxHeartbeats 8000000 in
theorem linesTrue_any (a : Option Addr) (c : Nat) (l : List ItemD) (n : Int) (x y : ItemD) (w : World) (hl : Sl w 0 w.heap.size a (l.flatMap vItem)) (hs : LineSmall l) (hc : l.length ≤ c) (hlen : l.length ≤ 1048575) (hn : -9223372036854775808 ≤ n ∧ n ≤ 9223372036854775807) (hx : ItemSmall x) (hy : ItemSmall y) (hE : Env w) :
    Calls Tryd.prog 9 #[.slice a l.length c, .int .i64 n, .agg (vItem x).toArray, .agg (vItem y).toArray] w fun e w' => e = .returned (.bool true) ∧ Below w.heap.size w w' := by
  have HS := Lib.hid hs; clear hs
  have HX := Lib.hid hx; clear hx
  have HY := Lib.hid hy; clear hy
  have HE := Lib.hid hE; clear hE
  have HN := Lib.hid hn; clear hn
  have hbx := boxedII_new w x y 45
  have hz : ((w.alloc (.cells #[.int .i64 x.seq, .string x.key, .string x.body, .bool x.again, .int .i64 x.deaths] 45)).alloc (.cells #[.int .i64 y.seq, .string y.key, .string y.body, .bool y.again, .int .i64 y.deaths] 45)).heap.size = w.heap.size + 2 := by simp
  have hl0 : Sl ((w.alloc (.cells #[.int .i64 x.seq, .string x.key, .string x.body, .bool x.again, .int .i64 x.deaths] 45)).alloc (.cells #[.int .i64 y.seq, .string y.key, .string y.body, .bool y.again, .int .i64 y.deaths] 45)) 0 ((w.alloc (.cells #[.int .i64 x.seq, .string x.key, .string x.body, .bool x.again, .int .i64 x.deaths] 45)).alloc (.cells #[.int .i64 y.seq, .string y.key, .string y.body, .bool y.again, .int .i64 y.deaths] 45)).heap.size a (l.flatMap vItem) :=
    (hl.below (((Below.refl _ w).alloc (Nat.le_refl _) _).alloc (by simp) _) (Nat.le_refl _)).wider (Nat.zero_le _) (by rw [hz]; omega)
  have HL0 := Lib.hid hl0
  have HBX := Lib.hid hbx
  clear hl hbx hl0
  unfold vItem
  go_enter Tryd.func9, Tryd.ntmps9
  go_wp2_with fail
  generalize (w.alloc (.cells #[.int .i64 x.seq, .string x.key, .string x.body, .bool x.again, .int .i64 x.deaths] 45)).alloc (.cells #[.int .i64 y.seq, .string y.key, .string y.body, .bool y.again, .int .i64 y.deaths] 45) = W0 at *
  have HZ := Lib.hid hz; clear hz
  have HLW : Hid (∀ W, Below W0.heap.size W0 W → Sl W 0 W.heap.size a (l.flatMap vItem) ∧ Env W ∧ Below w.heap.size w W) := fun W hW => ⟨(HL0.out.below hW (Nat.le_refl _)).wider (Nat.le_refl _) hW.size, below_env (HBX.out W hW).2.2 HE.out, (HBX.out W hW).2.2⟩
  refine (Shed_any a c l n 0 W0 (HLW.out _ (Below.refl _ _)).2.1 HL0.out HS.out hc HN.out).mono ?_
  rintro e w1 ⟨a1, c1, b1, d1, rfl, hs1, _, ho1, _, hb1⟩
  have H1 := Lib.hid (And.intro hs1 ho1); have HB1 := Lib.hid hb1; clear hs1 ho1 hb1
  go_upto_region 2 with fail
  go_cut [56] from 28 to 56 (fun c wx => c = .bool false ∧ Below W0.heap.size W0 wx)
  case first =>
    by_cases he : shedErr l n = 0
    · have heb : (shedErr l n == 0) = true := by simp [he]
      obtain ⟨k1, k2, k3⟩ := shed_all he
      have hl1 := shedStay_len l n
      have hl2 := shedOff_len l n
      have HO0 : Hid ((w1.alloc (.cells #[] 45)).ownsRow w1.heap.size 45 5 (.slice (some ⟨w1.heap.size, 0, none⟩) 0 0) 0 []) := World.ownsRow_lit w1 #[] 0 (Nat.le_refl _) (by decide) rfl
      have hal : Below w1.heap.size w1 (w1.alloc (.cells #[] 45)) := (Below.refl _ _).alloc (Nat.le_refl _) _
      have hsz : w1.heap.size ≤ (w1.alloc (.cells #[] 45)).heap.size := hal.size
      have HSB := Lib.hid (H1.out.2.below hal (Nat.le_refl _))
      have hflat : (shedOff l n).flatMap vItem ++ (shedStay l n).flatMap vItem = l.flatMap vItem := by rw [← List.flatMap_append, k1]
      have hlen3 : 0 + (shedOff l n).length + (shedStay l n).length = l.length := by have := congrArg List.length k1; rw [List.length_append] at this; omega
      have hfin : ∀ (W : World) (v : Value), W.ownsRow w1.heap.size 45 5 v (0 + (shedOff l n).length + (shedStay l n).length) ([] ++ (shedOff l n).flatMap vItem ++ (shedStay l n).flatMap vItem) → W.ownsRow w1.heap.size 45 5 v l.length (l.flatMap vItem) := fun W v h => by rw [hlen3, List.nil_append, hflat] at h; exact h
      have HFIN := Lib.hid hfin
      have HLB := Lib.hid (flat_len vItem_len (shedOff l n))
      have HLS := Lib.hid (flat_len vItem_len (shedStay l n))
      have hb1 : (0 + (shedOff l n).length ≤ 4294967296) := by omega
      have hb2 : (0 + (shedOff l n).length + (shedStay l n).length ≤ 4294967296) := by omega
      have HAL := Lib.hid (And.intro hal hsz)
      have HBB := Lib.hid (And.intro hb1 hb2)
      have hgt : decide (n < ((shedStay l n).length : Int)) = false := by simp; omega
      have hz1 := HB1.out.size
      have K3 := Lib.hid k3
      clear k1 k2 k3 hflat hlen3 hfin hal hsz hb1 hb2 he
      generalize (shedOff l n).length = m1 at *
      generalize (shedStay l n).length = m2 at *
      rcases Nat.eq_zero_or_pos m1 with h0 | h0
      · subst h0
        go_wp2_with (first
          | (at_builtin; refine appendSW (by rfl) _ _ 43 rfl w1.heap.size 45 infoItem Tryd.underlying43 rfl (by decide) (by decide) _ _ _ rfl HO0.out _ _ _ rfl _ _ _ HLB.out HSB.out (items_one _) HBB.out.1 HAL.out.2 ?_; intro v2 w2 hown2 hg2; have HO2 := Lib.hid hown2; have HW2 := Lib.hid (below_own HO0.out hg2 HAL.out.1 (Nat.le_refl _) HAL.out.2); clear hown2 hg2)
          | (at_builtin; refine appendSW (by rfl) _ _ 43 rfl w1.heap.size 45 infoItem Tryd.underlying43 rfl (by decide) (by decide) _ _ _ rfl HO2.out _ _ _ rfl _ _ _ HLS.out (H1.out.1.below HW2.out (Nat.le_refl _)) (items_one _) HBB.out.2 HW2.out.size ?_; intro v3 w3 hown3 hg3; have HW3 := Lib.hid (below_own HO2.out hg3 HW2.out (Nat.le_refl _) HW2.out.size); have hown4 := HFIN.out _ _ hown3; obtain ⟨a3, c3, rfl, hc3⟩ := own_slice hown4; have HS3 := Lib.hid ((Sl.of_own hown4).wider (Nat.zero_le _) (Nat.le_refl _)); clear hown3 hown4 hg3 hc3))
        refine (same_refl HS3.out (HLW.out _ (HB1.out.trans (HW3.out.mono HB1.out.size))).1 (by omega)).mono ?_
        rintro e w4 ⟨rfl, hb4⟩
        have hB3 := HB1.out.trans (HW3.out.mono HB1.out.size)
        go_wp2_with fail
        go_meet
        exact ⟨rfl, hB3.trans (hb4.mono hB3.size)⟩
      · have hm2 : ((m2 : Int) != n) = false := by have := K3.out h0; simp [this]
        have hne : ¬ (m1 = 0) := by omega
        go_wp2_with (first
          | (at_builtin; refine appendSW (by rfl) _ _ 43 rfl w1.heap.size 45 infoItem Tryd.underlying43 rfl (by decide) (by decide) _ _ _ rfl HO0.out _ _ _ rfl _ _ _ HLB.out HSB.out (items_one _) HBB.out.1 HAL.out.2 ?_; intro v2 w2 hown2 hg2; have HO2 := Lib.hid hown2; have HW2 := Lib.hid (below_own HO0.out hg2 HAL.out.1 (Nat.le_refl _) HAL.out.2); clear hown2 hg2)
          | (at_builtin; refine appendSW (by rfl) _ _ 43 rfl w1.heap.size 45 infoItem Tryd.underlying43 rfl (by decide) (by decide) _ _ _ rfl HO2.out _ _ _ rfl _ _ _ HLS.out (H1.out.1.below HW2.out (Nat.le_refl _)) (items_one _) HBB.out.2 HW2.out.size ?_; intro v3 w3 hown3 hg3; have HW3 := Lib.hid (below_own HO2.out hg3 HW2.out (Nat.le_refl _) HW2.out.size); have hown4 := HFIN.out _ _ hown3; obtain ⟨a3, c3, rfl, hc3⟩ := own_slice hown4; have HS3 := Lib.hid ((Sl.of_own hown4).wider (Nat.zero_le _) (Nat.le_refl _)); clear hown3 hown4 hg3 hc3))
        refine (same_refl HS3.out (HLW.out _ (HB1.out.trans (HW3.out.mono HB1.out.size))).1 (by omega)).mono ?_
        rintro e w4 ⟨rfl, hb4⟩
        have hB3 := HB1.out.trans (HW3.out.mono HB1.out.size)
        go_wp2_with fail
        go_meet
        exact ⟨rfl, hB3.trans (hb4.mono hB3.size)⟩
    · have heb : (shedErr l n == 0) = false := by simp [he]
      clear he
      go_wp2_with fail
      go_meet
      exact ⟨rfl, HB1.out⟩
  case rest =>
    obtain ⟨rfl, hb2⟩ := hcut
    have HB2 := Lib.hid hb2; clear hb2
    obtain ⟨⟨e0, e1, e2, e3, e4⟩, _, _⟩ := HBX.out _ HB2.out
    go_wp2_with fail
    by_cases hx0 : pushErr l x = 0
    · have HSP := Lib.hid (pushL_small HS.out HX.out hlen)
      have hpl := Lib.hid (pushL_len x l)
      refine (push_zero hx0 (HLW.out _ HB2.out).2.1 (HLW.out _ HB2.out).1 HS.out HX.out).mono ?_
      rintro e w3 ⟨a2, c2, rfl, hs2, hc2, hb3⟩
      have H3 := Lib.hid hs2
      have HB3 := Lib.hid (HB2.out.trans (hb3.mono HB2.out.size)); clear hb3 hs2 e0 e1 e2 e3 e4
      obtain ⟨_, ⟨e0, e1, e2, e3, e4⟩, _⟩ := HBX.out _ HB3.out
      go_wp2_with fail
      by_cases hy0 : pushErr l y = 0
      · have HSQ := Lib.hid (pushL_small HS.out HY.out hlen)
        have HTW := Lib.hid (push_twice hx0 hy0)
        refine (push_zero hy0 (HLW.out _ HB3.out).2.1 (HLW.out _ HB3.out).1 HS.out HY.out).mono ?_
        rintro e w4 ⟨a3, c3, rfl, hs3, _, hb4⟩
        have H4 := Lib.hid hs3
        have H34 := Lib.hid hb4
        have HB4 := Lib.hid (HB3.out.trans (hb4.mono HB3.out.size)); clear hb4 hs3 e0 e1 e2 e3 e4
        obtain ⟨_, ⟨e0, e1, e2, e3, e4⟩, _⟩ := HBX.out _ HB4.out
        have HX0 := Lib.hid hx0; clear hx0 hy0
        go_wp2_with fail
        refine (push_then (HLW.out _ HB4.out).2.1 ((H3.out.below H34.out (Nat.le_refl _)).wider (Nat.zero_le _) H34.out.size) HSP.out HY.out).mono ?_
        rintro e w5 ⟨a4, c4, rfl, hs4, hb5⟩
        have H5 := Lib.hid hs4
        have H45 := Lib.hid hb5
        have H35 := Lib.hid (H34.out.trans (hb5.mono H34.out.size))
        have HB5 := Lib.hid (HB4.out.trans (hb5.mono HB4.out.size)); clear hb5 hs4 e0 e1 e2 e3 e4
        obtain ⟨⟨e0, e1, e2, e3, e4⟩, _, _⟩ := HBX.out _ HB5.out
        go_wp2_with fail
        have hpt := push_then (c := c3) (HLW.out _ HB5.out).2.1 ((H4.out.below H45.out (Nat.le_refl _)).wider (Nat.zero_le _) H45.out.size) HSQ.out HX.out
        rw [← HTW.out.1, ← HTW.out.2] at hpt
        refine hpt.mono ?_
        clear hpt
        rintro e w6 ⟨a5, c5, rfl, hs5, hb6⟩
        have H6 := Lib.hid hs5
        have H56 := Lib.hid hb6
        have H36 := Lib.hid (H35.out.trans (hb6.mono H35.out.size))
        have HB6 := Lib.hid (HB5.out.trans (hb6.mono HB5.out.size)); clear hb6 hs5 e0 e1 e2 e3 e4
        have HOL := Lib.hid (pushOut_len (pushL l x) y)
        generalize pushErr (pushL l x) y = E at *
        generalize pushOut (pushL l x) y = O at *
        go_wp2_with fail
        refine (ck_push HX0.out (HLW.out _ HB6.out).2.1 ((H3.out.below H36.out (Nat.le_refl _)).wider (Nat.zero_le _) H36.out.size) HSP.out).mono ?_
        rintro e w7 ⟨rfl, hb7⟩
        have H67 := Lib.hid hb7
        have H57 := Lib.hid (H56.out.trans (hb7.mono H56.out.size))
        have H37 := Lib.hid (H36.out.trans (hb7.mono H36.out.size))
        have HB7 := Lib.hid (HB6.out.trans (hb7.mono HB6.out.size)); clear hb7
        have hwl : IntKind.i64.wrap ((l.length : Int) + 1) = (l.length : Int) + 1 := IntWalk.i64_in _ (by omega)
        go_wp2_with fail
        refine (same_refl ((H5.out.below H57.out (Nat.le_refl _)).wider (Nat.zero_le _) H57.out.size) ((H6.out.below H67.out (Nat.le_refl _)).wider (Nat.zero_le _) H67.out.size) (by have := HOL.out; have := hpl.out; omega)).mono ?_
        rintro e w8 ⟨rfl, hb8⟩
        have H38 := Lib.hid (H37.out.trans (hb8.mono H37.out.size))
        have HB8 := Lib.hid (HB7.out.trans (hb8.mono HB7.out.size)); clear hb8
        obtain ⟨p, hp, hpx, hpn, hpl2⟩ := pushL_at HX0.out
        rw [hpl.out] at hp
        have HPX := Lib.hid hpx; have HPN := Lib.hid hpn; have HPL := Lib.hid hpl2
        clear hpx hpn hpl2
        go_wp2_with fail
        go_loopw [20] (fun i wr => AtRel p w3 i wr) (fun i _ => p - (intOf i).toNat)
        case atStart => exact ⟨0, by omega, rfl, H38.out⟩
        case round =>
          obtain ⟨k, hk, rfl, hB⟩ := hrel
          have HB := Lib.hid hB
          have h0 := HB3.out.trans (hB.mono HB3.out.size)
          obtain ⟨⟨e0, e1, e2, e3, e4⟩, _, _⟩ := HBX.out _ h0
          have hkl : k < (pushL l x).length := by have := hpl.out; omega
          obtain ⟨b, o, ha, _, hb, hc⟩ := sl_elem vItem_len (by decide) H3.out hkl
          obtain ⟨d0, d1, d2, d3, d4⟩ := item_cells (wr := wr) (b := b) (o := o) (k := k) (x := (pushL l x)[k]) fun j u hu => (hB.cell (p := ⟨b, _, none⟩) hb).trans (hc j u hu)
          have hk1 : (k : Int) < (l.length : Int) + 1 := by omega
          have hk2 : (0 : Int) ≤ (k : Int) := by omega
          have hk3 : k < l.length + 1 := by omega
          clear hB h0 hc
          by_cases hlt : k < p
          · have hzx := HPN.out k _ hlt (List.getElem?_eq_getElem hkl)
            generalize (pushL l x)[k] = z at *
            subst ha
            go_wp2
            go_quiet (fail)
            all_goals go_wp2
            all_goals exact ⟨⟨k + 1, hlt, by go_num, below_draws HB.out _⟩, by simp [intOf]; omega⟩
          · obtain rfl : k = p := by omega
            have hzx : (pushL l x)[k] = x := by have := HPX.out; rw [List.getElem?_eq_getElem hkl] at this; simpa using this
            rw [hzx] at d0 d1 d2 d3 d4
            have hxx : itemEq x x = true := itemEq_iff.2 rfl
            have HA := Lib.hid ha
            clear hzx hkl
            have hlk : (List.take k (pushL l x)).length = k := by rw [List.length_take, hpl.out]; omega
            obtain ⟨m2, hm2⟩ : ∃ m2, l.length + 1 - (k + 1) = m2 := ⟨_, rfl⟩
            obtain ⟨A2, hA2⟩ : ∃ A2, cutA a2 c2 (k + 1) 5 = A2 := ⟨_, rfl⟩
            obtain ⟨C2, hC2⟩ : ∃ C2, c2 - (k + 1) = C2 := ⟨_, rfl⟩
            have hcut := fun W => run_cut (P := Tryd.prog) (t := 43) (size := 5) Tryd.underlying43 eg_sizeItem a2 (l.length + 1) c2 (k + 1) ((k : Int) + 1) (by omega) (by omega) W
            rw [hm2, hA2, hC2] at hcut
            have hcut2 := fun W => run_cutHi (P := Tryd.prog) (t := 43) (size := 5) Tryd.underlying43 eg_sizeItem a2 (l.length + 1) c2 k (k : Int) rfl (by omega) W
            have hwk : IntKind.i64.wrap ((k : Int) + 1) = (k : Int) + 1 := IntWalk.i64_in _ (by omega)
            have hq1 : (0 : Int) ≤ (k : Int) + 1 := by omega
            have hq2 : (k : Int) + 1 ≤ (l.length : Int) + 1 := by omega
            have hq3 : (k : Int) ≤ (c2 : Int) := by omega
            have hq4 : ((k : Int) == (l.length : Int) + 1) = false := by simp; omega
            have HN1 : Hid ((((pushL l x).take k).flatMap vItem).length = k * 5) := (by rw [flat_len vItem_len, hlk] : (((pushL l x).take k).flatMap vItem).length = k * 5)
            have HN2 : Hid ((((pushL l x).drop (k + 1)).flatMap vItem).length = m2 * 5) := (by rw [flat_len vItem_len, List.length_drop, hpl.out, hm2] : (((pushL l x).drop (k + 1)).flatMap vItem).length = m2 * 5)
            have HM : Hid (0 + k ≤ 4294967296 ∧ 0 + k + m2 ≤ 4294967296) := (⟨by omega, by omega⟩ : _ ∧ _)
            have hcat : ((pushL l x).take k).flatMap vItem ++ ((pushL l x).drop (k + 1)).flatMap vItem = l.flatMap vItem := by rw [← List.flatMap_append, HPL.out]
            have hlen9 : 0 + k + m2 = l.length := by omega
            have HFIN : Hid (∀ (W : World) (B : Nat) (v : Value), W.ownsRow B 45 5 v (0 + k + m2) ([] ++ ((pushL l x).take k).flatMap vItem ++ ((pushL l x).drop (k + 1)).flatMap vItem) → W.ownsRow B 45 5 v l.length (l.flatMap vItem)) := fun W B v h => by rw [hlen9, List.nil_append, hcat] at h; exact h
            have HS1 : Hid (Sl w3 wc.heap.size w3.heap.size a2 (((pushL l x).take k).flatMap vItem)) := line_take H3.out
            have HS2 : Hid (Sl w3 wc.heap.size w3.heap.size A2 (((pushL l x).drop (k + 1)).flatMap vItem)) := by
              refine (?_ : Sl w3 wc.heap.size w3.heap.size A2 (((pushL l x).drop (k + 1)).flatMap vItem))
              rw [← hA2]
              exact line_drop H3.out (by rw [hpl.out]; omega) (by rw [hpl.out]; exact hc2)
            clear hlk hm2 hA2 hC2 hcat hlen9
            subst ha
            go_wp2
            go_quiet (fail)
            generalize hWX : World.drewN wr _ = WX at *
            have h3X : Below w3.heap.size w3 WX := by rw [← hWX]; exact below_draws HB.out _
            have h0X := HB3.out.trans (h3X.mono HB3.out.size)
            have HSL1 : Hid (Sl WX 0 WX.heap.size (some ⟨b, o, none⟩) (((pushL l x).take k).flatMap vItem)) := (HS1.out.below h3X (Nat.le_refl _)).wider (Nat.zero_le _) h3X.size
            have HSL2 : Hid (Sl WX 0 WX.heap.size A2 (((pushL l x).drop (k + 1)).flatMap vItem)) := (HS2.out.below h3X (Nat.le_refl _)).wider (Nat.zero_le _) h3X.size
            have HENV : Hid (∀ W, True ∧ Below WX.heap.size WX W → Env W ∧ Sl W 0 W.heap.size a (l.flatMap vItem) ∧ Below w.heap.size w W) := fun W hW => by
              have := HLW.out W (h0X.trans (hW.2.mono h0X.size))
              exact ⟨this.2.1, this.1, this.2.2⟩
            clear hWX h3X h0X e0 e1 e2 e3 e4 d0 d1 d2 d3 d4
            go_wp2
            go_region_held3 (fun W => True ∧ Below WX.heap.size WX W)
              (first | exact shed_keep (by assumption) | exact shed_keep (Below.refl _ _).drew | exact shed_draw (by assumption) | exact shed_alloc (by assumption) _)
              (first
                | (go_at_call 28; refine (linesBegun_any _ (HENV.out _ (by assumption)).1).mono ?_; rintro e wb ⟨rfl, hbb⟩; have hxb := since_stepC (by assumption) hbb)
                | (rw [if_pos (by rfl)]; refine own_wp (w := WX) (B := WX.heap.size) (.tmp 130) (.tmp 133) rfl rfl (own_mono (World.ownsRow_lit _ #[] 0 (Nat.le_refl _) (by decide) rfl) hxb.size) rfl (by assumption) (Nat.le_refl _) (sz_of (by assumption)) HN1.out HM.out.1 HSL1.out (items_one _) ?_; rintro v1 wv1 hown1 hbv1)
                | (rw [if_pos (by rfl)]; refine own_wp (w := WX) (B := WX.heap.size) (.tmp 134) (.tmp 138) rfl rfl hown1 rfl (by assumption) (Nat.le_refl _) (sz_of (by assumption)) HN2.out HM.out.2 HSL2.out (items_one _) ?_; rintro v2 wv2 hown2 hbv2; obtain ⟨a9, c9, rfl, hc9⟩ := own_slice (HFIN.out _ _ _ hown2); have hs9 := (Sl.of_own (HFIN.out _ _ _ hown2)).wider (lo' := 0) (Nat.zero_le _) (Nat.le_refl _))
                | (go_at_call 31; refine (same_refl hs9 (HENV.out _ (by assumption)).2.1 (by omega)).mono ?_; rintro e wz ⟨rfl, hbz⟩; have hxz := since_stepC (by assumption) hbz))
            all_goals go_wp2
            all_goals go_ret
            all_goals exact ⟨rfl, (HENV.out _ ⟨trivial, by assumption⟩).2.2⟩
      · have hyb : (pushErr l y == 0) = false := by simp [hy0]
        refine (Push_any a c l y 0 _ (HLW.out _ HB3.out).2.1 (HLW.out _ HB3.out).1 HS.out HY.out).mono ?_
        rintro e w4 ⟨a3, c3, rfl, _, _, hb4⟩
        have HB4 := Lib.hid (HB3.out.trans (hb4.mono HB3.out.size)); clear hb4
        clear hx0 hy0
        go_wp2_with fail
        refine (linesBegun_any _ (HLW.out _ HB4.out).2.1).mono ?_
        rintro e w5 ⟨rfl, hb5⟩
        go_wp2_with fail
        go_ret
        exact ⟨rfl, (HLW.out _ (HB4.out.trans (hb5.mono HB4.out.size))).2.2⟩
    · have hxb : (pushErr l x == 0) = false := by simp [hx0]
      refine (Push_any a c l x 0 _ (HLW.out _ HB2.out).2.1 (HLW.out _ HB2.out).1 HS.out HX.out).mono ?_
      rintro e w3 ⟨a2, c2, rfl, _, _, hb3⟩
      have HB3 := Lib.hid (HB2.out.trans (hb3.mono HB2.out.size)); clear hb3 e0 e1 e2 e3 e4
      obtain ⟨_, ⟨e0, e1, e2, e3, e4⟩, _⟩ := HBX.out _ HB3.out
      go_wp2_with fail
      refine (Push_any a c l y 0 _ (HLW.out _ HB3.out).2.1 (HLW.out _ HB3.out).1 HS.out HY.out).mono ?_
      rintro e w4 ⟨a3, c3, rfl, _, _, hb4⟩
      have HB4 := Lib.hid (HB3.out.trans (hb4.mono HB3.out.size)); clear hb4
      clear hx0
      go_wp2_with fail
      refine (linesBegun_any _ (HLW.out _ HB4.out).2.1).mono ?_
      rintro e w5 ⟨rfl, hb5⟩
      go_wp2_with fail
      go_ret
      exact ⟨rfl, (HLW.out _ (HB4.out.trans (hb5.mono HB4.out.size))).2.2⟩

end Go.Proofs.YtbdikenloklhaaaDoor
