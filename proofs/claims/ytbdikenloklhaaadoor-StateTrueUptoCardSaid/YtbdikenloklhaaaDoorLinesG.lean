/-
  Walks of the lines: Put, Push.
  Walks: lines.Shed; the reference's ShedOf.
-/
import Derived.Test.YtbdikenloklhaaaDoorInsert
namespace Go.Proofs.YtbdikenloklhaaaDoor
open Go.RowKit
set_option maxRecDepth 100000

theorem flat_takeN {α : Type} {enc : α → List Value} {size : Nat} (hs : ∀ x, (enc x).length = size) : ∀ (k : Nat) (xs : List α), (xs.flatMap enc).take (k * size) = (xs.take k).flatMap enc
  | 0, xs => by simp
  | k + 1, [] => by simp
  | k + 1, x :: xs => by
    rw [List.take_succ_cons, List.flatMap_cons, List.flatMap_cons, ← flat_takeN hs k xs, List.take_append, hs, List.take_of_length_le (by rw [hs, Nat.succ_mul]; omega), show (k + 1) * size - size = k * size by rw [Nat.succ_mul]; omega]
theorem flat_dropN {α : Type} {enc : α → List Value} {size : Nat} (hs : ∀ x, (enc x).length = size) : ∀ (k : Nat) (xs : List α), (xs.flatMap enc).drop (k * size) = (xs.drop k).flatMap enc
  | 0, xs => by simp
  | k + 1, [] => by simp
  | k + 1, x :: xs => by
    rw [List.drop_succ_cons, List.flatMap_cons, ← flat_dropN hs k xs, List.drop_append, hs, List.drop_eq_nil_of_le (by rw [hs, Nat.succ_mul]; omega), show (k + 1) * size - size = k * size by rw [Nat.succ_mul]; omega, List.nil_append]

theorem lowB_none {s : Int} {l : List ItemD} (h : ∀ y ∈ l, s ≤ y.seq) : lowB l s = 0 := by
  unfold lowB
  rw [List.countP_eq_zero]
  intro y hy
  have := h y hy
  simp; omega
theorem pushL_eq {x : ItemD} : ∀ {l : List ItemD}, (l.Pairwise fun x y => x.seq < y.seq) → (l.any (fun y => decide (y.seq = x.seq)) = false) → pushL l x = l.take (lowB l x.seq) ++ [x] ++ l.drop (lowB l x.seq)
  | [], _, _ => rfl
  | y :: r, hp, ha => by
    obtain ⟨hp1, hp2⟩ := List.pairwise_cons.1 hp
    rw [List.any_cons, Bool.or_eq_false_iff] at ha
    have hne : y.seq ≠ x.seq := by simpa using ha.1
    unfold pushL
    by_cases h : x.seq < y.seq
    · rw [if_pos h, lowB_none (fun z hz => by
        rcases List.mem_cons.1 hz with rfl | hz
        · omega
        · have := hp1 z hz; omega)]
      rfl
    · have hlt : y.seq < x.seq := by omega
      have : lowB (y :: r) x.seq = lowB r x.seq + 1 := by
        unfold lowB
        rw [List.countP_cons_of_pos (by simpa using hlt)]
      rw [if_neg h, this, pushL_eq hp2 ha.2, List.take_succ_cons, List.drop_succ_cons]
      simp
theorem lowB_le (l : List ItemD) (s : Int) : lowB l s ≤ l.length := List.countP_le_length
theorem insL_push {x : ItemD} {l : List ItemD} (hp : l.Pairwise fun x y => x.seq < y.seq) (ha : l.any (fun y => decide (y.seq = x.seq)) = false) : insL (l.flatMap vItem) (lowB l x.seq) x = (pushL l x).flatMap vItem := by
  rw [pushL_eq hp ha]
  unfold insL
  rw [flat_takeN vItem_len, flat_dropN vItem_len]
  simp

theorem put_keep {w W0 W : World} {x : ItemD} (h : BoxedI w W0 x) (hW : Below W0.heap.size W0 W) : (W.cell? ⟨w.heap.size, 0, none⟩ = some (.int .i64 x.seq) ∧ W.cell? ⟨w.heap.size, 1, none⟩ = some (.string x.key) ∧ W.cell? ⟨w.heap.size, 2, none⟩ = some (.string x.body) ∧ W.cell? ⟨w.heap.size, 3, none⟩ = some (.bool x.again) ∧ W.cell? ⟨w.heap.size, 4, none⟩ = some (.int .i64 x.deaths)) ∧ Below W0.heap.size W0 W := ⟨(h W hW).1, hW⟩
theorem put_alloc {w W0 W : World} {x : ItemD} (h : BoxedI w W0 x) {C : Prop} (hW : C ∧ Below W0.heap.size W0 W) (o : Obj) : ((W.alloc o).cell? ⟨w.heap.size, 0, none⟩ = some (.int .i64 x.seq) ∧ (W.alloc o).cell? ⟨w.heap.size, 1, none⟩ = some (.string x.key) ∧ (W.alloc o).cell? ⟨w.heap.size, 2, none⟩ = some (.string x.body) ∧ (W.alloc o).cell? ⟨w.heap.size, 3, none⟩ = some (.bool x.again) ∧ (W.alloc o).cell? ⟨w.heap.size, 4, none⟩ = some (.int .i64 x.deaths)) ∧ Below W0.heap.size W0 (W.alloc o) := put_keep h (hW.2.alloc hW.2.size o)
theorem put_line {W0 W : World} {a : Option Addr} {us : List Value} (h : Sl W0 0 W0.heap.size a us) {C : Prop} (hW : C ∧ Below W0.heap.size W0 W) : Sl W 0 W.heap.size a us := (h.below hW.2 (Nat.le_refl _)).wider (Nat.le_refl _) hW.2.size
theorem put_base {W0 W W' : World} {C : Prop} (hW : C ∧ Below W0.heap.size W0 W) (_ : Below W.heap.size W W') : W0.heap.size ≤ W.heap.size := hW.2.size

theorem bk_drew {w : World} {g : Nat} {t : TypeId} {cs : Array Value} (h : Bk w g t cs) : Bk w.drew g t cs := h

/-- Insert, where the letter's row was made behind the line's own. -/
theorem put_ins1 {B : Nat} {W0 wc : World} {B0 : Nat} {v : Value} {l : List ItemD} {x : ItemD} {k : Nat} (h0 : B0 ≤ W0.heap.size) (hown : wc.ownsRow B 45 5 v l.length (l.flatMap vItem)) (hB : W0.heap.size ≤ B) (hW : Below W0.heap.size W0 wc) (hk : k ≤ l.length) (hn : l.length ≤ 1048576) :
    Calls Tryd.prog 112 #[v, .int .i64 k, .slice (some ⟨wc.heap.size, 0, none⟩) 1 1] (wc.alloc (.cells #[.int .i64 x.seq, .string x.key, .string x.body, .bool x.again, .int .i64 x.deaths] 45)) fun e w' => ∃ v', e = .returned v' ∧ w'.ownsRow B0 45 5 v' (l.length + 1) (insL (l.flatMap vItem) k x) ∧ Below W0.heap.size W0 w' := by
  have hb : Below wc.heap.size wc (wc.alloc (.cells (vItem x).toArray 45)) := (Below.refl _ wc).alloc (Nat.le_refl _) _
  have ho := own_below hown hb
  have hsz := hW.size
  refine (Insert_any W0.heap.size v l.length k _ x wc.heap.size _ (own_mono ho hB) hk hn (Bk.new _ _ _) (fun g hg => ?_) (items_one l) (by simp; omega)).mono ?_
  · have := (hown.lt g hg).2; omega
  · rintro e w' ⟨v', rfl, ho', hg'⟩
    exact ⟨v', rfl, own_mono ho' h0, below_own (own_mono ho hB) hg' (hW.trans (hb.mono hsz)) (Nat.le_refl _) (by simp; omega)⟩
/-- Insert, where the letter's row was made ahead of the line's own. -/
theorem put_ins2 {B : Nat} {W0 wc : World} {B0 vb : Nat} {v : Value} {l : List ItemD} {x : ItemD} {k : Nat} (h0 : B0 ≤ W0.heap.size) (hown : wc.ownsRow B 45 5 v l.length (l.flatMap vItem)) (hB : W0.heap.size ≤ B) (hW : Below W0.heap.size W0 wc) (hvb : Bk wc vb 45 (vItem x).toArray) (hv : vb < B) (hk : k ≤ l.length) (hn : l.length ≤ 1048576) :
    Calls Tryd.prog 112 #[v, .int .i64 k, .slice (some ⟨vb, 0, none⟩) 1 1] wc fun e w' => ∃ v', e = .returned v' ∧ w'.ownsRow B0 45 5 v' (l.length + 1) (insL (l.flatMap vItem) k x) ∧ Below W0.heap.size W0 w' := by
  refine (Insert_any W0.heap.size v l.length k _ x vb _ (own_mono hown hB) hk hn hvb (fun g hg => ?_) (items_one l) hW.size).mono ?_
  · have := (hown.lt g hg).1; omega
  · rintro e w' ⟨v', rfl, ho', hg'⟩
    exact ⟨v', rfl, own_mono ho' h0, below_own (own_mono hown hB) hg' hW (Nat.le_refl _) hW.size⟩

set_option maxHeartbeats 4000000 in
theorem Put_any (a : Option Addr) (c : Nat) (l : List ItemD) (x : ItemD) (lo : Nat) (w : World) (hl : Sl w lo w.heap.size a (l.flatMap vItem)) (hll : l.length ≤ 1048576) (hp : l.Pairwise fun x y => x.seq < y.seq) (hn : l.any (fun y => decide (y.seq = x.seq)) = false) :
    Calls Tryd.prog 84 #[.slice a l.length c, .agg (vItem x).toArray] w fun e w' => ∃ v, e = .returned v ∧ w'.ownsRow w.heap.size 45 5 v (pushL l x).length ((pushL l x).flatMap vItem) ∧ Below w.heap.size w w' := by
  have hbx := boxedI_new w x 45
  have hz : (w.alloc (.cells #[.int .i64 x.seq, .string x.key, .string x.body, .bool x.again, .int .i64 x.deaths] 45)).heap.size = w.heap.size + 1 := by simp
  have hl0 := (hl.below ((Below.refl _ w).alloc (Nat.le_refl _) (.cells #[.int .i64 x.seq, .string x.key, .string x.body, .bool x.again, .int .i64 x.deaths] 45)) (Nat.le_refl _)).wider (lo' := 0) (hi' := (w.alloc (.cells #[.int .i64 x.seq, .string x.key, .string x.body, .bool x.again, .int .i64 x.deaths] 45)).heap.size) (Nat.zero_le _) (by simp)
  have HL0 := Lib.hid hl0
  have HBX := Lib.hid hbx
  have HP := Lib.hid hp
  have hfin : ∀ (W : World) (v : Value), W.ownsRow w.heap.size 45 5 v (l.length + 1) (insL (l.flatMap vItem) (lowB l x.seq) x) → W.ownsRow w.heap.size 45 5 v (pushL l x).length ((pushL l x).flatMap vItem) := fun W v h => by rw [pushL_len, ← insL_push hp hn]; exact h
  have HFIN := Lib.hid hfin
  have HLE := lowB_le l x.seq
  clear hl hbx hl0 hp hn hfin
  unfold vItem
  go_enter Tryd.func84, Tryd.ntmps84
  obtain ⟨⟨e0, e1, e2, e3, e4⟩, _⟩ := HBX.out _ (Below.refl _ _)
  go_wp2_with fail
  generalize w.alloc (.cells #[.int .i64 x.seq, .string x.key, .string x.body, .bool x.again, .int .i64 x.deaths] 45) = W0 at *
  have HZ := Lib.hid hz; clear hz
  have hwz : w.heap.size ≤ W0.heap.size := by have := HZ.out; omega
  refine (find_any a c l x.seq 0 W0 HL0.out hll HP.out).mono ?_
  rintro e W1 ⟨rfl, hb1⟩
  have HB1 := Lib.hid hb1; clear hb1 e0 e1 e2 e3 e4
  generalize hk : lowB l x.seq = k at *
  clear hk
  generalize (l.any fun y => decide (y.seq = x.seq)) = bb at *
  go_wp2_with fail
  go_region_held3 (fun W => (W.cell? ⟨w.heap.size, 0, none⟩ = some (.int .i64 x.seq) ∧ W.cell? ⟨w.heap.size, 1, none⟩ = some (.string x.key) ∧ W.cell? ⟨w.heap.size, 2, none⟩ = some (.string x.body) ∧ W.cell? ⟨w.heap.size, 3, none⟩ = some (.bool x.again) ∧ W.cell? ⟨w.heap.size, 4, none⟩ = some (.int .i64 x.deaths)) ∧ Below W0.heap.size W0 W)
    (first | exact put_keep HBX.out (by assumption) | exact put_keep HBX.out HB1.out.drew | exact put_alloc HBX.out (by assumption) _)
    (first
      | (go_at_call 88; refine (Clone_any a c l 0 _ (put_line HL0.out (by assumption)) hll).mono ?_; rintro e wc ⟨v, rfl, hown, hb⟩; have hbc := since_stepC (by assumption) hb; have hbs := put_base (by assumption) hb)
      | (go_at_call 112; have hins := put_ins1 (x := x) hwz hown hbs hbc HLE hll; with_reducible refine hins.mono ?_; clear hins; rintro e wi ⟨v2, rfl, hown2, hbi⟩)
      | (go_at_call 112; have hins := put_ins2 (x := x) hwz hown hbs hbc ((bk_drew (Bk.new _ _ _)).below hb (by simp)) (by simp) HLE hll; with_reducible refine hins.mono ?_; clear hins; rintro e wi ⟨v2, rfl, hown2, hbi⟩))
  all_goals go_wp2
  all_goals go_ret
  all_goals exact ⟨_, rfl, HFIN.out _ _ hown2, (HBX.out _ hbi).2⟩

set_option maxHeartbeats 2000000 in
theorem Push_any (a : Option Addr) (c : Nat) (l : List ItemD) (x : ItemD) (lo : Nat) (w : World) (hv : Env w) (hl : Sl w lo w.heap.size a (l.flatMap vItem)) (hs : LineSmall l) (hx : ItemSmall x) :
    Calls Tryd.prog 26 #[.slice a l.length c, .agg (vItem x).toArray] w (PushPost l x w) := by
  have hll := hs.len
  have HS := Lib.hid hs; clear hs
  have HXS := Lib.hid hx; clear hx
  have HE := Lib.hid hv; clear hv
  have hbx := boxedI_new w x 45
  have hz : (w.alloc (.cells #[.int .i64 x.seq, .string x.key, .string x.body, .bool x.again, .int .i64 x.deaths] 45)).heap.size = w.heap.size + 1 := by simp
  have hl0 := (hl.below ((Below.refl _ w).alloc (Nat.le_refl _) (.cells #[.int .i64 x.seq, .string x.key, .string x.body, .bool x.again, .int .i64 x.deaths] 45)) (Nat.le_refl _)).wider (lo' := 0) (hi' := (w.alloc (.cells #[.int .i64 x.seq, .string x.key, .string x.body, .bool x.again, .int .i64 x.deaths] 45)).heap.size) (Nat.zero_le _) (by simp)
  have HL0 := Lib.hid hl0
  have HBX := Lib.hid hbx
  clear hl hbx hl0
  unfold vItem
  go_enter Tryd.func26, Tryd.ntmps26
  go_wp2_with fail
  generalize w.alloc (.cells #[.int .i64 x.seq, .string x.key, .string x.body, .bool x.again, .int .i64 x.deaths] 45) = W0 at *
  have HZ := Lib.hid hz; clear hz
  have hwz : w.heap.size ≤ W0.heap.size := by have := HZ.out; omega
  refine (LCheck_any a c l 0 W0 (below_env (HBX.out _ (Below.refl _ _)).2 HE.out) HL0.out HS.out).mono ?_
  rintro e W1 ⟨rfl, hb1⟩
  have HB1 := Lib.hid hb1; clear hb1
  cases hq : lineFine l
  · have HR := Lib.hid (push_bad (x := x) (.inl hq))
    have HE1 : Hid (lineErr l = 1) := (by simp [lineErr, hq] : lineErr l = 1)
    clear hq
    rw [HE1.out]
    go_wp2_with fail
    go_ret2
    exact ⟨none, 0, by rw [HR.out.1, HR.out.2]; rfl, by rw [HR.out.2]; exact Sl.nil _ _ _ _, by rw [HR.out.2]; simp, (HBX.out _ HB1.out).2⟩
  · have HE1 : Hid (lineErr l = 0) := (by simp [lineErr, hq] : lineErr l = 0)
    have HQ := Lib.hid hq; clear hq
    rw [HE1.out]
    obtain ⟨⟨e0, e1, e2, e3, e4⟩, _⟩ := HBX.out W1 HB1.out
    go_wp2_with fail
    refine (Fine_any x W1 (below_env (HBX.out _ HB1.out).2 HE.out) HXS.out).mono ?_
    rintro e W2 ⟨rfl, hb2⟩
    have HB2 := Lib.hid (HB1.out.trans (hb2.mono HB1.out.size)); clear hb2 HB1 e0 e1 e2 e3 e4
    cases hq : itemFine x
    · have HR := Lib.hid (push_bad (l := l) (.inr hq)); clear hq
      go_wp2_with fail
      go_ret2
      exact ⟨none, 0, by rw [HR.out.1, HR.out.2]; rfl, by rw [HR.out.2]; exact Sl.nil _ _ _ _, by rw [HR.out.2]; simp, (HBX.out _ HB2.out).2⟩
    · have HQ2 := Lib.hid hq; clear hq
      have hpw := (lineFine_iff.1 HQ.out).2
      have HPW := Lib.hid hpw
      obtain ⟨⟨e0, e1, e2, e3, e4⟩, _⟩ := HBX.out W2 HB2.out
      clear hpw
      go_wp2_with fail
      refine (find_any a c l x.seq 0 W2 ((HL0.out.below HB2.out (Nat.le_refl _)).wider (Nat.le_refl _) HB2.out.size) hll HPW.out).mono ?_
      rintro e W3 ⟨rfl, hb3⟩
      have HB3 := Lib.hid (HB2.out.trans (hb3.mono HB2.out.size)); clear hb3 HB2 e0 e1 e2 e3 e4
      cases hq : l.any (fun y => decide (y.seq = x.seq))
      · have HR := Lib.hid (push_ok HQ.out HQ2.out hq)
        have HQ3 := Lib.hid hq; clear hq
        obtain ⟨⟨e0, e1, e2, e3, e4⟩, _⟩ := HBX.out W3 HB3.out
        generalize lowB l x.seq = k at *
        go_wp2_with fail
        refine (Put_any a c l x 0 W3 ((HL0.out.below HB3.out (Nat.le_refl _)).wider (Nat.le_refl _) HB3.out.size) hll HPW.out HQ3.out).mono ?_
        rintro e W4 ⟨v, rfl, hown, hb4⟩
        obtain ⟨va, vc, rfl, hvc⟩ := own_slice hown
        have HO := Lib.hid (And.intro (Sl.of_own (own_mono hown (Nat.le_trans hwz HB3.out.size))) hvc)
        have HB4 := Lib.hid (HB3.out.trans (hb4.mono HB3.out.size)); clear hb4 hown hvc e0 e1 e2 e3 e4
        go_wp2_with fail
        go_ret2
        exact ⟨va, vc, by rw [HR.out.1, HR.out.2]; rfl, by rw [HR.out.2]; exact HO.out.1, by rw [HR.out.2]; exact HO.out.2, (HBX.out _ HB4.out).2⟩
      · have HR := Lib.hid (push_there HQ.out HQ2.out hq); clear hq
        generalize lowB l x.seq = k at *
        go_wp2_with fail
        go_ret2
        exact ⟨none, 0, by rw [HR.out.1, HR.out.2]; rfl, by rw [HR.out.2]; exact Sl.nil _ _ _ _, by rw [HR.out.2]; simp, (HBX.out _ HB3.out).2⟩

end Go.Proofs.YtbdikenloklhaaaDoor

namespace Go.Proofs.YtbdikenloklhaaaDoor
open Go.RowKit
set_option maxRecDepth 100000

def ShedPost (l : List ItemD) (limit : Int) (w : World) (e : Ending) (w' : World) : Prop :=
  ∃ a c b d, e = .returned (.tuple #[.slice a (shedStay l limit).length c, .slice b (shedOff l limit).length d, .int .i64 (shedErr l limit)]) ∧ Sl w' w.heap.size w'.heap.size a ((shedStay l limit).flatMap vItem) ∧ (shedStay l limit).length ≤ c ∧
    Sl w' w.heap.size w'.heap.size b ((shedOff l limit).flatMap vItem) ∧ (shedOff l limit).length ≤ d ∧ Below w.heap.size w w'

theorem shed_bad {l : List ItemD} {limit : Int} (h : lineFine l = false) : shedErr l limit = 1 ∧ shedStay l limit = [] ∧ shedOff l limit = [] := by
  have : shedErr l limit = 1 := by simp [shedErr, h]
  exact ⟨this, by simp [shedStay, this], by simp [shedOff, this]⟩
theorem shed_neg {l : List ItemD} {limit : Int} (h : lineFine l = true) (hn : limit < 0) : shedErr l limit = 3 ∧ shedStay l limit = [] ∧ shedOff l limit = [] := by
  have : shedErr l limit = 3 := by simp [shedErr, h, hn]
  exact ⟨this, by simp [shedStay, this], by simp [shedOff, this]⟩
theorem shed_ok {l : List ItemD} {limit : Int} (h : lineFine l = true) (hn : 0 ≤ limit) : shedErr l limit = 0 ∧ shedStay l limit = l.drop (shedN l limit) ∧ shedOff l limit = l.take (shedN l limit) := by
  have : shedErr l limit = 0 := by simp [shedErr, h]; omega
  exact ⟨this, by simp [shedStay, this], by simp [shedOff, this]⟩
theorem shed_bads {l : List ItemD} {limit : Int} {n : Int} (h : shedErr l limit = n ∧ shedStay l limit = [] ∧ shedOff l limit = []) {w w' : World} (hb : Below w.heap.size w w') : ShedPost l limit w (.returned (.tuple #[.slice none 0 0, .slice none 0 0, .int .i64 n])) w' :=
  ⟨none, 0, none, 0, by rw [h.1, h.2.1, h.2.2]; rfl, by rw [h.2.1]; exact Sl.nil _ _ _ _, by rw [h.2.1]; simp, by rw [h.2.2]; exact Sl.nil _ _ _ _, by rw [h.2.2]; simp, hb⟩

/-- Parts of a line that reads. -/
theorem line_drop {w : World} {lo hi : Nat} {a : Option Addr} {l : List ItemD} {c k : Nat} (h : Sl w lo hi a (l.flatMap vItem)) (hk : k ≤ l.length) (hc : l.length ≤ c) : Sl w lo hi (cutA a c k 5) ((l.drop k).flatMap vItem) := by
  rw [← flat_dropN vItem_len]
  exact h.cut (flat_len vItem_len l) hk hc
theorem line_take {w : World} {lo hi : Nat} {a : Option Addr} {l : List ItemD} {k : Nat} (h : Sl w lo hi a (l.flatMap vItem)) : Sl w lo hi a ((l.take k).flatMap vItem) := by
  rw [← flat_takeN vItem_len]
  exact h.take _

theorem run_cutHi {P : Program} {t size : Nat} (ht : P.underlying t = some (.slice (P.elem t))) (hs : ∀ w, (sizeOf (P.elem t)).run P w = .ok size w) (a : Option Addr) (len cap k : Nat) (i : Int) (hi : i = (k : Int)) (hk : k ≤ cap) (w : World) :
    (Instr.slice t (.slice a len cap) none (some (.int .i64 i)) none).run P w = .ok (.slice a k cap) w := by
  subst hi
  rw [run_slice_h w t a len cap ht .i64 k (by omega) (by omega), hs]
  cases a with
  | none => simp [sliced, Result.andThen]
  | some a => simp [sliced, Result.andThen, Addr.add]

theorem shed_keep {w W : World} (h : Below w.heap.size w W) : True ∧ Below w.heap.size w W := ⟨trivial, h⟩
theorem shed_draw {w W : World} (h : True ∧ Below w.heap.size w W) : True ∧ Below w.heap.size w W.drew := ⟨trivial, h.2.drew⟩
theorem shed_alloc {w W : World} (h : True ∧ Below w.heap.size w W) (o : Obj) : True ∧ Below w.heap.size w (W.alloc o) := ⟨trivial, h.2.alloc h.2.size o⟩

/-- The parts of a line, cloned. -/
theorem shed_c1 {w : World} {a : Option Addr} {c : Nat} {l : List ItemD} {k lo : Nat} (hl : Sl w lo w.heap.size a (l.flatMap vItem)) (hk : k ≤ l.length) (hc : l.length ≤ c) (hll : l.length ≤ 1048576) (W : World) (hW : True ∧ Below w.heap.size w W) :
    Calls Tryd.prog 88 #[.slice (cutA a c k 5) (l.length - k) (c - k)] W fun e w' => ∃ v, e = .returned v ∧ w'.ownsRow w.heap.size 45 5 v (l.drop k).length ((l.drop k).flatMap vItem) ∧ Below w.heap.size w w' ∧ Below W.heap.size W w' := by
  have h := Clone_any (cutA a c k 5) (c - k) (l.drop k) 0 W (((line_drop hl hk hc).below hW.2 (Nat.le_refl _)).wider (Nat.zero_le _) hW.2.size) (by rw [List.length_drop]; omega)
  rw [List.length_drop] at h
  refine h.mono ?_
  rintro e w' ⟨v, rfl, ho, hb⟩
  exact ⟨v, rfl, by rw [List.length_drop]; exact own_mono ho hW.2.size, hW.2.trans (hb.mono hW.2.size), hb⟩
theorem shed_c2 {w : World} {a : Option Addr} {c : Nat} {l : List ItemD} {k lo : Nat} (hl : Sl w lo w.heap.size a (l.flatMap vItem)) (hk : k ≤ l.length) (hll : l.length ≤ 1048576) (W : World) (hW : True ∧ Below w.heap.size w W) :
    Calls Tryd.prog 88 #[.slice a k c] W fun e w' => ∃ v, e = .returned v ∧ w'.ownsRow w.heap.size 45 5 v (l.take k).length ((l.take k).flatMap vItem) ∧ Below w.heap.size w w' ∧ Below W.heap.size W w' := by
  have hlk : (l.take k).length = k := by rw [List.length_take]; omega
  have h := Clone_any a c (l.take k) 0 W (((line_take hl).below hW.2 (Nat.le_refl _)).wider (Nat.zero_le _) hW.2.size) (by omega)
  rw [hlk] at h
  refine h.mono ?_
  rintro e w' ⟨v, rfl, ho, hb⟩
  exact ⟨v, rfl, by rw [hlk]; exact own_mono ho hW.2.size, hW.2.trans (hb.mono hW.2.size), hb⟩

theorem shed_fin {w w' : World} {l : List ItemD} {limit : Int} {k : Nat} {v1 v2 : Value} (h : shedErr l limit = 0 ∧ shedStay l limit = l.drop k ∧ shedOff l limit = l.take k) (h1 : w'.ownsRow w.heap.size 45 5 v1 (l.drop k).length ((l.drop k).flatMap vItem))
    (h2 : w'.ownsRow w.heap.size 45 5 v2 (l.take k).length ((l.take k).flatMap vItem)) (hb : Below w.heap.size w w') : ShedPost l limit w (.returned (.tuple #[v1, v2, .int .i64 0])) w' := by
  obtain ⟨a1, c1, rfl, hc1⟩ := own_slice h1
  obtain ⟨a2, c2, rfl, hc2⟩ := own_slice h2
  exact ⟨a1, c1, a2, c2, by rw [h.1, h.2.1, h.2.2], by rw [h.2.1]; exact Sl.of_own h1, by rw [h.2.1]; exact hc1, by rw [h.2.2]; exact Sl.of_own h2, by rw [h.2.2]; exact hc2, hb⟩

set_option maxHeartbeats 4000000 in
theorem Shed_any (a : Option Addr) (c : Nat) (l : List ItemD) (limit : Int) (lo : Nat) (w : World) (hv : Env w) (hl : Sl w lo w.heap.size a (l.flatMap vItem)) (hs : LineSmall l) (hc : l.length ≤ c) (hlim : -9223372036854775808 ≤ limit ∧ limit ≤ 9223372036854775807) :
    Calls Tryd.prog 32 #[.slice a l.length c, .int .i64 limit] w (ShedPost l limit w) := by
  have hll := hs.len
  have HC := Lib.hid (LCheck_any a c l lo w hv hl hs)
  obtain ⟨k, hk⟩ : ∃ k, shedN l limit = k := ⟨_, rfl⟩
  have hkl0 : 0 ≤ limit → k ≤ l.length := by rw [← hk]; unfold shedN; omega
  have HC1 : Hid (k ≤ l.length → ∀ W, True ∧ Below w.heap.size w W → Calls Tryd.prog 88 #[.slice (cutA a c k 5) (l.length - k) (c - k)] W fun e w' => ∃ v, e = .returned v ∧ w'.ownsRow w.heap.size 45 5 v (l.drop k).length ((l.drop k).flatMap vItem) ∧ Below w.heap.size w w' ∧ Below W.heap.size W w') := fun h => shed_c1 hl h hc hll
  have HC2 : Hid (k ≤ l.length → ∀ W, True ∧ Below w.heap.size w W → Calls Tryd.prog 88 #[.slice a k c] W fun e w' => ∃ v, e = .returned v ∧ w'.ownsRow w.heap.size 45 5 v (l.take k).length ((l.take k).flatMap vItem) ∧ Below w.heap.size w w' ∧ Below W.heap.size W w') := fun h => shed_c2 hl h hll
  clear hl hv hs
  go_enter Tryd.func32, Tryd.ntmps32
  go_wp2_with fail
  refine HC.out.mono ?_
  rintro e W1 ⟨rfl, hb1⟩
  have HB1 := Lib.hid hb1; clear hb1
  cases hq : lineFine l
  · have HR := Lib.hid (shed_bad (limit := limit) hq)
    have HE : Hid (lineErr l = 1) := (by simp [lineErr, hq] : lineErr l = 1)
    clear hq
    rw [HE.out]
    go_wp2_with fail
    go_ret3
    exact shed_bads HR.out HB1.out
  · have HE : Hid (lineErr l = 0) := (by simp [lineErr, hq] : lineErr l = 0)
    rw [HE.out]
    by_cases hn : limit < 0
    · have HR := Lib.hid (shed_neg hq hn)
      clear hq
      go_wp2_with fail
      go_ret3
      exact shed_bads HR.out HB1.out
    · have hn0 : 0 ≤ limit := by omega
      have HR := Lib.hid (shed_ok hq hn0)
      clear hq hn
      have hkl := hkl0 hn0
      have hkc : k ≤ c := by omega
      rw [hk] at HR
      have HK : Hid (((l.length : Int) - limit).toNat = k) := hk
      clear hk hkl0
      have hcut := fun W => run_cut (P := Tryd.prog) (t := 43) (size := 5) Tryd.underlying43 eg_sizeItem a l.length c k (k : Int) rfl hkl W
      have hcut2 := fun W => run_cutHi (P := Tryd.prog) (t := 43) (size := 5) Tryd.underlying43 eg_sizeItem a l.length c k (k : Int) rfl hkc W
      obtain ⟨unfolded1, unfolded2⟩ := hlim
      have hmax : max (0 : Int) ((l.length : Int) - min limit (l.length : Int)) = (k : Int) := by have := HK.out; omega
      have hk1 : (0 : Int) ≤ (k : Int) := by omega
      have hk2 : (k : Int) ≤ (l.length : Int) := by omega
      have hk3 : (k : Int) ≤ (c : Int) := by omega
      have HKL := Lib.hid hkl
      go_wp2_with fail
      go_region_held3 (fun W => True ∧ Below w.heap.size w W)
        (first | exact shed_keep (by assumption) | exact shed_keep HB1.out.drew | exact shed_draw (by assumption) | exact shed_alloc (by assumption) _)
        (first
          | (go_at_call 88; have hins := HC1.out HKL.out _ (by assumption); with_reducible refine hins.mono ?_; clear hins; rintro e w1 ⟨v1, rfl, ho1, hx1, hb1⟩)
          | (go_at_call 88; have hins := HC2.out HKL.out _ (by assumption); with_reducible refine hins.mono ?_; clear hins; rintro e w2 ⟨v2, rfl, ho2, hx2, hb2⟩))
      all_goals go_wp2
      all_goals go_ret3
      exact shed_fin HR.out (own_below ho1 hb2) ho2 hx2

/-- append of a part to a row of no element: as one step of a drawn region. -/
theorem zero_wp {w W : World} {o : Oper} {a : Act} {K : Act → World → Prop} {Q : Exit → Act → World → Prop} (s x : Operand) (ho : o.op = .call { callee := .builtin .append, args := #[s, x], argTypes := #[43, 43] }) {b0 : Addr} {ad : Option Addr} {m c : Nat} (hs : a.eval s = .slice (some b0) 0 0) (hx : a.eval x = .slice ad m c)
    (hW : True ∧ Below w.heap.size w W) {news : List Value} (hn : news.length = m * 5 ∧ m ≤ 1048576) (hsl : Sl w 0 w.heap.size ad news)
    (h : ∀ v' w', Below W.heap.size W w' → Below w.heap.size w w' → (∃ a' c', v' = .slice a' m c' ∧ m ≤ c' ∧ Sl w' w.heap.size w'.heap.size a' news) → K (a.put o.dst v') w') : o.wp Tryd.prog a W K Q := by
  obtain ⟨v', w', hr, hb, hx'⟩ := run_append_zero (P := Tryd.prog) W 43 o.type 45 Tryd.underlying43 infoItem rfl (by decide) (by decide) b0 0 w.heap.size ad m c news hn.1 (hsl.below hW.2 (Nat.le_refl _)) (by omega)
  obtain ⟨a', c', rfl, h1, h2⟩ := zero_reads hn.1 hx'
  exact Lib.wp_append_run W s x _ _ ho _ _ hs hx _ _ hr (h _ w' hb (hW.2.trans (hb.mono hW.2.size)) ⟨a', c', rfl, h1, h2.wider hW.2.size (Nat.le_refl _)⟩)

theorem shed_fin2 {w w' : World} {l : List ItemD} {limit : Int} {k c1 c2 : Nat} {a1 a2 : Option Addr} (h : shedErr l limit = 0 ∧ shedStay l limit = l.drop k ∧ shedOff l limit = l.take k) (hk : k ≤ l.length) (h1 : Sl w' w.heap.size w'.heap.size a1 ((l.drop k).flatMap vItem)) (hc1 : l.length - k ≤ c1)
    (h2 : Sl w' w.heap.size w'.heap.size a2 ((l.take k).flatMap vItem)) (hc2 : k ≤ c2) (hb : Below w.heap.size w w') : ShedPost l limit w (.returned (.tuple #[.slice a1 (l.length - k) c1, .slice a2 k c2, .int .i64 0])) w' := by
  have e1 : (l.drop k).length = l.length - k := List.length_drop
  have e2 : (l.take k).length = k := by rw [List.length_take]; omega
  exact ⟨a1, c1, a2, c2, by rw [h.1, h.2.1, h.2.2, e1, e2], by rw [h.2.1]; exact h1, by rw [h.2.1, e1]; exact hc1, by rw [h.2.2]; exact h2, by rw [h.2.2, e2]; exact hc2, hb⟩
theorem sl_later {w1 x w2 : World} {B : Nat} {a : Option Addr} {us : List Value} (h : Sl w1 B w1.heap.size a us) (hb : Below x.heap.size x w2) (hx : Below w1.heap.size w1 x) : Sl w2 B w2.heap.size a us :=
  have hb2 := hx.trans (hb.mono hx.size)
  (h.below hb2 (Nat.le_refl _)).wider (Nat.le_refl _) hb2.size

set_option maxHeartbeats 4000000 in
theorem ShedOf_any (a : Option Addr) (c : Nat) (l : List ItemD) (limit : Int) (lo : Nat) (w : World) (hl : Sl w lo w.heap.size a (l.flatMap vItem)) (hs : LineSmall l) (hc : l.length ≤ c) (hlim : -9223372036854775808 ≤ limit ∧ limit ≤ 9223372036854775807) :
    Calls Tryd.prog 33 #[.slice a l.length c, .int .i64 limit] w (ShedPost l limit w) := by
  have hll := hs.len
  have HC := Lib.hid (LineFine_any a c l lo w hl hs)
  obtain ⟨k, hk⟩ : ∃ k, shedN l limit = k := ⟨_, rfl⟩
  have hkl0 : 0 ≤ limit → k ≤ l.length := by rw [← hk]; unfold shedN; omega
  have HL := Lib.hid hl
  clear hl hs
  go_enter Tryd.func33, Tryd.ntmps33
  go_wp2_with fail
  refine HC.out.mono ?_
  rintro e W1 ⟨rfl, hb1⟩
  have HB1 := Lib.hid hb1; clear hb1
  cases hq : lineFine l
  · have HR := Lib.hid (shed_bad (limit := limit) hq)
    clear hq
    go_wp2_with fail
    go_ret3
    exact shed_bads HR.out HB1.out
  · by_cases hn : limit < 0
    · have HR := Lib.hid (shed_neg hq hn)
      clear hq
      go_wp2_with fail
      go_ret3
      exact shed_bads HR.out HB1.out
    · have hn0 : 0 ≤ limit := by omega
      have HR := Lib.hid (shed_ok hq hn0)
      clear hq hn
      have hkl := hkl0 hn0
      have hkc : k ≤ c := by omega
      rw [hk] at HR
      have HK : Hid (((l.length : Int) - limit).toNat = k) := hk
      clear hk hkl0
      have hcut := fun W => run_cut (P := Tryd.prog) (t := 43) (size := 5) Tryd.underlying43 eg_sizeItem a l.length c k (k : Int) rfl hkl W
      have hcut2 := fun W => run_cutHi (P := Tryd.prog) (t := 43) (size := 5) Tryd.underlying43 eg_sizeItem a l.length c k (k : Int) rfl hkc W
      obtain ⟨u1, u2⟩ := hlim
      have hk1 : (0 : Int) ≤ (k : Int) := by omega
      have hk2 : (k : Int) ≤ (l.length : Int) := by omega
      have hk3 : (k : Int) ≤ (c : Int) := by omega
      have hlt1 : ((l.drop k).flatMap vItem).length = (l.length - k) * 5 := by rw [flat_len vItem_len, List.length_drop]
      have hlt2 : ((l.take k).flatMap vItem).length = k * 5 := by rw [flat_len vItem_len, List.length_take, Nat.min_eq_left hkl]
      have HKL := Lib.hid (And.intro hkl (And.intro hlt1 hlt2))
      have HN1 : Hid (l.length - k ≤ 1048576) := (by omega : l.length - k ≤ 1048576)
      have HN2 : Hid (k ≤ 1048576) := (by omega : k ≤ 1048576)
      have HL1 : Hid (Sl w 0 w.heap.size (cutA a c k 5) ((l.drop k).flatMap vItem)) := (line_drop HL.out hkl hc).wider (Nat.zero_le _) (Nat.le_refl _)
      have HL2 : Hid (Sl w 0 w.heap.size a ((l.take k).flatMap vItem)) := (line_take HL.out).wider (Nat.zero_le _) (Nat.le_refl _)
      clear hlt1 hlt2
      by_cases hlt : limit < (l.length : Int)
      · have hmax : (l.length : Int) - limit = (k : Int) := by have := HK.out; omega
        go_wp2_with fail
        go_region_held3 (fun W => True ∧ Below w.heap.size w W)
          (first | exact shed_keep (by assumption) | exact shed_keep HB1.out.drew | exact shed_draw (by assumption) | exact shed_alloc (by assumption) _)
          (first
            | (rw [if_pos (by rfl)]; refine zero_wp (w := w) (.tmp 21) (.tmp 24) rfl rfl rfl (by assumption) (And.intro HKL.out.2.1 HN1.out) HL1.out ?_; rintro _ w1 hb1 hx1 ⟨a1, c1, rfl, hc1, hs1⟩)
            | (rw [if_pos (by rfl)]; refine zero_wp (w := w) (.tmp 26) (.tmp 29) rfl rfl rfl (by assumption) (And.intro HKL.out.2.2 HN2.out) HL2.out ?_; rintro _ w2 hb2 hx2 ⟨a2, c2, rfl, hc2, hs2⟩))
        all_goals go_wp2
        all_goals go_ret3
        all_goals first
          | exact shed_fin2 HR.out hkl (sl_later hs1 hb2 (by repeat' (first | exact Below.refl _ _ | refine Below.drew ?_ | refine Below.alloc ?_ (by simp) _))) hc1 hs2 hc2 hx2
          | exact shed_fin2 HR.out hkl hs1 hc1 (sl_later hs2 hb1 (by repeat' (first | exact Below.refl _ _ | refine Below.drew ?_ | refine Below.alloc ?_ (by simp) _))) hc2 hx1
      · have hmax : k = 0 := by have := HK.out; omega
        have hcut0 := fun W => run_cut (P := Tryd.prog) (t := 43) (size := 5) Tryd.underlying43 eg_sizeItem a l.length c k (0 : Int) (by omega) hkl W
        have hcut02 := fun W => run_cutHi (P := Tryd.prog) (t := 43) (size := 5) Tryd.underlying43 eg_sizeItem a l.length c k (0 : Int) (by omega) hkc W
        clear hmax
        go_wp2_with fail
        go_region_held3 (fun W => True ∧ Below w.heap.size w W)
          (first | exact shed_keep (by assumption) | exact shed_keep HB1.out.drew | exact shed_draw (by assumption) | exact shed_alloc (by assumption) _)
          (first
            | (rw [if_pos (by rfl)]; refine zero_wp (w := w) (.tmp 21) (.tmp 24) rfl rfl rfl (by assumption) (And.intro HKL.out.2.1 HN1.out) HL1.out ?_; rintro _ w1 hb1 hx1 ⟨a1, c1, rfl, hc1, hs1⟩)
            | (rw [if_pos (by rfl)]; refine zero_wp (w := w) (.tmp 26) (.tmp 29) rfl rfl rfl (by assumption) (And.intro HKL.out.2.2 HN2.out) HL2.out ?_; rintro _ w2 hb2 hx2 ⟨a2, c2, rfl, hc2, hs2⟩))
        all_goals go_wp2
        all_goals go_ret3
        all_goals first
          | exact shed_fin2 HR.out hkl (sl_later hs1 hb2 (by repeat' (first | exact Below.refl _ _ | refine Below.drew ?_ | refine Below.alloc ?_ (by simp) _))) hc1 hs2 hc2 hx2
          | exact shed_fin2 HR.out hkl hs1 hc1 (sl_later hs2 hb1 (by repeat' (first | exact Below.refl _ _ | refine Below.drew ?_ | refine Below.alloc ?_ (by simp) _))) hc2 hx1

end Go.Proofs.YtbdikenloklhaaaDoor
