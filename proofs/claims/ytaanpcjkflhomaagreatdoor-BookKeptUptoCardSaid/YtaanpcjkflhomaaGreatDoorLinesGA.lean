/-
  Walks of the lines: Put, Push. Walks: lines.Shed; the reference's ShedOf.
-/
import Derived.Test.YtaanpcjkflhomaaGreatDoorInsert
set_option linter.unusedSimpArgs false
set_option linter.unusedVariables false
namespace Go.Proofs.YtaanpcjkflhomaaGreatDoor
open Go.RowKit
set_option maxRecDepth 100000
theorem flat_takeN {α : Type} {enc : α → List Value} {size : Nat} (hs : ∀ x,(enc x).length = size) : ∀ (k : Nat) (xs : List α),(xs.flatMap enc).take (k * size) = (xs.take k).flatMap enc
 | 0,xs => by simp
 | k + 1,[] => by simp
 | k + 1,x :: xs => by
  rw [List.take_succ_cons,List.flatMap_cons,List.flatMap_cons,← flat_takeN hs k xs,List.take_append,hs,List.take_of_length_le (by rw [hs,Nat.succ_mul]; omega),show (k + 1) * size - size = k * size by rw [Nat.succ_mul]; omega]
theorem flat_dropN {α : Type} {enc : α → List Value} {size : Nat} (hs : ∀ x,(enc x).length = size) : ∀ (k : Nat) (xs : List α),(xs.flatMap enc).drop (k * size) = (xs.drop k).flatMap enc
 | 0,xs => by simp
 | k + 1,[] => by simp
 | k + 1,x :: xs => by
  rw [List.drop_succ_cons,List.flatMap_cons,← flat_dropN hs k xs,List.drop_append,hs,List.drop_eq_nil_of_le (by rw [hs,Nat.succ_mul]; omega),show (k + 1) * size - size = k * size by rw [Nat.succ_mul]; omega,List.nil_append]
theorem lowB_none {s : Int} {l : List ItemD} (h : ∀ y ∈ l,s ≤ y.seq) : lowB l s = 0 := by
 unfold lowB
 rw [List.countP_eq_zero]
 intro y hy
 have := h y hy
 simp; omega
theorem pushL_eq {x : ItemD} : ∀ {l : List ItemD},(l.Pairwise fun x y => x.seq < y.seq) → (l.any (fun y => decide (y.seq = x.seq)) = false) → pushL l x = l.take (lowB l x.seq) ++ [x] ++ l.drop (lowB l x.seq)
 | [],_,_ => rfl
 | y :: r,hp,ha => by
  obtain ⟨hp1,hp2⟩ := List.pairwise_cons.1 hp
  rw [List.any_cons,Bool.or_eq_false_iff] at ha
  have hne : y.seq ≠ x.seq := by simpa using ha.1
  unfold pushL
  by_cases h : x.seq < y.seq
  ·rw [if_pos h,lowB_none (fun z hz => by
    rcases List.mem_cons.1 hz with rfl | hz
    ·omega
    ·have := hp1 z hz; omega)]
   rfl
  ·have hlt : y.seq < x.seq := by omega
   have : lowB (y :: r) x.seq = lowB r x.seq + 1 := by
    unfold lowB
    rw [List.countP_cons_of_pos (by simpa using hlt)]
   rw [if_neg h,this,pushL_eq hp2 ha.2,List.take_succ_cons,List.drop_succ_cons]
   simp
theorem lowB_le (l : List ItemD) (s : Int) : lowB l s ≤ l.length := List.countP_le_length
theorem insL_push {x : ItemD} {l : List ItemD} (hp : l.Pairwise fun x y => x.seq < y.seq) (ha : l.any (fun y => decide (y.seq = x.seq)) = false) : insL (l.flatMap vItem) (lowB l x.seq) x = (pushL l x).flatMap vItem := by
 rw [pushL_eq hp ha]
 unfold insL
 rw [flat_takeN vItem_len,flat_dropN vItem_len]
 simp
theorem put_keep {w W0 W : World} {x : ItemD} (h : BoxedI w W0 x) (hW : Below W0.heap.size W0 W) : (W.cell? ⟨w.heap.size,0,none⟩ = some (.int .i64 x.seq) ∧ W.cell? ⟨w.heap.size,1,none⟩ = some (.string x.key) ∧ W.cell? ⟨w.heap.size,2,none⟩ = some (.string x.body) ∧ W.cell? ⟨w.heap.size,3,none⟩ = some (.bool x.again) ∧ W.cell? ⟨w.heap.size,4,none⟩ = some (.int .i64 x.deaths)) ∧ Below W0.heap.size W0 W := ⟨(h W hW).1,hW⟩
theorem put_alloc {w W0 W : World} {x : ItemD} (h : BoxedI w W0 x) {C : Prop} (hW : C ∧ Below W0.heap.size W0 W) (o : Obj) : ((W.alloc o).cell? ⟨w.heap.size,0,none⟩ = some (.int .i64 x.seq) ∧ (W.alloc o).cell? ⟨w.heap.size,1,none⟩ = some (.string x.key) ∧ (W.alloc o).cell? ⟨w.heap.size,2,none⟩ = some (.string x.body) ∧ (W.alloc o).cell? ⟨w.heap.size,3,none⟩ = some (.bool x.again) ∧ (W.alloc o).cell? ⟨w.heap.size,4,none⟩ = some (.int .i64 x.deaths)) ∧ Below W0.heap.size W0 (W.alloc o) := put_keep h (hW.2.alloc hW.2.size o)
theorem put_line {W0 W : World} {a : Option Addr} {us : List Value} (h : Sl W0 0 W0.heap.size a us) {C : Prop} (hW : C ∧ Below W0.heap.size W0 W) : Sl W 0 W.heap.size a us := (h.below hW.2 (Nat.le_refl _)).wider (Nat.le_refl _) hW.2.size
theorem put_base {W0 W W' : World} {C : Prop} (hW : C ∧ Below W0.heap.size W0 W) (_ : Below W.heap.size W W') : W0.heap.size ≤ W.heap.size := hW.2.size
theorem bk_drew {w : World} {g : Nat} {t : TypeId} {cs : Array Value} (h : Bk w g t cs) : Bk w.drew g t cs := h
theorem put_ins1 {B : Nat} {W0 wc : World} {B0 : Nat} {v : Value} {l : List ItemD} {x : ItemD} {k : Nat} (h0 : B0 ≤ W0.heap.size) (hown : wc.ownsRow B 52 5 v l.length (l.flatMap vItem)) (hB : W0.heap.size ≤ B) (hW : Below W0.heap.size W0 wc) (hk : k ≤ l.length) (hn : l.length ≤ 1048576) :
  Calls Tryz.prog 159 #[v,.int .i64 k,.slice (some ⟨wc.heap.size,0,none⟩) 1 1] (wc.alloc (.cells #[.int .i64 x.seq,.string x.key,.string x.body,.bool x.again,.int .i64 x.deaths] 52)) fun e w' => ∃ v',e = .returned v' ∧ w'.ownsRow B0 52 5 v' (l.length + 1) (insL (l.flatMap vItem) k x) ∧ Below W0.heap.size W0 w' := by
 have hb : Below wc.heap.size wc (wc.alloc (.cells (vItem x).toArray 52)) := (Below.refl _ wc).alloc (Nat.le_refl _) _
 have ho := own_below hown hb
 have hsz := hW.size
 refine (Insert_any W0.heap.size v l.length k _ x wc.heap.size _ (own_mono ho hB) hk hn (Bk.new _ _ _) (fun g hg => ?_) (items_one l) (by simp; omega)).mono ?_
 ·have := (hown.lt g hg).2; omega
 ·rintro e w' ⟨v',rfl,ho',hg'⟩
  exact ⟨v',rfl,own_mono ho' h0,below_own (own_mono ho hB) hg' (hW.trans (hb.mono hsz)) (Nat.le_refl _) (by simp; omega)⟩
theorem put_ins2 {B : Nat} {W0 wc : World} {B0 vb : Nat} {v : Value} {l : List ItemD} {x : ItemD} {k : Nat} (h0 : B0 ≤ W0.heap.size) (hown : wc.ownsRow B 52 5 v l.length (l.flatMap vItem)) (hB : W0.heap.size ≤ B) (hW : Below W0.heap.size W0 wc) (hvb : Bk wc vb 52 (vItem x).toArray) (hv : vb < B) (hk : k ≤ l.length) (hn : l.length ≤ 1048576) :
  Calls Tryz.prog 159 #[v,.int .i64 k,.slice (some ⟨vb,0,none⟩) 1 1] wc fun e w' => ∃ v',e = .returned v' ∧ w'.ownsRow B0 52 5 v' (l.length + 1) (insL (l.flatMap vItem) k x) ∧ Below W0.heap.size W0 w' := by
 refine (Insert_any W0.heap.size v l.length k _ x vb _ (own_mono hown hB) hk hn hvb (fun g hg => ?_) (items_one l) hW.size).mono ?_
 ·have := (hown.lt g hg).1; omega
 ·rintro e w' ⟨v',rfl,ho',hg'⟩
  exact ⟨v',rfl,own_mono ho' h0,below_own (own_mono hown hB) hg' hW (Nat.le_refl _) hW.size⟩
set_option maxHeartbeats 4000000 in
theorem Put_any (a : Option Addr) (c : Nat) (l : List ItemD) (x : ItemD) (lo : Nat) (w : World) (hl : Sl w lo w.heap.size a (l.flatMap vItem)) (hll : l.length ≤ 1048576) (hp : l.Pairwise fun x y => x.seq < y.seq) (hn : l.any (fun y => decide (y.seq = x.seq)) = false) :
  Calls Tryz.prog 137 #[.slice a l.length c,.agg (vItem x).toArray] w fun e w' => ∃ v,e = .returned v ∧ w'.ownsRow w.heap.size 52 5 v (pushL l x).length ((pushL l x).flatMap vItem) ∧ Below w.heap.size w w' := by
 have hbx := boxedI_new w x 52
 have hz : (w.alloc (.cells #[.int .i64 x.seq,.string x.key,.string x.body,.bool x.again,.int .i64 x.deaths] 52)).heap.size = w.heap.size + 1 := by simp
 have hl0 := (hl.below ((Below.refl _ w).alloc (Nat.le_refl _) (.cells #[.int .i64 x.seq,.string x.key,.string x.body,.bool x.again,.int .i64 x.deaths] 52)) (Nat.le_refl _)).wider (lo' := 0) (hi' := (w.alloc (.cells #[.int .i64 x.seq,.string x.key,.string x.body,.bool x.again,.int .i64 x.deaths] 52)).heap.size) (Nat.zero_le _) (by simp)
 have HL0 := Lib.hid hl0
 have HBX := Lib.hid hbx
 have HP := Lib.hid hp
 have hfin : ∀ (W : World) (v : Value),W.ownsRow w.heap.size 52 5 v (l.length + 1) (insL (l.flatMap vItem) (lowB l x.seq) x) → W.ownsRow w.heap.size 52 5 v (pushL l x).length ((pushL l x).flatMap vItem) := fun W v h => by rw [pushL_len,← insL_push hp hn]; exact h
 have HFIN := Lib.hid hfin
 have HLE := lowB_le l x.seq
 clear hl hbx hl0 hp hn hfin
 unfold vItem
 go_enter Tryz.func137,Tryz.ntmps137
 obtain ⟨⟨e0,e1,e2,e3,e4⟩,_⟩ := HBX.out _ (Below.refl _ _)
 go_wp2_with fail
 generalize w.alloc (.cells #[.int .i64 x.seq,.string x.key,.string x.body,.bool x.again,.int .i64 x.deaths] 52) = W0 at *
 have HZ := Lib.hid hz; clear hz
 have hwz : w.heap.size ≤ W0.heap.size := by have := HZ.out; omega
 refine (find_any a c l x.seq 0 W0 HL0.out hll HP.out).mono ?_
 rintro e W1 ⟨rfl,hb1⟩
 have HB1 := Lib.hid hb1; clear hb1 e0 e1 e2 e3 e4
 generalize hk : lowB l x.seq = k at *
 clear hk
 generalize (l.any fun y => decide (y.seq = x.seq)) = bb at *
 go_wp2_with fail
 go_region_held3 (fun W => (W.cell? ⟨w.heap.size,0,none⟩ = some (.int .i64 x.seq) ∧ W.cell? ⟨w.heap.size,1,none⟩ = some (.string x.key) ∧ W.cell? ⟨w.heap.size,2,none⟩ = some (.string x.body) ∧ W.cell? ⟨w.heap.size,3,none⟩ = some (.bool x.again) ∧ W.cell? ⟨w.heap.size,4,none⟩ = some (.int .i64 x.deaths)) ∧ Below W0.heap.size W0 W)
  (first | exact put_keep HBX.out (by assumption) | exact put_keep HBX.out HB1.out.drew | exact put_alloc HBX.out (by assumption) _)
  (first
   | (go_at_call 135; refine (Clone_any a c l 0 _ (put_line HL0.out (by assumption)) hll).mono ?_; rintro e wc ⟨v,rfl,hown,hb⟩; have hbc := since_stepC (by assumption) hb; have hbs := put_base (by assumption) hb)
   | (go_at_call 159; have hins := put_ins1 (x := x) hwz hown hbs hbc HLE hll; with_reducible refine hins.mono ?_; clear hins; rintro e wi ⟨v2,rfl,hown2,hbi⟩)
   | (go_at_call 159; have hins := put_ins2 (x := x) hwz hown hbs hbc ((bk_drew (Bk.new _ _ _)).below hb (by simp)) (by simp) HLE hll; with_reducible refine hins.mono ?_; clear hins; rintro e wi ⟨v2,rfl,hown2,hbi⟩))
 all_goals go_wp2
 all_goals go_ret
 all_goals exact ⟨_,rfl,HFIN.out _ _ hown2,(HBX.out _ hbi).2⟩
end Go.Proofs.YtaanpcjkflhomaaGreatDoor
