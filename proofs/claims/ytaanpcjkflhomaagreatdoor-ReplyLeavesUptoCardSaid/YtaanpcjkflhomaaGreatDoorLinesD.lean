/-
  The walk of the reference push.
-/
import Derived.Test.YtaanpcjkflhomaaGreatDoorBunE
set_option linter.unusedSimpArgs false
set_option linter.unusedVariables false
namespace Go.Proofs.YtaanpcjkflhomaaGreatDoor
open Go.RowKit
set_option maxRecDepth 100000
set_option maxHeartbeats 2000000 in
theorem refpush_any (a : Option Addr) (c : Nat) (l : List ItemD) (x : ItemD) (lo : Nat) (w : World) (hl : Sl w lo w.heap.size a (l.flatMap vItem)) (hll : l.length ≤ 1048576) :
  Calls Tryz.prog 53 #[.slice a l.length c, .agg (vItem x).toArray] w fun e w' => ∃ v, e = .returned v ∧ w'.ownsRow w.heap.size 52 5 v (pushL l x).length ((pushL l x).flatMap vItem) ∧ Below w.heap.size w w' := by
 have HL := Lib.hid hl; clear hl
 have hbk := Bk.new w 52 (vItem x).toArray
 have hbl : Below w.heap.size w (w.alloc (.cells (vItem x).toArray 52)) := (Below.refl _ w).alloc (Nat.le_refl _) _
 have hz : (w.alloc (.cells (vItem x).toArray 52)).heap.size = w.heap.size + 1 := by simp
 unfold vItem at *
 go_enter Tryz.func53, Tryz.ntmps53
 go_wp2_with fail
 generalize w.alloc (.cells [Value.int IntKind.i64 x.seq, Value.string x.key, Value.string x.body, Value.bool x.again, Value.int IntKind.i64 x.deaths].toArray 52) = W0 at *
 have HBX : Hid (∀ W, Below W0.heap.size W0 W → (W.cell? ⟨w.heap.size, 0, none⟩ = some (.int .i64 x.seq) ∧ W.cell? ⟨w.heap.size, 1, none⟩ = some (.string x.key) ∧ W.cell? ⟨w.heap.size, 2, none⟩ = some (.string x.body) ∧ W.cell? ⟨w.heap.size, 3, none⟩ = some (.bool x.again) ∧ W.cell? ⟨w.heap.size, 4, none⟩ = some (.int .i64 x.deaths)) ∧ Below w.heap.size w W) := fun W hW => by
  have hb := hbk.below hW (by omega)
  refine ⟨⟨?_, ?_, ?_, ?_, ?_⟩, hbl.trans (hW.mono (by omega))⟩
  ·have := hb.cell 0; simpa using this
  ·have := hb.cell 1; simpa using this
  ·have := hb.cell 2; simpa using this
  ·have := hb.cell 3; simpa using this
  ·have := hb.cell 4; simpa using this
 have HZ := Lib.hid hz
 clear hbk hbl hz
 go_loopw [5, 6, 7] (fun v d i wr => PushRel l x W0 v d i wr) (fun _ _ i _ => l.length - (intOf i).toNat)
 case atStart => exact ⟨0, false, [], by omega, rfl, rfl, rfl, rfl, World.ownsRow_nil _ _ _ _, Below.refl _ _⟩
 case round =>
  obtain ⟨k, dn, outs, hk, rfl, rfl, hp, hol, hown, hB⟩ := hrel
  have HP := Lib.hid hp; clear hp
  have hok : outs.length < 4294967296 := by rw [hol]; split <;> omega
  have HOL := Lib.hid hol; clear hol
  have hbase := hB.size
  obtain ⟨⟨e0, e1, e2, e3, e4⟩, _⟩ := HBX.out wr hB
  have HO := Lib.hid hown; clear hown
  have HB := Lib.hid hB
  by_cases hlt : k < l.length
  ·obtain ⟨b, o, ha, _, hb, hc⟩ := sl_elem (enc := vItem) vItem_len (by decide) HL.out hlt
   subst ha
   have HD : Hid (∀ W, Below W0.heap.size W0 W → W.cell? ⟨b, o + k * 5, none⟩ = some (.int .i64 l[k].seq) ∧ W.cell? ⟨b, o + k * 5 + 1, none⟩ = some (.string l[k].key) ∧ W.cell? ⟨b, o + k * 5 + 2, none⟩ = some (.string l[k].body) ∧ W.cell? ⟨b, o + k * 5 + 3, none⟩ = some (.bool l[k].again) ∧ W.cell? ⟨b, o + k * 5 + 4, none⟩ = some (.int .i64 l[k].deaths)) :=
    fun W hW => item_cells (wr := W) (b := b) (o := o) (k := k) (x := l[k]) fun j u hu => ((HBX.out W hW).2.cell (p := ⟨b, _, none⟩) hb).trans (hc j u hu)
   obtain ⟨d0, d1, d2, d3, d4⟩ := HD.out wr hB
   clear hc hB
   have HDK : Hid (l.drop k = l[k] :: l.drop (k + 1)) := List.drop_eq_getElem_cons hlt
   generalize hy : l[k] = y at *
   clear hy
   have hok3 : (outs ++ [x]).length < 4294967296 := by have := HOL.out; simp; split at this <;> omega
   have hgx : 0 ≤ k := Nat.zero_le _
   cases dn
   ·by_cases hs : x.seq < y.seq
    ·have HN : Hid ((outs ++ [x]) ++ [y] ++ l.drop (k + 1) = pushL l x) := by
      refine (?_ : (outs ++ [x]) ++ [y] ++ l.drop (k + 1) = pushL l x)
      rw [← HP.out, HDK.out]
      simp [pushL, hs]
     go_wp2_with fail
     go_quiet (fail)
     all_goals
      generalize hW1 : World.drewN wr _ = W1 at *
      have hB1 : Below wr.heap.size wr W1 := by rw [← hW1]; exact below_draws (Below.refl _ _) _
      clear hW1 e0 e1 e2 e3 e4 d0 d1 d2 d3 d4
      have HO1 := Lib.hid (own_below HO.out hB1)
      have HB1 := Lib.hid (HB.out.trans (hB1.mono HB.out.size))
      have hb1 := HB1.out.size
      obtain ⟨⟨e0, e1, e2, e3, e4⟩, _⟩ := HBX.out W1 HB1.out
      obtain ⟨d0, d1, d2, d3, d4⟩ := HD.out W1 HB1.out
      clear hB1
      go_wp2_with (first
       | (at_builtin; refine append1 rfl _ _ 50 rfl W0.heap.size 52 infoItem Tryz.underlying50 rfl (by decide) (by decide) W1 _ _ _ rfl HO1.out (vItem x) rfl rfl rfl (vItem_one _) hok hb1 ?_; intro v2 w2 hown' hgrow; have HO2 := Lib.hid (own_snoc hown'); have HB2 := Lib.hid (below_own HO1.out hgrow HB1.out (Nat.le_refl _) hb1); have hb2 := HB2.out.size; have hf2 := (HD.out w2 HB2.out); obtain ⟨f02, f12, f22, f32, f42⟩ := hf2; clear hown' hgrow)
       | (at_builtin; refine append1 rfl _ _ 50 rfl W0.heap.size 52 infoItem Tryz.underlying50 rfl (by decide) (by decide) w2 _ _ _ rfl HO2.out (vItem y) rfl rfl rfl (vItem_one _) hok3 hb2 ?_; intro v3 w3 hown' hgrow; have HO3 := Lib.hid (own_snoc hown'); have HB3 := Lib.hid (below_own HO2.out hgrow HB2.out (Nat.le_refl _) hb2); have hb3 := HB3.out.size; have hf3 := (HD.out w3 HB3.out); obtain ⟨f03, f13, f23, f33, f43⟩ := hf3; clear hown' hgrow))
      exact ⟨⟨k + 1, true, outs ++ [x] ++ [y], hlt, by go_num, rfl, by rw [if_pos rfl]; exact HN.out, by have := HOL.out; simp at this; simp; omega, HO3.out, HB3.out⟩, by simp [intOf]; omega⟩
    ·have hs' : y.seq ≤ x.seq := by omega
     have HN : Hid (outs ++ [y] ++ pushL (l.drop (k + 1)) x = pushL l x) := by
      refine (?_ : outs ++ [y] ++ pushL (l.drop (k + 1)) x = pushL l x)
      rw [← HP.out, HDK.out]
      simp [pushL, hs]
     clear hs
     go_wp2_with fail
     go_quiet (fail)
     all_goals
      generalize hW1 : World.drewN wr _ = W1 at *
      have hB1 : Below wr.heap.size wr W1 := by rw [← hW1]; exact below_draws (Below.refl _ _) _
      clear hW1 e0 e1 e2 e3 e4 d0 d1 d2 d3 d4
      have HO1 := Lib.hid (own_below HO.out hB1)
      have HB1 := Lib.hid (HB.out.trans (hB1.mono HB.out.size))
      have hb1 := HB1.out.size
      obtain ⟨⟨e0, e1, e2, e3, e4⟩, _⟩ := HBX.out W1 HB1.out
      obtain ⟨d0, d1, d2, d3, d4⟩ := HD.out W1 HB1.out
      clear hB1
      go_wp2_with (first
       | (at_builtin; refine append1 rfl _ _ 50 rfl W0.heap.size 52 infoItem Tryz.underlying50 rfl (by decide) (by decide) W1 _ _ _ rfl HO1.out (vItem y) rfl rfl rfl (vItem_one _) hok hb1 ?_; intro v2 w2 hown' hgrow; have HO2 := Lib.hid (own_snoc hown'); have HB2 := Lib.hid (below_own HO1.out hgrow HB1.out (Nat.le_refl _) hb1); have hb2 := HB2.out.size; have hf2 := (HD.out w2 HB2.out); obtain ⟨f02, f12, f22, f32, f42⟩ := hf2; clear hown' hgrow))
      exact ⟨⟨k + 1, false, outs ++ [y], hlt, by go_num, rfl, by rw [if_neg Bool.false_ne_true]; exact HN.out, by have := HOL.out; simp at this; simp; omega, HO2.out, HB2.out⟩, by simp [intOf]; omega⟩
   ·have HN : Hid (outs ++ [y] ++ l.drop (k + 1) = pushL l x) := by
     refine (?_ : outs ++ [y] ++ l.drop (k + 1) = pushL l x)
     rw [← HP.out, HDK.out]
     simp
    go_wp2_with fail
    go_quiet (fail)
    all_goals
     generalize hW1 : World.drewN wr _ = W1 at *
     have hB1 : Below wr.heap.size wr W1 := by rw [← hW1]; exact below_draws (Below.refl _ _) _
     clear hW1 e0 e1 e2 e3 e4 d0 d1 d2 d3 d4
     have HO1 := Lib.hid (own_below HO.out hB1)
     have HB1 := Lib.hid (HB.out.trans (hB1.mono HB.out.size))
     have hb1 := HB1.out.size
     obtain ⟨⟨e0, e1, e2, e3, e4⟩, _⟩ := HBX.out W1 HB1.out
     obtain ⟨d0, d1, d2, d3, d4⟩ := HD.out W1 HB1.out
     clear hB1
     go_wp2_with (first
      | (at_builtin; refine append1 rfl _ _ 50 rfl W0.heap.size 52 infoItem Tryz.underlying50 rfl (by decide) (by decide) W1 _ _ _ rfl HO1.out (vItem y) rfl rfl rfl (vItem_one _) hok hb1 ?_; intro v2 w2 hown' hgrow; have HO2 := Lib.hid (own_snoc hown'); have HB2 := Lib.hid (below_own HO1.out hgrow HB1.out (Nat.le_refl _) hb1); have hb2 := HB2.out.size; have hf2 := (HD.out w2 HB2.out); obtain ⟨f02, f12, f22, f32, f42⟩ := hf2; clear hown' hgrow))
     exact ⟨⟨k + 1, true, outs ++ [y], hlt, by go_num, rfl, by rw [if_pos rfl]; exact HN.out, by have := HOL.out; simp at this; simp; omega, HO2.out, HB2.out⟩, by simp [intOf]; omega⟩
  ·obtain rfl : k = l.length := by omega
   have HNIL : Hid (l.drop l.length = []) := List.drop_eq_nil_of_le (Nat.le_refl _)
   have hwz : w.heap.size ≤ W0.heap.size := by have := HZ.out; omega
   cases dn
   ·have HN : Hid (outs ++ [x] = pushL l x) := by
     refine (?_ : outs ++ [x] = pushL l x)
     rw [← HP.out, HNIL.out]
     rfl
    clear hB
    go_wp2_with (at_builtin; refine append1 rfl _ _ 50 rfl W0.heap.size 52 infoItem Tryz.underlying50 rfl (by decide) (by decide) wr _ _ _ rfl HO.out (vItem x) rfl rfl rfl (vItem_one _) hok hbase ?_; intro v2 w2 hown' hgrow; have HO2 := Lib.hid (own_snoc hown'); have HB2 := Lib.hid (below_own HO.out hgrow HB.out (Nat.le_refl _) hbase); clear hown' hgrow)
    go_ret
    exact ⟨_, rfl, by rw [← HN.out]; exact own_mono HO2.out hwz, (HBX.out _ HB2.out).2⟩
   ·have HN : Hid (outs = pushL l x) := by
     refine (?_ : outs = pushL l x)
     rw [← HP.out, HNIL.out]
     simp
    clear hB
    go_wp2_with fail
    go_ret
    exact ⟨_, rfl, by rw [← HN.out]; exact own_mono HO.out hwz, (HBX.out _ HB.out).2⟩
end Go.Proofs.YtaanpcjkflhomaaGreatDoor
