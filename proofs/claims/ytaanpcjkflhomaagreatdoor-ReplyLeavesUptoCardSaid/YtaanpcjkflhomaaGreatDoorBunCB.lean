/-
  The reference's outAt, without, AckOf.
  The reference's AckOf.
  The reference's RejectOf.
-/
import Derived.Test.YtaanpcjkflhomaaGreatDoorBunCA
import Derived.Test.YtaanpcjkflhomaaGreatDoorBunG
import Derived.Test.YtaanpcjkflhomaaGreatDoorBunH
import Derived.Test.YtaanpcjkflhomaaGreatDoorLinesGA
import Derived.Test.YtaanpcjkflhomaaGreatDoorCuts
import Derived.Test.YtaanpcjkflhomaaGreatDoorBunA
import Derived.Test.YtaanpcjkflhomaaGreatDoorBunBB
set_option linter.unusedSimpArgs false
set_option linter.unusedVariables false
namespace Go.Proofs.YtaanpcjkflhomaaGreatDoor
open Go Go.RowKit
set_option maxRecDepth 100000
def outI (s : StateD) (tag : Int) : Int := idxOf (fun x : OutD => decide (x.tag = tag)) s.outs
set_option maxHeartbeats 1000000 in
theorem outAt_any (s : StateD) (a1 a2 a3 : Option Addr) (c1 c2 c3 : Nat) (tag : Int) (lo : Nat) (w : World) (ho : Sl w lo w.heap.size a2 (s.outs.flatMap vOut)) (hl : s.outs.length ≤ 1048576) :
  Calls Tryz.prog 51 #[stateV s a1 a2 a3 c1 c2 c3, .int .i64 tag] w fun e w' => e = .returned (.int .i64 (outI s tag)) ∧ Below w.heap.size w w' := by
 have hbx := boxedS_new w s a1 a2 a3 c1 c2 c3 31
 have ho0 := (ho.below ((Below.refl _ w).alloc (Nat.le_refl _) (.cells (vState s a1 a2 a3 c1 c2 c3) 31)) (Nat.le_refl _)).wider (lo' := 0) (hi' := (w.alloc (.cells (vState s a1 a2 a3 c1 c2 c3) 31)).heap.size) (Nat.zero_le _) (by simp)
 have HO := Lib.hid ho0
 have hbb : Hid (BoxedS w (w.alloc (.cells (vState s a1 a2 a3 c1 c2 c3) 31)) s a1 a2 a3 c1 c2 c3) := hbx
 clear hbx ho ho0
 unfold stateV outI
 unfold vState at *
 go_enter Tryz.func51, Tryz.ntmps51
 go_wp2_with fail
 generalize w.alloc (.cells #[Value.slice a1 s.ready.length c1, Value.slice a2 s.outs.length c2, Value.slice a3 s.takers.length c3, Value.int IntKind.i64 s.nextSeq, Value.int IntKind.i64 s.nextTag, Value.int IntKind.i64 s.came, Value.int IntKind.i64 s.acked, Value.int IntKind.i64 s.dropped] 31) = W0 at *
 generalize hou : s.outs = l at *
 go_loopw [5] (fun i wr => IdxRel (fun x : OutD => decide (x.tag = tag)) l W0.heap.size W0 i wr) (fun i _ => l.length - (intOf i).toNat)
 case atStart => exact ⟨0, by omega, rfl, Below.refl _ _, fun j x hj => absurd hj (by omega)⟩
 case round =>
  obtain ⟨k, hk, rfl, hB, hall⟩ := hrel
  have HA := Lib.hid hall
  have HB := Lib.hid hB
  obtain ⟨⟨_, f1, _⟩, _⟩ := hbb.out _ hB
  rw [hou] at f1
  clear hall
  by_cases hlt : k < l.length
  ·obtain ⟨b, o, ha, _, hb, hc⟩ := sl_elem vOut_len (by decide) HO.out hlt
   subst ha
   obtain ⟨e0, e1, e2, e3, e4, e5, e6, e7⟩ := out_cells (wr := wr) (b := b) (o := o) (k := k) (x := l[k]) fun j u hu => (hB.cell (p := ⟨b, _, none⟩) hb).trans (hc j u hu)
   have HST := Lib.hid (fun h => idxRel_step HA.out hlt h HB.out)
   have HHT := Lib.hid (fun h => idxOf_hit HA.out hlt h)
   clear hc hB
   generalize l[k] = x at *
   by_cases hq : x.tag = tag
   ·have hqb : (x.tag == tag) = true := by simp [hq]
    have HQ := Lib.hid (HHT.out (by simpa using hq))
    clear hq HHT HST
    go_wp2_with fail
    go_ret
    exact ⟨by rw [HQ.out]; rfl, (hbb.out _ HB.out).2⟩
   ·have hqb : (x.tag == tag) = false := by simp [hq]
    have HQ := Lib.hid (HST.out (by simpa using hq))
    clear hq HHT HST
    go_wp2_with fail
    exact ⟨HQ.out, by simp [intOf]; omega⟩
  ·have HQ := Lib.hid (idxOf_miss HA.out (by omega))
   clear hB
   go_wp2_with fail
   go_ret
   exact ⟨by rw [HQ.out]; rfl, (hbb.out _ HB.out).2⟩
theorem zeroO_wp {W : World} {o : Oper} {a : Act} {K : Act → World → Prop} {Q : Exit → Act → World → Prop} (s x : Operand) (ho : o.op = .call { callee := .builtin .append, args := #[s, x], argTypes := #[28, 28] }) {b0 : Addr} {ad : Option Addr} {m c B lo hi : Nat} {news : List OutD} (hs : a.eval s = .slice (some b0) 0 0) (hx : a.eval x = .slice ad m c)
  (hz : W.ownsRow B 77 8 (.slice (some b0) 0 0) 0 []) (hsl : Sl W lo hi ad (news.flatMap vOut)) (hm : news.length ≤ 1048576) (hBW : B ≤ W.heap.size) (hmn : m = news.length)
  (h : ∀ v' w', w'.ownsRow B 77 8 v' m (news.flatMap vOut) → Below W.heap.size W w' → K (a.put o.dst v') w') : o.wp Tryz.prog a W K Q := by
 subst hmn
 obtain ⟨v', w', hr, hb, hx'⟩ := run_append_zero (P := Tryz.prog) W 28 o.type 77 Tryz.underlying28 infoOut rfl (by decide) (by decide) b0 lo hi ad news.length c (news.flatMap vOut) (flat_len vOut_len _) hsl (by omega)
 refine Lib.wp_append_run W s x _ _ ho _ _ hs hx _ _ hr (h _ w' ?_ hb)
 rcases hx' with ⟨_, h1⟩ | ⟨h0, rfl, rfl⟩
 ·exact own_mono h1 hBW
 ·have : news = [] := List.eq_nil_of_length_eq_zero h0
  subst this
  exact hz
theorem rowsO_wp {W : World} {B : Nat} {o : Oper} {a : Act} {K : Act → World → Prop} {Q : Exit → Act → World → Prop} (s x : Operand) (ho : o.op = .call { callee := .builtin .append, args := #[s, x], argTypes := #[28, 28] }) {v : Value} {n : Nat} {us : List Value} (hs : a.eval s = v) (hown : W.ownsRow B 77 8 v n us)
  {ad : Option Addr} {m c lo hi : Nat} {news : List OutD} (hx : a.eval x = .slice ad m c) (hmn : m = news.length) (hsl : Sl W lo hi ad (news.flatMap vOut)) (hm : n + m ≤ 4294967296) (hBW : B ≤ W.heap.size)
  (h : ∀ v' w', w'.ownsRow B 77 8 v' (n + m) (us ++ news.flatMap vOut) → W.grownBy w' v.ownBlock → K (a.put o.dst v') w') : o.wp Tryz.prog a W K Q := by
 subst hmn
 obtain ⟨v', w', hr, ho', hg⟩ := run_appendS (P := Tryz.prog) W B 28 o.type 77 Tryz.underlying28 infoOut rfl (by decide) (by decide) v n us hown lo hi ad news.length c (news.flatMap vOut) (flat_len vOut_len _) hsl (outs_ones news) hm hBW
 exact Lib.wp_append_run W s x _ _ ho _ _ hs hx _ _ hr (h _ w' ho' hg)
theorem bk_keep {w w' : World} {B g : Nat} {t : TypeId} {cs : Array Value} (h : Bk w g t cs ∧ g < B) (hb : Below B w w') : Bk w' g t cs := h.1.below hb h.2
set_option maxHeartbeats 8000000 in
theorem without_any (s : StateD) (k : Nat) (hk : k < s.outs.length) (a1 a2 a3 : Option Addr) (c1 c2 c3 : Nat) (rows : List RowD) (w : World) (hs : StateAt w 0 w.heap.size a1 a2 a3 rows s) (hss : StateSmall s) (hcap : s.outs.length ≤ c2) :
  Calls Tryz.prog 52 #[stateV s a1 a2 a3 c1 c2 c3, .int .i64 (k : Int)] w fun e w' => ∃ v1 v2 v3 rows', e = .returned (.agg (ownV (withoutS s k) v1 v2 v3)) ∧ HeldAt w' w.heap.size v1 v2 v3 rows' (withoutS s k) ∧ Below w.heap.size w w' := by
 have hbx := boxedS_new w s a1 a2 a3 c1 c2 c3 31
 have hol := hss.outs
 have HSS := Lib.hid hss
 have HS := Lib.hid hs
 have HCAP := Lib.hid hcap
 clear hs hss hcap
 unfold stateV
 unfold vState at *
 obtain ⟨V0, hV0⟩ : ∃ V0, w.alloc (.cells #[Value.slice a1 s.ready.length c1, Value.slice a2 s.outs.length c2, Value.slice a3 s.takers.length c3, Value.int IntKind.i64 s.nextSeq, Value.int IntKind.i64 s.nextTag, Value.int IntKind.i64 s.came, Value.int IntKind.i64 s.acked, Value.int IntKind.i64 s.dropped] 31) = V0 := ⟨_, rfl⟩
 have ks0 : Bk V0 w.heap.size 31 #[Value.slice a1 s.ready.length c1, Value.slice a2 s.outs.length c2, Value.slice a3 s.takers.length c3, Value.int IntKind.i64 s.nextSeq, Value.int IntKind.i64 s.nextTag, Value.int IntKind.i64 s.came, Value.int IntKind.i64 s.acked, Value.int IntKind.i64 s.dropped] := by rw [← hV0]; exact Bk.new _ _ _
 have hb0 : Below w.heap.size w V0 := by rw [← hV0]; exact (Below.refl _ _).alloc (Nat.le_refl _) _
 have hz0 : V0.heap.size = w.heap.size + 1 := by rw [← hV0]; simp
 obtain ⟨W1, hW1⟩ : ∃ W1, V0.alloc (.cells #[.slice none 0 0, .slice none 0 0, .slice none 0 0, .int .i64 0, .int .i64 0, .int .i64 0, .int .i64 0, .int .i64 0] 31) = W1 := ⟨_, rfl⟩
 have kz1 : Bk W1 V0.heap.size 31 zeroCells := by rw [← hW1]; exact Bk.new _ _ _
 have hb1 : Below V0.heap.size V0 W1 := by rw [← hW1]; exact (Below.refl _ _).alloc (Nat.le_refl _) _
 have ks1 := ks0.below hb1 ks0.lt
 have hb01 := hb0.trans (hb1.mono hb0.size)
 obtain ⟨n0, n1, n2, n3, n4, n5, n6, n7, _, _, _, _, _, _, _, _, _⟩ := zero_cells ks1
 have HKS1 := Lib.hid ks1
 have HKZ1 := Lib.hid kz1
 have HB1 := Lib.hid hb01
 have HV0 := Lib.hid hb0.size
 have hst1 := HS.out.below hb01 (Nat.le_refl _)
 have HOWN := Lib.hid (OwnState_any s a1 a2 a3 c1 c2 c3 rows W1 (hst1.wider (Nat.le_refl _) hb01.size) HSS.out)
 have HST1 := Lib.hid hst1
 clear hbx ks0 ks1 kz1 hb0 hb1 hb01 hst1 hz0
 go_enter Tryz.func52, Tryz.ntmps52
 go_wp2_with fail
 clear hV0 hW1
 have hcall := HOWN.out
 unfold stateV vState at hcall
 refine hcall.mono ?_
 clear hcall HOWN n0 n1 n2 n3 n4 n5 n6 n7
 rintro e W2 ⟨v1, v2, v3, rows2, rfl, ho2, hb2⟩
 obtain ⟨A1, C1, rfl, _⟩ := own_slice ho2.ready
 obtain ⟨A2, C2, rfl, _⟩ := own_slice ho2.outs
 obtain ⟨A3, C3, rfl, _⟩ := own_slice ho2.takers
 unfold ownV
 go_upto_region 2 with fail
 obtain ⟨X3, hX3⟩ : ∃ X3, W2.alloc (.cells #[.slice A1 s.ready.length C1, .slice A2 s.outs.length C2, .slice A3 s.takers.length C3, .int .i64 s.nextSeq, .int .i64 s.nextTag, .int .i64 s.came, .int .i64 s.acked, .int .i64 s.dropped] 31) = X3 := ⟨_, rfl⟩
 have kb3 : Bk X3 W2.heap.size 31 (ownV s (.slice A1 s.ready.length C1) (.slice A2 s.outs.length C2) (.slice A3 s.takers.length C3)) := by rw [← hX3]; exact Bk.new _ _ _
 have hb3 : Below W2.heap.size W2 X3 := by rw [← hX3]; exact (Below.refl _ _).alloc (Nat.le_refl _) _
 have ho3 := (ho2.below hb3).held
 have hb13 := hb2.trans (hb3.mono hb2.size)
 have HKS : Hid (Bk X3 w.heap.size 31 #[Value.slice a1 s.ready.length c1, Value.slice a2 s.outs.length c2, Value.slice a3 s.takers.length c3, Value.int IntKind.i64 s.nextSeq, Value.int IntKind.i64 s.nextTag, Value.int IntKind.i64 s.came, Value.int IntKind.i64 s.acked, Value.int IntKind.i64 s.dropped] ∧ w.heap.size < W1.heap.size) := Lib.hid ⟨HKS1.out.below hb13 HKS1.out.lt, HKS1.out.lt⟩
 have HKZ : Hid (Bk X3 V0.heap.size 31 zeroCells ∧ V0.heap.size < W1.heap.size) := Lib.hid ⟨HKZ1.out.below hb13 HKZ1.out.lt, HKZ1.out.lt⟩
 have HKB := Lib.hid kb3
 have HO3 := Lib.hid ho3
 have HLE := Lib.hid hb13.size
 have HLB := Lib.hid hb2.size
 have HB3 := Lib.hid (HB1.out.trans (hb13.mono HB1.out.size))
 have HSA : Hid (∀ W, Below X3.heap.size X3 W → Sl W 0 w.heap.size a2 (s.outs.flatMap vOut)) := Lib.hid fun W hW => (HS.out.below (HB3.out.trans (hW.mono HB3.out.size)) (Nat.le_refl _)).outs
 rw [hX3]
 clear hX3 kb3 hb3 ho2 ho3 hb2 hb13 HKS1 HKZ1
 have hN : Below X3.heap.size X3 X3.drew := (Below.refl _ _).drew
 have hhi := fun W => run_cutHi (P := Tryz.prog) (t := 28) (size := 8) Tryz.underlying28 eg_sizeOut a2 s.outs.length c2 k (k : Int) rfl (by have := HCAP.out; omega) W
 have hcut := fun W => run_cut (P := Tryz.prog) (t := 28) (size := 8) Tryz.underlying28 eg_sizeOut a2 s.outs.length c2 (k + 1) ((k : Int) + 1) (by omega) (by omega) W
 have hwr : IntKind.i64.wrap ((k : Int) + 1) = (k : Int) + 1 := IntWalk.i64_in _ (by omega)
 refine wp_region_held_drew (S := (fun W => W.cell? ⟨w.heap.size, 1, none⟩ = some (.slice a2 s.outs.length c2))) (by kernel_rfl) ((HKS.out.1.dr).cell 1) (fun hHeld => ?_)
 generalize X3.drew = Wd at *
 first | (refine wpAnyH_take (i := 1) (v := ?_) rfl (by kernel_rfl) (by kernel_rfl) (by kernel_rfl) (fun _ _ _ h => h) (Or.inl ⟨by rfl, ?_⟩) (by assumption) ?_; rotate_left; focus (intro w hSw; (try dsimp only at hSw); go_simp; (all_goals with_reducible rfl); done)) | fail "op 1"
 try simp only [Act.put, zA, zB, zC, zD, zE]
 first | (refine wpAnyH_take (i := 2) (v := ?_) rfl (by kernel_rfl) (by kernel_rfl) (by kernel_rfl) (fun _ _ _ h => h) (Or.inl ⟨by rfl, ?_⟩) (by assumption) ?_; rotate_left; focus (intro w hSw; (try dsimp only at hSw); go_simp; (all_goals with_reducible rfl); done)) | fail "op 2"
 try simp only [Act.put, zA, zB, zC, zD, zE, zF]
 first | (refine wpAnyH_take (i := 3) (v := ?_) rfl (by kernel_rfl) (by kernel_rfl) (by kernel_rfl) (fun _ _ _ h => h) (Or.inl ⟨by rfl, ?_⟩) (by assumption) ?_; rotate_left; focus (intro w hSw; (try dsimp only at hSw); go_simp; (all_goals with_reducible rfl); done)) | fail "op 3"
 try simp only [Act.put, zA, zB, zC, zD, zE, zF]
 first | (refine wpAnyH_take (i := 4) (v := ?_) rfl (by kernel_rfl) (by kernel_rfl) (by kernel_rfl) (fun _ _ _ h => h) (Or.inl ⟨by rfl, ?_⟩) (by assumption) ?_; rotate_left; focus (intro w hSw; (try dsimp only at hSw); go_simp; (all_goals with_reducible rfl); done)) | fail "op 4"
 try simp only [Act.put, zA, zB, zC, zD, zE, zF]
 first | (refine wpAnyH_take (i := 6) (v := ?_) rfl (by kernel_rfl) (by kernel_rfl) (by kernel_rfl) (fun _ _ _ h => h) (Or.inl ⟨by rfl, ?_⟩) (by assumption) ?_; rotate_left; focus (intro w hSw; (try dsimp only at hSw); go_simp; (all_goals with_reducible rfl); done)) | fail "op 6"
 try simp only [Act.put, zA, zB, zC, zD, zE, zF]
 first | (refine wpAnyH_take (i := 7) (v := ?_) rfl (by kernel_rfl) (by kernel_rfl) (by kernel_rfl) (fun _ _ _ h => h) (Or.inl ⟨by rfl, ?_⟩) (by assumption) ?_; rotate_left; focus (intro w hSw; (try dsimp only at hSw); go_simp; (all_goals with_reducible rfl); done)) | fail "op 7"
 try simp only [Act.put, zA, zB, zC, zD, zE, zF]
 first | (refine wpAnyH_take (i := 8) (v := ?_) rfl (by kernel_rfl) (by kernel_rfl) (by kernel_rfl) (fun _ _ _ h => h) (Or.inl ⟨by rfl, ?_⟩) (by assumption) ?_; rotate_left; focus (intro w hSw; (try dsimp only at hSw); go_simp; (all_goals with_reducible rfl); done)) | fail "op 8"
 try simp only [Act.put, zA, zB, zC, zD, zE, zF]
 first | (refine wpAnyH_take (i := 9) (v := ?_) rfl (by kernel_rfl) (by kernel_rfl) (by kernel_rfl) (fun _ _ _ h => h) (Or.inl ⟨by rfl, ?_⟩) (by assumption) ?_; rotate_left; focus (intro w hSw; (try dsimp only at hSw); go_simp; (all_goals with_reducible rfl); done)) | fail "op 9"
 try simp only [Act.put, zA, zB, zC, zD, zE, zF]
 first | (refine wpAnyH_take (i := 10) (v := ?_) rfl (by kernel_rfl) (by kernel_rfl) (by kernel_rfl) (fun _ _ _ h => h) (Or.inl ⟨by rfl, ?_⟩) (by assumption) ?_; rotate_left; focus (intro w hSw; (try dsimp only at hSw); go_simp; (all_goals with_reducible rfl); done)) | fail "op 10"
 try simp only [Act.put, zA, zB, zC, zD, zE, zF]
 refine wpAnyH_ready (rs := [0]) (by kernel_rfl) (by simp) ?_
 refine AllReadyH.cons rfl (fun K hK => ?_) AllReadyH.nil
 go_simp
 generalize hW5 : World.alloc _ (Obj.cells _ _) = W5
 have hN5 : Below X3.heap.size X3 W5 := by rw [← hW5]; exact hN.alloc hN.size _
 have hZ5 : Hid (W5.ownsRow W1.heap.size 77 8 (.slice (some ⟨Wd.heap.size, 0, none⟩) 0 0) 0 []) := by
  rw [← hW5]
  exact Lib.hid (World.ownsRow_lit _ #[] 0 (Nat.le_trans HLE.out hN.size) (by decide) rfl)
 have HN5 := Lib.hid hN5
 clear hW5 hN5
 refine hK.out _ _ (by exact (bk_keep HKS.out (HN5.out.mono HLE.out)).cell 1) (fun hHeld => ?_)
 clear hK K
 try simp only [Act.put, zA, zB, zC, zD, zE, zF]
 refine wpAnyH_ready (rs := [5]) (by kernel_rfl) (by simp) ?_
 refine AllReadyH.cons rfl (fun K hK => ?_) AllReadyH.nil
 rw [if_pos (by rfl)]
 refine zeroO_wp (.tmp 8) (.tmp 12) rfl (news := s.outs.take k) rfl rfl hZ5.out ((HSA.out _ HN5.out).take _ |> fun h => by rw [flat_takeN vOut_len] at h; exact h) (by rw [List.length_take]; omega) (Nat.le_trans HLE.out HN5.out.size) (by rw [List.length_take]; omega) ?_
 intro v6 W6 ho6 hb6
 have HO6 := Lib.hid (And.intro ho6 (HN5.out.trans (hb6.mono HN5.out.size)))
 clear ho6 hb6
 refine hK.out _ _ (by exact (bk_keep HKS.out (HO6.out.2.mono HLE.out)).cell 1) (fun hHeld => ?_)
 clear hK K
 try simp only [Act.put, zA, zB, zC, zD, zE, zF]
 refine wpAnyH_ready (rs := [11]) (by kernel_rfl) (by simp) ?_
 refine AllReadyH.cons rfl (fun K hK => ?_) AllReadyH.nil
 rw [if_pos (by rfl)]
 refine rowsO_wp (.tmp 13) (.tmp 18) rfl rfl HO6.out.1 (news := s.outs.drop (k + 1)) rfl (by rw [List.length_drop]) ((HSA.out _ HO6.out.2).cut (k := k + 1) (n := s.outs.length) (cap := c2) (flat_len vOut_len _) (by omega) HCAP.out |> fun h => by rw [flat_dropN vOut_len] at h; exact h) (by omega) (Nat.le_trans HLE.out HO6.out.2.size) ?_
 intro v7 W7 ho7 hg7
 obtain ⟨A7, C7, rfl, hc7⟩ := own_slice ho7
 have hbl7 : Below W1.heap.size X3 W7 := below_own HO6.out.1 hg7 (HO6.out.2.mono HLE.out) (Nat.le_refl _) (Nat.le_trans HLE.out HO6.out.2.size)
 have hk7 : KeepsT [77] X3 W7 := (KeepsT.of_below (ts := []) HO6.out.2).more (by simp) |>.trans (KeepsT.grown HO6.out.1 hg7 (by simp))
 have hkb := hk7 _ _ _ (by decide) HKB.out
 have y1 := hkb.cell 1
 have yf := hkb.frozen 1
 have yl := hkb.lt
 simp only [ownV, List.getElem?_toArray, List.getElem?_cons_zero, List.getElem?_cons_succ] at y1
 have e7 := (bk_keep HKS.out hbl7).cell 1
 have HO7 := Lib.hid (And.intro ho7 (And.intro hbl7 hk7))
 have HC7 := Lib.hid hc7
 clear ho7 hg7 hbl7 hk7 hkb hc7
 refine hK.out _ _ (by exact e7) (fun hHeld => ?_)
 clear hK K
 try simp only [Act.put, zA, zB, zC, zD, zE, zF]
 first | (refine wpAnyH_take (i := 12) (v := ?_) rfl (by kernel_rfl) (by kernel_rfl) (by kernel_rfl) (fun _ _ _ h => h) (Or.inl ⟨by rfl, ?_⟩) (by assumption) ?_; rotate_left; focus (intro w hSw; (try dsimp only at hSw); go_simp; (all_goals with_reducible rfl); done)) | fail "op 12"
 try simp only [Act.put, zA, zB, zC, zD, zE, zF]
 refine wpAnyH_ready (rs := [13]) (by kernel_rfl) (by simp) ?_
 refine AllReadyH.cons rfl (fun K hK => ?_) AllReadyH.nil
 go_simp
 obtain ⟨W8, hW8⟩ : ∃ W8, W7.setCell ⟨W2.heap.size, 1, none⟩ (.slice A7 (k + (s.outs.length - (k + 1))) C7) = W8 := ⟨_, rfl⟩
 have hbl8 := HO7.out.2.1.setCell (p := ⟨W2.heap.size, 1, none⟩) HLB.out (.slice A7 (k + (s.outs.length - (k + 1))) C7)
 have kw8 : Bk W8 W2.heap.size 31 (ownV (withoutS s k) (.slice A1 s.ready.length C1) (.slice A7 (k + (s.outs.length - (k + 1))) C7) (.slice A3 s.takers.length C3)) := by rw [← hW8]; exact (HO7.out.2.2 _ _ _ (by decide) HKB.out).set_ 1 _
 have kt8 := KeepsT.set (HO7.out.2.2 _ _ _ (by decide) HKB.out) (ts := [31]) (by decide) 1 (.slice A7 (k + (s.outs.length - (k + 1))) C7)
 have ho8 := HO7.out.1
 rw [← List.flatMap_append, ← List.eraseIdx_eq_take_drop_succ] at ho8
 have hn8 : k + (s.outs.length - (k + 1)) = (s.outs.eraseIdx k).length := by rw [List.length_eraseIdx_of_lt hk]; omega
 rw [hW8] at hbl8 kt8
 have hH8 : HeldAt W8 W1.heap.size (.slice A1 s.ready.length C1) (.slice A7 (k + (s.outs.length - (k + 1))) C7) (.slice A3 s.takers.length C3) rows2 (withoutS s k) := (HO3.out.outsTo HO7.out.2.2 (by rw [← hn8]; exact ho8)).kept kt8
 have e13 := (bk_keep HKS.out hbl8).cell 1
 have HF8 := Lib.hid (And.intro hH8 (And.intro kw8 hbl8))
 rw [hW8]
 clear hbl8 kw8 kt8 ho8 hn8 hH8 y1 yf yl hW8
 refine hK.out _ _ (by exact e13) (fun hHeld => ?_)
 clear hK K
 try simp only [Act.put, zA, zB, zC, zD, zE, zF]
 refine wpAnyH_done (by kernel_rfl) ?_ _
 clear hHeld
 obtain ⟨g0, g1, g2, g3, g4, g5, g6, g7, _, _, _, _, _, _, _, _, _⟩ := zero_cells HF8.out.2.1
 have hzk := bk_keep HKZ.out HF8.out.2.2
 have HZS := Lib.hid hzk
 unfold zeroCells at hzk
 obtain ⟨k0, k1, k2, k3, k4, k5, k6, k7, f0, f1, f2, f3, f4, f5, f6, f7, hlt⟩ := zero_cells hzk
 clear hzk e7 e13
 go_wp2_with fail
 refine bodyPost_ret (v := .agg (ownV (withoutS s k) (.slice A1 s.ready.length C1) (.slice A7 (k + (s.outs.length - (k + 1))) C7) (.slice A3 s.takers.length C3))) (by simp [results, Tryz.results52, go_sem, ownV, withoutS, k0, k1, k2, k3, k4, k5, k6, k7, hlt]) rfl ?_
 have hfin := HF8.out.1.kept (KeepsT.set8 HZS.out (ts := [31]) (by decide) (.slice A1 s.ready.length C1) (.slice A7 (k + (s.outs.length - (k + 1))) C7) (.slice A3 s.takers.length C3) (.int .i64 s.nextSeq) (.int .i64 s.nextTag) (.int .i64 s.came) (.int .i64 s.acked) (.int .i64 s.dropped))
 exact ⟨_, _, _, rows2, rfl, hfin.wider HB1.out.size, below_set8 (HB3.out.trans (HF8.out.2.2.mono HB1.out.size)) HV0.out _ _ _ _ _ _ _ _⟩
open Go Go.RowKit
set_option maxRecDepth 100000
set_option maxHeartbeats 8000000 in
theorem AckOf_any (p : PlanD) (s : StateD) (tag : Int) (p1 p2 p3 a1 a2 a3 : Option Addr) (q1 q2 q3 c1 c2 c3 : Nat) (rows : List RowD) (w : World) (hE : Env w) (hp : PlanAt w 0 w.heap.size p1 p2 p3 p) (hps : PlanSmall p) (hs : StateAt w 0 w.heap.size a1 a2 a3 rows s) (hss : StateSmall s) (hsi : StateInts s) (hcap : s.outs.length ≤ c2) :
  Calls Tryz.prog 17 #[planV p p1 p2 p3 q1 q2 q3, stateV s a1 a2 a3 c1 c2 c3, .int .i64 tag] w (StPostC (ackS p s tag) (ackErr p s tag) w) := by
 have HCAP := Lib.hid hcap
 clear hcap
 have hbx := two_boxes q1 q2 q3 c1 c2 c3 hE hp hs 26 31
 unfold vState at hbx
 unfold stateV planV vState
 have htl := hss.takers
 have HPS := Lib.hid hps
 have HSS := Lib.hid hss
 have HSI := Lib.hid hsi
 clear hE hp hs hps hss hsi
 go_enter Tryz.func17, Tryz.ntmps17
 obtain ⟨⟨m0, m1, m2⟩, ⟨n0, n1, n2, n3, n4, n5, n6, n7⟩, _, _, _, _⟩ := hbx _ ((Below.refl _ _).alloc (Nat.le_refl _) (.cells #[.slice none 0 0, .slice none 0 0, .slice none 0 0, .int .i64 0, .int .i64 0, .int .i64 0, .int .i64 0, .int .i64 0] 31))
 go_wp2_with fail
 clear m0 m1 m2 n0 n1 n2 n3 n4 n5 n6 n7
 obtain ⟨V0, hV0⟩ : ∃ V0, ((w.alloc (.cells #[.slice p1 p.posts.length q1, .slice p2 p.queues.length q2, .slice p3 p.binds.length q3] 26)).alloc (.cells #[Value.slice a1 s.ready.length c1, Value.slice a2 s.outs.length c2, Value.slice a3 s.takers.length c3, Value.int IntKind.i64 s.nextSeq, Value.int IntKind.i64 s.nextTag, Value.int IntKind.i64 s.came, Value.int IntKind.i64 s.acked, Value.int IntKind.i64 s.dropped] 31)) = V0 := ⟨_, rfl⟩
 have hzV : V0.heap.size = w.heap.size + 1 + 1 := by rw [← hV0]; simp
 rw [hV0] at hbx
 have HBV := Lib.hid hbx
 obtain ⟨W0, hW0⟩ : ∃ W0, V0.alloc (.cells #[.slice none 0 0, .slice none 0 0, .slice none 0 0, .int .i64 0, .int .i64 0, .int .i64 0, .int .i64 0, .int .i64 0] 31) = W0 := ⟨_, rfl⟩
 have hbV : Below V0.heap.size V0 W0 := by rw [← hW0]; exact (Below.refl _ _).alloc (Nat.le_refl _) _
 have HZ : Hid (W0.heap.size = w.heap.size + 1 + 1 + 1) := by refine (?_ : W0.heap.size = _); rw [← hW0, ← hzV]; simp
 have HBX : Hid (∀ W, Below W0.heap.size W0 W → CkIn w p s p1 p2 p3 a1 a2 a3 q1 q2 q3 c1 c2 c3 rows W ∧ Bk W (w.heap.size + 1 + 1) 31 zeroCells) := fun W hW => by
  have k : Bk W0 (w.heap.size + 1 + 1) 31 zeroCells := by rw [← hW0]; exact Bk.new_at _ _ _ hzV.symm
  exact ⟨HBV.out W (hbV.trans (hW.mono hbV.size)), k.below hW k.lt⟩
 rw [hV0, hW0]
 clear hbx hbV hzV HBV hV0 hW0
 have hcall := CheckState_any p s p1 p2 p3 a1 a2 a3 q1 q2 q3 c1 c2 c3 rows W0 (HBX.out _ (Below.refl _ _)).1.env (HBX.out _ (Below.refl _ _)).1.planAt HPS.out (HBX.out _ (Below.refl _ _)).1.stateAt HSS.out HSI.out
 unfold stateV planV vState at hcall
 refine hcall.mono ?_
 clear hcall
 rintro e W1 ⟨rfl, hb1⟩
 have HB1 := Lib.hid hb1
 clear hb1
 by_cases hc : stateErr p s = 0
 ·have b1 : (stateErr p s != 0) = false := by simp [hc]
  have HC := Lib.hid hc
  have HRT := Lib.hid (right_iff.1 hc)
  clear hc
  obtain ⟨n0, n1, n2, n3, n4, n5, n6, n7⟩ := (HBX.out _ HB1.out).1.state
  go_wp2_with fail
  have hcall := outAt_any s a1 a2 a3 c1 c2 c3 tag 0 W1 (HBX.out _ HB1.out).1.stateAt.outs HSS.out.outs
  rw [show outI s tag = _ from idx_out s tag] at hcall
  unfold stateV vState at hcall
  refine hcall.mono ?_
  clear hcall n0 n1 n2 n3 n4 n5 n6 n7
  rintro e W2 ⟨rfl, hb2⟩
  have HB2 := Lib.hid (HB1.out.trans (hb2.mono HB1.out.size))
  clear hb2
  cases hk : outK s tag with
  | none =>
   have he : ackErr p s tag = 5 := by unfold ackErr; rw [if_neg (by rw [HC.out]; decide), if_pos hk]
   have HY := Lib.hid (And.intro (show ackS p s tag = zeroS by unfold ackS; rw [if_neg (by rw [he]; decide)]) he)
   clear he hk
   dsimp only
   have hzk := (HBX.out _ HB2.out).2
   unfold zeroCells at hzk
   obtain ⟨k0, k1, k2, k3, k4, k5, k6, k7, f0, f1, f2, f3, f4, f5, f6, f7, hlt⟩ := zero_cells hzk
   clear hzk
   go_wp2_with fail
   refine bodyPost_ret (v := .tuple #[stateV zeroS none none none 0 0 0, .int .i64 5]) (by simp [results, Tryz.results17, go_sem, stateV, vState, zeroS, k0, k1, k2, k3, k4, k5, k6, k7, hlt]) rfl ?_
   exact ⟨none, none, none, 0, 0, 0, [], by rw [HY.out.1, HY.out.2], by rw [HY.out.1]; exact held_zero _ _, below_set8 (HBX.out _ HB2.out).1.below (by omega) _ _ _ _ _ _ _ _⟩
  | some k =>
   obtain ⟨hkl, htg, hnt⟩ := outK_some hk
   clear htg hnt
   obtain ⟨he, hS, _⟩ := ack_done HRT.out hk
   have HY := Lib.hid (And.intro hS he)
   clear he hS hk
   have hac := count_in' HRT.out.acked
   have hwr : IntKind.i64.wrap (s.acked + 1) = s.acked + 1 := IntWalk.i64_in _ (by omega)
   have hk0 : ¬ (k : Int) < 0 := by omega
   dsimp only
   obtain ⟨n0, n1, n2, n3, n4, n5, n6, n7⟩ := (HBX.out _ HB2.out).1.state
   go_wp2_with fail
   have hcall := without_any s k hkl a1 a2 a3 c1 c2 c3 rows W2 (HBX.out _ HB2.out).1.stateAt HSS.out HCAP.out
   unfold stateV vState at hcall
   refine hcall.mono ?_
   clear hcall n0 n1 n2 n3 n4 n5 n6 n7
   rintro e W3 ⟨v1, v2, v3, rows3, rfl, h3, hb3⟩
   obtain ⟨A1, C1, rfl, _⟩ := own_slice h3.ready
   obtain ⟨A2, C2, rfl, _⟩ := own_slice h3.outs
   obtain ⟨A3, C3, rfl, _⟩ := own_slice h3.takers
   unfold ownV
   go_upto_region 8 with fail
   obtain ⟨W4, hW4⟩ : ∃ W4, W3.alloc (.cells (ownV (withoutS s k) (.slice A1 (withoutS s k).ready.length C1) (.slice A2 (withoutS s k).outs.length C2) (.slice A3 (withoutS s k).takers.length C3)) 31) = W4 := ⟨_, rfl⟩
   have kb4 : Bk W4 W3.heap.size 31 (ownV (withoutS s k) (.slice A1 (withoutS s k).ready.length C1) (.slice A2 (withoutS s k).outs.length C2) (.slice A3 (withoutS s k).takers.length C3)) := by rw [← hW4]; exact Bk.new _ _ _
   have hb34 : Below W3.heap.size W3 W4 := by rw [← hW4]; exact (Below.refl _ _).alloc (Nat.le_refl _) _
   have hb24 := hb3.trans (hb34.mono hb3.size)
   have hR4 : RefAt W4 W2.heap.size W3.heap.size (.slice A1 (withoutS s k).ready.length C1) (.slice A2 (withoutS s k).outs.length C2) (.slice A3 (withoutS s k).takers.length C3) rows3 (withoutS s k) := ⟨hb24.size, kb4, h3.kept (KeepsT.of_below (ts := []) hb34) (by simp) (by simp) (by simp) (by simp), hb3.size⟩
   have m6 : W4.cell? ⟨W3.heap.size, 6, none⟩ = some (.int .i64 s.acked) := kb4.cell 6
   have z6 := kb4.frozen 6
   have l6 := kb4.lt
   obtain ⟨r5, k5, b5⟩ := hR4.num 6 (.int .i64 (s.acked + 1)) s.nextSeq s.nextTag s.came (s.acked + 1) s.dropped rfl
   have HB4 := Lib.hid (HB2.out.trans (hb24.mono HB2.out.size))
   have HLO := Lib.hid (Nat.le_trans (HBX.out _ (Below.refl _ _)).1.below.size HB2.out.size)
   have hW4' : W3.alloc (.cells #[.slice A1 (withoutS s k).ready.length C1, .slice A2 (withoutS s k).outs.length C2, .slice A3 (withoutS s k).takers.length C3, .int .i64 (withoutS s k).nextSeq, .int .i64 (withoutS s k).nextTag, .int .i64 (withoutS s k).came, .int .i64 (withoutS s k).acked, .int .i64 (withoutS s k).dropped] 31) = W4 := hW4
   rw [hW4']
   clear hW4 hW4' kb4 hb34 hb24 hb3 h3 hR4
   obtain ⟨W5, hW5⟩ : ∃ W5, W4.setCell ⟨W3.heap.size, 6, none⟩ (.int .i64 (s.acked + 1)) = W5 := ⟨_, rfl⟩
   rw [hW5] at r5 k5 b5
   have HB5 := Lib.hid (HB4.out.trans (b5.mono HB2.out.size))
   have HR5 := Lib.hid r5
   clear r5 k5 b5
   go_upto_region 9 with fail
   clear m6 z6 l6 hW5
   obtain ⟨v1, v2, v3, h8⟩ : ∃ v1 v2 v3, RefAt W5 W2.heap.size W3.heap.size v1 v2 v3 rows3 ⟨(withoutS s k).ready, (withoutS s k).outs, (withoutS s k).takers, s.nextSeq, s.nextTag, s.came, s.acked + 1, s.dropped⟩ := ⟨_, _, _, HR5.out⟩
   clear HR5
   obtain ⟨X, hX⟩ : ∃ X, (⟨(withoutS s k).ready, (withoutS s k).outs, (withoutS s k).takers, s.nextSeq, s.nextTag, s.came, s.acked + 1, s.dropped⟩ : StateD) = X := ⟨_, rfl⟩
   have HX : Hid (ackS p s tag = X) := Lib.hid (HY.out.1.trans hX)
   rw [hX] at h8
   clear hX
   obtain ⟨A1, C1, rfl, _⟩ := own_slice h8.held.ready
   obtain ⟨A2, C2, rfl, _⟩ := own_slice h8.held.outs
   obtain ⟨A3, C3, rfl, _⟩ := own_slice h8.held.takers
   have g0 := h8.box.cell 0
   have g1 := h8.box.cell 1
   have g2 := h8.box.cell 2
   have g3 := h8.box.cell 3
   have g4 := h8.box.cell 4
   have g5 := h8.box.cell 5
   have g6 := h8.box.cell 6
   have g7 := h8.box.cell 7
   simp only [ownV, List.getElem?_toArray, List.getElem?_cons_zero, List.getElem?_cons_succ] at g0 g1 g2 g3 g4 g5 g6 g7
   have HH8 := Lib.hid h8
   clear h8
   have hzk := (HBX.out _ HB5.out).2
   have HZS := Lib.hid hzk
   unfold zeroCells at hzk
   obtain ⟨k0, k1, k2, k3, k4, k5, k6, k7, f0, f1, f2, f3, f4, f5, f6, f7, hlt⟩ := zero_cells hzk
   clear hzk
   go_wp2_with fail
   refine bodyPost_ret (v := .tuple #[.agg #[.slice A1 X.ready.length C1, .slice A2 X.outs.length C2, .slice A3 X.takers.length C3, .int .i64 X.nextSeq, .int .i64 X.nextTag, .int .i64 X.came, .int .i64 X.acked, .int .i64 X.dropped], .int .i64 0]) (by simp [results, Tryz.results17, go_sem, k0, k1, k2, k3, k4, k5, k6, k7, hlt]) rfl ?_
   have hfin := (HH8.out.held.kept (KeepsT.set8 HZS.out (ts := [31]) (by decide) (.slice A1 X.ready.length C1) (.slice A2 X.outs.length C2) (.slice A3 X.takers.length C3) (.int .i64 X.nextSeq) (.int .i64 X.nextTag) (.int .i64 X.came) (.int .i64 X.acked) (.int .i64 X.dropped)))
   refine ⟨A1, A2, A3, C1, C2, C3, _, (by rw [HX.out, HY.out.2]; rfl), (by rw [HX.out]; exact hfin.wider HLO.out), below_set8 (HBX.out _ HB5.out).1.below (by omega) _ _ _ _ _ _ _ _⟩
 ·have b1 : (stateErr p s != 0) = true := by simp [hc]
  have he : ackErr p s tag = stateErr p s := by unfold ackErr; rw [if_pos hc]
  have HY := Lib.hid (And.intro (show ackS p s tag = zeroS by unfold ackS; rw [if_neg (by rw [he]; exact hc)]) he)
  clear he
  have hzk := (HBX.out _ HB1.out).2
  unfold zeroCells at hzk
  obtain ⟨k0, k1, k2, k3, k4, k5, k6, k7, f0, f1, f2, f3, f4, f5, f6, f7, hlt⟩ := zero_cells hzk
  clear hzk
  go_wp2_with fail
  refine bodyPost_ret (v := .tuple #[stateV zeroS none none none 0 0 0, .int .i64 (stateErr p s)]) (by simp [results, Tryz.results17, go_sem, stateV, vState, zeroS, k0, k1, k2, k3, k4, k5, k6, k7, hlt]) rfl ?_
  exact ⟨none, none, none, 0, 0, 0, [], by rw [HY.out.1, HY.out.2], by rw [HY.out.1]; exact held_zero _ _, below_set8 (HBX.out _ HB1.out).1.below (by omega) _ _ _ _ _ _ _ _⟩
open Go Go.RowKit
set_option maxRecDepth 100000
theorem HeldAt.setBelow {w : World} {lo : Nat} {v1 v2 v3 : Value} {rows : List RowD} {s : StateD} (h : HeldAt w lo v1 v2 v3 rows s) {b : Nat} {cs : Array Value} (hk : Bk w b 77 cs) (hb : b < lo) (i : Nat) (u : Value) : HeldAt (w.setCell ⟨b, i, none⟩ u) lo v1 v2 v3 rows s :=
 h.outsTo (KeepsT.set hk (ts := [77]) (by decide) i u) (ownsRow_setCell_below h.outs (a := ⟨b, i, none⟩) hb u)
set_option maxHeartbeats 16000000 in
theorem RejectOf_any (p : PlanD) (s : StateD) (tag : Int) (back : Bool) (p1 p2 p3 a1 a2 a3 : Option Addr) (q1 q2 q3 c1 c2 c3 : Nat) (rows : List RowD) (w : World) (hE : Env w) (hp : PlanAt w 0 w.heap.size p1 p2 p3 p) (hps : PlanSmall p) (hs : StateAt w 0 w.heap.size a1 a2 a3 rows s) (hss : StateSmall s) (hsi : StateInts s) (hcap : s.outs.length ≤ c2) :
  Calls Tryz.prog 18 #[planV p p1 p2 p3 q1 q2 q3, stateV s a1 a2 a3 c1 c2 c3, .int .i64 tag, .bool back] w (StPostC (rejectS p s tag back) (rejectErr p s tag) w) := by
 have HCAP := Lib.hid hcap
 have HPQ := Lib.hid hp
 clear hcap
 have hbx := two_boxes q1 q2 q3 c1 c2 c3 hE hp hs 26 31
 unfold vState at hbx
 unfold stateV planV vState
 have htl := hss.takers
 have HPS := Lib.hid hps
 have HSS := Lib.hid hss
 have HSI := Lib.hid hsi
 clear hE hp hs hps hss hsi
 go_enter Tryz.func18, Tryz.ntmps18
 obtain ⟨⟨m0, m1, m2⟩, ⟨n0, n1, n2, n3, n4, n5, n6, n7⟩, _, _, _, _⟩ := hbx _ ((Below.refl _ _).alloc (Nat.le_refl _) (.cells #[.slice none 0 0, .slice none 0 0, .slice none 0 0, .int .i64 0, .int .i64 0, .int .i64 0, .int .i64 0, .int .i64 0] 31))
 go_wp2_with fail
 clear m0 m1 m2 n0 n1 n2 n3 n4 n5 n6 n7
 obtain ⟨V0, hV0⟩ : ∃ V0, ((w.alloc (.cells #[.slice p1 p.posts.length q1, .slice p2 p.queues.length q2, .slice p3 p.binds.length q3] 26)).alloc (.cells #[Value.slice a1 s.ready.length c1, Value.slice a2 s.outs.length c2, Value.slice a3 s.takers.length c3, Value.int IntKind.i64 s.nextSeq, Value.int IntKind.i64 s.nextTag, Value.int IntKind.i64 s.came, Value.int IntKind.i64 s.acked, Value.int IntKind.i64 s.dropped] 31)) = V0 := ⟨_, rfl⟩
 have hzV : V0.heap.size = w.heap.size + 1 + 1 := by rw [← hV0]; simp
 rw [hV0] at hbx
 have HBV := Lib.hid hbx
 obtain ⟨W0, hW0⟩ : ∃ W0, V0.alloc (.cells #[.slice none 0 0, .slice none 0 0, .slice none 0 0, .int .i64 0, .int .i64 0, .int .i64 0, .int .i64 0, .int .i64 0] 31) = W0 := ⟨_, rfl⟩
 have hbV : Below V0.heap.size V0 W0 := by rw [← hW0]; exact (Below.refl _ _).alloc (Nat.le_refl _) _
 have HZ : Hid (W0.heap.size = w.heap.size + 1 + 1 + 1) := by refine (?_ : W0.heap.size = _); rw [← hW0, ← hzV]; simp
 have HBX : Hid (∀ W, Below W0.heap.size W0 W → CkIn w p s p1 p2 p3 a1 a2 a3 q1 q2 q3 c1 c2 c3 rows W ∧ Bk W (w.heap.size + 1 + 1) 31 zeroCells) := fun W hW => by
  have k : Bk W0 (w.heap.size + 1 + 1) 31 zeroCells := by rw [← hW0]; exact Bk.new_at _ _ _ hzV.symm
  exact ⟨HBV.out W (hbV.trans (hW.mono hbV.size)), k.below hW k.lt⟩
 rw [hV0, hW0]
 clear hbx hbV hzV HBV hV0 hW0
 have hcall := CheckState_any p s p1 p2 p3 a1 a2 a3 q1 q2 q3 c1 c2 c3 rows W0 (HBX.out _ (Below.refl _ _)).1.env (HBX.out _ (Below.refl _ _)).1.planAt HPS.out (HBX.out _ (Below.refl _ _)).1.stateAt HSS.out HSI.out
 unfold stateV planV vState at hcall
 refine hcall.mono ?_
 clear hcall
 rintro e W1 ⟨rfl, hb1⟩
 have HB1 := Lib.hid hb1
 clear hb1
 by_cases hc : stateErr p s = 0
 ·have b1 : (stateErr p s != 0) = false := by simp [hc]
  have HC := Lib.hid hc
  have HRT := Lib.hid (right_iff.1 hc)
  clear hc
  obtain ⟨n0, n1, n2, n3, n4, n5, n6, n7⟩ := (HBX.out _ HB1.out).1.state
  go_wp2_with fail
  have hcall := outAt_any s a1 a2 a3 c1 c2 c3 tag 0 W1 (HBX.out _ HB1.out).1.stateAt.outs HSS.out.outs
  rw [show outI s tag = _ from idx_out s tag] at hcall
  unfold stateV vState at hcall
  refine hcall.mono ?_
  clear hcall n0 n1 n2 n3 n4 n5 n6 n7
  rintro e W2 ⟨rfl, hb2⟩
  have HB2 := Lib.hid (HB1.out.trans (hb2.mono HB1.out.size))
  clear hb2
  cases hk : outK s tag with
  | none =>
   have he : rejectErr p s tag = 5 := by unfold rejectErr; rw [if_neg (by rw [HC.out]; decide), if_pos hk]
   have HY := Lib.hid (And.intro (show rejectS p s tag back = zeroS by unfold rejectS; rw [if_neg (by rw [he]; decide)]) he)
   clear he hk
   dsimp only
   have hzk := (HBX.out _ HB2.out).2
   unfold zeroCells at hzk
   obtain ⟨k0, k1, k2, k3, k4, k5, k6, k7, f0, f1, f2, f3, f4, f5, f6, f7, hlt⟩ := zero_cells hzk
   clear hzk
   go_wp2_with fail
   refine bodyPost_ret (v := .tuple #[stateV zeroS none none none 0 0 0, .int .i64 5]) (by simp [results, Tryz.results18, go_sem, stateV, vState, zeroS, k0, k1, k2, k3, k4, k5, k6, k7, hlt]) rfl ?_
   exact ⟨none, none, none, 0, 0, 0, [], by rw [HY.out.1, HY.out.2], by rw [HY.out.1]; exact held_zero _ _, below_set8 (HBX.out _ HB2.out).1.below (by omega) _ _ _ _ _ _ _ _⟩
  | some k =>
   obtain ⟨hkl, htg, hnt⟩ := outK_some hk
   clear htg hnt
   have hk0 : ¬ (k : Int) < 0 := by omega
   have n3 := (HBX.out _ HB2.out).1.state.2.2.2.1
   dsimp only
   by_cases hsq : s.nextSeq ≤ 524288
   ·obtain ⟨he, hS, _⟩ := reject_done HRT.out hk hsq back
    obtain ⟨q, x, hpre⟩ := back_pre HRT.out hkl
    have hrc := reject_c HRT.out hkl back
    have hx := hpre.is_
    rw [← outAtK_get hkl, hx] at hrc
    rw [hx] at hS
    have HY := Lib.hid (And.intro hS he)
    have HRC := Lib.hid hrc
    have HQU := Lib.hid hpre.qu
    have HPRE := Lib.hid hpre
    have hsq2 : ¬ 524288 < s.nextSeq := by omega
    have HSQ := Lib.hid hsq
    have hkj : (k : Int) < (s.outs.length : Int) := by omega
    obtain ⟨ob, oo, rfl, _, hob, hoc⟩ := sl_elem vOut_len (by decide) (HBX.out _ HB2.out).1.stateAt.outs hkl
    obtain ⟨e0, e1, e2, e3, e4, e5, e6, e7⟩ := out_cells (wr := W2) (b := ob) (o := oo) (k := k) (x := s.outs[k]) hoc
    rw [← outAtK_get hkl, hx] at e0 e1 e2 e3 e4 e5 e6 e7
    have n1 := (HBX.out _ HB2.out).1.state.2.1
    clear he hS hpre hrc hx hsq hk hoc
    go_upto_region 10 with fail
    clear e0 e1 e2 e3 e4 e5 e6 e7 n1 n3
    obtain ⟨W3, hW3⟩ : ∃ W3, W2.alloc (.cells #[.int .i64 x.tag, .int .i64 x.taker, .int .i64 x.queue, .int .i64 x.item.seq, .string x.item.key, .string x.item.body, .bool x.item.again, .int .i64 x.item.deaths] 77) = W3 := ⟨_, rfl⟩
    have kx3 : Bk W3 W2.heap.size 77 #[.int .i64 x.tag, .int .i64 x.taker, .int .i64 x.queue, .int .i64 x.item.seq, .string x.item.key, .string x.item.body, .bool x.item.again, .int .i64 x.item.deaths] := by rw [← hW3]; exact Bk.new _ _ _
    have hb3 : Below W2.heap.size W2 W3 := by rw [← hW3]; exact (Below.refl _ _).alloc (Nat.le_refl _) _
    have HB3 := Lib.hid (HB2.out.trans (hb3.mono HB2.out.size))
    have HKX3 := Lib.hid kx3
    rw [hW3]
    clear hW3 kx3 hb3
    obtain ⟨n0, n1, n2, n3, n4, n5, n6, n7⟩ := (HBX.out _ HB3.out).1.state
    go_wp2_with fail
    have hcall := without_any s k hkl a1 (some ⟨ob, oo, none⟩) a3 c1 c2 c3 rows W3 (HBX.out _ HB3.out).1.stateAt HSS.out HCAP.out
    unfold stateV vState at hcall
    refine hcall.mono ?_
    clear hcall n0 n1 n2 n3 n4 n5 n6 n7
    rintro e W4 ⟨v1, v2, v3, rows4, rfl, h4, hb4⟩
    have hrl : 0 < (withoutS s k).ready.length := by have := HPRE.out.len; have := HPRE.out.ql; show 0 < s.ready.length; omega
    obtain ⟨A1, C1, rfl, _⟩ := own_slice h4.ready
    obtain ⟨gr, rfl⟩ := own_addr h4.ready hrl
    obtain ⟨A2, C2, rfl, hC2⟩ := own_slice h4.outs
    obtain ⟨A3, C3, rfl, _⟩ := own_slice h4.takers
    unfold ownV
    go_upto_region 11 with fail
    obtain ⟨W5, hW5⟩ : ∃ W5, W4.alloc (.cells (ownV (withoutS s k) (.slice (some ⟨gr, 0, none⟩) (withoutS s k).ready.length C1) (.slice A2 (withoutS s k).outs.length C2) (.slice A3 (withoutS s k).takers.length C3)) 31) = W5 := ⟨_, rfl⟩
    have kb5 : Bk W5 W4.heap.size 31 (ownV (withoutS s k) (.slice (some ⟨gr, 0, none⟩) (withoutS s k).ready.length C1) (.slice A2 (withoutS s k).outs.length C2) (.slice A3 (withoutS s k).takers.length C3)) := by rw [← hW5]; exact Bk.new _ _ _
    have hb45 : Below W4.heap.size W4 W5 := by rw [← hW5]; exact (Below.refl _ _).alloc (Nat.le_refl _) _
    have hb35 := hb4.trans (hb45.mono hb4.size)
    have hR5 : RefAt W5 W3.heap.size W4.heap.size (.slice (some ⟨gr, 0, none⟩) (withoutS s k).ready.length C1) (.slice A2 (withoutS s k).outs.length C2) (.slice A3 (withoutS s k).takers.length C3) rows4 (withoutS s k) := ⟨hb35.size, kb5, h4.kept (KeepsT.of_below (ts := []) hb45) (by simp) (by simp) (by simp) (by simp), hb4.size⟩
    have HB5 := Lib.hid (HB3.out.trans (hb35.mono HB3.out.size))
    have HR5 := Lib.hid hR5
    have HKX5 := Lib.hid (HKX3.out.below hb35 HKX3.out.lt)
    have HLO := Lib.hid (Nat.le_trans (HBX.out _ (Below.refl _ _)).1.below.size HB3.out.size)
    have HLO3 := Lib.hid HB3.out.size
    have HC2 := Lib.hid hC2
    have HPA : Hid (∀ W, Below w.heap.size w W → PlanAt W 0 W3.heap.size p1 p2 p3 p) := Lib.hid fun W hW => (HPQ.out.below hW (Nat.le_refl _)).wider (Nat.le_refl _) HLO.out
    have hW5' : W4.alloc (.cells #[.slice (some ⟨gr, 0, none⟩) (withoutS s k).ready.length C1, .slice A2 (withoutS s k).outs.length C2, .slice A3 (withoutS s k).takers.length C3, .int .i64 (withoutS s k).nextSeq, .int .i64 (withoutS s k).nextTag, .int .i64 (withoutS s k).came, .int .i64 (withoutS s k).acked, .int .i64 (withoutS s k).dropped] 31) = W5 := hW5
    rw [hW5']
    clear hW5 hW5' kb5 hb45 hb35 hb4 h4 hR5 hC2
    cases back with
    | true =>
     obtain ⟨f0, f1, f2, f3, f4, f5, f6, f7, g0, g1, g2, g3, g4, g5, g6, g7, lx⟩ := zero_cells HKX5.out
     go_upto_region 14 with fail
     clear f0 f1 f2 f3 f4 f5 f6 f7 g0 g1 g2 g3 g4 g5 g6 g7 lx
     obtain ⟨X3, hX3⟩ : ∃ X3, W5.setCell ⟨W2.heap.size, 6, none⟩ (.bool true) = X3 := ⟨_, rfl⟩
     have kx6 : Bk X3 W2.heap.size 77 #[.int .i64 x.tag, .int .i64 x.taker, .int .i64 x.queue, .int .i64 x.item.seq, .string x.item.key, .string x.item.body, .bool true, .int .i64 x.item.deaths] := by rw [← hX3]; exact HKX5.out.set_ 6 _
     have he6 := HR5.out.held.setBelow HKX5.out HKX3.out.lt 6 (.bool true)
     have kb6 := HR5.out.box.far (p := ⟨W2.heap.size, 6, none⟩) (by have h1 := HKX3.out.lt; have h2 := HR5.out.gl; show W4.heap.size ≠ W2.heap.size; omega) (.bool true)
     have hz6 : X3.heap.size = W5.heap.size := by rw [← hX3]; simp [World.setCell]
     have hb6 : Below w.heap.size w X3 := by rw [← hX3]; exact (HBX.out _ HB5.out).1.below.setCell (p := ⟨W2.heap.size, 6, none⟩) (Nat.le_trans (HBX.out _ (Below.refl _ _)).1.below.size HB2.out.size) _
     have hb06 : Below W0.heap.size W0 X3 := by rw [← hX3]; exact HB5.out.setCell (p := ⟨W2.heap.size, 6, none⟩) HB2.out.size _
     rw [hX3] at he6 kb6
     have hR6 : RefAt X3 W3.heap.size W4.heap.size (.slice (some ⟨gr, 0, none⟩) (withoutS s k).ready.length C1) (.slice A2 (withoutS s k).outs.length C2) (.slice A3 (withoutS s k).takers.length C3) rows4 (withoutS s k) := ⟨by rw [hz6]; exact HR5.out.size, kb6, he6, HR5.out.gl⟩
     rw [hX3]
     have hrow : (withoutS s k).ready[q]? = some (lineAt s q) := by
      have h1 : q < s.ready.length := by rw [HPRE.out.len]; exact HPRE.out.ql
      show s.ready[q]? = _
      rw [lineAt_get (show ((q : Int)).toNat < s.ready.length by omega), List.getElem?_eq_getElem h1]
      rfl
     obtain ⟨ra, rc, hrc, hrsl, hcell⟩ := hR6.held.rowAt rfl hrow
     have HPUSH0 := refpush_any ra rc (lineAt s q) (againI x.item) W3.heap.size X3.drew (hrsl.keep (KeepsT.of_below (ts := []) (Below.refl _ _).drew) (by simp)).sl (by have := HPRE.out.short; omega)
     have HCC : Hid (∀ nl, pushL (lineAt s q) (againI x.item) = nl → rejectC p s k x true = shedP p { withoutS s k with ready := (withoutS s k).ready.set q nl } q) := Lib.hid fun nl hnl => by
      unfold rejectC
      rw [if_pos rfl, HQU.out, lay_shed (show ((q : Int)).toNat < (withoutS s k).ready.length by show _ < s.ready.length; rw [HPRE.out.len]; have := HPRE.out.ql; omega)]
      rw [show pushL (lineAt (withoutS s k) (q : Int)) (againI x.item) = nl from hnl]
      rfl
     have HOKN := Lib.hid HPRE.out.ok
     generalize hline : lineAt s q = line at hrsl hcell HPUSH0 hrow HCC HOKN hrc
     obtain ⟨nl, hnl⟩ : ∃ nl, pushL line (againI x.item) = nl := ⟨_, rfl⟩
     have HC1 := Lib.hid (HCC.out nl hnl)
     rw [hnl] at HPUSH0 HOKN
     have HPUSH : Hid (Calls Tryz.prog 53 #[.slice ra line.length rc, .agg #[.int .i64 x.item.seq, .string x.item.key, .string x.item.body, .bool true, .int .i64 x.item.deaths]] X3.drew fun e w' => ∃ v, e = .returned v ∧ w'.ownsRow X3.heap.size 52 5 v nl.length (nl.flatMap vItem) ∧ Below X3.heap.size X3 w') := Lib.hid (HPUSH0.mono fun e w' ⟨v, h1, h2, h3⟩ => ⟨v, h1, h2, ((Below.refl _ _).drew : Below X3.heap.size X3 X3.drew).trans h3⟩)
     have hle3 : W3.heap.size ≤ X3.heap.size := hR6.size
     have HAFTER : Hid (∀ (w5 : World) (Ar : Option Addr) (Cr : Nat), w5.ownsRow X3.heap.size 52 5 (.slice Ar nl.length Cr) nl.length (nl.flatMap vItem) → nl.length ≤ Cr → Below X3.heap.size X3 w5 → (w5.cell? ⟨W4.heap.size, 0, none⟩ = some (.slice (some ⟨gr, 0, none⟩) (withoutS s k).ready.length C1) ∧ w5.cell? ⟨W2.heap.size, 2, none⟩ = some (.int .i64 (q : Int)) ∧ w5.cell? ⟨W2.heap.size, 3, none⟩ = some (.int .i64 x.item.seq) ∧ w5.cell? ⟨W2.heap.size, 4, none⟩ = some (.string x.item.key) ∧ w5.cell? ⟨W2.heap.size, 5, none⟩ = some (.string x.item.body) ∧ w5.cell? ⟨W2.heap.size, 6, none⟩ = some (.bool true) ∧ w5.cell? ⟨W2.heap.size, 7, none⟩ = some (.int .i64 x.item.deaths)) ∧ ((w5.setCell ⟨gr, q, none⟩ (.slice Ar nl.length Cr)).cell? ⟨W4.heap.size, 0, none⟩ = some (.slice (some ⟨gr, 0, none⟩) (withoutS s k).ready.length C1) ∧ (w5.setCell ⟨gr, q, none⟩ (.slice Ar nl.length Cr)).cell? ⟨W2.heap.size, 2, none⟩ = some (.int .i64 (q : Int)) ∧ (w5.setCell ⟨gr, q, none⟩ (.slice Ar nl.length Cr)).cell? ⟨W2.heap.size, 3, none⟩ = some (.int .i64 x.item.seq) ∧ (w5.setCell ⟨gr, q, none⟩ (.slice Ar nl.length Cr)).cell? ⟨W2.heap.size, 4, none⟩ = some (.string x.item.key) ∧ (w5.setCell ⟨gr, q, none⟩ (.slice Ar nl.length Cr)).cell? ⟨W2.heap.size, 5, none⟩ = some (.string x.item.body) ∧ (w5.setCell ⟨gr, q, none⟩ (.slice Ar nl.length Cr)).cell? ⟨W2.heap.size, 6, none⟩ = some (.bool true) ∧ (w5.setCell ⟨gr, q, none⟩ (.slice Ar nl.length Cr)).cell? ⟨W2.heap.size, 7, none⟩ = some (.int .i64 x.item.deaths)) ∧ (w5.cell? ⟨gr, q, none⟩ = some (.slice ra line.length rc) ∧ w5.frozen? ⟨gr, q, none⟩ = false ∧ gr < w5.heap.size) ∧ RefAt (w5.setCell ⟨gr, q, none⟩ (.slice Ar nl.length Cr)) W3.heap.size W4.heap.size (.slice (some ⟨gr, 0, none⟩) (withoutS s k).ready.length C1) (.slice A2 (withoutS s k).outs.length C2) (.slice A3 (withoutS s k).takers.length C3) (rows4.set q ⟨Ar, Cr, nl⟩) { withoutS s k with ready := (withoutS s k).ready.set q nl } ∧ Bk (w5.setCell ⟨gr, q, none⟩ (.slice Ar nl.length Cr)) W2.heap.size 77 #[.int .i64 x.tag, .int .i64 x.taker, .int .i64 x.queue, .int .i64 x.item.seq, .string x.item.key, .string x.item.body, .bool true, .int .i64 x.item.deaths] ∧ Below W3.heap.size X3 (w5.setCell ⟨gr, q, none⟩ (.slice Ar nl.length Cr))) := Lib.hid fun w5 Ar Cr n1 hcr n2 => by
      have h5 := hR6.since n2
      have hset := h5.rowSet (k := q) rfl Ar Cr nl ((SlT.of_own n1).wider hle3) hcr
      have hb5 := kx6.below n2 kx6.lt
      have hb6 := hset.2.1 _ _ _ (by decide) hb5
      have hq5 := hb5.cell 2
      have hq6 := hb6.cell 2
      simp only [List.getElem?_toArray, List.getElem?_cons_zero, List.getElem?_cons_succ] at hq5 hq6
      rw [HQU.out] at hq5 hq6
      exact ⟨⟨h5.box.cell 0, hq5, hb5.cell 3, hb5.cell 4, hb5.cell 5, hb5.cell 6, hb5.cell 7⟩, ⟨hset.1.box.cell 0, hq6, hb6.cell 3, hb6.cell 4, hb6.cell 5, hb6.cell 6, hb6.cell 7⟩, hcell [] w5 (by simp) (KeepsT.of_below n2), hset.1, hb6, (n2.mono hle3).trans hset.2.2⟩
     have e0 : (X3.drew.cell? ⟨W4.heap.size, 0, none⟩ = some (.slice (some ⟨gr, 0, none⟩) (withoutS s k).ready.length C1) ∧ X3.drew.cell? ⟨W2.heap.size, 2, none⟩ = some (.int .i64 (q : Int)) ∧ X3.drew.cell? ⟨W2.heap.size, 3, none⟩ = some (.int .i64 x.item.seq) ∧ X3.drew.cell? ⟨W2.heap.size, 4, none⟩ = some (.string x.item.key) ∧ X3.drew.cell? ⟨W2.heap.size, 5, none⟩ = some (.string x.item.body) ∧ X3.drew.cell? ⟨W2.heap.size, 6, none⟩ = some (.bool true) ∧ X3.drew.cell? ⟨W2.heap.size, 7, none⟩ = some (.int .i64 x.item.deaths)) := by
      have hq5 := kx6.cell 2
      simp only [List.getElem?_toArray, List.getElem?_cons_zero, List.getElem?_cons_succ] at hq5
      rw [HQU.out] at hq5
      exact ⟨hR6.box.cell 0, hq5, kx6.cell 3, kx6.cell 4, kx6.cell 5, kx6.cell 6, kx6.cell 7⟩
     have z0 : X3.drew.cell? ⟨gr, q, none⟩ = some (.slice ra line.length rc) := (hcell [] X3 (by simp) (KeepsT.refl _ _)).1
     have hj2 : (q : Int) < ((withoutS s k).ready.length : Int) := by have h1 := HPRE.out.len; have h2 := HPRE.out.ql; show (q : Int) < (s.ready.length : Int); omega
     have HB06 := Lib.hid hb06
     have HB6 := Lib.hid hb6
     clear hX3 kx6 he6 kb6 hz6 hb6 hb06 hR6 hrow hrc hrsl hcell HPUSH0 HCC hline hnl
     refine nw_lay [(0, false), (1, false), (2, false), (3, false), (4, false), (5, false), (6, false), (7, false), (8, false), (10, false), (11, false), (9, true), (12, true), (13, false), (14, true)] (by kernel_rfl) (fun hOrd => ?_)
     refine nw_go (S := (fun W => (W.cell? ⟨W4.heap.size, 0, none⟩ = some (.slice (some ⟨gr, 0, none⟩) (withoutS s k).ready.length C1) ∧ W.cell? ⟨W2.heap.size, 2, none⟩ = some (.int .i64 (q : Int)) ∧ W.cell? ⟨W2.heap.size, 3, none⟩ = some (.int .i64 x.item.seq) ∧ W.cell? ⟨W2.heap.size, 4, none⟩ = some (.string x.item.key) ∧ W.cell? ⟨W2.heap.size, 5, none⟩ = some (.string x.item.body) ∧ W.cell? ⟨W2.heap.size, 6, none⟩ = some (.bool true) ∧ W.cell? ⟨W2.heap.size, 7, none⟩ = some (.int .i64 x.item.deaths)))) hOrd (by kernel_rfl) (by first | assumption | exact e0 | exact e6 | exact e5) (fun hHeld => ?_)
     clear hOrd
     iterate 15 ((first | (refine NW.take (v := ?_) rfl (fun _ _ _ h => h) (Or.inl ⟨by rfl, ?_⟩) ?_; rotate_left; focus (intro w hSw; (try dsimp only at hSw); go_simp; (all_goals with_reducible rfl); done)) | (refine NW.leave rfl (fun _ _ _ h => h) (by rfl) (by assumption) ?_) | (refine NW.call rfl (fun K hK => ?_); go_simp; ((go_at_call 53; (with_reducible refine HPUSH.out.mono ?_); rintro e w5 ⟨v5, rfl, n1, n2⟩; obtain ⟨Ar, Cr, rfl, hcr⟩ := own_slice n1; have hA := HAFTER.out w5 Ar Cr n1 hcr n2; have e5 := hA.1; have e6 := hA.2.1; obtain ⟨z5, f5, l5⟩ := hA.2.2.1; have HA5 := Lib.hid hA.2.2.2; clear hA n1 n2 hcr)); refine hK.out _ _ (by first | assumption | exact e0 | exact e6 | exact e5) (fun hHeld => ?_); clear hK K) | (refine NW.call rfl (fun K hK => ?_); go_simp; refine hK.out _ _ (by first | assumption | exact e0 | exact e6 | exact e5) (fun hHeld => ?_); clear hK K)); try simp only [Act.put, zA, zB, zC, zD, zE, zF])
     refine NW.done ?_
     obtain ⟨Y, hYY⟩ : ∃ Y, w5.setCell ⟨gr, q, none⟩ (.slice Ar nl.length Cr) = Y := ⟨_, rfl⟩
     rw [hYY] at HA5 e6
     rw [hYY]
     have y2 := e6.2.1
     clear e0 e5 e6 z0 z5 f5 l5 hHeld hYY
     have hbY0 := HB06.out.trans (HA5.out.2.2.mono HLO3.out)
     have HBY0 := Lib.hid hbY0
     obtain ⟨m0, m1, m2⟩ := (HBX.out _ hbY0).1.plan
     have hbY := (HBX.out _ hbY0).1.below
     have hlS : lineAt { withoutS s k with ready := (withoutS s k).ready.set q nl } (q : Int) = nl := by
      rw [lineAt_get (by show ((q : Int)).toNat < ((withoutS s k).ready.set q nl).length; rw [List.length_set]; omega)]
      simp
     have HSHED := Lib.hid (shedAt_any W3.heap.size W4.heap.size p p1 p2 p3 q1 q2 q3 (checkP_right HRT.out.plan) HPS.out _ _ _ _ { withoutS s k with ready := (withoutS s k).ready.set q nl } q Y (HPA.out _ hbY) HA5.out.1 HPRE.out.ql (by show ((withoutS s k).ready.set q nl).length = _; rw [List.length_set]; exact HPRE.out.len) (by rw [hlS]; exact HOKN.out) HPRE.out.dropped (dead_in (checkP_right HRT.out.plan) (by have := HPRE.out.ql; omega)).1)
     have HLY := Lib.hid HA5.out.1.size
     clear hbY0 hbY hlS
     go_wp2_with fail
     refine HSHED.out.mono ?_
     rintro e W9 ⟨vw, rows9, rfl, h9, hw9, hk9, hb9⟩
     rw [← HC1.out] at h9 hw9
     have HE2 := Lib.hid HY.out.1
     unfold rejectD at HE2
     have hsq9 : (rejectC p s k x true).1.nextSeq ≤ 524288 := by rw [HRC.out.seq]; exact HSQ.out
     generalize rejectC p s k x true = c at *
     obtain ⟨Aw, Cw, rfl, hcw⟩ := own_slice hw9
     have HB11 := Lib.hid (HBY0.out.trans (hb9.mono HLO3.out))
     have HARR := Lib.hid (arrive_any W3.heap.size W4.heap.size p p1 p2 p3 q1 q2 q3 (checkP_right HRT.out.plan) HPS.out _ _ _ rows9 c.1 c.2 Aw Cw W9 h9 (HPA.out _ (HBX.out _ HB11.out).1.below) (WaitAt.own (own_mono hw9 HLY.out)) hcw HRC.out.hall hsq9 (Nat.le_trans (show wC (c.1, c.2) ≤ 500 from HRC.out.less) (by decide)))
     clear h9 hw9 hk9 hb9 hsq9 hcw HSHED y2 m0 m1 m2
     obtain ⟨z0, z1, z2⟩ := (HBX.out _ HB11.out).1.plan
     go_wp2_with fail
     refine HARR.out.mono ?_
     clear z0 z1 z2
     rintro e W12 ⟨rfl, rows12, h12, hb12⟩
     have HB12 := Lib.hid (HB11.out.trans (hb12.mono HLO3.out))
     have HX := Lib.hid HE2.out
     generalize settleP p c.1 c.2 = X at *
     obtain ⟨v1, v2, v3, h8⟩ : ∃ v1 v2 v3, RefAt W12 W3.heap.size W4.heap.size v1 v2 v3 rows12 X := ⟨_, _, _, h12⟩
     clear h12 hb12 HARR
     obtain ⟨A1, C1, rfl, _⟩ := own_slice h8.held.ready
     obtain ⟨A2, C2, rfl, _⟩ := own_slice h8.held.outs
     obtain ⟨A3, C3, rfl, _⟩ := own_slice h8.held.takers
     have g0 := h8.box.cell 0
     have g1 := h8.box.cell 1
     have g2 := h8.box.cell 2
     have g3 := h8.box.cell 3
     have g4 := h8.box.cell 4
     have g5 := h8.box.cell 5
     have g6 := h8.box.cell 6
     have g7 := h8.box.cell 7
     simp only [ownV, List.getElem?_toArray, List.getElem?_cons_zero, List.getElem?_cons_succ] at g0 g1 g2 g3 g4 g5 g6 g7
     have HH8 := Lib.hid h8
     clear h8
     have hzk := (HBX.out _ HB12.out).2
     have HZS := Lib.hid hzk
     unfold zeroCells at hzk
     obtain ⟨k0, k1, k2, k3, k4, k5, k6, k7, f0, f1, f2, f3, f4, f5, f6, f7, hlt⟩ := zero_cells hzk
     clear hzk
     go_wp2_with fail
     refine bodyPost_ret (v := .tuple #[.agg #[.slice A1 X.ready.length C1, .slice A2 X.outs.length C2, .slice A3 X.takers.length C3, .int .i64 X.nextSeq, .int .i64 X.nextTag, .int .i64 X.came, .int .i64 X.acked, .int .i64 X.dropped], .int .i64 0]) (by simp [results, Tryz.results18, go_sem, k0, k1, k2, k3, k4, k5, k6, k7, hlt]) rfl ?_
     have hfin := (HH8.out.held.kept (KeepsT.set8 HZS.out (ts := [31]) (by decide) (.slice A1 X.ready.length C1) (.slice A2 X.outs.length C2) (.slice A3 X.takers.length C3) (.int .i64 X.nextSeq) (.int .i64 X.nextTag) (.int .i64 X.came) (.int .i64 X.acked) (.int .i64 X.dropped)))
     refine ⟨A1, A2, A3, C1, C2, C3, _, (by rw [HX.out, HY.out.2]; rfl), (by rw [HX.out]; exact hfin.wider HLO.out), below_set8 (HBX.out _ HB12.out).1.below (by omega) _ _ _ _ _ _ _ _⟩
    | false =>
     have g7 := HR5.out.box.cell 7
     have fz7 := HR5.out.box.frozen 7
     have lz7 := HR5.out.box.lt
     have hdr := HPRE.out.dropped
     have hwr : IntKind.i64.wrap (s.dropped + 1) = s.dropped + 1 := IntWalk.i64_in _ (by omega)
     simp only [ownV, List.getElem?_toArray, List.getElem?_cons_zero, List.getElem?_cons_succ] at g7
     have g7' : W5.cell? ⟨W4.heap.size, 7, none⟩ = some (.int .i64 s.dropped) := g7
     clear g7
     obtain ⟨X3, hX3⟩ : ∃ X3, W5.setCell ⟨W4.heap.size, 7, none⟩ (.int .i64 (s.dropped + 1)) = X3 := ⟨_, rfl⟩
     obtain ⟨r6, k6, b6⟩ := HR5.out.num 7 (.int .i64 (s.dropped + 1)) s.nextSeq s.nextTag s.came s.acked (s.dropped + 1) rfl
     rw [hX3] at r6 k6 b6
     have hkx6 := k6 _ _ _ (by decide) HKX5.out
     obtain ⟨x0, x1, x2, x3, x4, x5, x6, x7, _, _, _, _, _, _, _, _, _⟩ := zero_cells hkx6
     rw [HQU.out] at x2
     have HB6 := Lib.hid (HB5.out.trans (b6.mono HLO3.out))
     have HR6 := Lib.hid r6
     have HC1 : Hid (rejectC p s k x false = (⟨(withoutS s k).ready, (withoutS s k).outs, (withoutS s k).takers, s.nextSeq, s.nextTag, s.came, s.acked, s.dropped + 1⟩, dyingP p (q : Int) x.item)) := Lib.hid (by unfold rejectC; rw [if_neg (by decide), HQU.out]; rfl)
     have HDY := Lib.hid (dying_any p p1 p2 p3 q1 q2 q3 (checkP_right HRT.out.plan) HPS.out q HPRE.out.ql x.item HPRE.out.deaths HPRE.out.key X3 ((HBX.out _ HB6.out).1.planAt))
     unfold vItem at HDY
     clear r6 k6 b6 hkx6
     go_upto_region 17 with fail
     clear g7' fz7 lz7 hX3 hdr hwr
     obtain ⟨m0, m1, m2⟩ := (HBX.out _ HB6.out).1.plan
     go_wp2_with fail
     refine HDY.out.mono ?_
     rintro e W9 ⟨vw, rfl, hw9, hb9⟩
     have h9 := HR6.out.since hb9
     have HE2 := Lib.hid HY.out.1
     unfold rejectD at HE2
     have hsq9 : (rejectC p s k x false).1.nextSeq ≤ 524288 := by rw [HRC.out.seq]; exact HSQ.out
     obtain ⟨Aw, Cw, rfl, hcw⟩ := own_slice hw9
     have HB11 := Lib.hid (HB6.out.trans (hb9.mono HB6.out.size))
     have hw9' := own_mono hw9 HR6.out.size
     have hc1 : (⟨(withoutS s k).ready, (withoutS s k).outs, (withoutS s k).takers, s.nextSeq, s.nextTag, s.came, s.acked, s.dropped + 1⟩ : StateD) = (rejectC p s k x false).1 := by rw [HC1.out]
     have hc2 : dyingP p (q : Int) x.item = (rejectC p s k x false).2 := by rw [HC1.out]
     rw [hc1] at h9
     rw [hc2] at hw9' hcw
     rw [hc2]
     clear hc1 hc2 HC1 hw9
     generalize rejectC p s k x false = c at *
     have HARR := Lib.hid (arrive_any W3.heap.size W4.heap.size p p1 p2 p3 q1 q2 q3 (checkP_right HRT.out.plan) HPS.out _ _ _ rows4 c.1 c.2 Aw Cw W9 h9 (HPA.out _ (HBX.out _ HB11.out).1.below) (WaitAt.own hw9') hcw HRC.out.hall hsq9 (Nat.le_trans (show wC (c.1, c.2) ≤ 500 from HRC.out.less) (by decide)))
     clear h9 hw9' hb9 hsq9 hcw HDY x0 x1 x2 x3 x4 x5 x6 x7 m0 m1 m2
     obtain ⟨z0, z1, z2⟩ := (HBX.out _ HB11.out).1.plan
     go_wp2_with fail
     refine HARR.out.mono ?_
     clear z0 z1 z2
     rintro e W12 ⟨rfl, rows12, h12, hb12⟩
     have HB12 := Lib.hid (HB11.out.trans (hb12.mono HLO3.out))
     have HX := Lib.hid HE2.out
     generalize settleP p c.1 c.2 = X at *
     obtain ⟨v1, v2, v3, h8⟩ : ∃ v1 v2 v3, RefAt W12 W3.heap.size W4.heap.size v1 v2 v3 rows12 X := ⟨_, _, _, h12⟩
     clear h12 hb12 HARR
     obtain ⟨A1, C1, rfl, _⟩ := own_slice h8.held.ready
     obtain ⟨A2, C2, rfl, _⟩ := own_slice h8.held.outs
     obtain ⟨A3, C3, rfl, _⟩ := own_slice h8.held.takers
     have g0 := h8.box.cell 0
     have g1 := h8.box.cell 1
     have g2 := h8.box.cell 2
     have g3 := h8.box.cell 3
     have g4 := h8.box.cell 4
     have g5 := h8.box.cell 5
     have g6 := h8.box.cell 6
     have g7 := h8.box.cell 7
     simp only [ownV, List.getElem?_toArray, List.getElem?_cons_zero, List.getElem?_cons_succ] at g0 g1 g2 g3 g4 g5 g6 g7
     have HH8 := Lib.hid h8
     clear h8
     have hzk := (HBX.out _ HB12.out).2
     have HZS := Lib.hid hzk
     unfold zeroCells at hzk
     obtain ⟨k0, k1, k2, k3, k4, k5, k6, k7, f0, f1, f2, f3, f4, f5, f6, f7, hlt⟩ := zero_cells hzk
     clear hzk
     go_wp2_with fail
     refine bodyPost_ret (v := .tuple #[.agg #[.slice A1 X.ready.length C1, .slice A2 X.outs.length C2, .slice A3 X.takers.length C3, .int .i64 X.nextSeq, .int .i64 X.nextTag, .int .i64 X.came, .int .i64 X.acked, .int .i64 X.dropped], .int .i64 0]) (by simp [results, Tryz.results18, go_sem, k0, k1, k2, k3, k4, k5, k6, k7, hlt]) rfl ?_
     have hfin := (HH8.out.held.kept (KeepsT.set8 HZS.out (ts := [31]) (by decide) (.slice A1 X.ready.length C1) (.slice A2 X.outs.length C2) (.slice A3 X.takers.length C3) (.int .i64 X.nextSeq) (.int .i64 X.nextTag) (.int .i64 X.came) (.int .i64 X.acked) (.int .i64 X.dropped)))
     refine ⟨A1, A2, A3, C1, C2, C3, _, (by rw [HX.out, HY.out.2]; rfl), (by rw [HX.out]; exact hfin.wider HLO.out), below_set8 (HBX.out _ HB12.out).1.below (by omega) _ _ _ _ _ _ _ _⟩
   ·have hsq2 : 524288 < s.nextSeq := by omega
    have he : rejectErr p s tag = 2 := by unfold rejectErr; rw [if_neg (by rw [HC.out]; decide), hk, if_neg (by simp), if_pos hsq2]
    have HY := Lib.hid (And.intro (show rejectS p s tag back = zeroS by unfold rejectS; rw [if_neg (by rw [he]; decide)]) he)
    clear he hk hsq
    have hzk := (HBX.out _ HB2.out).2
    unfold zeroCells at hzk
    obtain ⟨k0, k1, k2, k3, k4, k5, k6, k7, f0, f1, f2, f3, f4, f5, f6, f7, hlt⟩ := zero_cells hzk
    clear hzk
    go_wp2_with fail
    refine bodyPost_ret (v := .tuple #[stateV zeroS none none none 0 0 0, .int .i64 2]) (by simp [results, Tryz.results18, go_sem, stateV, vState, zeroS, k0, k1, k2, k3, k4, k5, k6, k7, hlt]) rfl ?_
    exact ⟨none, none, none, 0, 0, 0, [], by rw [HY.out.1, HY.out.2], by rw [HY.out.1]; exact held_zero _ _, below_set8 (HBX.out _ HB2.out).1.below (by omega) _ _ _ _ _ _ _ _⟩
 ·have b1 : (stateErr p s != 0) = true := by simp [hc]
  have he : rejectErr p s tag = stateErr p s := by unfold rejectErr; rw [if_pos hc]
  have HY := Lib.hid (And.intro (show rejectS p s tag back = zeroS by unfold rejectS; rw [if_neg (by rw [he]; exact hc)]) he)
  clear he
  have hzk := (HBX.out _ HB1.out).2
  unfold zeroCells at hzk
  obtain ⟨k0, k1, k2, k3, k4, k5, k6, k7, f0, f1, f2, f3, f4, f5, f6, f7, hlt⟩ := zero_cells hzk
  clear hzk
  go_wp2_with fail
  refine bodyPost_ret (v := .tuple #[stateV zeroS none none none 0 0 0, .int .i64 (stateErr p s)]) (by simp [results, Tryz.results18, go_sem, stateV, vState, zeroS, k0, k1, k2, k3, k4, k5, k6, k7, hlt]) rfl ?_
  exact ⟨none, none, none, 0, 0, 0, [], by rw [HY.out.1, HY.out.2], by rw [HY.out.1]; exact held_zero _ _, below_set8 (HBX.out _ HB1.out).1.below (by omega) _ _ _ _ _ _ _ _⟩
end Go.Proofs.YtaanpcjkflhomaaGreatDoor
