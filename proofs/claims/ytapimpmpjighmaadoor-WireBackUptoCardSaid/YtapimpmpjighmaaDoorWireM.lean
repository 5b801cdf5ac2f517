/-
  wireBegun answers true: what must be in any case of the wire.
-/
import Derived.Test.YtapimpmpjighmaaDoorWireL
import Derived.Test.YtapimpmpjighmaaDoorWireI
import Derived.Test.YtapimpmpjighmaaDoorOffice
import Derived.Test.YtapimpmpjighmaaDoorLinesB
namespace Go.Proofs.YtapimpmpjighmaaDoor
open Go.RowKit
set_option maxRecDepth 100000

theorem office_bytes : (writeS officeP).size = 63 := by
  rw [writeS_eq, bsL_size]
  decide
theorem office_more : readE (writeS officeP ++ ⟨#[120]⟩) = 1 := by
  have h := plan_forth office_right [120]
  have e : writeS officeP ++ ⟨#[120]⟩ = bsL (writeB officeP ++ [120]) := by
    rw [writeS_eq]
    unfold bsL
    apply ByteArray.ext
    simp
  have hs : (writeS officeP ++ ⟨#[120]⟩).size = 64 := by
    rw [ByteArray.size_append, office_bytes]; rfl
  unfold readE
  rw [if_neg (by omega), e, h]
  exact if_neg fun hc => by
    have := hc.1
    rw [bsL_size] at this
    cases this

set_option maxHeartbeats 4000000 in
theorem wireBegun_any (w : World) (hE : Env w) : Calls Tryd.prog 15 #[] w fun e w' => e = .returned (.bool true) ∧ Below w.heap.size w w' := by
  have HE := Lib.hid hE; clear hE
  go_enter Tryd.func15, Tryd.ntmps15
  go_wp2_with fail
  refine (office_in _).mono ?_
  rintro e w1 ⟨p1, p2, p3, rfl, ho1, hb1⟩
  have HB1 := Lib.hid hb1
  go_wp2_with fail
  refine (Write_any officeP _ _ _ 3 3 5 w1 (below_env hb1 HE.out) ho1.plan office_small).mono ?_
  rintro e w2 ⟨rfl, hb2⟩
  have HB2 := Lib.hid (HB1.out.trans (hb2.mono HB1.out.size))
  clear hb1 hb2 ho1
  have hw : writeP officeP = writeS officeP := by unfold writeP; rw [if_pos office_right]
  rw [hw, office_right]
  clear hw
  have hr1 := (read_write office_right).1
  have hr2 := (read_write office_right).2
  have hr3 := office_more
  have hz := office_bytes
  generalize writeS officeP = b at *
  have HR2 := Lib.hid hr2
  have HR3 := Lib.hid hr3
  have HZ := Lib.hid hz
  clear hr2 hr3
  go_wp2_with fail
  refine (Read_any b w2 (below_env HB2.out HE.out)).mono ?_
  rintro e w3 ⟨a1, a2, a3, c1, c2, c3, rfl, hp3, hs3, hb3⟩
  have HB3 := Lib.hid (HB2.out.trans (hb3.mono HB2.out.size))
  rw [HR2.out] at *
  rw [hr1]
  have HP3 := Lib.hid hp3
  clear hb3 hr1 hs3 hp3
  unfold planV
  go_wp2_with fail
  obtain ⟨W3, hW3⟩ : ∃ W3, w3.alloc (.cells #[.slice a1 officeP.posts.length c1, .slice a2 officeP.queues.length c2, .slice a3 officeP.binds.length c3] 26) = W3 := ⟨_, rfl⟩
  have hbx : ∀ W, Below W3.heap.size W3 W → (W.cell? ⟨w3.heap.size, 0, none⟩ = some (.slice a1 officeP.posts.length c1) ∧ W.cell? ⟨w3.heap.size, 1, none⟩ = some (.slice a2 officeP.queues.length c2) ∧ W.cell? ⟨w3.heap.size, 2, none⟩ = some (.slice a3 officeP.binds.length c3)) ∧ PlanAt W 0 W.heap.size a1 a2 a3 officeP ∧ Env W ∧ Below w.heap.size w W := fun W hW => by
    have k : Bk W3 w3.heap.size 26 #[.slice a1 officeP.posts.length c1, .slice a2 officeP.queues.length c2, .slice a3 officeP.binds.length c3] := by rw [← hW3]; exact Bk.new _ _ _
    have hz : W3.heap.size = w3.heap.size + 1 := by rw [← hW3]; simp
    have b : Below w3.heap.size w3 W3 := by rw [← hW3]; exact (Below.refl _ _).alloc (Nat.le_refl _) _
    have b2 := b.trans (hW.mono b.size)
    have k2 := k.below hW (by omega)
    have b3 := HB3.out.trans (b2.mono HB3.out.size)
    exact ⟨⟨k2.cell 0, k2.cell 1, k2.cell 2⟩, (HP3.out.below b2 (Nat.le_refl _)).wider (Nat.zero_le _) b2.size, below_env b3 HE.out, b3⟩
  rw [hW3]
  have HBX := Lib.hid hbx
  clear hbx hW3 HB2 HB1 HP3 HB3
  have hr3 := HR3.out
  clear HR3
  generalize b ++ (⟨#[120]⟩ : ByteArray) = bx at hr3 ⊢
  refine (Read_any bx W3 (HBX.out _ (Below.refl _ _)).2.2.1).mono ?_
  rintro e w4 ⟨d1, d2, d3, f1, f2, f3, rfl, hp4, hs4, hb4⟩
  rw [hr3]
  have HB4 := Lib.hid hb4
  clear hp4 hs4 hb4
  generalize readP bx = q4
  clear hr3
  unfold planV
  go_upto_region 4 with fail
  obtain ⟨W5, hW5⟩ : ∃ W5, w4.alloc (.cells #[.slice d1 q4.posts.length f1, .slice d2 q4.queues.length f2, .slice d3 q4.binds.length f3] 26) = W5 := ⟨_, rfl⟩
  have hb5 : Below W3.heap.size W3 W5 := by rw [← hW5]; exact HB4.out.alloc HB4.out.size _
  rw [hW5]
  clear hW5
  have HB5 := Lib.hid hb5
  have HK : Hid (∀ W, Below W5.heap.size W5 W → (W.cell? ⟨w3.heap.size, 0, none⟩ = some (.slice a1 officeP.posts.length c1) ∧ W.cell? ⟨w3.heap.size, 1, none⟩ = some (.slice a2 officeP.queues.length c2) ∧ W.cell? ⟨w3.heap.size, 2, none⟩ = some (.slice a3 officeP.binds.length c3)) ∧ Below W5.heap.size W5 W) := fun W hW => ⟨(HBX.out W (HB5.out.trans (hW.mono HB5.out.size))).1, hW⟩
  have HS : Hid (∀ W b1 b2 b3, Below W5.heap.size W5 W → OfficeIn W b1 b2 b3 → Calls Tryd.prog 16 #[.agg #[.slice a1 officeP.posts.length c1, .slice a2 officeP.queues.length c2, .slice a3 officeP.binds.length c3], officeV b1 b2 b3] W fun e w' => e = .returned (.bool true) ∧ Below W.heap.size W w') := fun W b1 b2 b3 hW ho => by
    have h := SamePlans_any officeP officeP a1 a2 a3 _ _ _ c1 c2 c3 3 3 5 W (HBX.out W (HB5.out.trans (hW.mono HB5.out.size))).2.1 office_small ho.plan office_small
    rw [planEq_refl] at h
    exact h
  clear hb5
  refine wp_region_held_drew (S := (fun W => (W.cell? ⟨w3.heap.size, 0, none⟩ = some (.slice a1 officeP.posts.length c1) ∧ W.cell? ⟨w3.heap.size, 1, none⟩ = some (.slice a2 officeP.queues.length c2) ∧ W.cell? ⟨w3.heap.size, 2, none⟩ = some (.slice a3 officeP.binds.length c3)) ∧ Below W5.heap.size W5 W)) (by kernel_rfl) (by first | assumption | exact HK.out _ (Below.refl _ _).drew | exact HK.out _ (by assumption)) (fun hHeld => ?_)
  first | (refine wpAnyH_take (i := 0) (v := ?_) rfl (by kernel_rfl) (by kernel_rfl) (by kernel_rfl) (fun _ _ _ h => h) (Or.inl ⟨by rfl, ?_⟩) (by assumption) ?_; rotate_left; focus (intro w hSw; (try dsimp only at hSw); go_simp; (all_goals with_reducible rfl); done)) | (refine wpAnyH_take (i := 0) rfl (by kernel_rfl) (by kernel_rfl) (by kernel_rfl) (fun _ _ _ h => h) (Or.inr ⟨by rfl, rfl⟩) (by assumption) ?_) | fail "op 0"
  try simp only [Act.put, List.setIfInBounds_toArray, List.set_cons_zero, List.set_cons_succ, List.getElem_toArray, List.getElem_cons_zero]
  first | (refine wpAnyH_take (i := 1) (v := ?_) rfl (by kernel_rfl) (by kernel_rfl) (by kernel_rfl) (fun _ _ _ h => h) (Or.inl ⟨by rfl, ?_⟩) (by assumption) ?_; rotate_left; focus (intro w hSw; (try dsimp only at hSw); go_simp; (all_goals with_reducible rfl); done)) | (refine wpAnyH_take (i := 1) rfl (by kernel_rfl) (by kernel_rfl) (by kernel_rfl) (fun _ _ _ h => h) (Or.inr ⟨by rfl, rfl⟩) (by assumption) ?_) | fail "op 1"
  try simp only [Act.put, List.setIfInBounds_toArray, List.set_cons_zero, List.set_cons_succ, List.getElem_toArray, List.getElem_cons_zero, List.getElem_cons_succ]
  first | (refine wpAnyH_take (i := 2) (v := ?_) rfl (by kernel_rfl) (by kernel_rfl) (by kernel_rfl) (fun _ _ _ h => h) (Or.inl ⟨by rfl, ?_⟩) (by assumption) ?_; rotate_left; focus (intro w hSw; (try dsimp only at hSw); go_simp; (all_goals with_reducible rfl); done)) | (refine wpAnyH_take (i := 2) rfl (by kernel_rfl) (by kernel_rfl) (by kernel_rfl) (fun _ _ _ h => h) (Or.inr ⟨by rfl, rfl⟩) (by assumption) ?_) | fail "op 2"
  try simp only [Act.put, List.setIfInBounds_toArray, List.set_cons_zero, List.set_cons_succ, List.getElem_toArray, List.getElem_cons_zero, List.getElem_cons_succ]
  first | (refine wpAnyH_take (i := 3) (v := ?_) rfl (by kernel_rfl) (by kernel_rfl) (by kernel_rfl) (fun _ _ _ h => h) (Or.inl ⟨by rfl, ?_⟩) (by assumption) ?_; rotate_left; focus (intro w hSw; (try dsimp only at hSw); go_simp; (all_goals with_reducible rfl); done)) | (refine wpAnyH_take (i := 3) rfl (by kernel_rfl) (by kernel_rfl) (by kernel_rfl) (fun _ _ _ h => h) (Or.inr ⟨by rfl, rfl⟩) (by assumption) ?_) | fail "op 3"
  try simp only [Act.put, List.setIfInBounds_toArray, List.set_cons_zero, List.set_cons_succ, List.getElem_toArray, List.getElem_cons_zero, List.getElem_cons_succ]
  first | (refine wpAnyH_take (i := 4) (v := ?_) rfl (by kernel_rfl) (by kernel_rfl) (by kernel_rfl) (fun _ _ _ h => h) (Or.inl ⟨by rfl, ?_⟩) (by assumption) ?_; rotate_left; focus (intro w hSw; (try dsimp only at hSw); go_simp; (all_goals with_reducible rfl); done)) | (refine wpAnyH_take (i := 4) rfl (by kernel_rfl) (by kernel_rfl) (by kernel_rfl) (fun _ _ _ h => h) (Or.inr ⟨by rfl, rfl⟩) (by assumption) ?_) | fail "op 4"
  try simp only [Act.put, List.setIfInBounds_toArray, List.set_cons_zero, List.set_cons_succ, List.getElem_toArray, List.getElem_cons_zero, List.getElem_cons_succ]
  first | (refine wpAnyH_take (i := 5) (v := ?_) rfl (by kernel_rfl) (by kernel_rfl) (by kernel_rfl) (fun _ _ _ h => h) (Or.inl ⟨by rfl, ?_⟩) (by assumption) ?_; rotate_left; focus (intro w hSw; (try dsimp only at hSw); go_simp; (all_goals with_reducible rfl); done)) | (refine wpAnyH_take (i := 5) rfl (by kernel_rfl) (by kernel_rfl) (by kernel_rfl) (fun _ _ _ h => h) (Or.inr ⟨by rfl, rfl⟩) (by assumption) ?_) | fail "op 5"
  try simp only [Act.put, List.setIfInBounds_toArray, List.set_cons_zero, List.set_cons_succ, List.getElem_toArray, List.getElem_cons_zero, List.getElem_cons_succ]
  first | (refine wpAnyH_take (i := 6) (v := ?_) rfl (by kernel_rfl) (by kernel_rfl) (by kernel_rfl) (fun _ _ _ h => h) (Or.inl ⟨by rfl, ?_⟩) (by assumption) ?_; rotate_left; focus (intro w hSw; (try dsimp only at hSw); go_simp; (all_goals with_reducible rfl); done)) | (refine wpAnyH_take (i := 6) rfl (by kernel_rfl) (by kernel_rfl) (by kernel_rfl) (fun _ _ _ h => h) (Or.inr ⟨by rfl, rfl⟩) (by assumption) ?_) | fail "op 6"
  try simp only [Act.put, List.setIfInBounds_toArray, List.set_cons_zero, List.set_cons_succ, List.getElem_toArray, List.getElem_cons_zero, List.getElem_cons_succ]
  first | (refine wpAnyH_take (i := 7) (v := ?_) rfl (by kernel_rfl) (by kernel_rfl) (by kernel_rfl) (fun _ _ _ h => h) (Or.inl ⟨by rfl, ?_⟩) (by assumption) ?_; rotate_left; focus (intro w hSw; (try dsimp only at hSw); go_simp; (all_goals with_reducible rfl); done)) | (refine wpAnyH_take (i := 7) rfl (by kernel_rfl) (by kernel_rfl) (by kernel_rfl) (fun _ _ _ h => h) (Or.inr ⟨by rfl, rfl⟩) (by assumption) ?_) | fail "op 7"
  try simp only [Act.put, List.setIfInBounds_toArray, List.set_cons_zero, List.set_cons_succ, List.getElem_toArray, List.getElem_cons_zero, List.getElem_cons_succ]
  first | (refine wpAnyH_take (i := 8) (v := ?_) rfl (by kernel_rfl) (by kernel_rfl) (by kernel_rfl) (fun _ _ _ h => h) (Or.inl ⟨by rfl, ?_⟩) (by assumption) ?_; rotate_left; focus (intro w hSw; (try dsimp only at hSw); go_simp; (all_goals with_reducible rfl); done)) | (refine wpAnyH_take (i := 8) rfl (by kernel_rfl) (by kernel_rfl) (by kernel_rfl) (fun _ _ _ h => h) (Or.inr ⟨by rfl, rfl⟩) (by assumption) ?_) | fail "op 8"
  try simp only [Act.put, List.setIfInBounds_toArray, List.set_cons_zero, List.set_cons_succ, List.getElem_toArray, List.getElem_cons_zero, List.getElem_cons_succ]
  first | (refine wpAnyH_take (i := 9) (v := ?_) rfl (by kernel_rfl) (by kernel_rfl) (by kernel_rfl) (fun _ _ _ h => h) (Or.inl ⟨by rfl, ?_⟩) (by assumption) ?_; rotate_left; focus (intro w hSw; (try dsimp only at hSw); go_simp; (all_goals with_reducible rfl); done)) | (refine wpAnyH_take (i := 9) rfl (by kernel_rfl) (by kernel_rfl) (by kernel_rfl) (fun _ _ _ h => h) (Or.inr ⟨by rfl, rfl⟩) (by assumption) ?_) | fail "op 9"
  try simp only [Act.put, List.setIfInBounds_toArray, List.set_cons_zero, List.set_cons_succ, List.getElem_toArray, List.getElem_cons_zero, List.getElem_cons_succ]
  first | (refine wpAnyH_take (i := 10) (v := ?_) rfl (by kernel_rfl) (by kernel_rfl) (by kernel_rfl) (fun _ _ _ h => h) (Or.inl ⟨by rfl, ?_⟩) (by assumption) ?_; rotate_left; focus (intro w hSw; (try dsimp only at hSw); go_simp; (all_goals with_reducible rfl); done)) | (refine wpAnyH_take (i := 10) rfl (by kernel_rfl) (by kernel_rfl) (by kernel_rfl) (fun _ _ _ h => h) (Or.inr ⟨by rfl, rfl⟩) (by assumption) ?_) | fail "op 10"
  try simp only [Act.put, List.setIfInBounds_toArray, List.set_cons_zero, List.set_cons_succ, List.getElem_toArray, List.getElem_cons_zero, List.getElem_cons_succ]
  first | (refine wpAnyH_take (i := 11) (v := ?_) rfl (by kernel_rfl) (by kernel_rfl) (by kernel_rfl) (fun _ _ _ h => h) (Or.inl ⟨by rfl, ?_⟩) (by assumption) ?_; rotate_left; focus (intro w hSw; (try dsimp only at hSw); go_simp; (all_goals with_reducible rfl); done)) | (refine wpAnyH_take (i := 11) rfl (by kernel_rfl) (by kernel_rfl) (by kernel_rfl) (fun _ _ _ h => h) (Or.inr ⟨by rfl, rfl⟩) (by assumption) ?_) | fail "op 11"
  try simp only [Act.put, List.setIfInBounds_toArray, List.set_cons_zero, List.set_cons_succ, List.getElem_toArray, List.getElem_cons_zero, List.getElem_cons_succ]
  first | (refine wpAnyH_take (i := 12) (v := ?_) rfl (by kernel_rfl) (by kernel_rfl) (by kernel_rfl) (fun _ _ _ h => h) (Or.inl ⟨by rfl, ?_⟩) (by assumption) ?_; rotate_left; focus (intro w hSw; (try dsimp only at hSw); go_simp; (all_goals with_reducible rfl); done)) | (refine wpAnyH_take (i := 12) rfl (by kernel_rfl) (by kernel_rfl) (by kernel_rfl) (fun _ _ _ h => h) (Or.inr ⟨by rfl, rfl⟩) (by assumption) ?_) | fail "op 12"
  try simp only [Act.put, List.setIfInBounds_toArray, List.set_cons_zero, List.set_cons_succ, List.getElem_toArray, List.getElem_cons_zero, List.getElem_cons_succ]
  first | (refine wpAnyH_take (i := 13) (v := ?_) rfl (by kernel_rfl) (by kernel_rfl) (by kernel_rfl) (fun _ _ _ h => h) (Or.inl ⟨by rfl, ?_⟩) (by assumption) ?_; rotate_left; focus (intro w hSw; (try dsimp only at hSw); go_simp; (all_goals with_reducible rfl); done)) | (refine wpAnyH_take (i := 13) rfl (by kernel_rfl) (by kernel_rfl) (by kernel_rfl) (fun _ _ _ h => h) (Or.inr ⟨by rfl, rfl⟩) (by assumption) ?_) | fail "op 13"
  try simp only [Act.put, List.setIfInBounds_toArray, List.set_cons_zero, List.set_cons_succ, List.getElem_toArray, List.getElem_cons_zero, List.getElem_cons_succ]
  first | (refine wpAnyH_take (i := 14) (v := ?_) rfl (by kernel_rfl) (by kernel_rfl) (by kernel_rfl) (fun _ _ _ h => h) (Or.inl ⟨by rfl, ?_⟩) (by assumption) ?_; rotate_left; focus (intro w hSw; (try dsimp only at hSw); go_simp; (all_goals with_reducible rfl); done)) | (refine wpAnyH_take (i := 14) rfl (by kernel_rfl) (by kernel_rfl) (by kernel_rfl) (fun _ _ _ h => h) (Or.inr ⟨by rfl, rfl⟩) (by assumption) ?_) | fail "op 14"
  try simp only [Act.put, List.setIfInBounds_toArray, List.set_cons_zero, List.set_cons_succ, List.getElem_toArray, List.getElem_cons_zero, List.getElem_cons_succ]
  first | (refine wpAnyH_take (i := 15) (v := ?_) rfl (by kernel_rfl) (by kernel_rfl) (by kernel_rfl) (fun _ _ _ h => h) (Or.inl ⟨by rfl, ?_⟩) (by assumption) ?_; rotate_left; focus (intro w hSw; (try dsimp only at hSw); go_simp; (all_goals with_reducible rfl); done)) | (refine wpAnyH_take (i := 15) rfl (by kernel_rfl) (by kernel_rfl) (by kernel_rfl) (fun _ _ _ h => h) (Or.inr ⟨by rfl, rfl⟩) (by assumption) ?_) | fail "op 15"
  try simp only [Act.put, List.setIfInBounds_toArray, List.set_cons_zero, List.set_cons_succ, List.getElem_toArray, List.getElem_cons_zero, List.getElem_cons_succ]
  first | (refine wpAnyH_take (i := 16) (v := ?_) rfl (by kernel_rfl) (by kernel_rfl) (by kernel_rfl) (fun _ _ _ h => h) (Or.inl ⟨by rfl, ?_⟩) (by assumption) ?_; rotate_left; focus (intro w hSw; (try dsimp only at hSw); go_simp; (all_goals with_reducible rfl); done)) | (refine wpAnyH_take (i := 16) rfl (by kernel_rfl) (by kernel_rfl) (by kernel_rfl) (fun _ _ _ h => h) (Or.inr ⟨by rfl, rfl⟩) (by assumption) ?_) | fail "op 16"
  try simp only [Act.put, List.setIfInBounds_toArray, List.set_cons_zero, List.set_cons_succ, List.getElem_toArray, List.getElem_cons_zero, List.getElem_cons_succ]
  first
    | refine wpAnyH_take (i := 17) rfl (by kernel_rfl) (by kernel_rfl) (by kernel_rfl) (fun _ _ _ h => h) (Or.inr ⟨by rfl, rfl⟩) (by assumption) ?_
    | (refine wpAnyH_ready (rs := [17]) (by kernel_rfl) (by simp) ?_; refine AllReadyH.cons rfl (fun K hK => ?_) AllReadyH.nil; go_simp; (first | (go_at_call 53; with_reducible refine (office_in _).mono ?_; rintro e wo ⟨b1, b2, b3, rfl, ho, hbo⟩; (try clear hbo2); have hbo2 := since_stepC (by assumption) hbo) | (go_at_call 16; with_reducible refine (HS.out _ _ _ _ hbo2 ho).mono ?_; rintro e wk ⟨rfl, hbk⟩; have hbo2 := hbo2.trans (hbk.mono hbo2.size))); refine hK.out _ _ (by first | assumption | exact HK.out _ (Below.refl _ _).drew | exact HK.out _ (by assumption)) (fun hHeld => ?_); clear hK K)
    | fail "call 17"
  try simp only [Act.put, List.setIfInBounds_toArray, List.set_cons_zero, List.set_cons_succ, List.getElem_toArray, List.getElem_cons_zero, List.getElem_cons_succ]
  first
    | refine wpAnyH_take (i := 18) rfl (by kernel_rfl) (by kernel_rfl) (by kernel_rfl) (fun _ _ _ h => h) (Or.inr ⟨by rfl, rfl⟩) (by assumption) ?_
    | (refine wpAnyH_ready (rs := [18]) (by kernel_rfl) (by simp) ?_; refine AllReadyH.cons rfl (fun K hK => ?_) AllReadyH.nil; go_simp; (first | (go_at_call 53; with_reducible refine (office_in _).mono ?_; rintro e wo ⟨b1, b2, b3, rfl, ho, hbo⟩; (try clear hbo2); have hbo2 := since_stepC (by assumption) hbo) | (go_at_call 16; with_reducible refine (HS.out _ _ _ _ hbo2 ho).mono ?_; rintro e wk ⟨rfl, hbk⟩; have hbo2 := hbo2.trans (hbk.mono hbo2.size))); refine hK.out _ _ (by first | assumption | exact HK.out _ (Below.refl _ _).drew | exact HK.out _ (by assumption)) (fun hHeld => ?_); clear hK K)
    | fail "call 18"
  try simp only [Act.put, List.setIfInBounds_toArray, List.set_cons_zero, List.set_cons_succ, List.getElem_toArray, List.getElem_cons_zero, List.getElem_cons_succ]
  first | (refine wpAnyH_take (i := 19) (v := ?_) rfl (by kernel_rfl) (by kernel_rfl) (by kernel_rfl) (fun _ _ _ h => h) (Or.inl ⟨by rfl, ?_⟩) (by assumption) ?_; rotate_left; focus (intro w hSw; (try dsimp only at hSw); go_simp; (all_goals with_reducible rfl); done)) | (refine wpAnyH_take (i := 19) rfl (by kernel_rfl) (by kernel_rfl) (by kernel_rfl) (fun _ _ _ h => h) (Or.inr ⟨by rfl, rfl⟩) (by assumption) ?_) | fail "op 19"
  try simp only [Act.put, List.setIfInBounds_toArray, List.set_cons_zero, List.set_cons_succ, List.getElem_toArray, List.getElem_cons_zero, List.getElem_cons_succ]
  first | (refine wpAnyH_take (i := 20) (v := ?_) rfl (by kernel_rfl) (by kernel_rfl) (by kernel_rfl) (fun _ _ _ h => h) (Or.inl ⟨by rfl, ?_⟩) (by assumption) ?_; rotate_left; focus (intro w hSw; (try dsimp only at hSw); go_simp; (all_goals with_reducible rfl); done)) | (refine wpAnyH_take (i := 20) rfl (by kernel_rfl) (by kernel_rfl) (by kernel_rfl) (fun _ _ _ h => h) (Or.inr ⟨by rfl, rfl⟩) (by assumption) ?_) | fail "op 20"
  try simp only [Act.put, List.setIfInBounds_toArray, List.set_cons_zero, List.set_cons_succ, List.getElem_toArray, List.getElem_cons_zero, List.getElem_cons_succ]
  refine wpAnyH_done (by kernel_rfl) ?_ _
  go_wp2_with fail
  go_ret
  exact ⟨rfl, (HBX.out _ (HB5.out.trans (hbo2.mono HB5.out.size))).2.2.2⟩

end Go.Proofs.YtapimpmpjighmaaDoor
