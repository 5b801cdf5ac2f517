/-
  planBegun answers true; PlanChecks, PlanFits answer true.
-/
import Derived.Test.YtbdikenloklhaaaDoorOffice
import Derived.Deep.RegionHeld3
namespace Go.Proofs.YtbdikenloklhaaaDoor
open Go.RowKit
set_option maxRecDepth 100000

theorem fits_key {key : ByteArray} {n : Int} (hn : ¬ (n < 0 ∨ (officeP.binds.length : Int) ≤ n)) (hk : splitErrL isWord key.data.toList = 0) : fitsErr officeP n key = 0 := by
  unfold fitsErr
  rw [if_neg (by rw [office_right]; decide), if_neg hn, splitErr_list, ByteArray.toList_eq, hk]
theorem officeFits0 : fitsIs officeP 0 ⟨#[120]⟩ = true ∧ fitsErr officeP 0 ⟨#[120]⟩ = 0 := by
  have e : fitsErr officeP 0 ⟨#[120]⟩ = 0 := fits_key (by decide) (by decide)
  refine ⟨?_, e⟩
  unfold fitsIs
  rw [if_pos e]
  show byK 3 ⟨#[120, 46, 35]⟩ ⟨#[120]⟩ = true
  unfold byK
  rw [if_neg (by decide), if_pos rfl, fitP_data]
  decide
theorem officeFits1 : fitsIs officeP 1 ⟨#[120, 46, 121, 46, 122]⟩ = false ∧ fitsErr officeP 1 ⟨#[120, 46, 121, 46, 122]⟩ = 0 := by
  have e : fitsErr officeP 1 ⟨#[120, 46, 121, 46, 122]⟩ = 0 := fits_key (by decide) (by decide)
  refine ⟨?_, e⟩
  unfold fitsIs
  rw [if_pos e]
  show byK 3 ⟨#[42, 46, 121]⟩ ⟨#[120, 46, 121, 46, 122]⟩ = false
  unfold byK
  rw [if_neg (by decide), if_pos rfl, fitP_data]
  decide
theorem officeFits5 : fitsIs officeP 5 ⟨#[120]⟩ = false ∧ fitsErr officeP 5 ⟨#[120]⟩ = 5 := by
  have e : fitsErr officeP 5 ⟨#[120]⟩ = 5 := by
    unfold fitsErr
    rw [if_neg (by rw [office_right]; decide), if_pos (by decide)]
  exact ⟨by simp [fitsIs, e], e⟩

def officeX : PlanD := { officeP with queues := [⟨⟨#[97]⟩, 2, 3⟩, ⟨⟨#[98]⟩, 3, -1⟩, ⟨⟨#[100]⟩, 2, -1⟩] }
def officeY : PlanD := { officeP with posts := [⟨⟨#[109, 97, 105, 110]⟩, 3⟩, ⟨⟨#[109, 97, 105, 110]⟩, 2⟩, ⟨⟨#[100, 101, 97, 100]⟩, 1⟩] }
theorem officeX_wrong : checkP officeX = 3 := by rw [checkP_list]; decide
theorem officeY_wrong : checkP officeY = 6 := by rw [checkP_list]; decide
theorem officeX_small : PlanSmall officeX := small_of (by decide) (by decide) (by decide) (by decide) (by decide) (by decide)
theorem officeY_small : PlanSmall officeY := small_of (by decide) (by decide) (by decide) (by decide) (by decide) (by decide)
theorem name_abc : nameP ⟨#[97, 98, 99]⟩ = true := by rw [nameP_list]; decide
theorem name_a1 : nameP ⟨#[97, 49]⟩ = false := by rw [nameP_list]; decide

/-- The office that has just come, and the call that checks it. -/
theorem fits_office (n : Int) (key : ByteArray) (b : Bool) (c : Int) (hb : fitsIs officeP n key = b ∧ fitsErr officeP n key = c) (hk : key.size ≤ 1048576) (b1 b2 b3 : Nat) (w : World) (hv : Env w) (h : OfficeAt w b1 b2 b3) (h1 : b1 < w.heap.size) (h2 : b2 < w.heap.size) (h3 : b3 < w.heap.size) :
    Calls Tryd.prog 18 #[officeV b1 b2 b3, .int .i64 n, .string key] w fun e w' => e = .returned (.tuple #[.bool b, .int .i64 c]) ∧ Below w.heap.size w w' := by
  have := Fits_any officeP n key _ _ _ 3 3 5 0 w hv (h.plan (lo := 0) (hi := w.heap.size) ⟨Nat.zero_le _, h1⟩ ⟨Nat.zero_le _, h2⟩ ⟨Nat.zero_le _, h3⟩) office_small hk
  rw [hb.1, hb.2] at this
  exact this

set_option maxHeartbeats 2000000 in
theorem planBegun_any (w : World) (hE : Env w) : Calls Tryd.prog 13 #[] w fun e w' => e = .returned (.bool true) ∧ Below w.heap.size w w' := by
  have HE := Lib.hid hE; clear hE
  go_enter Tryd.func13, Tryd.ntmps13
  go_wp2_with fail
  refine (office_any _).mono ?_
  rintro e w1 ⟨rfl, o1, z1, hb1⟩
  go_wp2_with fail
  refine (fits_office 0 _ true 0 officeFits0 (by decide) _ _ _ w1 (below_env hb1 HE.out) o1 (by omega) (by omega) (by omega)).mono ?_
  rintro e w2 ⟨rfl, hb2⟩
  have H2 := Lib.hid (hb1.trans (hb2.mono hb1.size)); clear hb1 hb2 o1 z1
  go_wp2_with fail
  refine (office_any _).mono ?_
  rintro e w3 ⟨rfl, o3, z3, hb3⟩
  have hb3' := H2.out.trans (hb3.mono H2.out.size)
  go_wp2_with fail
  refine (fits_office 1 _ false 0 officeFits1 (by decide) _ _ _ w3 (below_env hb3' HE.out) o3 (by omega) (by omega) (by omega)).mono ?_
  rintro e w4 ⟨rfl, hb4⟩
  have H4 := Lib.hid (hb3'.trans (hb4.mono hb3'.size)); clear hb3 hb3' hb4 o3 z3 H2
  go_wp2_with fail
  refine (office_any _).mono ?_
  rintro e w5 ⟨rfl, o5, z5, hb5⟩
  have hb5' := H4.out.trans (hb5.mono H4.out.size)
  go_wp2_with fail
  refine (fits_office 5 _ false 5 officeFits5 (by decide) _ _ _ w5 (below_env hb5' HE.out) o5 (by omega) (by omega) (by omega)).mono ?_
  rintro e w6 ⟨rfl, hb6⟩
  have H6 := Lib.hid (hb5'.trans (hb6.mono hb5'.size)); clear hb5 hb5' hb6 o5 z5 H4
  go_wp2_with fail
  refine (office_any _).mono ?_
  rintro e w7 ⟨rfl, o7, z7, hb7⟩
  have hc7 := o7.queues.cell 2
  rw [show officeQueues[2]? = some (.int .i64 2) from rfl] at hc7
  have hf7 := o7.queues.frozen 2
  have hs6 := H6.out.size
  have HB7 := Lib.hid (H6.out.trans (hb7.mono H6.out.size)); clear hb7 H6
  have O7 := Lib.hid o7; clear o7
  unfold officeV planV
  rw [show officeP.posts.length = 3 from rfl, show officeP.queues.length = 3 from rfl, show officeP.binds.length = 5 from rfl]
  go_wp2_with fail
  have hlow : w.heap.size ≤ w7.heap.size := HB7.out.size
  obtain ⟨W8, hW8⟩ : ∃ W8, (w7.setCell ⟨w6.heap.size + 2, 2, none⟩ (.int .i64 3)).alloc (.cells #[.slice (some ⟨w6.heap.size + 1, 0, none⟩) 3 3, .slice (some ⟨w6.heap.size + 2, 0, none⟩) 3 3, .slice (some ⟨w6.heap.size + 3, 0, none⟩) 5 5] 26) = W8 := ⟨_, rfl⟩
  have hs8 : W8.heap.size = w6.heap.size + 5 := by rw [← hW8]; simp [World.setCell]; omega
  have hX : ∀ W, Below W8.heap.size W8 W → PlanAt W 0 W8.heap.size (some ⟨w6.heap.size + 1, 0, none⟩) (some ⟨w6.heap.size + 2, 0, none⟩) (some ⟨w6.heap.size + 3, 0, none⟩) officeX ∧
      (W.cell? ⟨w6.heap.size + 4, 0, none⟩ = some (.slice (some ⟨w6.heap.size + 1, 0, none⟩) 3 3) ∧ W.cell? ⟨w6.heap.size + 4, 1, none⟩ = some (.slice (some ⟨w6.heap.size + 2, 0, none⟩) 3 3) ∧ W.cell? ⟨w6.heap.size + 4, 2, none⟩ = some (.slice (some ⟨w6.heap.size + 3, 0, none⟩) 5 5)) := fun W hW => by
    have b1 : Bk W8 (w6.heap.size + 1) 77 officePosts := by rw [← hW8]; exact (O7.out.posts.far (by simp) _).alloc _
    have b2 : Bk W8 (w6.heap.size + 2) 75 (officeQueues.setIfInBounds 2 (.int .i64 3)) := by rw [← hW8]; exact (O7.out.queues.set_ 2 _).alloc _
    have b3 : Bk W8 (w6.heap.size + 3) 92 officeBinds := by rw [← hW8]; exact (O7.out.binds.far (by simp) _).alloc _
    have b4 : Bk W8 (w6.heap.size + 4) 26 #[.slice (some ⟨w6.heap.size + 1, 0, none⟩) 3 3, .slice (some ⟨w6.heap.size + 2, 0, none⟩) 3 3, .slice (some ⟨w6.heap.size + 3, 0, none⟩) 5 5] := by rw [← hW8]; exact Bk.new_at _ _ _ (by simp [World.setCell]; omega)
    have b4' := b4.below hW (by omega)
    refine ⟨⟨Sl.of_bk (b1.below hW (by omega)) (Nat.zero_le _) (by omega) rfl, Sl.of_bk (b2.below hW (by omega)) (Nat.zero_le _) (by omega) rfl, Sl.of_bk (b3.below hW (by omega)) (Nat.zero_le _) (by omega) rfl⟩, ?_, ?_, ?_⟩
    · have := b4'.cell 0; simpa using this
    · have := b4'.cell 1; simpa using this
    · have := b4'.cell 2; simpa using this
  have hb8 : Below w.heap.size w W8 := by
    rw [← hW8]
    exact (HB7.out.setCell (p := ⟨w6.heap.size + 2, 2, none⟩) (by show w.heap.size ≤ w6.heap.size + 2; omega) _).alloc (by simp [World.setCell]; omega) _
  rw [hW8]
  have HX := Lib.hid hX
  have H8 := Lib.hid hb8
  have hl8 := hb8.size
  clear hX hb8 hW8 hs6 hlow z7 hc7 hf7 HB7 O7
  refine (office_any _).mono ?_
  rintro e w9 ⟨rfl, o9, z9, hb9⟩
  have hc9 := o9.posts.cell 2
  rw [show officePosts[2]? = some (.string ⟨#[97, 108, 108]⟩) from rfl] at hc9
  have hf9 := o9.posts.frozen 2
  have HB9 := Lib.hid hb9; clear hb9
  have O9 := Lib.hid o9; clear o9
  have HS8 := Lib.hid hs8; clear hs8
  unfold officeV planV
  rw [show officeP.posts.length = 3 from rfl, show officeP.queues.length = 3 from rfl, show officeP.binds.length = 5 from rfl]
  go_wp2_with fail
  obtain ⟨WA, hWA⟩ : ∃ WA, (w9.setCell ⟨W8.heap.size + 1, 2, none⟩ (.string ⟨#[109, 97, 105, 110]⟩)).alloc (.cells #[.slice (some ⟨W8.heap.size + 1, 0, none⟩) 3 3, .slice (some ⟨W8.heap.size + 2, 0, none⟩) 3 3, .slice (some ⟨W8.heap.size + 3, 0, none⟩) 5 5] 26) = WA := ⟨_, rfl⟩
  have hsA : WA.heap.size = W8.heap.size + 5 := by rw [← hWA]; simp [World.setCell]; omega
  have hb8A : Below W8.heap.size W8 WA := by
    rw [← hWA]
    exact (HB9.out.setCell (p := ⟨W8.heap.size + 1, 2, none⟩) (by show W8.heap.size ≤ W8.heap.size + 1; omega) _).alloc (by simp [World.setCell]; omega) _
  have hY : ∀ W, Below WA.heap.size WA W → PlanAt W 0 WA.heap.size (some ⟨W8.heap.size + 1, 0, none⟩) (some ⟨W8.heap.size + 2, 0, none⟩) (some ⟨W8.heap.size + 3, 0, none⟩) officeY ∧
      (W.cell? ⟨W8.heap.size + 4, 0, none⟩ = some (.slice (some ⟨W8.heap.size + 1, 0, none⟩) 3 3) ∧ W.cell? ⟨W8.heap.size + 4, 1, none⟩ = some (.slice (some ⟨W8.heap.size + 2, 0, none⟩) 3 3) ∧ W.cell? ⟨W8.heap.size + 4, 2, none⟩ = some (.slice (some ⟨W8.heap.size + 3, 0, none⟩) 5 5)) ∧ Below W8.heap.size W8 W ∧ Below w.heap.size w W := fun W hW => by
    have b1 : Bk WA (W8.heap.size + 1) 77 (officePosts.setIfInBounds 2 (.string ⟨#[109, 97, 105, 110]⟩)) := by rw [← hWA]; exact (O9.out.posts.set_ 2 _).alloc _
    have b2 : Bk WA (W8.heap.size + 2) 75 officeQueues := by rw [← hWA]; exact (O9.out.queues.far (by simp) _).alloc _
    have b3 : Bk WA (W8.heap.size + 3) 92 officeBinds := by rw [← hWA]; exact (O9.out.binds.far (by simp) _).alloc _
    have b4 : Bk WA (W8.heap.size + 4) 26 #[.slice (some ⟨W8.heap.size + 1, 0, none⟩) 3 3, .slice (some ⟨W8.heap.size + 2, 0, none⟩) 3 3, .slice (some ⟨W8.heap.size + 3, 0, none⟩) 5 5] := by rw [← hWA]; exact Bk.new_at _ _ _ (by simp [World.setCell]; omega)
    have b4' := b4.below hW (by omega)
    have h8W := hb8A.trans (hW.mono (by omega))
    refine ⟨⟨Sl.of_bk (b1.below hW (by omega)) (Nat.zero_le _) (by omega) rfl, Sl.of_bk (b2.below hW (by omega)) (Nat.zero_le _) (by omega) rfl, Sl.of_bk (b3.below hW (by omega)) (Nat.zero_le _) (by omega) rfl⟩, ⟨?_, ?_, ?_⟩, h8W, H8.out.trans (h8W.mono hl8)⟩
    · have := b4'.cell 0; simpa using this
    · have := b4'.cell 1; simpa using this
    · have := b4'.cell 2; simpa using this
  rw [hWA]
  have HY := Lib.hid hY
  clear hY hb8A hWA z9 hc9 hf9 HB9 O9
  refine (office_any _).mono ?_
  rintro e wb ⟨rfl, ob, zb, hbb⟩
  have HBB := Lib.hid hbb; clear hbb
  have OB := Lib.hid ob; clear ob
  have HSA := Lib.hid hsA; clear hsA
  have r1 := HY.out wb HBB.out
  go_wp2_with fail
  have hck := Check_any officeP (some ⟨WA.heap.size + 1, 0, none⟩) (some ⟨WA.heap.size + 2, 0, none⟩) (some ⟨WA.heap.size + 3, 0, none⟩) 3 3 5 0 wb (below_env r1.2.2.2 HE.out) (OB.out.plan ⟨Nat.zero_le _, by omega⟩ ⟨Nat.zero_le _, by omega⟩ ⟨Nat.zero_le _, by omega⟩) office_small
  rw [office_right] at hck
  refine hck.mono ?_
  clear hck r1 OB
  rintro e wc ⟨rfl, hbc⟩
  have HBC := Lib.hid (HBB.out.trans (hbc.mono HBB.out.size)); clear hbc HBB zb
  obtain ⟨y1, ⟨m0, m1, m2⟩, h8c, hc⟩ := HY.out wc HBC.out
  obtain ⟨x1, ⟨n0, n1, n2⟩⟩ := HX.out wc h8c
  have HQ := Lib.hid (And.intro (x1.wider (Nat.le_refl _) h8c.size) (below_env hc HE.out))
  clear y1 x1 h8c hc
  go_wp2_with fail
  have hck := Check_any officeX _ _ _ 3 3 5 0 wc HQ.out.2 HQ.out.1 officeX_small
  rw [officeX_wrong] at hck
  refine hck.mono ?_
  clear hck HQ m0 m1 m2 n0 n1 n2
  rintro e wd ⟨rfl, hbd⟩
  have HBD := Lib.hid (HBC.out.trans (hbd.mono HBC.out.size)); clear hbd HBC
  obtain ⟨y1, ⟨m0, m1, m2⟩, h8c, hc⟩ := HY.out wd HBD.out
  have HQ := Lib.hid (And.intro (y1.wider (Nat.le_refl _) HBD.out.size) (below_env hc HE.out))
  clear y1 h8c hc
  go_wp2_with fail
  have hck := Check_any officeY _ _ _ 3 3 5 0 wd HQ.out.2 HQ.out.1 officeY_small
  rw [officeY_wrong] at hck
  refine hck.mono ?_
  clear hck HQ m0 m1 m2
  rintro e we ⟨rfl, hbe⟩
  have HBE := Lib.hid (HBD.out.trans (hbe.mono HBD.out.size)); clear hbe HBD
  go_wp2_with fail
  refine (Name_any _ _).mono ?_
  rw [name_abc]
  rintro e wf ⟨rfl, hbf⟩
  have HBF := Lib.hid (HBE.out.trans (hbf.mono HBE.out.size)); clear hbf HBE
  go_wp2_with fail
  refine (Name_any _ _).mono ?_
  rw [name_a1]
  rintro e wg ⟨rfl, hbg⟩
  have HBG := Lib.hid (HBF.out.trans (hbg.mono HBF.out.size)); clear hbg HBF
  go_wp2_with fail
  go_ret
  exact ⟨rfl, (HY.out wg HBG.out).2.2.2⟩

end Go.Proofs.YtbdikenloklhaaaDoor
