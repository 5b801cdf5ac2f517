/-
  handBegun answers true: what must be in any case of what is handed in.
-/
import Derived.Test.YtfbgmgadpjpdcaaGreatDoorHandB
import Derived.Test.YtfbgmgadpjpdcaaGreatDoorBunT
set_option linter.unusedSimpArgs false
set_option linter.unusedVariables false
namespace Go.Proofs.YtfbgmgadpjpdcaaGreatDoor
open Go Go.RowKit
set_option maxRecDepth 100000

def bLong : ByteArray := ⟨#[97, 98, 99, 100, 101, 102, 103, 104, 105, 106, 107, 108, 109]⟩
def hanS2 : StateD := { busyS with ready := [[letterP 3 bThree, letterP 4 bNew], [⟨5, kXY, bNew, false, 0⟩], []], nextSeq := 6, came := 6, dropped := 1 }
def hanS : StateD := { busyS with ready := [[letterP 3 bThree, letterP 4 bNew], [⟨5, kXY, bNew, false, 0⟩], [⟨6, kXY, bTwo, false, 1⟩]], nextSeq := 7, came := 7, dropped := 1 }
theorem han_pub : pubL officeP 0 kXY bNew = [⟨0, kXY, bNew, 0⟩, ⟨1, kXY, bNew, 0⟩] := by
  unfold pubL
  rw [offQueues0]
  rfl
theorem han_step1 : stepA officeP (busyS, [⟨0, kXY, bNew, 0⟩, ⟨1, kXY, bNew, 0⟩]) = (arrS1, [⟨1, kXY, bNew, 0⟩, ⟨2, kXY, bTwo, 1⟩]) := by
  have hp : pushL (lineAt (seqd busyS) 0) (itemOf busyS ⟨0, kXY, bNew, 0⟩) = [letterP 2 bTwo, letterP 3 bThree, letterP 4 bNew] := rfl
  have hl : layP officeP (seqd busyS) 0 (itemOf busyS ⟨0, kXY, bNew, 0⟩) = (arrS1, [⟨2, kXY, bTwo, 1⟩]) := by
    unfold layP
    rw [hp, if_neg (by decide), show headL [letterP 2 bTwo, letterP 3 bThree, letterP 4 bNew] = letterP 2 bTwo from rfl, dying2]
    rfl
  show ((layP officeP (seqd busyS) 0 (itemOf busyS ⟨0, kXY, bNew, 0⟩)).1, _ ++ (layP officeP (seqd busyS) 0 (itemOf busyS ⟨0, kXY, bNew, 0⟩)).2) = _
  rw [hl]
  rfl
theorem han_step2 : stepA officeP (arrS1, [⟨1, kXY, bNew, 0⟩, ⟨2, kXY, bTwo, 1⟩]) = (hanS2, [⟨2, kXY, bTwo, 1⟩]) := by
  have hp : pushL (lineAt (seqd arrS1) 1) (itemOf arrS1 ⟨1, kXY, bNew, 0⟩) = [⟨5, kXY, bNew, false, 0⟩] := rfl
  have hl : layP officeP (seqd arrS1) 1 (itemOf arrS1 ⟨1, kXY, bNew, 0⟩) = (hanS2, []) := by
    unfold layP
    rw [hp, if_pos (by decide)]
    rfl
  show ((layP officeP (seqd arrS1) 1 (itemOf arrS1 ⟨1, kXY, bNew, 0⟩)).1, _ ++ (layP officeP (seqd arrS1) 1 (itemOf arrS1 ⟨1, kXY, bNew, 0⟩)).2) = _
  rw [hl]
  rfl
theorem han_step3 : stepA officeP (hanS2, [⟨2, kXY, bTwo, 1⟩]) = (hanS, []) := by
  have hp : pushL (lineAt (seqd hanS2) 2) (itemOf hanS2 ⟨2, kXY, bTwo, 1⟩) = [⟨6, kXY, bTwo, false, 1⟩] := rfl
  have hl : layP officeP (seqd hanS2) 2 (itemOf hanS2 ⟨2, kXY, bTwo, 1⟩) = (hanS, []) := by
    unfold layP
    rw [hp, if_pos (by decide)]
    rfl
  show ((layP officeP (seqd hanS2) 2 (itemOf hanS2 ⟨2, kXY, bTwo, 1⟩)).1, _ ++ (layP officeP (seqd hanS2) 2 (itemOf hanS2 ⟨2, kXY, bTwo, 1⟩)).2) = _
  rw [hl]
  rfl
theorem han_settle : settleP officeP busyS [⟨0, kXY, bNew, 0⟩, ⟨1, kXY, bNew, 0⟩] = hanS := by
  refine settle_of (n := 3) ?_ (by decide)
  show stepA officeP (stepA officeP (stepA officeP (busyS, [⟨0, kXY, bNew, 0⟩, ⟨1, kXY, bNew, 0⟩]))) = _
  rw [han_step1, han_step2, han_step3]
theorem han_arr : arriveErr officeP busyS [⟨0, kXY, bNew, 0⟩, ⟨1, kXY, bNew, 0⟩] = 0 := by
  unfold arriveErr
  rw [if_neg (by rw [busy_right]; decide), if_neg (by decide), if_neg (by decide), if_neg (by simp [arrFine, xy_key]; decide), if_neg (by decide)]
theorem han_err : publishErr officeP busyS 0 kXY bNew = 0 := by
  unfold publishErr
  rw [if_neg (by rw [busy_right]; decide), if_neg (by rw [offErr0]; decide), if_neg (by decide), han_pub, han_arr]
theorem han_office : publishErr officeP busyS 0 kXY bNew = 0 ∧ publishN officeP busyS 0 kXY bNew = 2 ∧ publishS officeP busyS 0 kXY bNew = hanS := by
  refine ⟨han_err, ?_, ?_⟩
  · unfold publishN; rw [if_pos han_err, offQueues0]; rfl
  · unfold publishS arriveS; rw [if_pos han_err, han_pub, if_pos han_arr, han_settle]
theorem han_bad {x : Int} {key body : ByteArray} {n : Int} (h : publishErr officeP busyS x key body = n) (h0 : n ≠ 0) : publishErr officeP busyS x key body = n ∧ publishN officeP busyS x key body = 0 ∧ publishS officeP busyS x key body = zeroS := by
  refine ⟨h, ?_, ?_⟩
  · unfold publishN; rw [if_neg (by omega)]
  · unfold publishS; rw [if_neg (by omega)]
theorem han_office3 : publishErr officeP busyS 3 kXY bNew = 5 ∧ publishN officeP busyS 3 kXY bNew = 0 ∧ publishS officeP busyS 3 kXY bNew = zeroS := by
  have h : routeErr officeP 3 kXY = 5 := by
    unfold routeErr
    rw [if_neg (by rw [office_right]; decide), if_pos (by decide)]
  refine han_bad ?_ (by decide)
  unfold publishErr
  rw [if_neg (by rw [busy_right]; decide), if_pos (by rw [h]; decide), h]
theorem han_officeL : publishErr officeP busyS 0 kXY bLong = 1 ∧ publishN officeP busyS 0 kXY bLong = 0 ∧ publishS officeP busyS 0 kXY bLong = zeroS := by
  refine han_bad ?_ (by decide)
  unfold publishErr
  rw [if_neg (by rw [busy_right]; decide), if_neg (by rw [offErr0]; decide), if_pos (by decide)]
theorem off2z : onL officeP 2 kZ = [] := by
  have h0 : byP officeP ⟨2, false, 2, ⟨#[120, 46, 121]⟩⟩ kZ = false := by rw [byP_list]; decide
  have e : officeP.binds = [⟨0, false, 0, ⟨#[120, 46, 35]⟩⟩, ⟨0, true, 1, ⟨#[42, 46, 121]⟩⟩, ⟨1, false, 1, ⟨#[35]⟩⟩, ⟨1, true, 0, ⟨#[35]⟩⟩, ⟨2, false, 2, ⟨#[120, 46, 121]⟩⟩] := rfl
  unfold onL
  simp [onTo, e, h0]
theorem offErr2z : routeErr officeP 2 kZ = 0 := by
  unfold routeErr
  rw [if_neg (by rw [office_right]; decide), if_neg (by decide), key_err (by decide)]
theorem offQueues2z : queuesR officeP 2 kZ = [] := by
  have e : officeP.posts.length = 3 := rfl
  have ho : outs officeP 2 kZ = [2] := by
    unfold outs
    rw [e]
    simp [outAt, off2z, gather]
  unfold queuesR ofL
  rw [if_pos offErr2z, ho, sortI_self (by decide : ([2] : List Int).Pairwise (· < ·))]
  have : offAt officeP kZ [2] ([2] : List Int).length = [] := by simp [offAt, off2z, collect]
  rw [this, sortI_self List.Pairwise.nil, compact_self List.Pairwise.nil]
theorem han_arr0 : arriveErr officeP busyS [] = 0 := by
  unfold arriveErr
  rw [if_neg (by rw [busy_right]; decide), if_neg (by decide), if_neg (by decide), if_neg (by decide), if_neg (by decide)]
theorem han_pub0 : pubL officeP 2 kZ .empty = [] := by
  unfold pubL
  rw [offQueues2z]
  rfl
theorem han_err0 : publishErr officeP busyS 2 kZ .empty = 0 := by
  unfold publishErr
  rw [if_neg (by rw [busy_right]; decide), if_neg (by rw [offErr2z]; decide), if_neg (by decide), han_pub0, han_arr0]
theorem han_office0 : publishErr officeP busyS 2 kZ .empty = 0 ∧ publishN officeP busyS 2 kZ .empty = 0 ∧ publishS officeP busyS 2 kZ .empty = busyS := by
  refine ⟨han_err0, ?_, ?_⟩
  · unfold publishN; rw [if_pos han_err0, offQueues2z]; rfl
  · unfold publishS arriveS; rw [if_pos han_err0, han_pub0, if_pos han_arr0]; exact settle_of (n := 0) rfl (by decide)
theorem cPublish (x : Int) (key body : ByteArray) (X : StateD) (n e : Int) (h : publishErr officeP busyS x key body = e ∧ publishN officeP busyS x key body = n ∧ publishS officeP busyS x key body = X) (hk : key.size ≤ 1048576) (hb : body.size ≤ 1048576) (hx : -9223372036854775808 ≤ x ∧ x ≤ 9223372036854775807) (b1 b2 b3 lo g0 g1 g2 g3 : Nat) (w : World) (hE : Env w) (ho : OfficeIn w b1 b2 b3) (hs : BusyAt w lo g0 g1 g2 g3) :
    Calls Tryz.prog 21 #[officeV b1 b2 b3, busyV g1 g2 g3, .int .i64 x, .string key, .string body] w (ArPost X n e w) := by
  have := Publish_any officeP busyS x key body _ _ _ _ _ _ 3 3 5 3 1 2 (busyRowD g0) w hE ho.plan office_small hs.state busy_small busy_ints hk hb hx
  rw [h.1, h.2.1, h.2.2] at this
  exact this

set_option maxHeartbeats 4000000 in
theorem handBegun_any (w : World) (hE : Env w) : Calls Tryz.prog 23 #[] w fun e w' => e = .returned (.bool true) ∧ Below w.heap.size w w' := by
  have HE := Lib.hid hE; clear hE
  go_enter Tryz.func23, Tryz.ntmps23
  go_wp2_with fail
  refine (office_in _).mono ?_
  rintro e w1 ⟨p1, p2, p3, rfl, ho1, hb1⟩
  go_wp2_with fail
  refine (busy_any _).mono ?_
  rintro e w2 ⟨g0, g1, g2, g3, rfl, hy2, hb2⟩
  have hb2' := hb1.trans (hb2.mono hb1.size)
  have ho2 := ho1.below hb2
  go_wp2_with fail
  refine (cPublish 0 kXY bNew hanS 2 0 han_office (by decide) (by decide) (by decide) p1 p2 p3 _ g0 g1 g2 g3 w2 (below_env hb2' HE.out) ho2 hy2).mono ?_
  rintro e w4 ⟨x1, x2, x3, d1, d2, d3, rx, rfl, hs4, hb4⟩
  have HB4 := Lib.hid (hb2'.trans (hb4.mono hb2'.size))
  have HS4 := Lib.hid hs4
  clear hb1 hb2 hb2' hb4 ho1 ho2 hy2 hs4
  rw [show stateV hanS x1 x2 x3 d1 d2 d3 = .agg #[.slice x1 3 d1, .slice x2 1 d2, .slice x3 2 d3, .int .i64 7, .int .i64 6, .int .i64 7, .int .i64 1, .int .i64 1] from rfl]
  go_upto_region 2 with fail
  obtain ⟨WA, hWA⟩ : ∃ WA, w4.alloc (.cells #[.slice x1 3 d1, .slice x2 1 d2, .slice x3 2 d3, .int .i64 7, .int .i64 6, .int .i64 7, .int .i64 1, .int .i64 1] 31) = WA := ⟨_, rfl⟩
  have HA := Lib.hid (box_since (x := hanS) d1 d2 d3 HS4.out HB4.out hWA)
  rw [hWA]
  clear hWA HS4 HB4
  have HB0 := Lib.hid (Below.refl WA.heap.size WA)
  go_wp2_with fail
  refine (office_in _).mono ?_
  rintro e w5 ⟨p1, p2, p3, rfl, ho5, hb5⟩
  go_wp2_with fail
  refine (busy_any _).mono ?_
  rintro e w6 ⟨g0, g1, g2, g3, rfl, hy6, hb6⟩
  have hb6' := HB0.out.trans ((hb5.trans (hb6.mono hb5.size)).mono HB0.out.size)
  have ho6 := ho5.below hb6
  go_wp2_with fail
  refine (cPublish 3 kXY bNew zeroS 0 5 han_office3 (by decide) (by decide) (by decide) p1 p2 p3 _ g0 g1 g2 g3 w6 (below_env (HA.out _ hb6').2 HE.out) ho6 hy6).mono ?_
  rintro e w8 ⟨z1, z2, z3, f1, f2, f3, rz, rfl, _, hb8⟩
  rw [show stateV zeroS z1 z2 z3 f1 f2 f3 = .agg #[.slice z1 0 f1, .slice z2 0 f2, .slice z3 0 f3, .int .i64 0, .int .i64 0, .int .i64 0, .int .i64 0, .int .i64 0] from rfl]
  have hb8' := hb6'.trans (hb8.mono hb6'.size)
  go_upto_region 3 with fail
  obtain ⟨WB1, hwf⟩ : ∃ wf, w8.alloc (.cells #[.slice z1 0 f1, .slice z2 0 f2, .slice z3 0 f3, .int .i64 0, .int .i64 0, .int .i64 0, .int .i64 0, .int .i64 0] 31) = wf := ⟨_, rfl⟩
  have hbf : Below WA.heap.size WA WB1 := by rw [← hwf]; exact hb8'.alloc hb8'.size _
  have HB1 := Lib.hid hbf
  rw [hwf]
  clear hwf hb5 hb6 hb6' hb8 hb8' hbf ho5 ho6 hy6
  go_wp2_with fail
  refine (office_in _).mono ?_
  rintro e w5 ⟨p1, p2, p3, rfl, ho5, hb5⟩
  go_wp2_with fail
  refine (busy_any _).mono ?_
  rintro e w6 ⟨g0, g1, g2, g3, rfl, hy6, hb6⟩
  have hb6' := HB1.out.trans ((hb5.trans (hb6.mono hb5.size)).mono HB1.out.size)
  have ho6 := ho5.below hb6
  go_wp2_with fail
  refine (cPublish 0 kXY bLong zeroS 0 1 han_officeL (by decide) (by decide) (by decide) p1 p2 p3 _ g0 g1 g2 g3 w6 (below_env (HA.out _ hb6').2 HE.out) ho6 hy6).mono ?_
  rintro e w8 ⟨z1, z2, z3, f1, f2, f3, rz, rfl, _, hb8⟩
  rw [show stateV zeroS z1 z2 z3 f1 f2 f3 = .agg #[.slice z1 0 f1, .slice z2 0 f2, .slice z3 0 f3, .int .i64 0, .int .i64 0, .int .i64 0, .int .i64 0, .int .i64 0] from rfl]
  have hb8' := hb6'.trans (hb8.mono hb6'.size)
  go_upto_region 4 with fail
  obtain ⟨WB2, hwf⟩ : ∃ wf, w8.alloc (.cells #[.slice z1 0 f1, .slice z2 0 f2, .slice z3 0 f3, .int .i64 0, .int .i64 0, .int .i64 0, .int .i64 0, .int .i64 0] 31) = wf := ⟨_, rfl⟩
  have hbf : Below WA.heap.size WA WB2 := by rw [← hwf]; exact hb8'.alloc hb8'.size _
  have HB2 := Lib.hid hbf
  rw [hwf]
  clear hwf hb5 hb6 hb6' hb8 hb8' hbf ho5 ho6 hy6
  go_wp2_with fail
  refine (office_in _).mono ?_
  rintro e w5 ⟨p1, p2, p3, rfl, ho5, hb5⟩
  go_wp2_with fail
  refine (busy_any _).mono ?_
  rintro e w6 ⟨g0, g1, g2, g3, rfl, hy6, hb6⟩
  have hb6' := HB2.out.trans ((hb5.trans (hb6.mono hb5.size)).mono HB2.out.size)
  have ho6 := ho5.below hb6
  go_wp2_with fail
  refine (cPublish 2 kZ .empty busyS 0 0 han_office0 (by decide) (by decide) (by decide) p1 p2 p3 _ g0 g1 g2 g3 w6 (below_env (HA.out _ hb6').2 HE.out) ho6 hy6).mono ?_
  rintro e w8 ⟨z1, z2, z3, f1, f2, f3, rz, rfl, _, hb8⟩
  rw [show stateV busyS z1 z2 z3 f1 f2 f3 = .agg #[.slice z1 3 f1, .slice z2 1 f2, .slice z3 2 f3, .int .i64 4, .int .i64 6, .int .i64 4, .int .i64 1, .int .i64 0] from rfl]
  have hb8' := hb6'.trans (hb8.mono hb6'.size)
  go_upto_region 5 with fail
  obtain ⟨WB3, hwf⟩ : ∃ wf, w8.alloc (.cells #[.slice z1 3 f1, .slice z2 1 f2, .slice z3 2 f3, .int .i64 4, .int .i64 6, .int .i64 4, .int .i64 1, .int .i64 0] 31) = wf := ⟨_, rfl⟩
  have hbf : Below WA.heap.size WA WB3 := by rw [← hwf]; exact hb8'.alloc hb8'.size _
  have HB3 := Lib.hid hbf
  rw [hwf]
  clear hwf hb5 hb6 hb6' hb8 hb8' hbf ho5 ho6 hy6
  have HBF := Lib.hid (HA.out _ HB3.out)
  have hB := HBF.out.1
  have n0 : WB3.cell? ⟨w4.heap.size, 0, none⟩ = some (.slice x1 3 d1) := hB.cells.1
  have n5 : WB3.cell? ⟨w4.heap.size, 5, none⟩ = some (.int .i64 7) := hB.cells.2.2.2.2.2.1
  have hrl : rx.length = 3 := by have := congrArg List.length hB.at_.same; simpa [hanS] using this
  obtain ⟨rb, ro, rfl, _, _, _⟩ := sl_elem vRow_len (by decide) hB.at_.ready (k := 0) (by omega)
  obtain ⟨ra0, rc0, r0, s0, _⟩ := row_cell (k := 0) hB.at_ rfl
  obtain ⟨ra1, rc1, r1, s1, _⟩ := row_cell (k := 1) hB.at_ rfl
  obtain ⟨ib, io, rfl, _, _, hi⟩ := sl_elem vItem_len (by decide) s0 (k := 1) (by decide)
  obtain ⟨jb, jo, rfl, _, _, hj⟩ := sl_elem vItem_len (by decide) s1 (k := 0) (by decide)
  have i2 : WB3.cell? ⟨ib, io + 5 + 2, none⟩ = some (.string ⟨#[110, 101, 119]⟩) := hi 2 _ rfl
  have j2 : WB3.cell? ⟨jb, jo + 2, none⟩ = some (.string ⟨#[110, 101, 119]⟩) := hj 2 _ rfl
  have q0 : WB3.cell? ⟨rb, ro, none⟩ = some (.slice (some ⟨ib, io, none⟩) 2 rc0) := r0
  have q1 : WB3.cell? ⟨rb, ro + 1, none⟩ = some (.slice (some ⟨jb, jo, none⟩) 1 rc1) := r1
  clear hi hj hB r0 r1 s0 s1
  go_wp2_with fail
  go_ret
  exact ⟨rfl, HBF.out.2⟩

end Go.Proofs.YtfbgmgadpjpdcaaGreatDoor
