/-
  replyBegun answers true: what must be in any case of replies.
-/
import Derived.Test.YtaanpcjkflhomaaGreatDoorBunCC
import Derived.Test.YtaanpcjkflhomaaGreatDoorBunT
import Derived.Test.YtaanpcjkflhomaaGreatDoorBunE
import Derived.Test.YtaanpcjkflhomaaGreatDoorNX
set_option linter.unusedSimpArgs false
set_option linter.unusedVariables false
namespace Go.Proofs.YtaanpcjkflhomaaGreatDoor
open Go Go.RowKit
set_option maxRecDepth 100000
def ackX : StateD := { busyS with outs := [], acked := 2 }
def rejC0 : StateD := { busyS with outs := [], dropped := 1 }
def rejX : StateD := { busyS with ready := [[letterP 2 bTwo, letterP 3 bThree], [], [⟨4, kXY, bOne, false, 1⟩]], outs := [], nextSeq := 5, came := 5, dropped := 1 }
def leaX : StateD := { rejX with takers := [⟨-1, 1⟩, ⟨-1, 2⟩] }
theorem busy_out5 : outK busyS 5 = some 0 := by decide
theorem busy_out4 : outK busyS 4 = none := by decide
theorem ack_office : ackErr officeP busyS 5 = 0 ∧ ackS officeP busyS 5 = ackX := by
 have h : ackErr officeP busyS 5 = 0 := by unfold ackErr; rw [if_neg (by rw [busy_right]; decide), busy_out5]; rfl
 refine ⟨h, ?_⟩
 unfold ackS
 rw [if_pos h, busy_out5]
 rfl
theorem ack_office4 : ackErr officeP busyS 4 = 5 ∧ ackS officeP busyS 4 = zeroS := by
 have h : ackErr officeP busyS 4 = 5 := by unfold ackErr; rw [if_neg (by rw [busy_right]; decide), busy_out4]; rfl
 refine ⟨h, ?_⟩
 unfold ackS
 rw [if_neg (by rw [h]; decide)]
theorem dying1 {x : ItemD} (hk : x.key = kXY) (hd : x.deaths = 0) : dyingP officeP 0 x = [⟨2, kXY, x.body, 1⟩] := by
 have h := dying2 (b := x.body) (n := x.seq)
 rw [← h]
 unfold dyingP
 rw [hk, hd]
 rfl
theorem rej_settle : settleP officeP rejC0 [⟨2, kXY, bOne, 1⟩] = rejX := by
 refine settle_of (n := 1) ?_ (by decide)
 have hp : pushL (lineAt (seqd rejC0) 2) (itemOf rejC0 ⟨2, kXY, bOne, 1⟩) = [⟨4, kXY, bOne, false, 1⟩] := rfl
 have hl : layP officeP (seqd rejC0) 2 (itemOf rejC0 ⟨2, kXY, bOne, 1⟩) = (rejX, []) := by
  unfold layP
  rw [hp, if_pos (by decide)]
  rfl
 show ((layP officeP (seqd rejC0) 2 (itemOf rejC0 ⟨2, kXY, bOne, 1⟩)).1, _ ++ (layP officeP (seqd rejC0) 2 (itemOf rejC0 ⟨2, kXY, bOne, 1⟩)).2) = _
 rw [hl]
 rfl
theorem rej_err : rejectErr officeP busyS 5 = 0 := by unfold rejectErr; rw [if_neg (by rw [busy_right]; decide), busy_out5, if_neg (by simp), if_neg (by decide)]
theorem rej_cB : rejectC officeP busyS 0 ⟨5, 1, 0, letterP 1 bOne⟩ true = (rejC0, [⟨2, kXY, bOne, 1⟩]) := by
 have hp : pushL (lineAt (withoutS busyS 0) 0) (againI (letterP 1 bOne)) = [againI (letterP 1 bOne), letterP 2 bTwo, letterP 3 bThree] := rfl
 unfold rejectC
 rw [if_pos rfl]
 show layP officeP (withoutS busyS 0) 0 (againI (letterP 1 bOne)) = _
 unfold layP
 rw [hp, if_neg (by decide), show headL [againI (letterP 1 bOne), letterP 2 bTwo, letterP 3 bThree] = againI (letterP 1 bOne) from rfl, dying1 rfl rfl]
 rfl
theorem rej_cF : rejectC officeP busyS 0 ⟨5, 1, 0, letterP 1 bOne⟩ false = (rejC0, [⟨2, kXY, bOne, 1⟩]) := by
 unfold rejectC
 rw [if_neg (by decide)]
 show ({ withoutS busyS 0 with dropped := busyS.dropped + 1 }, dyingP officeP 0 (letterP 1 bOne)) = _
 rw [dying1 rfl rfl]
 rfl
theorem rej_officeB : rejectErr officeP busyS 5 = 0 ∧ rejectS officeP busyS 5 true = rejX := by
 refine ⟨rej_err, ?_⟩
 unfold rejectS rejectD
 rw [if_pos rej_err, busy_out5]
 show settleP officeP (rejectC officeP busyS 0 ⟨5, 1, 0, letterP 1 bOne⟩ true).1 (rejectC officeP busyS 0 ⟨5, 1, 0, letterP 1 bOne⟩ true).2 = _
 rw [rej_cB, rej_settle]
theorem rej_officeF : rejectErr officeP busyS 5 = 0 ∧ rejectS officeP busyS 5 false = rejX := by
 refine ⟨rej_err, ?_⟩
 unfold rejectS rejectD
 rw [if_pos rej_err, busy_out5]
 show settleP officeP (rejectC officeP busyS 0 ⟨5, 1, 0, letterP 1 bOne⟩ false).1 (rejectC officeP busyS 0 ⟨5, 1, 0, letterP 1 bOne⟩ false).2 = _
 rw [rej_cF, rej_settle]
theorem lea_list : leaveL officeP 1 busyS.outs busyS = (rejX, 0) := by
 show (if (1 : Int) = 1 then (if rejectErr officeP busyS 5 = 0 then leaveL officeP 1 [] (rejectS officeP busyS 5 true) else (zeroS, rejectErr officeP busyS 5)) else leaveL officeP 1 [] busyS) = _
 rw [if_pos rfl, if_pos rej_err, rej_officeB.2]
 rfl
theorem lea_office : leaveErr officeP busyS 1 = 0 ∧ leaveS officeP busyS 1 = leaX := by
 have h : leaveErr officeP busyS 1 = 0 := by unfold leaveErr; rw [if_neg (by rw [busy_right]; decide), if_neg (by decide), lea_list]
 refine ⟨h, ?_⟩
 unfold leaveS
 rw [if_pos h, lea_list]
 rfl
theorem lea_office0 : leaveErr officeP busyS 0 = 5 ∧ leaveS officeP busyS 0 = zeroS := by
 have h : leaveErr officeP busyS 0 = 5 := by unfold leaveErr; rw [if_neg (by rw [busy_right]; decide), if_pos (by decide)]
 refine ⟨h, ?_⟩
 unfold leaveS
 rw [if_neg (by rw [h]; decide)]
theorem cAck (tag : Int) (X : StateD) (e : Int) (h : ackErr officeP busyS tag = e ∧ ackS officeP busyS tag = X) (_ : -9 ≤ tag) (b1 b2 b3 lo g0 g1 g2 g3 : Nat) (w : World) (hE : Env w) (ho : OfficeIn w b1 b2 b3) (hs : BusyAt w lo g0 g1 g2 g3) :
  Calls Tryz.prog 15 #[officeV b1 b2 b3, busyV g1 g2 g3, .int .i64 tag] w (StPost X e w) := by
 have := Ack_any officeP busyS tag _ _ _ _ _ _ 3 3 5 3 1 2 (busyRowD g0) w hE ho.plan office_small hs.state busy_small busy_ints
 rw [h.1, h.2] at this
 exact this
theorem cReject (tag : Int) (back : Bool) (X : StateD) (e : Int) (h : rejectErr officeP busyS tag = e ∧ rejectS officeP busyS tag back = X) (_ : -9 ≤ tag) (b1 b2 b3 lo g0 g1 g2 g3 : Nat) (w : World) (hE : Env w) (ho : OfficeIn w b1 b2 b3) (hs : BusyAt w lo g0 g1 g2 g3) :
  Calls Tryz.prog 16 #[officeV b1 b2 b3, busyV g1 g2 g3, .int .i64 tag, .bool back] w (StPost X e w) := by
 have := Reject_any officeP busyS tag back _ _ _ _ _ _ 3 3 5 3 1 2 (busyRowD g0) w hE ho.plan office_small hs.state busy_small busy_ints
 rw [h.1, h.2] at this
 exact this
theorem cLeave (t0 : Int) (X : StateD) (e : Int) (h : leaveErr officeP busyS t0 = e ∧ leaveS officeP busyS t0 = X) (_ : -9 ≤ t0) (b1 b2 b3 lo g0 g1 g2 g3 : Nat) (w : World) (hE : Env w) (ho : OfficeIn w b1 b2 b3) (hs : BusyAt w lo g0 g1 g2 g3) :
  Calls Tryz.prog 21 #[officeV b1 b2 b3, busyV g1 g2 g3, .int .i64 t0] w (StPost X e w) := by
 have := Leave_any officeP busyS t0 _ _ _ _ _ _ 3 3 5 3 1 2 (busyRowD g0) w hE ho.plan office_small hs.state busy_small busy_ints
 rw [h.1, h.2] at this
 exact this
set_option maxHeartbeats 100000000 in
theorem replyBegun_any (w : World) (hE : Env w) : Calls Tryz.prog 19 #[] w fun e w' => e = .returned (.bool true) ∧ Below w.heap.size w w' := by
 have HE := Lib.hid hE; clear hE
 have HB0 := Lib.hid (Below.refl w.heap.size w)
 have HL0 : Hid (∀ W, Below w.heap.size w W → Below w.heap.size w W) := Lib.hid fun W h => h
 go_enter Tryz.func19, Tryz.ntmps19
 go_wp2_with fail
 refine (office_in _).mono ?_
 rintro e w5 ⟨p1, p2, p3, rfl, ho5, hb5⟩
 go_wp2_with fail
 refine (busy_any _).mono ?_
 rintro e w6 ⟨g0, g1, g2, g3, rfl, hy6, hb6⟩
 have hb6' : Below w.heap.size w w6 := hb5.trans (hb6.mono hb5.size)
 have ho6 := ho5.below hb6
 go_wp2_with fail
 refine (cAck 5 ackX 0 ack_office (by decide) p1 p2 p3 _ g0 g1 g2 g3 w6 (below_env (HL0.out _ hb6') HE.out) ho6 hy6).mono ?_
 rintro e wa ⟨a1, a2, a3, ad1, ad2, ad3, ra, rfl, hs8, hb8⟩
 rw [show stateV ackX a1 a2 a3 ad1 ad2 ad3 = .agg #[.slice a1 3 ad1, .slice a2 0 ad2, .slice a3 2 ad3, .int .i64 4, .int .i64 6, .int .i64 4, .int .i64 2, .int .i64 0] from rfl]
 have hb8' := hb6'.trans (hb8.mono hb6'.size)
 go_upto_region 2 with fail
 obtain ⟨WA, hwf⟩ : ∃ ww, wa.alloc (.cells #[.slice a1 3 ad1, .slice a2 0 ad2, .slice a3 2 ad3, .int .i64 4, .int .i64 6, .int .i64 4, .int .i64 2, .int .i64 0] 31) = ww := ⟨_, rfl⟩
 have HXa := Lib.hid (box_since (x := ackX) ad1 ad2 ad3 hs8 hb8' hwf)
 have HL1 : Hid (∀ W, Below WA.heap.size WA W → Below w.heap.size w W) := Lib.hid fun W h => HL0.out _ (HXa.out _ h).2
 rw [hwf]
 clear hwf hb5 hb6 hb6' hb8 hb8' hs8 ho5 ho6 hy6
 go_wp2_with fail
 refine (office_in _).mono ?_
 rintro e w5 ⟨p1, p2, p3, rfl, ho5, hb5⟩
 go_wp2_with fail
 refine (busy_any _).mono ?_
 rintro e w6 ⟨g0, g1, g2, g3, rfl, hy6, hb6⟩
 have hb6' : Below WA.heap.size WA w6 := hb5.trans (hb6.mono hb5.size)
 have ho6 := ho5.below hb6
 go_wp2_with fail
 refine (cReject 5 true rejX 0 rej_officeB (by decide) p1 p2 p3 _ g0 g1 g2 g3 w6 (below_env (HL1.out _ hb6') HE.out) ho6 hy6).mono ?_
 rintro e wb ⟨b1, b2, b3, bd1, bd2, bd3, rb, rfl, hs8, hb8⟩
 rw [show stateV rejX b1 b2 b3 bd1 bd2 bd3 = .agg #[.slice b1 3 bd1, .slice b2 0 bd2, .slice b3 2 bd3, .int .i64 5, .int .i64 6, .int .i64 5, .int .i64 1, .int .i64 1] from rfl]
 have hb8' := hb6'.trans (hb8.mono hb6'.size)
 go_upto_region 3 with fail
 obtain ⟨WB, hwf⟩ : ∃ ww, wb.alloc (.cells #[.slice b1 3 bd1, .slice b2 0 bd2, .slice b3 2 bd3, .int .i64 5, .int .i64 6, .int .i64 5, .int .i64 1, .int .i64 1] 31) = ww := ⟨_, rfl⟩
 have HXb := Lib.hid (box_since (x := rejX) bd1 bd2 bd3 hs8 hb8' hwf)
 have HL2 : Hid (∀ W, Below WB.heap.size WB W → Below w.heap.size w W) := Lib.hid fun W h => HL1.out _ (HXb.out _ h).2
 rw [hwf]
 clear hwf hb5 hb6 hb6' hb8 hb8' hs8 ho5 ho6 hy6
 go_wp2_with fail
 refine (office_in _).mono ?_
 rintro e w5 ⟨p1, p2, p3, rfl, ho5, hb5⟩
 go_wp2_with fail
 refine (busy_any _).mono ?_
 rintro e w6 ⟨g0, g1, g2, g3, rfl, hy6, hb6⟩
 have hb6' : Below WB.heap.size WB w6 := hb5.trans (hb6.mono hb5.size)
 have ho6 := ho5.below hb6
 go_wp2_with fail
 refine (cReject 5 false rejX 0 rej_officeF (by decide) p1 p2 p3 _ g0 g1 g2 g3 w6 (below_env (HL2.out _ hb6') HE.out) ho6 hy6).mono ?_
 rintro e wc ⟨c1, c2, c3, cd1, cd2, cd3, rc, rfl, hs8, hb8⟩
 rw [show stateV rejX c1 c2 c3 cd1 cd2 cd3 = .agg #[.slice c1 3 cd1, .slice c2 0 cd2, .slice c3 2 cd3, .int .i64 5, .int .i64 6, .int .i64 5, .int .i64 1, .int .i64 1] from rfl]
 have hb8' := hb6'.trans (hb8.mono hb6'.size)
 go_upto_region 4 with fail
 obtain ⟨WC, hwf⟩ : ∃ ww, wc.alloc (.cells #[.slice c1 3 cd1, .slice c2 0 cd2, .slice c3 2 cd3, .int .i64 5, .int .i64 6, .int .i64 5, .int .i64 1, .int .i64 1] 31) = ww := ⟨_, rfl⟩
 have HXc := Lib.hid (box_since (x := rejX) cd1 cd2 cd3 hs8 hb8' hwf)
 have HL3 : Hid (∀ W, Below WC.heap.size WC W → Below w.heap.size w W) := Lib.hid fun W h => HL2.out _ (HXc.out _ h).2
 rw [hwf]
 clear hwf hb5 hb6 hb6' hb8 hb8' hs8 ho5 ho6 hy6
 go_wp2_with fail
 refine (office_in _).mono ?_
 rintro e w5 ⟨p1, p2, p3, rfl, ho5, hb5⟩
 go_wp2_with fail
 refine (busy_any _).mono ?_
 rintro e w6 ⟨g0, g1, g2, g3, rfl, hy6, hb6⟩
 have hb6' : Below WC.heap.size WC w6 := hb5.trans (hb6.mono hb5.size)
 have ho6 := ho5.below hb6
 go_wp2_with fail
 refine (cLeave 1 leaX 0 lea_office (by decide) p1 p2 p3 _ g0 g1 g2 g3 w6 (below_env (HL3.out _ hb6') HE.out) ho6 hy6).mono ?_
 rintro e wd ⟨d1, d2, d3, dd1, dd2, dd3, rd, rfl, hs8, hb8⟩
 rw [show stateV leaX d1 d2 d3 dd1 dd2 dd3 = .agg #[.slice d1 3 dd1, .slice d2 0 dd2, .slice d3 2 dd3, .int .i64 5, .int .i64 6, .int .i64 5, .int .i64 1, .int .i64 1] from rfl]
 have hb8' := hb6'.trans (hb8.mono hb6'.size)
 go_upto_region 5 with fail
 obtain ⟨WD, hwf⟩ : ∃ ww, wd.alloc (.cells #[.slice d1 3 dd1, .slice d2 0 dd2, .slice d3 2 dd3, .int .i64 5, .int .i64 6, .int .i64 5, .int .i64 1, .int .i64 1] 31) = ww := ⟨_, rfl⟩
 have HXd := Lib.hid (box_since (x := leaX) dd1 dd2 dd3 hs8 hb8' hwf)
 have HL4 : Hid (∀ W, Below WD.heap.size WD W → Below w.heap.size w W) := Lib.hid fun W h => HL3.out _ (HXd.out _ h).2
 rw [hwf]
 clear hwf hb5 hb6 hb6' hb8 hb8' hs8 ho5 ho6 hy6
 go_wp2_with fail
 refine (office_in _).mono ?_
 rintro e w5 ⟨p1, p2, p3, rfl, ho5, hb5⟩
 go_wp2_with fail
 refine (busy_any _).mono ?_
 rintro e w6 ⟨g0, g1, g2, g3, rfl, hy6, hb6⟩
 have hb6' : Below WD.heap.size WD w6 := hb5.trans (hb6.mono hb5.size)
 have ho6 := ho5.below hb6
 go_wp2_with fail
 refine (cAck 4 zeroS 5 ack_office4 (by decide) p1 p2 p3 _ g0 g1 g2 g3 w6 (below_env (HL4.out _ hb6') HE.out) ho6 hy6).mono ?_
 rintro e we ⟨e1, e2, e3, ed1, ed2, ed3, re, rfl, hs8, hb8⟩
 rw [show stateV zeroS e1 e2 e3 ed1 ed2 ed3 = .agg #[.slice e1 0 ed1, .slice e2 0 ed2, .slice e3 0 ed3, .int .i64 0, .int .i64 0, .int .i64 0, .int .i64 0, .int .i64 0] from rfl]
 have hb8' := hb6'.trans (hb8.mono hb6'.size)
 go_upto_region 6 with fail
 obtain ⟨WE, hwf⟩ : ∃ ww, we.alloc (.cells #[.slice e1 0 ed1, .slice e2 0 ed2, .slice e3 0 ed3, .int .i64 0, .int .i64 0, .int .i64 0, .int .i64 0, .int .i64 0] 31) = ww := ⟨_, rfl⟩
 have HXe := Lib.hid (box_since (x := zeroS) ed1 ed2 ed3 hs8 hb8' hwf)
 have HL5 : Hid (∀ W, Below WE.heap.size WE W → Below w.heap.size w W) := Lib.hid fun W h => HL4.out _ (HXe.out _ h).2
 rw [hwf]
 clear hwf hb5 hb6 hb6' hb8 hb8' hs8 ho5 ho6 hy6
 go_wp2_with fail
 refine (office_in _).mono ?_
 rintro e w5 ⟨p1, p2, p3, rfl, ho5, hb5⟩
 go_wp2_with fail
 refine (busy_any _).mono ?_
 rintro e w6 ⟨g0, g1, g2, g3, rfl, hy6, hb6⟩
 have hb6' : Below WE.heap.size WE w6 := hb5.trans (hb6.mono hb5.size)
 have ho6 := ho5.below hb6
 go_wp2_with fail
 refine (cLeave 0 zeroS 5 lea_office0 (by decide) p1 p2 p3 _ g0 g1 g2 g3 w6 (below_env (HL5.out _ hb6') HE.out) ho6 hy6).mono ?_
 rintro e wf ⟨f1, f2, f3, fd1, fd2, fd3, rf, rfl, hs8, hb8⟩
 rw [show stateV zeroS f1 f2 f3 fd1 fd2 fd3 = .agg #[.slice f1 0 fd1, .slice f2 0 fd2, .slice f3 0 fd3, .int .i64 0, .int .i64 0, .int .i64 0, .int .i64 0, .int .i64 0] from rfl]
 have hb8' := hb6'.trans (hb8.mono hb6'.size)
 go_upto_region 7 with fail
 obtain ⟨WF, hwf⟩ : ∃ ww, wf.alloc (.cells #[.slice f1 0 fd1, .slice f2 0 fd2, .slice f3 0 fd3, .int .i64 0, .int .i64 0, .int .i64 0, .int .i64 0, .int .i64 0] 31) = ww := ⟨_, rfl⟩
 have HXf := Lib.hid (box_since (x := zeroS) fd1 fd2 fd3 hs8 hb8' hwf)
 have HL6 : Hid (∀ W, Below WF.heap.size WF W → Below w.heap.size w W) := Lib.hid fun W h => HL5.out _ (HXf.out _ h).2
 rw [hwf]
 clear hwf hb5 hb6 hb6' hb8 hb8' hs8 ho5 ho6 hy6
 have hF : Below WF.heap.size WF WF := Below.refl _ _
 have hE5 := HXf.out _ hF
 have hE4 := HXe.out _ hE5.2
 have hE3 := HXd.out _ hE4.2
 have hE2 := HXc.out _ hE3.2
 have hE1 := HXb.out _ hE2.2
 have hE0 := HXa.out _ hE1.2
 have hA := hE0.1
 have hB := hE1.1
 have hC := hE2.1
 have hD := hE3.1
 clear hE0 hE1 hE2 hE3 hE4 hE5 hF
 have a6 : WF.cell? ⟨wa.heap.size, 6, none⟩ = some (.int .i64 2) := hA.cells.2.2.2.2.2.2.1
 have a1' : WF.cell? ⟨wa.heap.size, 1, none⟩ = some (.slice a2 0 ad2) := hA.cells.2.1
 have hrb : rb.length = 3 := by have := congrArg List.length hB.at_.same; simpa [rejX] using this
 have hrc : rc.length = 3 := by have := congrArg List.length hC.at_.same; simpa [rejX] using this
 have hrd : rd.length = 3 := by have := congrArg List.length hD.at_.same; simpa [leaX, rejX] using this
 obtain ⟨bb, bo, rfl, _, _, _⟩ := sl_elem vRow_len (by decide) hB.at_.ready (k := 0) (by omega)
 obtain ⟨cb, co, rfl, _, _, _⟩ := sl_elem vRow_len (by decide) hC.at_.ready (k := 0) (by omega)
 obtain ⟨db, dO, rfl, _, _, _⟩ := sl_elem vRow_len (by decide) hD.at_.ready (k := 0) (by omega)
 have b0 : WF.cell? ⟨wb.heap.size, 0, none⟩ = some (.slice (some ⟨bb, bo, none⟩) 3 bd1) := hB.cells.1
 have b7 : WF.cell? ⟨wb.heap.size, 7, none⟩ = some (.int .i64 1) := hB.cells.2.2.2.2.2.2.2
 have c0 : WF.cell? ⟨wc.heap.size, 0, none⟩ = some (.slice (some ⟨cb, co, none⟩) 3 cd1) := hC.cells.1
 have c7 : WF.cell? ⟨wc.heap.size, 7, none⟩ = some (.int .i64 1) := hC.cells.2.2.2.2.2.2.2
 have d0 : WF.cell? ⟨wd.heap.size, 0, none⟩ = some (.slice (some ⟨db, dO, none⟩) 3 dd1) := hD.cells.1
 have d1' : WF.cell? ⟨wd.heap.size, 1, none⟩ = some (.slice d2 0 dd2) := hD.cells.2.1
 obtain ⟨tb, tO, rfl, _, _, ht⟩ := sl_elem vTaker_len (by decide) hD.at_.takers (k := 1) (by decide)
 have d2' : WF.cell? ⟨wd.heap.size, 2, none⟩ = some (.slice (some ⟨tb, tO, none⟩) 2 dd3) := hD.cells.2.2.1
 have t1 : WF.cell? ⟨tb, tO + 2, none⟩ = some (.int .i64 (-1)) := ht 0 _ rfl
 obtain ⟨br0, bc0, q0, s0, _⟩ := row_cell (k := 0) hB.at_ rfl
 obtain ⟨br2, bc2, q2, s2, _⟩ := row_cell (k := 2) hB.at_ rfl
 obtain ⟨cr2, cc2, p2', u2, _⟩ := row_cell (k := 2) hC.at_ rfl
 obtain ⟨dr0, dc0, v0, z0, _⟩ := row_cell (k := 0) hD.at_ rfl
 obtain ⟨jb, jo, rfl, _, _, hj⟩ := sl_elem vItem_len (by decide) s2 (k := 0) (by decide)
 obtain ⟨lb, lo', rfl, _, _, hl⟩ := sl_elem vItem_len (by decide) u2 (k := 0) (by decide)
 have j0 : WF.cell? ⟨jb, jo, none⟩ = some (.int .i64 4) := hj 0 _ rfl
 have j1 : WF.cell? ⟨jb, jo + 1, none⟩ = some (.string ⟨#[120, 46, 121]⟩) := hj 1 _ rfl
 have j2 : WF.cell? ⟨jb, jo + 2, none⟩ = some (.string ⟨#[111, 110, 101]⟩) := hj 2 _ rfl
 have j3 : WF.cell? ⟨jb, jo + 3, none⟩ = some (.bool false) := hj 3 _ rfl
 have j4 : WF.cell? ⟨jb, jo + 4, none⟩ = some (.int .i64 1) := hj 4 _ rfl
 have l2 : WF.cell? ⟨lb, lo' + 2, none⟩ = some (.string ⟨#[111, 110, 101]⟩) := hl 2 _ rfl
 have r0 : WF.cell? ⟨bb, bo, none⟩ = some (.slice br0 2 bc0) := q0
 have r2 : WF.cell? ⟨bb, bo + 2, none⟩ = some (.slice (some ⟨jb, jo, none⟩) 1 bc2) := q2
 have r3 : WF.cell? ⟨cb, co + 2, none⟩ = some (.slice (some ⟨lb, lo', none⟩) 1 cc2) := p2'
 have r4 : WF.cell? ⟨db, dO, none⟩ = some (.slice dr0 2 dc0) := v0
 have HSI := Lib.hid (SameItems_any dr0 br0 dc0 bc0 [letterP 2 bTwo, letterP 3 bThree] [letterP 2 bTwo, letterP 3 bThree] WF.drew 0 (by exact z0) (by exact s0) (by decide) (by decide))
 have heq : ∀ w, (binOp .eql 52 (.agg #[.int .i64 4, .string ⟨#[120, 46, 121]⟩, .string ⟨#[111, 110, 101]⟩, .bool false, .int .i64 1]) (.agg #[.int .i64 4, .string ⟨#[120, 46, 121]⟩, .string ⟨#[111, 110, 101]⟩, .bool false, .int .i64 1])).run Tryz.prog w = .ok (.bool true) w := fun w => (eqlItem ⟨4, kXY, bOne, false, 1⟩ ⟨4, kXY, bOne, false, 1⟩ w).trans (by kernel_rfl)
 have e0 : (WF.drew.cell? ⟨wa.heap.size, 6, none⟩ = some (.int .i64 2) ∧ WF.drew.cell? ⟨wa.heap.size, 1, none⟩ = some (.slice a2 0 ad2) ∧ WF.drew.cell? ⟨wb.heap.size, 0, none⟩ = some (.slice (some ⟨bb, bo, none⟩) 3 bd1) ∧ WF.drew.cell? ⟨wb.heap.size, 7, none⟩ = some (.int .i64 1) ∧ WF.drew.cell? ⟨bb, bo, none⟩ = some (.slice br0 2 bc0) ∧ WF.drew.cell? ⟨bb, bo + 2, none⟩ = some (.slice (some ⟨jb, jo, none⟩) 1 bc2) ∧ WF.drew.cell? ⟨jb, jo, none⟩ = some (.int .i64 4) ∧ WF.drew.cell? ⟨jb, jo + 1, none⟩ = some (.string ⟨#[120, 46, 121]⟩) ∧ WF.drew.cell? ⟨jb, jo + 2, none⟩ = some (.string ⟨#[111, 110, 101]⟩) ∧ WF.drew.cell? ⟨jb, jo + 3, none⟩ = some (.bool false) ∧ WF.drew.cell? ⟨jb, jo + 4, none⟩ = some (.int .i64 1) ∧ WF.drew.cell? ⟨wc.heap.size, 7, none⟩ = some (.int .i64 1) ∧ WF.drew.cell? ⟨wc.heap.size, 0, none⟩ = some (.slice (some ⟨cb, co, none⟩) 3 cd1) ∧ WF.drew.cell? ⟨cb, co + 2, none⟩ = some (.slice (some ⟨lb, lo', none⟩) 1 cc2) ∧ WF.drew.cell? ⟨lb, lo' + 2, none⟩ = some (.string ⟨#[111, 110, 101]⟩) ∧ WF.drew.cell? ⟨wd.heap.size, 1, none⟩ = some (.slice d2 0 dd2) ∧ WF.drew.cell? ⟨wd.heap.size, 2, none⟩ = some (.slice (some ⟨tb, tO, none⟩) 2 dd3) ∧ WF.drew.cell? ⟨tb, tO + 2, none⟩ = some (.int .i64 (-1)) ∧ WF.drew.cell? ⟨wd.heap.size, 0, none⟩ = some (.slice (some ⟨db, dO, none⟩) 3 dd1) ∧ WF.drew.cell? ⟨db, dO, none⟩ = some (.slice dr0 2 dc0)) := ⟨a6, a1', b0, b7, r0, r2, j0, j1, j2, j3, j4, c7, c0, r3, l2, d1', d2', t1, d0, r4⟩
 have HS : Hid (∀ W, Below WF.heap.size WF W → (W.cell? ⟨wa.heap.size, 6, none⟩ = some (.int .i64 2) ∧ W.cell? ⟨wa.heap.size, 1, none⟩ = some (.slice a2 0 ad2) ∧ W.cell? ⟨wb.heap.size, 0, none⟩ = some (.slice (some ⟨bb, bo, none⟩) 3 bd1) ∧ W.cell? ⟨wb.heap.size, 7, none⟩ = some (.int .i64 1) ∧ W.cell? ⟨bb, bo, none⟩ = some (.slice br0 2 bc0) ∧ W.cell? ⟨bb, bo + 2, none⟩ = some (.slice (some ⟨jb, jo, none⟩) 1 bc2) ∧ W.cell? ⟨jb, jo, none⟩ = some (.int .i64 4) ∧ W.cell? ⟨jb, jo + 1, none⟩ = some (.string ⟨#[120, 46, 121]⟩) ∧ W.cell? ⟨jb, jo + 2, none⟩ = some (.string ⟨#[111, 110, 101]⟩) ∧ W.cell? ⟨jb, jo + 3, none⟩ = some (.bool false) ∧ W.cell? ⟨jb, jo + 4, none⟩ = some (.int .i64 1) ∧ W.cell? ⟨wc.heap.size, 7, none⟩ = some (.int .i64 1) ∧ W.cell? ⟨wc.heap.size, 0, none⟩ = some (.slice (some ⟨cb, co, none⟩) 3 cd1) ∧ W.cell? ⟨cb, co + 2, none⟩ = some (.slice (some ⟨lb, lo', none⟩) 1 cc2) ∧ W.cell? ⟨lb, lo' + 2, none⟩ = some (.string ⟨#[111, 110, 101]⟩) ∧ W.cell? ⟨wd.heap.size, 1, none⟩ = some (.slice d2 0 dd2) ∧ W.cell? ⟨wd.heap.size, 2, none⟩ = some (.slice (some ⟨tb, tO, none⟩) 2 dd3) ∧ W.cell? ⟨tb, tO + 2, none⟩ = some (.int .i64 (-1)) ∧ W.cell? ⟨wd.heap.size, 0, none⟩ = some (.slice (some ⟨db, dO, none⟩) 3 dd1) ∧ W.cell? ⟨db, dO, none⟩ = some (.slice dr0 2 dc0))) := Lib.hid fun W hW => ⟨(hW.cell (lt_of_cell a6)).trans a6, (hW.cell (lt_of_cell a1')).trans a1', (hW.cell (lt_of_cell b0)).trans b0, (hW.cell (lt_of_cell b7)).trans b7, (hW.cell (lt_of_cell r0)).trans r0, (hW.cell (lt_of_cell r2)).trans r2, (hW.cell (lt_of_cell j0)).trans j0, (hW.cell (lt_of_cell j1)).trans j1, (hW.cell (lt_of_cell j2)).trans j2, (hW.cell (lt_of_cell j3)).trans j3, (hW.cell (lt_of_cell j4)).trans j4, (hW.cell (lt_of_cell c7)).trans c7, (hW.cell (lt_of_cell c0)).trans c0, (hW.cell (lt_of_cell r3)).trans r3, (hW.cell (lt_of_cell l2)).trans l2, (hW.cell (lt_of_cell d1')).trans d1', (hW.cell (lt_of_cell d2')).trans d2', (hW.cell (lt_of_cell t1)).trans t1, (hW.cell (lt_of_cell d0)).trans d0, (hW.cell (lt_of_cell r4)).trans r4⟩
 clear hj hl hA hB hC hD q0 q2 p2' v0 s0 s2 u2 z0 ht
 clear a6 a1' b0 b7 r0 r2 j0 j1 j2 j3 j4 c7 c0 r3 l2 d1' d2' t1 d0 r4
 have hse : itemsEq [letterP 2 bTwo, letterP 3 bThree] [letterP 2 bTwo, letterP 3 bThree] = true := itemsEq_refl _
 rw [hse] at HSI
 refine nw_layG (S := (fun W => (W.cell? ⟨wa.heap.size, 6, none⟩ = some (.int .i64 2) ∧ W.cell? ⟨wa.heap.size, 1, none⟩ = some (.slice a2 0 ad2) ∧ W.cell? ⟨wb.heap.size, 0, none⟩ = some (.slice (some ⟨bb, bo, none⟩) 3 bd1) ∧ W.cell? ⟨wb.heap.size, 7, none⟩ = some (.int .i64 1) ∧ W.cell? ⟨bb, bo, none⟩ = some (.slice br0 2 bc0) ∧ W.cell? ⟨bb, bo + 2, none⟩ = some (.slice (some ⟨jb, jo, none⟩) 1 bc2) ∧ W.cell? ⟨jb, jo, none⟩ = some (.int .i64 4) ∧ W.cell? ⟨jb, jo + 1, none⟩ = some (.string ⟨#[120, 46, 121]⟩) ∧ W.cell? ⟨jb, jo + 2, none⟩ = some (.string ⟨#[111, 110, 101]⟩) ∧ W.cell? ⟨jb, jo + 3, none⟩ = some (.bool false) ∧ W.cell? ⟨jb, jo + 4, none⟩ = some (.int .i64 1) ∧ W.cell? ⟨wc.heap.size, 7, none⟩ = some (.int .i64 1) ∧ W.cell? ⟨wc.heap.size, 0, none⟩ = some (.slice (some ⟨cb, co, none⟩) 3 cd1) ∧ W.cell? ⟨cb, co + 2, none⟩ = some (.slice (some ⟨lb, lo', none⟩) 1 cc2) ∧ W.cell? ⟨lb, lo' + 2, none⟩ = some (.string ⟨#[111, 110, 101]⟩) ∧ W.cell? ⟨wd.heap.size, 1, none⟩ = some (.slice d2 0 dd2) ∧ W.cell? ⟨wd.heap.size, 2, none⟩ = some (.slice (some ⟨tb, tO, none⟩) 2 dd3) ∧ W.cell? ⟨tb, tO + 2, none⟩ = some (.int .i64 (-1)) ∧ W.cell? ⟨wd.heap.size, 0, none⟩ = some (.slice (some ⟨db, dO, none⟩) 3 dd1) ∧ W.cell? ⟨db, dO, none⟩ = some (.slice dr0 2 dc0)))) (D := (List.range' 49 104).map some ++ [some 0]) [(0, false), (1, false), (2, false), (3, false), (4, false), (5, false), (6, false), (7, false), (8, false), (9, false), (10, false), (11, false), (12, false), (13, false), (14, false), (15, false), (16, false), (17, false), (18, false), (19, false), (20, false), (21, false), (22, false), (23, false), (24, false), (25, false), (26, false), (27, false), (28, false), (29, false), (30, false), (31, false), (32, false), (33, false), (34, false), (35, false), (36, false), (37, false), (38, false), (39, false), (40, false), (41, false), (42, false), (43, false), (44, false), (45, false), (46, false), (47, false), (48, false), (49, false), (50, false), (51, false), (52, false), (53, false), (54, false), (55, false), (56, false), (57, false), (58, false), (59, false), (60, false), (61, false), (62, false), (63, false), (64, false), (65, false), (66, false), (67, false), (68, false), (69, false), (70, false), (71, false), (72, false), (73, false), (74, false), (75, false), (76, false), (77, false), (78, false), (79, false), (80, false), (81, false), (82, false), (83, false), (84, false), (85, false), (86, false), (87, false), (88, false), (89, false), (90, false), (91, false), (92, false), (93, false), (94, false), (95, false), (96, false), (97, false), (98, false), (99, false), (100, false), (101, false), (102, true), (103, false), (104, false)] (by kernel_rfl) (by kernel_rfl) (by first | exact e0 | exact e9) List.toList_toArray (by kernel_rfl) (fun hHeld => ?_)
 iterate 102 (refine NWF.take (v := ?_) (a' := ?_) (fun _ _ _ h => h) (by kernel_rfl) ?_ ?_ ?_; rotate_left 2; (focus (intro w hSw; (try dsimp only at hSw); go_simp; (all_goals with_reducible rfl); done)); (focus (simp only [Act.put, zA, zB, zC]; with_reducible rfl)))
 refine NWF.call (by kernel_rfl) (fun K hK => ?_)
 go_simp
 (go_at_call 33; refine HSI.out.mono ?_; rintro e w9 ⟨rfl, hb9⟩; have e9 := HS.out _ (((Below.refl _ _).drew : Below WF.heap.size WF WF.drew).trans hb9); have HB9 := Lib.hid (HL6.out _ (((Below.refl _ _).drew : Below WF.heap.size WF WF.drew).trans hb9)); clear hb9)
 refine hK.out _ _ (by first | exact e0 | exact e9) (fun hHeld => ?_)
 clear hK K
 try simp only [Act.put, zA, zB, zC]
 iterate 2 (refine NWF.take (v := ?_) (a' := ?_) (fun _ _ _ h => h) (by kernel_rfl) ?_ ?_ ?_; rotate_left 2; (focus (intro w hSw; (try dsimp only at hSw); go_simp; (all_goals with_reducible rfl); done)); (focus (simp only [Act.put, zA, zB, zC]; with_reducible rfl)))
 refine NWF.done ?_
 go_wp2_with fail
 go_ret
 exact ⟨rfl, HB9.out⟩
end Go.Proofs.YtaanpcjkflhomaaGreatDoor
