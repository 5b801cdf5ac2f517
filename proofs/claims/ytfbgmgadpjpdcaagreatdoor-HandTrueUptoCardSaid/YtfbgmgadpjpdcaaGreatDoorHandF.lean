/-
  The law HandTrue answers true.
-/
import Derived.Test.YtfbgmgadpjpdcaaGreatDoorBunA
import Derived.Test.YtfbgmgadpjpdcaaGreatDoorHandE
import Derived.Deep.CutRange
set_option linter.unusedSimpArgs false
set_option linter.unusedVariables false
namespace Go.Proofs.YtfbgmgadpjpdcaaGreatDoor
open Go Go.RowKit
set_option maxRecDepth 100000

theorem hqr_open  {t : Array Value} (h : t = #[t.getD 0 undef, t.getD 1 undef, t.getD 2 undef, t.getD 3 undef, t.getD 4 undef, t.getD 5 undef, t.getD 6 undef, t.getD 7 undef, t.getD 8 undef, t.getD 9 undef, t.getD 10 undef, t.getD 11 undef, .bool true, t.getD 13 undef, t.getD 14 undef, t.getD 15 undef, t.getD 16 undef, t.getD 17 undef, t.getD 18 undef, t.getD 19 undef, t.getD 20 undef, t.getD 21 undef, t.getD 22 undef, t.getD 23 undef, t.getD 24 undef, t.getD 25 undef, t.getD 26 undef, t.getD 27 undef, t.getD 28 undef, t.getD 29 undef, t.getD 30 undef, t.getD 31 undef, t.getD 32 undef, t.getD 33 undef, t.getD 34 undef, t.getD 35 undef, t.getD 36 undef, t.getD 37 undef, t.getD 38 undef, t.getD 39 undef, t.getD 40 undef, t.getD 41 undef, t.getD 42 undef, t.getD 43 undef, t.getD 44 undef, t.getD 45 undef, t.getD 46 undef, t.getD 47 undef, t.getD 48 undef, t.getD 49 undef, t.getD 50 undef, t.getD 51 undef, t.getD 52 undef, t.getD 53 undef, t.getD 54 undef, t.getD 55 undef, t.getD 56 undef, t.getD 57 undef, t.getD 58 undef, t.getD 59 undef, t.getD 60 undef, t.getD 61 undef, t.getD 62 undef, t.getD 63 undef, t.getD 64 undef, t.getD 65 undef, t.getD 66 undef, t.getD 67 undef, t.getD 68 undef, t.getD 69 undef, t.getD 70 undef, t.getD 71 undef, t.getD 72 undef, t.getD 73 undef, t.getD 74 undef, t.getD 75 undef, t.getD 76 undef, t.getD 77 undef, t.getD 78 undef, t.getD 79 undef, t.getD 80 undef, t.getD 81 undef, t.getD 82 undef, t.getD 83 undef, t.getD 84 undef, t.getD 85 undef, t.getD 86 undef, t.getD 87 undef, t.getD 88 undef, t.getD 89 undef, t.getD 90 undef, t.getD 91 undef, t.getD 92 undef, t.getD 93 undef, t.getD 94 undef, t.getD 95 undef, t.getD 96 undef, t.getD 97 undef, t.getD 98 undef, t.getD 99 undef, t.getD 100 undef, t.getD 101 undef, t.getD 102 undef, t.getD 103 undef, t.getD 104 undef, t.getD 105 undef, t.getD 106 undef, t.getD 107 undef, t.getD 108 undef, t.getD 109 undef, t.getD 110 undef, t.getD 111 undef, t.getD 112 undef, t.getD 113 undef, t.getD 114 undef, t.getD 115 undef, t.getD 116 undef, t.getD 117 undef, t.getD 118 undef, t.getD 119 undef, t.getD 120 undef, t.getD 121 undef, t.getD 122 undef, t.getD 123 undef, t.getD 124 undef, t.getD 125 undef, t.getD 126 undef, t.getD 127 undef, t.getD 128 undef, t.getD 129 undef, t.getD 130 undef, t.getD 131 undef, t.getD 132 undef, t.getD 133 undef, t.getD 134 undef, t.getD 135 undef, t.getD 136 undef, t.getD 137 undef, t.getD 138 undef, t.getD 139 undef, t.getD 140 undef, t.getD 141 undef, t.getD 142 undef, t.getD 143 undef, t.getD 144 undef, t.getD 145 undef, t.getD 146 undef, t.getD 147 undef, t.getD 148 undef, t.getD 149 undef, t.getD 150 undef, t.getD 151 undef, t.getD 152 undef, t.getD 153 undef, t.getD 154 undef, t.getD 155 undef, t.getD 156 undef, t.getD 157 undef, t.getD 158 undef, t.getD 159 undef, t.getD 160 undef, t.getD 161 undef, t.getD 162 undef, t.getD 163 undef, t.getD 164 undef, t.getD 165 undef, t.getD 166 undef, t.getD 167 undef, t.getD 168 undef, t.getD 169 undef, t.getD 170 undef, t.getD 171 undef, t.getD 172 undef, t.getD 173 undef, t.getD 174 undef, t.getD 175 undef, t.getD 176 undef, t.getD 177 undef, t.getD 178 undef, t.getD 179 undef, t.getD 180 undef, t.getD 181 undef, t.getD 182 undef, t.getD 183 undef, t.getD 184 undef, t.getD 185 undef, t.getD 186 undef, t.getD 187 undef, t.getD 188 undef, t.getD 189 undef, t.getD 190 undef, t.getD 191 undef, t.getD 192 undef, t.getD 193 undef, t.getD 194 undef, t.getD 195 undef, t.getD 196 undef, t.getD 197 undef, t.getD 198 undef, t.getD 199 undef, t.getD 200 undef, t.getD 201 undef, t.getD 202 undef, t.getD 203 undef, t.getD 204 undef, t.getD 205 undef, t.getD 206 undef, t.getD 207 undef, t.getD 208 undef, t.getD 209 undef, t.getD 210 undef, t.getD 211 undef, t.getD 212 undef, t.getD 213 undef, t.getD 214 undef, t.getD 215 undef, t.getD 216 undef, t.getD 217 undef, t.getD 218 undef, t.getD 219 undef]) : ∃ u : Nat → Value, t = #[u 0, u 1, u 2, u 3, u 4, u 5, u 6, u 7, u 8, u 9, u 10, u 11, .bool true, u 13, u 14, u 15, u 16, u 17, u 18, u 19, u 20, u 21, u 22, u 23, u 24, u 25, u 26, u 27, u 28, u 29, u 30, u 31, u 32, u 33, u 34, u 35, u 36, u 37, u 38, u 39, u 40, u 41, u 42, u 43, u 44, u 45, u 46, u 47, u 48, u 49, u 50, u 51, u 52, u 53, u 54, u 55, u 56, u 57, u 58, u 59, u 60, u 61, u 62, u 63, u 64, u 65, u 66, u 67, u 68, u 69, u 70, u 71, u 72, u 73, u 74, u 75, u 76, u 77, u 78, u 79, u 80, u 81, u 82, u 83, u 84, u 85, u 86, u 87, u 88, u 89, u 90, u 91, u 92, u 93, u 94, u 95, u 96, u 97, u 98, u 99, u 100, u 101, u 102, u 103, u 104, u 105, u 106, u 107, u 108, u 109, u 110, u 111, u 112, u 113, u 114, u 115, u 116, u 117, u 118, u 119, u 120, u 121, u 122, u 123, u 124, u 125, u 126, u 127, u 128, u 129, u 130, u 131, u 132, u 133, u 134, u 135, u 136, u 137, u 138, u 139, u 140, u 141, u 142, u 143, u 144, u 145, u 146, u 147, u 148, u 149, u 150, u 151, u 152, u 153, u 154, u 155, u 156, u 157, u 158, u 159, u 160, u 161, u 162, u 163, u 164, u 165, u 166, u 167, u 168, u 169, u 170, u 171, u 172, u 173, u 174, u 175, u 176, u 177, u 178, u 179, u 180, u 181, u 182, u 183, u 184, u 185, u 186, u 187, u 188, u 189, u 190, u 191, u 192, u 193, u 194, u 195, u 196, u 197, u 198, u 199, u 200, u 201, u 202, u 203, u 204, u 205, u 206, u 207, u 208, u 209, u 210, u 211, u 212, u 213, u 214, u 215, u 216, u 217, u 218, u 219] := ⟨fun i => t.getD i undef, h⟩
set_option maxHeartbeats 40000000 in
theorem handTrue_go (p : PlanD) (s : StateD) (x : Int) (key body : ByteArray) (q : Int) (p1 p2 p3 a1 a2 a3 : Option Addr) (q1 q2 q3 c1 c2 c3 : Nat) (rows : List RowD) (w : World) (hE : Env w) (hp : PlanAt w 0 w.heap.size p1 p2 p3 p) (hps : PlanSmall p) (hs : StateAt w 0 w.heap.size a1 a2 a3 rows s) (hss : StateSmall s) (hsi : StateInts s) (hx : -9223372036854775808 ≤ x ∧ x ≤ 9223372036854775807) (hkey : key.size ≤ 1048576) (hbody : body.size ≤ 1048576) (hq : -9223372036854775808 ≤ q ∧ q ≤ 9223372036854775807) :
    Calls Tryz.prog 6 #[planV p p1 p2 p3 q1 q2 q3, stateV s a1 a2 a3 c1 c2 c3, .int .i64 x, .string key, .string body, .int .i64 q] w fun e w' => e = .returned (.bool true) ∧ Below w.heap.size w w' := by
  have hbx := two_boxes q1 q2 q3 c1 c2 c3 hE hp hs 26 31
  unfold vState at hbx
  unfold stateV planV vState
  have HBX := Lib.hid hbx
  have HPS := Lib.hid hps
  have HSS := Lib.hid hss
  have HSI := Lib.hid hsi
  clear hbx hE hp hs hps hss hsi
  go_enter Tryz.func6, Tryz.ntmps6
  obtain ⟨⟨m0, m1, m2⟩, ⟨n0, n1, n2, n3, n4, n5, n6, n7⟩, _, _, _, _⟩ := HBX.out _ (Below.refl _ _)
  go_wp2_with fail
  clear m0 m1 m2 n0 n1 n2 n3 n4 n5 n6 n7
  generalize ((w.alloc (.cells #[.slice p1 p.posts.length q1, .slice p2 p.queues.length q2, .slice p3 p.binds.length q3] 26)).alloc (.cells #[Value.slice a1 s.ready.length c1, Value.slice a2 s.outs.length c2, Value.slice a3 s.takers.length c3, Value.int IntKind.i64 s.nextSeq, Value.int IntKind.i64 s.nextTag, Value.int IntKind.i64 s.came, Value.int IntKind.i64 s.acked, Value.int IntKind.i64 s.dropped] 31)) = W0 at *
  have HC1 : Hid (∀ W, Below W0.heap.size W0 W → Calls Tryz.prog 21 #[.agg #[.slice p1 p.posts.length q1, .slice p2 p.queues.length q2, .slice p3 p.binds.length q3], .agg #[.slice a1 s.ready.length c1, .slice a2 s.outs.length c2, .slice a3 s.takers.length c3, .int .i64 s.nextSeq, .int .i64 s.nextTag, .int .i64 s.came, .int .i64 s.acked, .int .i64 s.dropped], .int .i64 x, .string key, .string body] W (ArPost (publishS p s x key body) (publishN p s x key body) (publishErr p s x key body) W)) := fun W hW =>
    Publish_any p s x key body p1 p2 p3 a1 a2 a3 q1 q2 q3 c1 c2 c3 rows W (HBX.out _ hW).env (HBX.out _ hW).planAt HPS.out (HBX.out _ hW).stateAt HSS.out HSI.out hkey hbody hx
  have hpq := HPS.out.queues
  have HC := HC1.out _ (Below.refl _ _)
  clear HC1
  obtain ⟨X, hX⟩ : ∃ X, publishS p s x key body = X := ⟨_, rfl⟩
  obtain ⟨nn, hnn⟩ : ∃ nn, publishN p s x key body = nn := ⟨_, rfl⟩
  obtain ⟨er, her⟩ : ∃ er, publishErr p s x key body = er := ⟨_, rfl⟩
  rw [hX, hnn, her] at HC
  have HFX := Lib.hid (And.intro hX (And.intro hnn her))
  clear hX hnn her
  refine HC.mono ?_
  clear HC
  rintro e w1 ⟨x1, x2, x3, xc1, xc2, xc3, rx, rfl, hs1, hb1⟩
  unfold stateV vState
  obtain ⟨⟨m0, m1, m2⟩, ⟨n0, n1, n2, n3, n4, n5, n6, n7⟩, _, _, _, _⟩ := HBX.out _ hb1
  go_upto_region 2 with fail
  obtain ⟨W1, hW1⟩ : ∃ W1, w1.alloc (.cells #[.slice x1 X.ready.length xc1, .slice x2 X.outs.length xc2, .slice x3 X.takers.length xc3, .int .i64 X.nextSeq, .int .i64 X.nextTag, .int .i64 X.came, .int .i64 X.acked, .int .i64 X.dropped] 31) = W1 := ⟨_, rfl⟩
  have HX := Lib.hid (box_since (x := X) xc1 xc2 xc3 hs1 hb1 hW1)
  rw [hW1]
  clear hW1
  clear hs1 hb1 m0 m1 m2 n0 n1 n2 n3 n4 n5 n6 n7
  obtain ⟨⟨m0, m1, m2⟩, _, _, _, _, _⟩ := HBX.out _ (HX.out _ (Below.refl _ _)).2
  go_wp2_with fail
  have hcall := Queues_any p x key p1 p2 p3 q1 q2 q3 W1 (HBX.out _ (HX.out _ (Below.refl _ _)).2).env (HBX.out _ (HX.out _ (Below.refl _ _)).2).planAt HPS.out hkey
  unfold planV at hcall
  refine hcall.mono ?_
  clear hcall m0 m1 m2
  rintro e w2 ⟨v2, rfl, hi2, hb2⟩
  obtain ⟨al, cl, rfl, _⟩ := own_slice hi2
  have HB2 := Lib.hid hb2
  have HI2 := Lib.hid (fun (W : World) (hW : Below w2.heap.size w2 W) => ((ints_sl hi2).2.below hW (Nat.le_refl _)).wider (hi' := W.heap.size) (Nat.le_refl _) hW.size)
  have HBW := Lib.hid (HX.out _ hb2).2
  clear hi2 hb2
  by_cases hc : er = 0
  · have hok : publishErr p s x key body = 0 := HFX.out.2.2.trans hc
    obtain ⟨hse, hre, hbs, hae⟩ := publish_ok hok
    have hRs : Right p s := right_iff.1 hse
    have hR : Right p X := by rw [← HFX.out.1]; exact publish_right hok
    have HOK := Lib.hid hok
    have hnn : nn = ((queuesR p x key).length : Int) := by rw [← HFX.out.2.1]; unfold publishN; rw [if_pos hok]
    have hfew := queuesR_few (p := p) (x := x) (key := key)
    have HQ := Lib.hid (fun (r : Nat) (hd : ∀ y ∈ p.queues, y.dead = -1) => hand_law (p := p) (s := s) (x := x) (key := key) (body := body) hok (dead_none hd) (q := (r : Int)) (by omega))
    rw [HFX.out.1] at HQ
    rw [hre]
    subst hnn
    subst hc
    generalize queuesR p x key = ys at *
    simp only [List.length_map] at *
    have hyl := hfew.1
    have HXL := Lib.hid hR.len
    have HSL := Lib.hid hRs.len
    have HR := Lib.hid (And.intro hRs hR)
    clear hok hse hre hbs hae hRs hR hfew
    have m1 := (HBX.out _ HBW.out).plan.2.1
    have n0 := (HBX.out _ HBW.out).state.1
    rw [HSL.out] at n0
    have k0 := (HX.out _ HB2.out).1.cells.1
    rw [HXL.out] at k0
    by_cases hz : p.queues.length = 0
    · have hzi : (p.queues.length : Int) = 0 := by omega
      go_wp2_with fail
      refine (handBegun_any _ (HBX.out _ HBW.out).env).mono ?_
      rintro e w5 ⟨rfl, hb5⟩
      have HB5 := Lib.hid (HBW.out.trans (hb5.mono HBW.out.size))
      clear hb5
      go_wp2_with fail
      go_ret
      exact ⟨rfl, (HBX.out _ HB5.out).below⟩
    · have hzi : ¬ (p.queues.length : Int) = 0 := by omega
      have hzb : ((p.queues.length : Int) == 0) = false := by rw [beq_eq_false_iff_ne]; exact hzi
      go_wp2_with fail
      have HIN : Hid (∀ W, Below w2.heap.size w2 W → HqIn w.heap.size p p2 q2 W) := Lib.hid fun W hW => by
        have k := HBX.out _ (HX.out _ (HB2.out.trans (hW.mono HB2.out.size))).2
        exact ⟨k.plan.2.1, k.planAt.queues, k.env⟩
      clear m1 n0 k0
      refine hq_loop1 w.heap.size (w.heap.size + 1) w1.heap.size cl al ys key body q p p2 q2 (by have := (checkP_right HR.out.1.plan).queues; omega) w2 HIN.out _ ?_ ?_ _ 0 w2 rfl (Nat.zero_le _) (by simp) (Below.refl _ _)
      · rintro t i w3 ht hdead hb3
        obtain ⟨u, rfl⟩ := hq1_open ht
        have HB3 := Lib.hid (HB2.out.trans (hb3.mono HB2.out.size))
        have H23 := Lib.hid hb3
        have HQD := Lib.hid (fun r => HQ.out r hdead)
        have m1 := (HBX.out _ (HX.out _ HB3.out).2).plan.2.1
        clear ht hdead hb3
        go_wp2_with fail
        refine (choose_any q p.queues.length w3 hq.1 hq.2 (by omega) (by omega)).mono ?_
        clear m1
        rintro e w4 ⟨r, hr, rfl, rfl⟩
        have hrl : r < p.queues.length := by omega
        go_wp2_with fail
        refine hq_loop2 w.heap.size (w.heap.size + 1) w1.heap.size cl r al ys key body (by omega) w3 (fun W hW => HI2.out W (H23.out.trans (hW.mono H23.out.size))) _ ?_ _ 0 false w3 rfl (Nat.zero_le _) (by simp) (Below.refl _ _)
        rintro t k cb w5 ht hcb hb5
        obtain ⟨u, rfl⟩ := hq2_open ht
        have HB5 := Lib.hid (HB3.out.trans (hb5.mono HB3.out.size))
        clear ht hb5
        obtain ⟨xb, xo, rfl, _, hxb, _⟩ := sl_elem vRow_len (by decide) (HX.out _ HB5.out).1.at_.ready (k := r) (by have := congrArg List.length (HX.out _ HB5.out).1.at_.same; rw [List.length_map, HXL.out] at this; omega)
        obtain ⟨sb, so, rfl, _, hsb, _⟩ := sl_elem vRow_len (by decide) (HBX.out _ (HX.out _ HB5.out).2).stateAt.ready (k := r) (by have := congrArg List.length (HBX.out _ (HX.out _ HB5.out).2).stateAt.same; rw [List.length_map, HSL.out] at this; omega)
        have hlx : X.ready[r]? = some (lineAt X r) := by
          rw [lineAt_get (show ((r : Int)).toNat < X.ready.length by have := HXL.out; omega)]
          exact List.getElem?_eq_getElem (by have := HXL.out; omega)
        have hls : s.ready[r]? = some (lineAt s r) := by
          rw [lineAt_get (show ((r : Int)).toNat < s.ready.length by have := HSL.out; omega)]
          exact List.getElem?_eq_getElem (by have := HSL.out; omega)
        have hsmall := HR.out.2.small.row _ (List.mem_of_getElem? hlx)
        have hsmalls := HSS.out.row _ (List.mem_of_getElem? hls)
        have hlim := queue_limit HR.out.1 hrl
        have hQD := HQD.out r
        generalize lineAt X r = lx at *
        generalize lineAt s r = ls at *
        obtain ⟨ra, rc, hxr, hxi, hxc⟩ := row_cell (HX.out _ HB5.out).1.at_ hlx
        obtain ⟨sa, sc, hsr, hsli, hsc⟩ := row_cell (HBX.out _ (HX.out _ HB5.out).2).stateAt hls
        have hr1 : (r : Int) < (p.queues.length : Int) := hr
        have HROW : Hid (∀ W, Below w5.heap.size w5 W → (W.cell? ⟨w.heap.size + 1, 0, none⟩ = some (.slice (some ⟨sb, so, none⟩) p.queues.length c1) ∧ W.cell? ⟨w1.heap.size, 0, none⟩ = some (.slice (some ⟨xb, xo, none⟩) p.queues.length xc1) ∧ W.cell? ⟨sb, so + r, none⟩ = some (.slice sa ls.length sc) ∧ W.cell? ⟨xb, xo + r, none⟩ = some (.slice ra lx.length rc)) ∧ Sl W 0 W.heap.size ra (lx.flatMap vItem) ∧ Sl W 0 W.heap.size sa (ls.flatMap vItem)) := Lib.hid fun W hW => by
          have hbW := HB5.out.trans (hW.mono HB5.out.size)
          have n0 := (HBX.out _ (HX.out _ hbW).2).state.1
          rw [HSL.out] at n0
          have k0 := (HX.out _ hbW).1.cells.1
          rw [HXL.out] at k0
          exact ⟨⟨n0, k0, (hW.cell (p := ⟨sb, so + r, none⟩) hsb).trans hsr, (hW.cell (p := ⟨xb, xo + r, none⟩) hxb).trans hxr⟩, (hxi.below hW (Nat.le_refl _)).wider (Nat.le_refl _) hW.size, (hsli.below hW (Nat.le_refl _)).wider (Nat.le_refl _) hW.size⟩
        have HENV : Hid (∀ W, Below w5.heap.size w5 W → Env W) := Lib.hid fun W hW => (HBX.out _ (HX.out _ (HB5.out.trans (hW.mono HB5.out.size))).2).env
        have HLEN := Lib.hid (And.intro hsmall.len (And.intro hsmalls.len (And.intro hxc hsc)))
        have HLIM := Lib.hid hlim
        have HRL := Lib.hid hrl
        have e0 := (HROW.out _ (Below.refl w5.heap.size w5).drew).1
        clear hsmall hsmalls hxc hsc hlx hls hxr hxi hsr hsli hlim
        go_wp2_with fail
        go_cut [22, 23] from 127 to 136 (fun va vb wx => va = .slice sa ls.length sc ∧ vb = .slice ra lx.length rc ∧ wx = w5.drew)
        case first =>
          refine nw_lay [(0, false), (1, false), (2, false), (3, false), (4, false), (5, false), (6, false), (7, false), (8, false), (9, false), (10, false), (11, false)] (by kernel_rfl) (fun hOrd => ?_)
          refine nw_go (S := (fun W => W.cell? ⟨w.heap.size + 1, 0, none⟩ = some (.slice (some ⟨sb, so, none⟩) p.queues.length c1) ∧ W.cell? ⟨w1.heap.size, 0, none⟩ = some (.slice (some ⟨xb, xo, none⟩) p.queues.length xc1) ∧ W.cell? ⟨sb, so + r, none⟩ = some (.slice sa ls.length sc) ∧ W.cell? ⟨xb, xo + r, none⟩ = some (.slice ra lx.length rc))) hOrd (by kernel_rfl) (by first | assumption | exact e0) (fun hHeld => ?_)
          clear hOrd
          iterate 12 ((first | (refine NW.take (v := ?_) rfl (fun _ _ _ h => h) (Or.inl ⟨by rfl, ?_⟩) ?_; rotate_left; focus (intro w hSw; (try dsimp only at hSw); go_simp; (all_goals with_reducible rfl); done)) | (refine NW.leave rfl (fun _ _ _ h => h) (by rfl) (by assumption) ?_)); try simp only [Act.put, List.setIfInBounds_toArray, List.set_cons_zero, List.set_cons_succ, List.getElem_toArray, List.getElem_cons_zero, List.getElem_cons_succ])
          refine NW.done ?_
          go_wp2_with fail
          go_meet
          exact ⟨rfl, rfl, rfl⟩
        case rest =>
          obtain ⟨rfl, rfl, rfl⟩ := hcut
          clear e0
          have H6 : Hid (Below w5.heap.size w5 w5.drew) := Lib.hid (Below.refl _ _).drew
          generalize w5.drew = w6 at *
          have HCB := Lib.hid hcb
          have HQ1 := Lib.hid hQD
          clear hcb hQD
          cases cb
          · have HSM : Hid (lx = ls) := Lib.hid (HQ1.out.2 (by have := HCB.out; simpa using this))
            clear HCB HQ1
            go_wp2_with fail
            refine (handBegun_any _ (HENV.out _ H6.out)).mono ?_
            rintro e w7 ⟨rfl, hb7⟩
            have HB7 := Lib.hid (H6.out.trans (hb7.mono H6.out.size))
            clear hb7
            have hsi := SameItems_any sa ra sc rc ls lx w7 0 (HROW.out _ HB7.out).2.2 (HROW.out _ HB7.out).2.1 (by have := HLEN.out.2.1; omega) (by have := HLEN.out.1; omega)
            rw [itemsEq_iff.2 HSM.out.symm] at hsi
            go_wp2_with fail
            refine hsi.mono ?_
            rintro e w8 ⟨rfl, hb8⟩
            have HB8 := Lib.hid (HB7.out.trans (hb8.mono HB7.out.size))
            clear hb8 hsi
            go_wp2_with fail
            go_ret
            exact ⟨rfl, (HBX.out _ (HX.out _ (HB5.out.trans (HB8.out.mono HB5.out.size))).2).below⟩
          · obtain ⟨sq, hsq, hsh⟩ := HQ1.out.1 (HCB.out.1 rfl)
            obtain ⟨d, hd, hpart, hmin⟩ := shed_parts (it := ⟨sq, key, body, false, 0⟩) HLIM.out.1 HLIM.out.2
            rw [hpart] at hsh
            obtain ⟨m, hm⟩ : ∃ m, ls.length - d = m := ⟨_, rfl⟩
            rw [hm] at hmin
            have hlen : lx.length = m + 1 := by rw [hsh, List.length_append, List.length_drop, hm]; rfl
            have hmd : ls.length = d + m := by omega
            have htk : lx.take m = ls.drop d := by rw [hsh]; exact List.take_left' (by rw [List.length_drop]; exact hm)
            obtain ⟨qb, qo, rfl, hqb, hqd, _⟩ := queue_cells (HBX.out _ (HX.out _ (HB5.out.trans (H6.out.mono HB5.out.size))).2).planAt.queues HRL.out
            obtain ⟨ib, io, rfl, _, _, hi⟩ := sl_elem vItem_len (by decide) (HROW.out _ H6.out).2.1 (k := m) (by omega)
            have hgm : lx[m]'(by omega) = ⟨sq, key, body, false, 0⟩ := by
              have h : lx[m]? = some ⟨sq, key, body, false, 0⟩ := by
                rw [hsh, List.getElem?_append_right (by rw [List.length_drop]; omega), List.length_drop, hm, Nat.sub_self]
                rfl
              rw [List.getElem?_eq_getElem (by omega)] at h
              exact Option.some.inj h
            rw [hgm] at hi
            have i0 : w6.cell? ⟨ib, io + m * 5, none⟩ = some (.int .i64 sq) := hi 0 _ rfl
            have i1 : w6.cell? ⟨ib, io + m * 5 + 1, none⟩ = some (.string key) := hi 1 _ rfl
            have i2 : w6.cell? ⟨ib, io + m * 5 + 2, none⟩ = some (.string body) := hi 2 _ rfl
            have i3 : w6.cell? ⟨ib, io + m * 5 + 3, none⟩ = some (.bool false) := hi 3 _ rfl
            have i4 : w6.cell? ⟨ib, io + m * 5 + 4, none⟩ = some (.int .i64 0) := hi 4 _ rfl
            have hl0 : ((lx.length : Int) == 0) = false := by rw [beq_eq_false_iff_ne]; omega
            have hw1 : IntKind.i64.wrap ((lx.length : Int) - 1) = (m : Int) := by
              have h0 : IntKind.i64.wrap ((lx.length : Int) - 1) = (lx.length : Int) - 1 := IntWalk.i64_in _ (by have := HLEN.out.1; omega)
              rw [h0]; omega
            have hw2 : IntKind.i64.wrap ((ls.length : Int) - (m : Int)) = (d : Int) := by
              have h0 : IntKind.i64.wrap ((ls.length : Int) - (m : Int)) = (ls.length : Int) - (m : Int) := IntWalk.i64_in _ (by have := HLEN.out.2.1; omega)
              rw [h0]; omega
            have hw3 : IntKind.i64.wrap ((ls.length : Int) + 1) = (ls.length : Int) + 1 := IntWalk.i64_in _ (by have := HLEN.out.2.1; omega)
            have hj1 : (m : Int) < (lx.length : Int) := by omega
            have hj2 : (m : Int) ≤ (ls.length : Int) := by omega
            have HMB := Lib.hid (show (lx.length : Int) = min ((ls.length : Int) + 1) (queueAt p r).limit by rw [← hmin, hlen])
            have hcutH : ∀ W, (Instr.slice 41 (.slice (some ⟨ib, io, none⟩) lx.length rc) none (some (.int .i64 (m : Int))) none).run Tryz.prog W = .ok (.slice (some ⟨ib, io, none⟩) m rc) W := fun W => run_cutHi (P := Tryz.prog) (t := 41) (size := 5) Tryz.underlying41 eg_sizeItem _ lx.length rc m (m : Int) rfl (by have := HLEN.out.2.2.1; omega) W
            have hcutL : ∀ W, (Instr.slice 41 (.slice sa ls.length sc) (some (.int .i64 (d : Int))) none none).run Tryz.prog W = .ok (.slice (cutA sa sc d 5) m (sc - d)) W := fun W => by
              have h := run_cut (P := Tryz.prog) (t := 41) (size := 5) Tryz.underlying41 eg_sizeItem sa ls.length sc d (d : Int) rfl (by omega) W
              rw [show ls.length - d = m by omega] at h
              exact h
            have HTK := Lib.hid (And.intro htk (And.intro hm (And.intro hlen hd)))
            clear hi hgm hsh hpart hmin hlen hmd htk hm HCB HQ1 hqb hqd
            go_upto_region 25 with fail
            obtain ⟨W7, hW7⟩ : ∃ W7, w6.alloc (.cells #[.int .i64 sq, .string key, .string body, .bool false, .int .i64 0] 43) = W7 := ⟨_, rfl⟩
            have kb7 : Bk W7 w6.heap.size 43 #[.int .i64 sq, .string key, .string body, .bool false, .int .i64 0] := by rw [← hW7]; exact Bk.new _ _ _
            have hb67 : Below w6.heap.size w6 W7 := by rw [← hW7]; exact (Below.refl _ _).alloc (Nat.le_refl _) _
            have h57 := H6.out.trans (hb67.mono H6.out.size)
            have HK : Hid (∀ W, Below W7.heap.size W7 W → (W.cell? ⟨w.heap.size + 1, 3, none⟩ = some (.int .i64 s.nextSeq) ∧ W.cell? ⟨w.heap.size, 1, none⟩ = some (.slice (some ⟨qb, qo, none⟩) p.queues.length q2) ∧ W.cell? ⟨qb, qo + r * 3 + 1, none⟩ = some (.int .i64 (queueAt p r).limit) ∧ W.cell? ⟨w6.heap.size, 0, none⟩ = some (.int .i64 sq) ∧ W.cell? ⟨w6.heap.size, 1, none⟩ = some (.string key) ∧ W.cell? ⟨w6.heap.size, 2, none⟩ = some (.string body) ∧ W.cell? ⟨w6.heap.size, 3, none⟩ = some (.bool false) ∧ W.cell? ⟨w6.heap.size, 4, none⟩ = some (.int .i64 0)) ∧ Below w5.heap.size w5 W) := Lib.hid fun W hW => by
              have h5W := h57.trans (hW.mono h57.size)
              have kk := HBX.out _ (HX.out _ (HB5.out.trans (h5W.mono HB5.out.size))).2
              have k := kb7.below hW kb7.lt
              obtain ⟨qb', qo', e, _, hqd, _⟩ := queue_cells kk.planAt.queues HRL.out
              simp only [Option.some.injEq, Addr.mk.injEq, and_true] at e
              obtain ⟨rfl, rfl⟩ := e
              exact ⟨⟨kk.state.2.2.2.1, kk.plan.2.1, hqd, k.cell 0, k.cell 1, k.cell 2, k.cell 3, k.cell 4⟩, h5W⟩
            have HSI : Hid (∀ W, Below w5.heap.size w5 W → Calls Tryz.prog 20 #[.slice (some ⟨ib, io, none⟩) m rc, .slice (cutA sa sc d 5) m (sc - d)] W fun e w' => e = .returned (.bool true) ∧ Below W.heap.size W w') := Lib.hid fun W hW => by
              have h := SameItems_any (some ⟨ib, io, none⟩) (cutA sa sc d 5) rc (sc - d) (lx.take m) (ls.drop d) W 0 (line_take (HROW.out W hW).2.1) (line_drop (HROW.out W hW).2.2 HTK.out.2.2.2 HLEN.out.2.2.2) (by rw [List.length_take]; have := HLEN.out.1; omega) (by rw [List.length_drop]; have := HLEN.out.2.1; omega)
              rw [HTK.out.1, itemsEq_iff.2 rfl, List.length_drop, HTK.out.2.1] at h
              exact h
            have hN0 : Below W7.heap.size W7 W7.drew := (Below.refl _ _).drew
            rw [hW7]
            clear hW7 kb7 hb67 i0 i1 i2 i3 i4 h57 HTK
            have hmb : ((lx.length : Int) == min ((ls.length : Int) + 1) (queueAt p r).limit) = true := by rw [beq_iff_eq]; exact HMB.out
            have hsq2 : s.nextSeq ≤ sq := hsq
            refine nw_lay [(0, true), (1, false), (2, false), (3, false), (4, false), (5, false), (6, false), (7, false), (8, false), (9, false), (10, false), (11, false), (12, false), (13, false), (14, false), (15, false), (16, false), (17, false), (18, false), (19, false), (20, false), (21, false), (22, false), (23, false), (24, false), (25, false), (26, false), (27, false), (28, false), (29, false), (30, false), (31, false), (32, false), (33, false), (34, false), (35, false), (36, false), (37, false), (38, false), (39, false), (40, false), (41, false), (42, false), (43, false), (44, false), (45, false), (46, true), (47, false), (48, false), (49, false), (50, false), (51, false), (52, false), (53, false), (54, false), (55, false), (56, false), (57, false), (58, false), (59, false), (60, false), (61, false), (62, false), (63, false)] (by kernel_rfl) (fun hOrd => ?_)
            refine nw_go (S := (fun W => (W.cell? ⟨w.heap.size + 1, 3, none⟩ = some (.int .i64 s.nextSeq) ∧ W.cell? ⟨w.heap.size, 1, none⟩ = some (.slice (some ⟨qb, qo, none⟩) p.queues.length q2) ∧ W.cell? ⟨qb, qo + r * 3 + 1, none⟩ = some (.int .i64 (queueAt p r).limit) ∧ W.cell? ⟨w6.heap.size, 0, none⟩ = some (.int .i64 sq) ∧ W.cell? ⟨w6.heap.size, 1, none⟩ = some (.string key) ∧ W.cell? ⟨w6.heap.size, 2, none⟩ = some (.string body) ∧ W.cell? ⟨w6.heap.size, 3, none⟩ = some (.bool false) ∧ W.cell? ⟨w6.heap.size, 4, none⟩ = some (.int .i64 0)) ∧ Below W7.heap.size W7 W)) hOrd (by kernel_rfl) (by first | assumption | exact ⟨(HK.out _ hN).1, hN⟩ | exact ⟨(HK.out _ hN0).1, hN0⟩) (fun hHeld => ?_)
            clear hOrd
            first
              | (refine NW.leave rfl (fun _ _ _ h => h) (by rfl) (by assumption) ?_)
              | (refine NW.call rfl (fun K hK => ?_); go_simp; (first | (go_at_call 23; (with_reducible refine (handBegun_any _ (HENV.out _ (HK.out _ hHeld.2).2)).mono ?_); rintro e w8 ⟨rfl, n2⟩; have hN : Below W7.heap.size W7 w8 := hHeld.2.trans (n2.mono hHeld.2.size); clear n2) | (go_at_call 20; (with_reducible refine (HSI.out _ (HK.out _ hHeld.2).2).mono ?_); rintro e w9 ⟨rfl, n2⟩; have hN : Below W7.heap.size W7 w9 := hHeld.2.trans (n2.mono hHeld.2.size); have HN9 := Lib.hid hN; clear n2)); refine hK.out _ _ (by first | assumption | exact ⟨(HK.out _ hN).1, hN⟩ | exact ⟨(HK.out _ hN0).1, hN0⟩) (fun hHeld => ?_); clear hK K)
            try simp only [Act.put, List.setIfInBounds_toArray, List.set_cons_zero, List.set_cons_succ, List.getElem_toArray, List.getElem_cons_zero, List.getElem_cons_succ]
            iterate 45 ((first | (refine NW.take (v := ?_) rfl (fun _ _ _ h => h) (Or.inl ⟨by rfl, ?_⟩) ?_; rotate_left; focus (intro w hSw; (try dsimp only at hSw); go_simp; (all_goals with_reducible rfl); done)) | (refine NW.leave rfl (fun _ _ _ h => h) (by rfl) (by assumption) ?_)); try simp only [Act.put, List.setIfInBounds_toArray, List.set_cons_zero, List.set_cons_succ, List.getElem_toArray, List.getElem_cons_zero, List.getElem_cons_succ])
            first
              | (refine NW.leave rfl (fun _ _ _ h => h) (by rfl) (by assumption) ?_)
              | (refine NW.call rfl (fun K hK => ?_); go_simp; (first | (go_at_call 23; (with_reducible refine (handBegun_any _ (HENV.out _ (HK.out _ hHeld.2).2)).mono ?_); rintro e w8 ⟨rfl, n2⟩; have hN : Below W7.heap.size W7 w8 := hHeld.2.trans (n2.mono hHeld.2.size); clear n2) | (go_at_call 20; (with_reducible refine (HSI.out _ (HK.out _ hHeld.2).2).mono ?_); rintro e w9 ⟨rfl, n2⟩; have hN : Below W7.heap.size W7 w9 := hHeld.2.trans (n2.mono hHeld.2.size); have HN9 := Lib.hid hN; clear n2)); refine hK.out _ _ (by first | assumption | exact ⟨(HK.out _ hN).1, hN⟩ | exact ⟨(HK.out _ hN0).1, hN0⟩) (fun hHeld => ?_); clear hK K)
            try simp only [Act.put, List.setIfInBounds_toArray, List.set_cons_zero, List.set_cons_succ, List.getElem_toArray, List.getElem_cons_zero, List.getElem_cons_succ]
            iterate 17 ((first | (refine NW.take (v := ?_) rfl (fun _ _ _ h => h) (Or.inl ⟨by rfl, ?_⟩) ?_; rotate_left; focus (intro w hSw; (try dsimp only at hSw); go_simp; (all_goals with_reducible rfl); done)) | (refine NW.leave rfl (fun _ _ _ h => h) (by rfl) (by assumption) ?_)); try simp only [Act.put, List.setIfInBounds_toArray, List.set_cons_zero, List.set_cons_succ, List.getElem_toArray, List.getElem_cons_zero, List.getElem_cons_succ])
            refine NW.done ?_
            go_wp2_with fail
            go_ret
            exact ⟨rfl, (HBX.out _ (HX.out _ (HB5.out.trans ((HK.out _ HN9.out).2.mono HB5.out.size))).2).below⟩
      · rintro t w3 ht hb3
        obtain ⟨u, rfl⟩ := hqr_open ht
        have HB3 := Lib.hid (HX.out _ (HB2.out.trans (hb3.mono HB2.out.size))).2
        clear ht hb3
        go_wp2_with fail
        go_ret
        exact ⟨rfl, (HBX.out _ HB3.out).below⟩
  · have b1 : (er != 0) = true := by simp [hc]
    go_wp2_with fail
    refine (handBegun_any _ (HBX.out _ HBW.out).env).mono ?_
    rintro e w5 ⟨rfl, hb5⟩
    have HB5 := Lib.hid (HBW.out.trans (hb5.mono HBW.out.size))
    clear hb5
    go_wp2_with fail
    go_ret
    exact ⟨rfl, (HBX.out _ HB5.out).below⟩

theorem handTrue_any (p : PlanD) (p1 p2 p3 : Option Addr) (q1 q2 q3 : Nat) (s : StateD) (a1 a2 a3 : Option Addr) (c1 c2 c3 : Nat) (rows : List RowD) (x : Int) (key body : ByteArray) (q : Int) (w : World) (hp : PlanAt w 0 w.heap.size p1 p2 p3 p) (hps : PlanSmall p) (_ : PlanInts p) (hs : StateAt w 0 w.heap.size a1 a2 a3 rows s) (hss : StateSmall s) (hsi : StateInts s)
    (_ : s.ready.length ≤ c1 ∧ s.outs.length ≤ c2 ∧ s.takers.length ≤ c3) (hx : -9223372036854775808 ≤ x ∧ x ≤ 9223372036854775807) (hkey : key.size ≤ 1048576) (hbody : body.size ≤ 1048576) (hq : -9223372036854775808 ≤ q ∧ q ≤ 9223372036854775807) (hE : Env w) :
    Calls Tryz.prog 6 #[planV p p1 p2 p3 q1 q2 q3, stateV s a1 a2 a3 c1 c2 c3, .int .i64 x, .string key, .string body, .int .i64 q] w fun e w' => e = .returned (.bool true) ∧ Below w.heap.size w w' :=
  handTrue_go p s x key body q p1 p2 p3 a1 a2 a3 q1 q2 q3 c1 c2 c3 rows w hE hp hps hs hss hsi hx hkey hbody hq

end Go.Proofs.YtfbgmgadpjpdcaaGreatDoor
