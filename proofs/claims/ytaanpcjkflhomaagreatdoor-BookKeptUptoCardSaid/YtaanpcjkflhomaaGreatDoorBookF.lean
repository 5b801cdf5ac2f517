/-
  bookBegun answers true: what must be in any case of the book.
-/
import Derived.Test.YtaanpcjkflhomaaGreatDoorBunDA
import Derived.Test.YtaanpcjkflhomaaGreatDoorBunDB
import Derived.Test.YtaanpcjkflhomaaGreatDoorReplyM
import Derived.Test.YtaanpcjkflhomaaGreatDoorBunO
import Derived.Test.YtaanpcjkflhomaaGreatDoorWalkS
import Derived.Deep.RegionHeld3
set_option linter.unusedSimpArgs false
set_option linter.unusedVariables false
namespace Go.Proofs.YtaanpcjkflhomaaGreatDoor
open Go Go.RowKit
set_option maxRecDepth 100000
def drX : StateD := { leaX with ready := [[],[],[⟨4,kXY,bOne,false,1⟩]],nextTag := 8,acked := 3 }
theorem leaX_right : Right officeP leaX := by
 have := (leave_left lea_office.1).right
 rwa [lea_office.2] at this
theorem drain_leaX : drainErr officeP leaX 0 = 0 ∧ drainS officeP leaX 0 = drX ∧ drainL officeP leaX 0 = [bTwo,bThree] := by
 have hj := join_some (q := 0) (m := 1) (k := 0) (ask_ok.2 ⟨leaX_right,by decide,by decide⟩ : askErr officeP leaX 0 = 0) (by decide) rfl
 have h : drainErr officeP leaX 0 = 0 := drain_ok.2 ⟨hj.1,rfl,by decide⟩
 refine ⟨h,?_,?_⟩
 ·unfold drainS; rw [if_pos h]; rfl
 ·unfold drainL; rw [if_pos h]; rfl
theorem ask_office0 : askErr officeP busyS 0 = 0 := ask_ok.2 ⟨right_iff.1 busy_right,by decide,by decide⟩
theorem drain_busy0 : drainErr officeP busyS 0 = 9 := by
 have ht : qTaken busyS 0 = true := rfl
 unfold drainErr
 rw [if_neg (by rw [ask_office0]; decide),if_pos ht]
theorem drain_busy3 : drainErr officeP busyS 3 = 5 := by
 have h : askErr officeP busyS 3 = 5 := by unfold askErr; rw [if_neg (by rw [busy_right]; decide),if_pos (by decide)]
 unfold drainErr
 rw [if_pos (by rw [h]; decide),h]
theorem cDrainZ (q e : Int) (h : drainErr officeP busyS q = e) (h0 : e ≠ 0) (b1 b2 b3 lo g0 g1 g2 g3 : Nat) (w : World) (hE : Env w) (ho : OfficeIn w b1 b2 b3) (hs : BusyAt w lo g0 g1 g2 g3) :
  Calls Tryz.prog 24 #[officeV b1 b2 b3,busyV g1 g2 g3,.int .i64 q] w (DrPost zeroS [] e w) := by
 have := Drain_any officeP busyS q _ _ _ _ _ _ 3 3 5 3 1 2 (busyRowD g0) w hE ho.plan office_small hs.state busy_small busy_ints
 obtain ⟨h1,h2,h3⟩ := drain_err h h0
 rw [h1,h2,h3] at this
 exact this
theorem cDrain (b1 b2 b3 : Nat) (a1 a2 a3 : Option Addr) (c1 c2 c3 : Nat) (rows : List RowD) (w : World) (hE : Env w) (ho : OfficeIn w b1 b2 b3) (hs : StateAt w 0 w.heap.size a1 a2 a3 rows leaX) :
  Calls Tryz.prog 24 #[officeV b1 b2 b3,stateV leaX a1 a2 a3 c1 c2 c3,.int .i64 0] w (DrPost drX [bTwo,bThree] 0 w) := by
 have := Drain_any officeP leaX 0 _ _ _ a1 a2 a3 3 3 5 c1 c2 c3 rows w hE ho.plan office_small hs leaX_right.small leaX_right.ints
 rw [drain_leaX.1,drain_leaX.2.1,drain_leaX.2.2] at this
 exact this
theorem cLying (b1 b2 b3 lo g0 g1 g2 g3 : Nat) (w : World) (hE : Env w) (ho : OfficeIn w b1 b2 b3) (hs : BusyAt w lo g0 g1 g2 g3) :
  Calls Tryz.prog 23 #[officeV b1 b2 b3,busyV g1 g2 g3] w fun e w' => ∃ a c,e = .returned (.tuple #[.slice a 3 c,.int .i64 0]) ∧ Sl w' w.heap.size w'.heap.size a ([2,0,0].map (Value.int .i64)) ∧ Below w.heap.size w w' := by
 refine (Lying_any officeP busyS _ _ _ _ _ _ 3 3 5 3 1 2 (busyRowD g0) w hE ho.plan office_small hs.state busy_small busy_ints).mono ?_
 rintro e w' ⟨a,n,c,rfl,hn,hsl,hb⟩
 rw [if_pos busy_right] at hn hsl
 subst hn
 refine ⟨a,c,?_,hsl,hb⟩
 rw [busy_right]
 rfl
def BoxDr (x : StateD) (l : List ByteArray) (WA : World) (b t e : Value) (wx : World) : Prop :=
 ∃ g y1 y2 y3 e1 e2 e3 ry al cl,b = .pointer (some ⟨g,0,none⟩) ∧ t = .slice al l.length cl ∧ e = .int .i64 0 ∧ BoxS wx g x y1 y2 y3 e1 e2 e3 ry ∧ Sl wx 0 wx.heap.size al (l.map Value.string) ∧ Below WA.heap.size WA wx
theorem box_dr {wd W WA : World} {g lo cl : Nat} {x : StateD} {l : List ByteArray} {al : Option Addr} {a1 a2 a3 : Option Addr} {c1 c2 c3 : Nat} {rows : List RowD} {o0 o1 o2 o3 o4 o5 o6 o7 : Value} (hs : StateAt wd lo wd.heap.size a1 a2 a3 rows x) (hl : Sl wd lo wd.heap.size al (l.map Value.string)) (hW : Below wd.heap.size wd W) (hk : Bk W g 31 #[o0,o1,o2,o3,o4,o5,o6,o7]) (hg : g < lo ∨ wd.heap.size ≤ g)
  (hb : Below WA.heap.size WA W) (hg2 : WA.heap.size ≤ g) :
  BoxDr x l WA (.pointer (some ⟨g,0,none⟩)) (.slice al l.length cl) (.int .i64 0) ((((((((W.setCell ⟨g,0,none⟩ (.slice a1 x.ready.length c1)).setCell ⟨g,1,none⟩ (.slice a2 x.outs.length c2)).setCell ⟨g,2,none⟩ (.slice a3 x.takers.length c3)).setCell ⟨g,3,none⟩ (.int .i64 x.nextSeq)).setCell ⟨g,4,none⟩ (.int .i64 x.nextTag)).setCell ⟨g,5,none⟩ (.int .i64 x.came)).setCell ⟨g,6,none⟩ (.int .i64 x.acked)).setCell ⟨g,7,none⟩ (.int .i64 x.dropped)) :=
 ⟨g,a1,a2,a3,c1,c2,c3,rows,al,cl,rfl,rfl,rfl,box_set8 hs hW hk hg,((((((((((hl.below hW (Nat.le_refl _)).away (p := ⟨g,0,none⟩) hg _).away (p := ⟨g,1,none⟩) hg _).away (p := ⟨g,2,none⟩) hg _).away (p := ⟨g,3,none⟩) hg _).away (p := ⟨g,4,none⟩) hg _).away (p := ⟨g,5,none⟩) hg _).away (p := ⟨g,6,none⟩) hg _).away (p := ⟨g,7,none⟩) hg _).wider (Nat.zero_le _) (by have := hW.size; simpa [World.setCell] using this)),below_set8 hb hg2 _ _ _ _ _ _ _ _⟩
theorem box_dr_new {wd WA : World} {lo cl : Nat} {x : StateD} {l : List ByteArray} {al : Option Addr} {a1 a2 a3 : Option Addr} {rows : List RowD} (c1 c2 c3 : Nat) (hs : StateAt wd lo wd.heap.size a1 a2 a3 rows x) (hl : Sl wd lo wd.heap.size al (l.map Value.string)) (hb : Below WA.heap.size WA wd) :
  BoxDr x l WA (.pointer (some ⟨wd.heap.size,0,none⟩)) (.slice al l.length cl) (.int .i64 0) (wd.alloc (.cells (vState x a1 a2 a3 c1 c2 c3) 31)) :=
 ⟨_,a1,a2,a3,c1,c2,c3,rows,al,cl,rfl,rfl,rfl,BoxS.new (hs.wider (Nat.zero_le _) (Nat.le_refl _)) c1 c2 c3,(hl.below ((Below.refl _ _).alloc (Nat.le_refl _) _) (Nat.le_refl _)).wider (Nat.zero_le _) (by simp),hb.alloc hb.size _⟩
theorem same_lit2 (xs : List ByteArray) (a : Option Addr) (c : Nat) (w W : World) (h : Sl w 0 w.heap.size a (xs.map Value.string)) (hb : Below w.heap.size w W) (hl : xs.length ≤ 1000) (n : Nat) (hn : n = xs.length) (cs : Array Value) (hc : cs = (xs.map Value.string).toArray) :
  Calls Tryz.prog 30 #[.slice a n c,.slice (some ⟨W.heap.size,0,none⟩) n n] (W.alloc (.cells cs 9)) fun e w' => e = .returned (.bool true) ∧ Below W.heap.size W w' := by
 subst hn hc
 have h1 : Sl (W.alloc (.cells (xs.map Value.string).toArray 9)) 0 (W.alloc (.cells (xs.map Value.string).toArray 9)).heap.size a (xs.map Value.string) :=
  ((h.below hb (Nat.le_refl _)).below ((Below.refl _ _).alloc (by have := hb.size; omega) _) (Nat.le_refl _)).wider (Nat.le_refl _) (by have := hb.size; simp; omega)
 have h2 : Sl (W.alloc (.cells (xs.map Value.string).toArray 9)) 0 (W.alloc (.cells (xs.map Value.string).toArray 9)).heap.size (some ⟨W.heap.size,0,none⟩) (xs.map Value.string) :=
  (Sl.new W (xs.map Value.string) 9 (W.heap.size + 1) (by omega)).wider (Nat.zero_le _) (by simp)
 refine (SameTexts_any a (some ⟨W.heap.size,0,none⟩) c xs.length xs xs _ 0 h1 h2 (by omega) (by omega)).mono ?_
 rintro e w' ⟨rfl,hb'⟩
 exact ⟨by simp,((Below.refl _ _).alloc (Nat.le_refl _) _).trans (hb'.mono (by simp))⟩
set_option maxHeartbeats 8000000 in
theorem bookBegun_any (w : World) (hE : Env w) : Calls Tryz.prog 28 #[] w fun e w' => e = .returned (.bool true) ∧ Below w.heap.size w w' := by
 have HE := Lib.hid hE; clear hE
 go_enter Tryz.func28,Tryz.ntmps28
 go_wp2_with fail
 refine (office_in _).mono ?_
 rintro e w1 ⟨p1,p2,p3,rfl,ho1,hb1⟩
 go_wp2_with fail
 refine (busy_any _).mono ?_
 rintro e w2 ⟨g0,g1,g2,g3,rfl,hy2,hb2⟩
 have hb2' := hb1.trans (hb2.mono hb1.size)
 have ho2 := ho1.below hb2
 go_wp2_with fail
 refine (cLying p1 p2 p3 _ g0 g1 g2 g3 w2 (below_env hb2' HE.out) ho2 hy2).mono ?_
 rintro e w3 ⟨la,lc,rfl,hl3,hb3⟩
 have HB3 := Lib.hid (hb2'.trans (hb3.mono hb2'.size))
 have HL3 := Lib.hid (hl3.wider (Nat.zero_le _) (Nat.le_refl _))
 clear hb1 hb2 hb2' hb3 ho1 ho2 hy2 hl3
 go_wp2_with fail
 refine (office_in _).mono ?_
 rintro e w4 ⟨p1,p2,p3,rfl,ho4,hb4⟩
 go_wp2_with fail
 refine (busy_any _).mono ?_
 rintro e w5 ⟨g0,g1,g2,g3,rfl,hy5,hb5⟩
 have hb5' := HB3.out.trans ((hb4.trans (hb5.mono hb4.size)).mono HB3.out.size)
 have hc5 := hb4.trans (hb5.mono hb4.size)
 have ho5 := ho4.below hb5
 go_wp2_with fail
 refine (cDrainZ 0 9 drain_busy0 (by decide) p1 p2 p3 _ g0 g1 g2 g3 w5 (below_env hb5' HE.out) ho5 hy5).mono ?_
 rintro e w6 ⟨z1,z2,z3,f1,f2,f3,rz,ta,tc,rfl,_,_,hb6⟩
 rw [show stateV zeroS z1 z2 z3 f1 f2 f3 = .agg #[.slice z1 0 f1,.slice z2 0 f2,.slice z3 0 f3,.int .i64 0,.int .i64 0,.int .i64 0,.int .i64 0,.int .i64 0] from rfl,show ([] : List ByteArray).length = 0 from rfl]
 have hc6 := hc5.trans (hb6.mono hc5.size)
 have HC6 := Lib.hid (hc6.alloc hc6.size (.cells #[.slice z1 0 f1,.slice z2 0 f2,.slice z3 0 f3,.int .i64 0,.int .i64 0,.int .i64 0,.int .i64 0,.int .i64 0] 31))
 clear hb4 hb5 hb5' hc5 hc6 hb6 ho4 ho5 hy5
 go_upto_region 3 with fail
 obtain ⟨wz,hwz⟩ : ∃ wz,w6.alloc (.cells #[.slice z1 0 f1,.slice z2 0 f2,.slice z3 0 f3,.int .i64 0,.int .i64 0,.int .i64 0,.int .i64 0,.int .i64 0] 31) = wz := ⟨_,rfl⟩
 rw [hwz] at HC6
 rw [hwz]
 clear hwz
 go_wp2_with fail
 refine (office_in _).mono ?_
 rintro e wa ⟨p1,p2,p3,rfl,hoa,hba⟩
 go_wp2_with fail
 refine (busy_any _).mono ?_
 rintro e w7 ⟨g0,g1,g2,g3,rfl,hy7,hb7⟩
 have hc7 := HC6.out.trans ((hba.trans (hb7.mono hba.size)).mono HC6.out.size)
 have hb7' := HB3.out.trans (hc7.mono HB3.out.size)
 have ho7 := hoa.below hb7
 go_wp2_with fail
 refine (cLeave 1 leaX 0 lea_office (by decide) p1 p2 p3 _ g0 g1 g2 g3 w7 (below_env hb7' HE.out) ho7 hy7).mono ?_
 rintro e w8 ⟨x1,x2,x3,d1,d2,d3,rx,rfl,hs8,hb8⟩
 have HC8 := Lib.hid (hc7.trans (hb8.mono hc7.size))
 have HS8 := Lib.hid hs8
 clear hba hb7 hc7 hb7' hoa ho7 hy7 hb8 hs8 HC6
 rw [show stateV leaX x1 x2 x3 d1 d2 d3 = .agg #[.slice x1 3 d1,.slice x2 0 d2,.slice x3 2 d3,.int .i64 5,.int .i64 6,.int .i64 5,.int .i64 1,.int .i64 1] from rfl]
 go_upto_region 4 with fail
 obtain ⟨WA,hWA⟩ : ∃ WA,w8.alloc (.cells #[.slice x1 3 d1,.slice x2 0 d2,.slice x3 2 d3,.int .i64 5,.int .i64 6,.int .i64 5,.int .i64 1,.int .i64 1] 31) = WA := ⟨_,rfl⟩
 have HA := Lib.hid (box_since (x := leaX) d1 d2 d3 HS8.out HC8.out hWA)
 rw [hWA]
 clear hWA
 have HK : Hid (∀ W,Below WA.heap.size WA W → (W.cell? ⟨w8.heap.size,0,none⟩ = some (.slice x1 3 d1) ∧ W.cell? ⟨w8.heap.size,1,none⟩ = some (.slice x2 0 d2) ∧ W.cell? ⟨w8.heap.size,2,none⟩ = some (.slice x3 2 d3) ∧ W.cell? ⟨w8.heap.size,3,none⟩ = some (.int .i64 5) ∧ W.cell? ⟨w8.heap.size,4,none⟩ = some (.int .i64 6) ∧ W.cell? ⟨w8.heap.size,5,none⟩ = some (.int .i64 5) ∧ W.cell? ⟨w8.heap.size,6,none⟩ = some (.int .i64 1) ∧ W.cell? ⟨w8.heap.size,7,none⟩ = some (.int .i64 1)) ∧ Below WA.heap.size WA W) := fun W hW => ⟨(HA.out W hW).1.cells,hW⟩
 have HD : Hid (∀ W b1 b2 b3,Below WA.heap.size WA W → OfficeIn W b1 b2 b3 → Calls Tryz.prog 24 #[officeV b1 b2 b3,.agg #[.slice x1 3 d1,.slice x2 0 d2,.slice x3 2 d3,.int .i64 5,.int .i64 6,.int .i64 5,.int .i64 1,.int .i64 1],.int .i64 0] W (DrPost drX [bTwo,bThree] 0 W)) := fun W b1 b2 b3 hW ho =>
  cDrain b1 b2 b3 x1 x2 x3 d1 d2 d3 rx W (below_env (HB3.out.trans ((HA.out W hW).2.mono HB3.out.size)) HE.out) ho (HA.out W hW).1.at_
 have HBN := Lib.hid (Below.refl WA.heap.size WA)
 go_cut [8,9,10] from 33 to 39 (fun b t e wx => BoxDr drX [bTwo,bThree] WA b t e wx)
 case first =>
  refine wp_region_held_drew (S := (fun W => (W.cell? ⟨w8.heap.size,0,none⟩ = some (.slice x1 3 d1) ∧ W.cell? ⟨w8.heap.size,1,none⟩ = some (.slice x2 0 d2) ∧ W.cell? ⟨w8.heap.size,2,none⟩ = some (.slice x3 2 d3) ∧ W.cell? ⟨w8.heap.size,3,none⟩ = some (.int .i64 5) ∧ W.cell? ⟨w8.heap.size,4,none⟩ = some (.int .i64 6) ∧ W.cell? ⟨w8.heap.size,5,none⟩ = some (.int .i64 5) ∧ W.cell? ⟨w8.heap.size,6,none⟩ = some (.int .i64 1) ∧ W.cell? ⟨w8.heap.size,7,none⟩ = some (.int .i64 1)) ∧ Below WA.heap.size WA W)) (by kernel_rfl) (by exact HK.out _ HBN.out.drew) (fun hHeld => ?_)
  first | (refine wpAnyH_take (i := 1) (v := ?_) rfl (by kernel_rfl) (by kernel_rfl) (by kernel_rfl) (fun _ _ _ h => h) (Or.inl ⟨by rfl,?_⟩) (by assumption) ?_; rotate_left; focus (intro w hSw; (try dsimp only at hSw); go_simp; (all_goals with_reducible rfl); done)) | fail "op 1"
  try simp only [Act.put,zA,zB,zC,zD,zE]
  refine wpAnyH_ready (rs := [0,7]) (by kernel_rfl) (by simp) ?_
  refine AllReadyH.cons rfl (fun K hK => ?_) (AllReadyH.cons rfl (fun K hK => ?_) AllReadyH.nil)
  ·go_simp
   go_at_call 57; with_reducible refine (office_in _).mono ?_; rintro e wo ⟨b1,b2,b3,rfl,ho,hbo⟩; have hbo2 := since_stepC (by assumption) hbo
   refine hK.out _ _ (by exact HK.out _ hbo2) (fun hHeld => ?_)
   clear hK K
   try simp only [Act.put,zA,zB,zC,zD,zE,zF]
   refine wpAnyH_ready (rs := [2,7]) (by kernel_rfl) (by simp) ?_
   refine AllReadyH.cons rfl (fun K hK => ?_) (AllReadyH.cons rfl (fun K hK => ?_) AllReadyH.nil)
   ·go_simp
    go_at_call 24; refine (HD.out _ _ _ _ hbo2 ho).mono ?_; rintro e wd ⟨y1,y2,y3,e1,e2,e3,ry,tl,tc,rfl,hsd,hsl,hbd⟩; rw [show stateV drX y1 y2 y3 e1 e2 e3 = .agg #[.slice y1 3 e1,.slice y2 0 e2,.slice y3 2 e3,.int .i64 5,.int .i64 8,.int .i64 5,.int .i64 3,.int .i64 1] from rfl,show [bTwo,bThree].length = 2 from rfl]; have hbo3 := hbo2.trans (hbd.mono hbo2.size)
    refine hK.out _ _ (by exact HK.out _ hbo3) (fun hHeld => ?_)
    clear hK K
    try simp only [Act.put,zA,zB,zC,zD,zE,zF]
    first | (refine wpAnyH_take (i := 3) (v := ?_) rfl (by kernel_rfl) (by kernel_rfl) (by kernel_rfl) (fun _ _ _ h => h) (Or.inl ⟨by rfl,?_⟩) (by assumption) ?_; rotate_left; focus (intro w hSw; (try dsimp only at hSw); go_simp; (all_goals with_reducible rfl); done)) | fail "op 3"
    try simp only [Act.put,zA,zB,zC,zD,zE,zF]
    first | (refine wpAnyH_take (i := 4) (v := ?_) rfl (by kernel_rfl) (by kernel_rfl) (by kernel_rfl) (fun _ _ _ h => h) (Or.inl ⟨by rfl,?_⟩) (by assumption) ?_; rotate_left; focus (intro w hSw; (try dsimp only at hSw); go_simp; (all_goals with_reducible rfl); done)) | fail "op 4"
    try simp only [Act.put,zA,zB,zC,zD,zE,zF]
    first | (refine wpAnyH_take (i := 5) (v := ?_) rfl (by kernel_rfl) (by kernel_rfl) (by kernel_rfl) (fun _ _ _ h => h) (Or.inl ⟨by rfl,?_⟩) (by assumption) ?_; rotate_left; focus (intro w hSw; (try dsimp only at hSw); go_simp; (all_goals with_reducible rfl); done)) | fail "op 5"
    try simp only [Act.put,zA,zB,zC,zD,zE,zF]
    first | (refine wpAnyH_take (i := 6) (v := ?_) rfl (by kernel_rfl) (by kernel_rfl) (by kernel_rfl) (fun _ _ _ h => h) (Or.inl ⟨by rfl,?_⟩) (by assumption) ?_; rotate_left; focus (intro w hSw; (try dsimp only at hSw); go_simp; (all_goals with_reducible rfl); done)) | fail "op 6"
    try simp only [Act.put,zA,zB,zC,zD,zE,zF]
    refine wpAnyH_ready (rs := [7]) (by kernel_rfl) (by simp) ?_
    refine AllReadyH.cons rfl (fun K hK => ?_) AllReadyH.nil
    go_simp
    have hbk := Bk.new wd 31 #[.slice none 0 0,.slice none 0 0,.slice none 0 0,.int .i64 0,.int .i64 0,.int .i64 0,.int .i64 0,.int .i64 0]
    refine hK.out _ _ (by exact HK.out _ (kb_alloc (And.intro trivial hbo3) _)) (fun hHeld => ?_)
    clear hK K
    try simp only [Act.put,zA,zB,zC,zD,zE,zF]
    refine wpAnyH_ready (rs := [8]) (by kernel_rfl) (by simp) ?_
    refine AllReadyH.cons rfl (fun K hK => ?_) AllReadyH.nil
    obtain ⟨c0,c1,c2,c3,c4,c5,c6,c7,f0,f1,f2,f3,f4,f5,f6,f7,hlg⟩ := zero_cells hbk; have hS8 := HK.out _ (hbo3.alloc hbo3.size (.cells #[.slice y1 3 e1,.slice y2 0 e2,.slice y3 2 e3,.int .i64 5,.int .i64 8,.int .i64 5,.int .i64 3,.int .i64 1] 31))
    go_simp
    refine hK.out _ _ (by exact hS8) (fun hHeld => ?_)
    clear hK K
    try simp only [Act.put,zA,zB,zC,zD,zE,zF]
    first | (refine wpAnyH_take (i := 9) (v := ?_) rfl (by kernel_rfl) (by kernel_rfl) (by kernel_rfl) (fun _ _ _ h => h) (Or.inl ⟨by rfl,?_⟩) (by assumption) ?_; rotate_left; focus (intro w hSw; (try dsimp only at hSw); go_simp; (all_goals with_reducible rfl); done)) | fail "op 9"
    try simp only [Act.put,zA,zB,zC,zD,zE,zF]
    first | (refine wpAnyH_take (i := 10) (v := ?_) rfl (by kernel_rfl) (by kernel_rfl) (by kernel_rfl) (fun _ _ _ h => h) (Or.inl ⟨by rfl,?_⟩) (by assumption) ?_; rotate_left; focus (intro w hSw; (try dsimp only at hSw); go_simp; (all_goals with_reducible rfl); done)) | fail "op 10"
    try simp only [Act.put,zA,zB,zC,zD,zE,zF]
    refine wpAnyH_done (by kernel_rfl) ?_ _
    go_wp2_with fail
    go_meet
    exact box_dr_new e1 e2 e3 hsd hsl hbo3
   ·go_simp
    have hbk := Bk.new wo 31 #[.slice none 0 0,.slice none 0 0,.slice none 0 0,.int .i64 0,.int .i64 0,.int .i64 0,.int .i64 0,.int .i64 0]; have hbo2a := hbo2; have hg8 : WA.heap.size ≤ wo.heap.size := hbo2.size; have hgl : wo.heap.size < (wo.alloc (.cells #[.slice none 0 0,.slice none 0 0,.slice none 0 0,.int .i64 0,.int .i64 0,.int .i64 0,.int .i64 0,.int .i64 0] 31)).heap.size := hbk.lt; have ho := ho.below ((Below.refl wo.heap.size wo).alloc (Nat.le_refl _) (.cells #[.slice none 0 0,.slice none 0 0,.slice none 0 0,.int .i64 0,.int .i64 0,.int .i64 0,.int .i64 0,.int .i64 0] 31)); have hbo2 := hbo2.alloc hbo2.size (.cells #[.slice none 0 0,.slice none 0 0,.slice none 0 0,.int .i64 0,.int .i64 0,.int .i64 0,.int .i64 0,.int .i64 0] 31)
    refine hK.out _ _ (by exact HK.out _ (kb_alloc (And.intro trivial hbo2a) _)) (fun hHeld => ?_)
    clear hK K
    try simp only [Act.put,zA,zB,zC,zD,zE,zF]
    refine wpAnyH_ready (rs := [2]) (by kernel_rfl) (by simp) ?_
    refine AllReadyH.cons rfl (fun K hK => ?_) AllReadyH.nil
    go_simp
    go_at_call 24; refine (HD.out _ _ _ _ hbo2 ho).mono ?_; rintro e wd ⟨y1,y2,y3,e1,e2,e3,ry,tl,tc,rfl,hsd,hsl,hbd⟩; rw [show stateV drX y1 y2 y3 e1 e2 e3 = .agg #[.slice y1 3 e1,.slice y2 0 e2,.slice y3 2 e3,.int .i64 5,.int .i64 8,.int .i64 5,.int .i64 3,.int .i64 1] from rfl,show [bTwo,bThree].length = 2 from rfl]; have hbo3 := hbo2.trans (hbd.mono hbo2.size); have hbk := Bk.below hbk hbd hbk.lt
    refine hK.out _ _ (by exact HK.out _ hbo3) (fun hHeld => ?_)
    clear hK K
    try simp only [Act.put,zA,zB,zC,zD,zE,zF]
    first | (refine wpAnyH_take (i := 3) (v := ?_) rfl (by kernel_rfl) (by kernel_rfl) (by kernel_rfl) (fun _ _ _ h => h) (Or.inl ⟨by rfl,?_⟩) (by assumption) ?_; rotate_left; focus (intro w hSw; (try dsimp only at hSw); go_simp; (all_goals with_reducible rfl); done)) | fail "op 3"
    try simp only [Act.put,zA,zB,zC,zD,zE,zF]
    first | (refine wpAnyH_take (i := 4) (v := ?_) rfl (by kernel_rfl) (by kernel_rfl) (by kernel_rfl) (fun _ _ _ h => h) (Or.inl ⟨by rfl,?_⟩) (by assumption) ?_; rotate_left; focus (intro w hSw; (try dsimp only at hSw); go_simp; (all_goals with_reducible rfl); done)) | fail "op 4"
    try simp only [Act.put,zA,zB,zC,zD,zE,zF]
    first | (refine wpAnyH_take (i := 5) (v := ?_) rfl (by kernel_rfl) (by kernel_rfl) (by kernel_rfl) (fun _ _ _ h => h) (Or.inl ⟨by rfl,?_⟩) (by assumption) ?_; rotate_left; focus (intro w hSw; (try dsimp only at hSw); go_simp; (all_goals with_reducible rfl); done)) | fail "op 5"
    try simp only [Act.put,zA,zB,zC,zD,zE,zF]
    first | (refine wpAnyH_take (i := 6) (v := ?_) rfl (by kernel_rfl) (by kernel_rfl) (by kernel_rfl) (fun _ _ _ h => h) (Or.inl ⟨by rfl,?_⟩) (by assumption) ?_; rotate_left; focus (intro w hSw; (try dsimp only at hSw); go_simp; (all_goals with_reducible rfl); done)) | fail "op 6"
    try simp only [Act.put,zA,zB,zC,zD,zE,zF]
    refine wpAnyH_ready (rs := [8]) (by kernel_rfl) (by simp) ?_
    refine AllReadyH.cons rfl (fun K hK => ?_) AllReadyH.nil
    obtain ⟨c0,c1,c2,c3,c4,c5,c6,c7,f0,f1,f2,f3,f4,f5,f6,f7,hlg⟩ := zero_cells hbk; have hS8 := HK.out _ (below_set8 hbo3 hg8 (.slice y1 3 e1) (.slice y2 0 e2) (.slice y3 2 e3) (.int .i64 5) (.int .i64 8) (.int .i64 5) (.int .i64 3) (.int .i64 1))
    go_simp
    refine hK.out _ _ (by exact hS8) (fun hHeld => ?_)
    clear hK K
    try simp only [Act.put,zA,zB,zC,zD,zE,zF]
    first | (refine wpAnyH_take (i := 9) (v := ?_) rfl (by kernel_rfl) (by kernel_rfl) (by kernel_rfl) (fun _ _ _ h => h) (Or.inl ⟨by rfl,?_⟩) (by assumption) ?_; rotate_left; focus (intro w hSw; (try dsimp only at hSw); go_simp; (all_goals with_reducible rfl); done)) | fail "op 9"
    try simp only [Act.put,zA,zB,zC,zD,zE,zF]
    first | (refine wpAnyH_take (i := 10) (v := ?_) rfl (by kernel_rfl) (by kernel_rfl) (by kernel_rfl) (fun _ _ _ h => h) (Or.inl ⟨by rfl,?_⟩) (by assumption) ?_; rotate_left; focus (intro w hSw; (try dsimp only at hSw); go_simp; (all_goals with_reducible rfl); done)) | fail "op 10"
    try simp only [Act.put,zA,zB,zC,zD,zE,zF]
    refine wpAnyH_done (by kernel_rfl) ?_ _
    go_wp2_with fail
    go_meet
    exact box_dr (lo := _) hsd hsl (Below.refl _ _) hbk (Or.inl hgl) hbo3 hg8
  ·go_simp
   have hbk : Bk (WA.drew.alloc (.cells #[.slice none 0 0,.slice none 0 0,.slice none 0 0,.int .i64 0,.int .i64 0,.int .i64 0,.int .i64 0,.int .i64 0] 31)) WA.heap.size 31 #[.slice none 0 0,.slice none 0 0,.slice none 0 0,.int .i64 0,.int .i64 0,.int .i64 0,.int .i64 0,.int .i64 0] := Bk.new WA.drew _ _; have hg8 : WA.heap.size ≤ WA.heap.size := Nat.le_refl _; have hgl0 : WA.heap.size < (WA.drew.alloc (.cells #[.slice none 0 0,.slice none 0 0,.slice none 0 0,.int .i64 0,.int .i64 0,.int .i64 0,.int .i64 0,.int .i64 0] 31)).heap.size := hbk.lt
   refine hK.out _ _ (by exact HK.out _ (kb_alloc (And.intro trivial HBN.out.drew) _)) (fun hHeld => ?_)
   clear hK K
   try simp only [Act.put,zA,zB,zC,zD,zE,zF]
   refine wpAnyH_ready (rs := [0]) (by kernel_rfl) (by simp) ?_
   refine AllReadyH.cons rfl (fun K hK => ?_) AllReadyH.nil
   go_simp
   go_at_call 57; with_reducible refine (office_in _).mono ?_; rintro e wo ⟨b1,b2,b3,rfl,ho,hbo⟩; have hbo2 := since_stepC (by assumption) hbo; have hgl := Nat.lt_of_lt_of_le hgl0 hbo.size; have hbk := Bk.below hbk hbo hbk.lt
   refine hK.out _ _ (by exact HK.out _ hbo2) (fun hHeld => ?_)
   clear hK K
   try simp only [Act.put,zA,zB,zC,zD,zE,zF]
   refine wpAnyH_ready (rs := [2]) (by kernel_rfl) (by simp) ?_
   refine AllReadyH.cons rfl (fun K hK => ?_) AllReadyH.nil
   go_simp
   go_at_call 24; refine (HD.out _ _ _ _ hbo2 ho).mono ?_; rintro e wd ⟨y1,y2,y3,e1,e2,e3,ry,tl,tc,rfl,hsd,hsl,hbd⟩; rw [show stateV drX y1 y2 y3 e1 e2 e3 = .agg #[.slice y1 3 e1,.slice y2 0 e2,.slice y3 2 e3,.int .i64 5,.int .i64 8,.int .i64 5,.int .i64 3,.int .i64 1] from rfl,show [bTwo,bThree].length = 2 from rfl]; have hbo3 := hbo2.trans (hbd.mono hbo2.size); have hbk := Bk.below hbk hbd hbk.lt
   refine hK.out _ _ (by exact HK.out _ hbo3) (fun hHeld => ?_)
   clear hK K
   try simp only [Act.put,zA,zB,zC,zD,zE,zF]
   first | (refine wpAnyH_take (i := 3) (v := ?_) rfl (by kernel_rfl) (by kernel_rfl) (by kernel_rfl) (fun _ _ _ h => h) (Or.inl ⟨by rfl,?_⟩) (by assumption) ?_; rotate_left; focus (intro w hSw; (try dsimp only at hSw); go_simp; (all_goals with_reducible rfl); done)) | fail "op 3"
   try simp only [Act.put,zA,zB,zC,zD,zE,zF]
   first | (refine wpAnyH_take (i := 4) (v := ?_) rfl (by kernel_rfl) (by kernel_rfl) (by kernel_rfl) (fun _ _ _ h => h) (Or.inl ⟨by rfl,?_⟩) (by assumption) ?_; rotate_left; focus (intro w hSw; (try dsimp only at hSw); go_simp; (all_goals with_reducible rfl); done)) | fail "op 4"
   try simp only [Act.put,zA,zB,zC,zD,zE,zF]
   first | (refine wpAnyH_take (i := 5) (v := ?_) rfl (by kernel_rfl) (by kernel_rfl) (by kernel_rfl) (fun _ _ _ h => h) (Or.inl ⟨by rfl,?_⟩) (by assumption) ?_; rotate_left; focus (intro w hSw; (try dsimp only at hSw); go_simp; (all_goals with_reducible rfl); done)) | fail "op 5"
   try simp only [Act.put,zA,zB,zC,zD,zE,zF]
   first | (refine wpAnyH_take (i := 6) (v := ?_) rfl (by kernel_rfl) (by kernel_rfl) (by kernel_rfl) (fun _ _ _ h => h) (Or.inl ⟨by rfl,?_⟩) (by assumption) ?_; rotate_left; focus (intro w hSw; (try dsimp only at hSw); go_simp; (all_goals with_reducible rfl); done)) | fail "op 6"
   try simp only [Act.put,zA,zB,zC,zD,zE,zF]
   refine wpAnyH_ready (rs := [8]) (by kernel_rfl) (by simp) ?_
   refine AllReadyH.cons rfl (fun K hK => ?_) AllReadyH.nil
   obtain ⟨c0,c1,c2,c3,c4,c5,c6,c7,f0,f1,f2,f3,f4,f5,f6,f7,hlg⟩ := zero_cells hbk; have hS8 := HK.out _ (below_set8 hbo3 hg8 (.slice y1 3 e1) (.slice y2 0 e2) (.slice y3 2 e3) (.int .i64 5) (.int .i64 8) (.int .i64 5) (.int .i64 3) (.int .i64 1))
   go_simp
   refine hK.out _ _ (by exact hS8) (fun hHeld => ?_)
   clear hK K
   try simp only [Act.put,zA,zB,zC,zD,zE,zF]
   first | (refine wpAnyH_take (i := 9) (v := ?_) rfl (by kernel_rfl) (by kernel_rfl) (by kernel_rfl) (fun _ _ _ h => h) (Or.inl ⟨by rfl,?_⟩) (by assumption) ?_; rotate_left; focus (intro w hSw; (try dsimp only at hSw); go_simp; (all_goals with_reducible rfl); done)) | fail "op 9"
   try simp only [Act.put,zA,zB,zC,zD,zE,zF]
   first | (refine wpAnyH_take (i := 10) (v := ?_) rfl (by kernel_rfl) (by kernel_rfl) (by kernel_rfl) (fun _ _ _ h => h) (Or.inl ⟨by rfl,?_⟩) (by assumption) ?_; rotate_left; focus (intro w hSw; (try dsimp only at hSw); go_simp; (all_goals with_reducible rfl); done)) | fail "op 10"
   try simp only [Act.put,zA,zB,zC,zD,zE,zF]
   refine wpAnyH_done (by kernel_rfl) ?_ _
   go_wp2_with fail
   go_meet
   exact box_dr (lo := wo.heap.size) hsd hsl (Below.refl _ _) hbk (Or.inl hgl) hbo3 hg8
 case rest =>
  obtain ⟨g,y1,y2,y3,e1,e2,e3,ry,ta,tc,rfl,rfl,rfl,hbB,hsB,hbW⟩ := hcut
  have HB : Hid (∀ W,Below wc.heap.size wc W → BoxS W g drX y1 y2 y3 e1 e2 e3 ry ∧ Sl W 0 W.heap.size ta ([bTwo,bThree].map Value.string) ∧ Below w3.heap.size w3 W) := fun W hW => ⟨hbB.below hW,(hsB.below hW (Nat.le_refl _)).wider (Nat.le_refl _) hW.size,(HA.out W (hbW.trans (hW.mono hbW.size))).2⟩
  clear hbB hsB hbW HBN HD HK HA
  go_wp2_with fail
  refine (office_in _).mono ?_
  rintro e w5 ⟨p1,p2,p3,rfl,ho5,hb5⟩
  go_wp2_with fail
  refine (busy_any _).mono ?_
  rintro e w6 ⟨g0,g1,g2,g3,rfl,hy6,hb6⟩
  have hb6' := hb5.trans (hb6.mono hb5.size)
  have ho6 := ho5.below hb6
  go_wp2_with fail
  refine (cDrainZ 3 5 drain_busy3 (by decide) p1 p2 p3 _ g0 g1 g2 g3 w6 (below_env (HB3.out.trans ((HB.out _ hb6').2.2.mono HB3.out.size)) HE.out) ho6 hy6).mono ?_
  rintro e w7 ⟨z1,z2,z3,f1,f2,f3,rz,ua,uc,rfl,_,_,hb7⟩
  rw [show stateV zeroS z1 z2 z3 f1 f2 f3 = .agg #[.slice z1 0 f1,.slice z2 0 f2,.slice z3 0 f3,.int .i64 0,.int .i64 0,.int .i64 0,.int .i64 0,.int .i64 0] from rfl,show ([] : List ByteArray).length = 0 from rfl]
  have hb7' := hb6'.trans (hb7.mono hb6'.size)
  have HC7 := Lib.hid (hb7'.alloc hb7'.size (.cells #[.slice z1 0 f1,.slice z2 0 f2,.slice z3 0 f3,.int .i64 0,.int .i64 0,.int .i64 0,.int .i64 0,.int .i64 0] 31))
  clear hb5 hb6 hb6' hb7 hb7' ho5 ho6 hy6
  go_upto_region 6 with fail
  obtain ⟨wz2,hwz⟩ : ∃ wz2,w7.alloc (.cells #[.slice z1 0 f1,.slice z2 0 f2,.slice z3 0 f3,.int .i64 0,.int .i64 0,.int .i64 0,.int .i64 0,.int .i64 0] 31) = wz2 := ⟨_,rfl⟩
  rw [hwz] at HC7
  rw [hwz]
  clear hwz
  obtain ⟨hBX,hSX,hBW⟩ := HB.out _ HC7.out
  have HSI := Lib.hid (fun W hW => same_lit [2,0,0] la lc w3 W HL3.out hW (by decide) 3 rfl #[.int .i64 2,.int .i64 0,.int .i64 0] rfl)
  have HST := Lib.hid (fun W (hW : Below wz2.heap.size wz2 W) => same_lit2 [bTwo,bThree] ta tc wz2 W hSX hW (by decide) 2 rfl #[.string ⟨#[116,119,111]⟩,.string ⟨#[116,104,114,101,101]⟩] rfl)
  have HBW := Lib.hid hBW
  have HBX := Lib.hid hBX
  clear hBX hSX hBW
  go_wp2_with fail
  refine (HSI.out wz2 HBW.out).mono ?_
  rintro e w8 ⟨rfl,hb8⟩
  have HB8 := Lib.hid hb8
  clear hb8
  go_wp2_with fail
  refine (HST.out w8 HB8.out).mono ?_
  rintro e w9 ⟨rfl,hb9⟩
  have HB9 := Lib.hid (HB8.out.trans (hb9.mono HB8.out.size))
  clear hb9
  have hx := HBX.out.below HB9.out
  have n0 : w9.cell? ⟨g,0,none⟩ = some (.slice y1 3 e1) := hx.cells.1
  have n6 : w9.cell? ⟨g,6,none⟩ = some (.int .i64 3) := hx.cells.2.2.2.2.2.2.1
  have hrl : ry.length = 3 := by have := congrArg List.length hx.at_.same; simpa [drX] using this
  obtain ⟨rb,ro,rfl,_,_,_⟩ := sl_elem vRow_len (by decide) hx.at_.ready (k := 0) (by omega)
  obtain ⟨r0,rc0,q0,_,_⟩ := row_cell (k := 0) hx.at_ rfl
  have q1 : w9.cell? ⟨rb,ro,none⟩ = some (.slice r0 0 rc0) := q0
  clear hx q0
  go_wp2_with fail
  go_ret
  exact ⟨rfl,HB3.out.trans ((HBW.out.trans (HB9.out.mono HBW.out.size)).mono HB3.out.size)⟩
end Go.Proofs.YtaanpcjkflhomaaGreatDoor
