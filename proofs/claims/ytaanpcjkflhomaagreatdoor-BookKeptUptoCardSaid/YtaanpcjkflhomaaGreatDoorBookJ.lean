/-
  The law BookKept answers true.
-/
import Derived.Test.YtaanpcjkflhomaaGreatDoorBookF
import Derived.Test.YtaanpcjkflhomaaGreatDoorDoA
import Derived.Test.YtaanpcjkflhomaaGreatDoorNX
set_option linter.unusedSimpArgs false
set_option linter.unusedVariables false
namespace Go.Proofs.YtaanpcjkflhomaaGreatDoor
open Go Go.RowKit
set_option maxRecDepth 100000
def lyN (s : StateD) (j : Nat) : Nat := ((s.ready.take j).map List.length).sum
theorem lyN_succ {s : StateD} {j : Nat} (h : j < s.ready.length) : lyN s (j + 1) = lyN s j + s.ready[j].length := by
 unfold lyN
 rw [List.take_succ_eq_append_getElem h,List.map_append,List.sum_append]
 simp
theorem sum_take_le : ∀ (l : List Nat) (j : Nat),(l.take j).sum ≤ l.sum
 | [],j => by simp
 | a :: l,0 => by simp
 | a :: l,j + 1 => by
  have := sum_take_le l j
  simp only [List.take_succ_cons,List.sum_cons]
  omega
theorem lyN_le (s : StateD) (j : Nat) : lyN s j ≤ lyingS s := by
 unfold lyN lyingS
 rw [List.map_take]
 exact sum_take_le _ _
theorem lyN_all (s : StateD) : lyN s s.ready.length = lyingS s := by unfold lyN lyingS; rw [List.take_length]
def moreS (s X : StateD) (j : Nat) : Int := ((X.outs.length : Int) + (lyN X j : Nat)) - ((s.outs.length : Int) + (lyN s j : Nat))
theorem moreS_zero (s X : StateD) : moreS s X 0 = (X.outs.length : Int) - (s.outs.length : Int) := by
 unfold moreS lyN
 simp
theorem moreS_all {s X : StateD} (h : X.ready.length = s.ready.length) : moreS s X s.ready.length = ((X.outs.length : Int) + (lyingS X : Nat)) - ((s.outs.length : Int) + (lyingS s : Nat)) := by
 unfold moreS
 rw [lyN_all,← h,lyN_all]
theorem moreS_step {s X : StateD} {j : Nat} (h : j < s.ready.length) (hx : j < X.ready.length) (l1 : lyingS s ≤ 1048576) (l2 : lyingS X ≤ 1048576) (o1 : s.outs.length ≤ 1048576) (o2 : X.outs.length ≤ 1048576) :
  moreS s X (j + 1) = moreS s X j + (X.ready[j].length : Int) - (s.ready[j].length : Int) ∧ wrap64 (moreS s X j + (X.ready[j].length : Int)) = moreS s X j + (X.ready[j].length : Int) ∧
   wrap64 (moreS s X j + (X.ready[j].length : Int) - (s.ready[j].length : Int)) = moreS s X j + (X.ready[j].length : Int) - (s.ready[j].length : Int) := by
 have e1 := lyN_succ h
 have e2 := lyN_succ hx
 have b1 := lyN_le s (j + 1)
 have b2 := lyN_le X (j + 1)
 unfold moreS wrap64
 refine ⟨by omega,by omega,by omega⟩
theorem lens_cell {s : StateD} {j : Nat} (h : j < s.ready.length) : (intsV (lensS s))[j]? = some (.int .i64 (s.ready[j].length : Int)) := by
 unfold intsV lensS
 rw [List.getElem?_map,List.getElem?_map,List.getElem?_eq_getElem h]
 rfl
theorem count_six {p : PlanD} {s : StateD} (h : Right p s) : (0 ≤ s.came ∧ s.came ≤ 1048576) ∧ (0 ≤ s.acked ∧ s.acked ≤ 1048576) ∧ (0 ≤ s.dropped ∧ s.dropped ≤ 1048576) := by
 have h1 := h.came; have h2 := h.acked; have h3 := h.dropped
 unfold countB at h1 h2 h3
 simp only [Bool.and_eq_true,decide_eq_true_eq] at h1 h2 h3
 exact ⟨h1,h2,h3⟩
set_option maxHeartbeats 8000000 in
theorem bookKept_go (p : PlanD) (s : StateD) (x : ActD) (p1 p2 p3 a1 a2 a3 : Option Addr) (q1 q2 q3 c1 c2 c3 : Nat) (rows : List RowD) (w : World) (hE : Env w) (hp : PlanAt w 0 w.heap.size p1 p2 p3 p) (hps : PlanSmall p) (hs : StateAt w 0 w.heap.size a1 a2 a3 rows s) (hss : StateSmall s) (hsi : StateInts s) (hx : ActSmall x) :
  Calls Tryz.prog 7 #[planV p p1 p2 p3 q1 q2 q3,stateV s a1 a2 a3 c1 c2 c3,.agg (vAct x).toArray] w fun e w' => e = .returned (.bool true) ∧ Below w.heap.size w w' := by
 have hbx := two_boxes q1 q2 q3 c1 c2 c3 hE hp hs 26 31
 unfold vState at hbx
 unfold stateV planV vState vAct
 have HPS := Lib.hid hps
 have HSS := Lib.hid hss
 have HSI := Lib.hid hsi
 have HAS := Lib.hid hx
 clear hE hp hs hps hss hsi hx
 obtain ⟨⟨m0,m1,m2⟩,⟨n0,n1,n2,n3,n4,n5,n6,n7⟩,_,_,_,_⟩ := hbx ((((w.alloc (.cells #[.slice p1 p.posts.length q1,.slice p2 p.queues.length q2,.slice p3 p.binds.length q3] 26)).alloc (.cells #[Value.slice a1 s.ready.length c1,Value.slice a2 s.outs.length c2,Value.slice a3 s.takers.length c3,Value.int IntKind.i64 s.nextSeq,Value.int IntKind.i64 s.nextTag,Value.int IntKind.i64 s.came,Value.int IntKind.i64 s.acked,Value.int IntKind.i64 s.dropped] 31)).alloc (.cells #[.int .i64 x.kind,.int .i64 x.a,.int .i64 x.b,.string x.key,.string x.body] 57))) ((Below.refl _ _).alloc (Nat.le_refl _) _)
 go_enter Tryz.func7,Tryz.ntmps7
 go_upto_region 1 with fail
 clear m0 m1 m2 n0 n1 n2 n3 n4 n5 n6 n7
 obtain ⟨V2,hV2⟩ : ∃ V2,((w.alloc (.cells #[.slice p1 p.posts.length q1,.slice p2 p.queues.length q2,.slice p3 p.binds.length q3] 26)).alloc (.cells #[Value.slice a1 s.ready.length c1,Value.slice a2 s.outs.length c2,Value.slice a3 s.takers.length c3,Value.int IntKind.i64 s.nextSeq,Value.int IntKind.i64 s.nextTag,Value.int IntKind.i64 s.came,Value.int IntKind.i64 s.acked,Value.int IntKind.i64 s.dropped] 31)) = V2 := ⟨_,rfl⟩
 have hz2 : V2.heap.size = w.heap.size + 1 + 1 := by rw [← hV2]; simp
 rw [hV2] at hbx
 rw [hV2]
 clear hV2
 obtain ⟨W0,hW0⟩ : ∃ W0,V2.alloc (.cells #[.int .i64 x.kind,.int .i64 x.a,.int .i64 x.b,.string x.key,.string x.body] 57) = W0 := ⟨_,rfl⟩
 have kb0 : Bk W0 (w.heap.size + 1 + 1) 57 #[.int .i64 x.kind,.int .i64 x.a,.int .i64 x.b,.string x.key,.string x.body] := by rw [← hW0]; exact Bk.new_at _ _ _ hz2.symm
 have bW : Below V2.heap.size V2 W0 := by rw [← hW0]; exact (Below.refl _ _).alloc (Nat.le_refl _) _
 rw [hW0]
 have HBX : Hid (∀ W,Below W0.heap.size W0 W → CkIn w p s p1 p2 p3 a1 a2 a3 q1 q2 q3 c1 c2 c3 rows W) := Lib.hid fun W hW => hbx W (bW.trans (hW.mono bW.size))
 have x0 := kb0.cell 0; have x1 := kb0.cell 1; have x2 := kb0.cell 2; have x3 := kb0.cell 3; have x4 := kb0.cell 4
 simp only [List.getElem?_toArray,List.getElem?_cons_zero,List.getElem?_cons_succ] at x0 x1 x2 x3 x4
 clear hbx hz2 hW0 bW kb0
 obtain ⟨⟨m0,m1,m2⟩,⟨n0,n1,n2,n3,n4,n5,n6,n7⟩,_,_,_,_⟩ := HBX.out _ (Below.refl _ _)
 go_wp2_with fail
 refine (Do_any p s x p1 p2 p3 a1 a2 a3 q1 q2 q3 c1 c2 c3 rows W0 (HBX.out _ (Below.refl _ _)).env (HBX.out _ (Below.refl _ _)).planAt HPS.out (HBX.out _ (Below.refl _ _)).stateAt HSS.out HSI.out HAS.out).mono ?_
 rintro e w2 ⟨x1,x2,x3,xc1,xc2,xc3,rx,rfl,hs,hb⟩
 clear m0 m1 m2 n0 n1 n2 n3 n4 n5 n6 n7
 have HOK := Lib.hid (fun h : doErr p s x = 0 => do_done h)
 generalize doS p s x = X at *
 generalize doErr p s x = er at *
 unfold stateV vState
 go_upto_region 2 with fail
 obtain ⟨WX,hW1⟩ : ∃ WX,w2.alloc (.cells #[.slice x1 X.ready.length xc1,.slice x2 X.outs.length xc2,.slice x3 X.takers.length xc3,.int .i64 X.nextSeq,.int .i64 X.nextTag,.int .i64 X.came,.int .i64 X.acked,.int .i64 X.dropped] 31) = WX := ⟨_,rfl⟩
 have HWX := Lib.hid (box_since (x := X) xc1 xc2 xc3 hs hb hW1)
 rw [hW1]
 clear hW1 hs hb
 by_cases he : er = 0
 ·subst he
  obtain ⟨hR,hRX,hd1,hd2,hd3,hd4⟩ := HOK.out rfl
  have HR := Lib.hid hR
  have HRX := Lib.hid hRX
  clear HOK
  obtain ⟨⟨m0,m1,m2⟩,⟨n0,n1,n2,n3,n4,n5,n6,n7⟩,_,_,_,_⟩ := HBX.out _ (HWX.out _ (Below.refl _ _)).2
  go_wp2_with fail
  refine (Lying_any p s p1 p2 p3 a1 a2 a3 q1 q2 q3 c1 c2 c3 rows WX (HBX.out _ (HWX.out _ (Below.refl _ _)).2).env (HBX.out _ (HWX.out _ (Below.refl _ _)).2).planAt HPS.out (HBX.out _ (HWX.out _ (Below.refl _ _)).2).stateAt HSS.out HSI.out).mono ?_
  rw [right_iff.2 HR.out,if_pos rfl]
  rintro e w3 ⟨la,ln,lc,rfl,rfl,hll,hb3⟩
  have HB3 := Lib.hid hb3
  have HL3 := Lib.hid (hll.wider (Nat.zero_le _) (Nat.le_refl _))
  clear hb3 hll m0 m1 m2 n0 n1 n2 n3 n4 n5 n6 n7
  obtain ⟨⟨m0,m1,m2⟩,_,_,_,_,_⟩ := HBX.out _ (HWX.out _ HB3.out).2
  obtain ⟨k0,k1,k2,k3,k4,k5,k6,k7⟩ := (HWX.out _ HB3.out).1.cells
  go_wp2_with fail
  clear m0 m1 m2 k0 k1 k2 k3 k4 k5 k6 k7
  refine (Lying_any p X p1 p2 p3 x1 x2 x3 q1 q2 q3 xc1 xc2 xc3 rx w3 (HBX.out _ (HWX.out _ HB3.out).2).env (HBX.out _ (HWX.out _ HB3.out).2).planAt HPS.out (HWX.out _ HB3.out).1.at_ HRX.out.small HRX.out.ints).mono ?_
  rw [right_iff.2 HRX.out,if_pos rfl]
  rintro e w4 ⟨ma,mn,mc,rfl,rfl,hlm,hb4⟩
  have HB4 := Lib.hid (HB3.out.trans (hb4.mono HB3.out.size))
  have HL4 := Lib.hid ((HL3.out.below hb4 (Nat.le_refl _)).wider (Nat.le_refl _) hb4.size)
  have HM4 := Lib.hid (hlm.wider (Nat.zero_le _) (Nat.le_refl _))
  clear hb4 hlm HL3
  have hlen : X.ready.length = s.ready.length := by rw [HRX.out.len,HR.out.len]
  rw [lens_len,lens_len,hlen]
  have HLX := Lib.hid hlen
  have hso : s.outs.length ≤ 1048576 := right_outs HR.out
  have hxo : X.outs.length ≤ 1048576 := right_outs HRX.out
  have hsr : s.ready.length ≤ 1048576 := HSS.out.ready
  have HLS : Hid (lyingS s ≤ 1048576 ∧ lyingS X ≤ 1048576) := Lib.hid ⟨HR.out.small.lying,HRX.out.small.lying⟩
  have HO := Lib.hid (And.intro hso hxo)
  have HGE := Lib.hid (And.intro hd1 (And.intro hd2 (And.intro hd3 hd4)))
  clear hlen hR hRX hd1 hd2 hd3 hd4
  obtain ⟨_,⟨n0,n1,n2,n3,n4,n5,n6,n7⟩,_,_,_,_⟩ := HBX.out _ (HWX.out _ HB4.out).2
  obtain ⟨k0,k1,k2,k3,k4,k5,k6,k7⟩ := (HWX.out _ HB4.out).1.cells
  go_wp2_with fail
  clear n0 n1 n2 n3 n4 n5 n6 n7 k0 k1 k2 k3 k4 k5 k6 k7
  go_loopw [13,14] (fun m i wr => ∃ j : Nat,j ≤ s.ready.length ∧ i = .int .i64 j ∧ m = .int .i64 (moreS s X j) ∧ Below w4.heap.size w4 wr) (fun _ i _ => s.ready.length - (intOf i).toNat)
  case atStart =>
   refine ⟨0,Nat.zero_le _,rfl,?_,Below.refl _ _⟩
   rw [moreS_zero]
  case round =>
   obtain ⟨j,hj,rfl,rfl,hB⟩ := hrel
   have HB := Lib.hid hB
   by_cases hlt : j < s.ready.length
   ·have hltx : j < X.ready.length := by rw [HLX.out]; exact hlt
    obtain ⟨mb,mo,rfl,_,_,hcm⟩ := ((HM4.out.below hB (Nat.le_refl _)).wider (Nat.le_refl _) hB.size).at_ (k := j) (by rw [intsV_len,lens_len]; exact hltx)
    obtain ⟨lb,lo',rfl,_,_,hcl⟩ := ((HL4.out.below hB (Nat.le_refl _)).wider (Nat.le_refl _) hB.size).at_ (k := j) (by rw [intsV_len,lens_len]; exact hlt)
    have e1 : wr.cell? ⟨mb,mo + j,none⟩ = some (.int .i64 (X.ready[j].length : Int)) := hcm _ _ (lens_cell hltx)
    have e2 : wr.cell? ⟨lb,lo' + j,none⟩ = some (.int .i64 (s.ready[j].length : Int)) := hcl _ _ (lens_cell hlt)
    obtain ⟨hm1,hm2,hm3⟩ := moreS_step hlt hltx HLS.out.1 HLS.out.2 HO.out.1 HO.out.2
    have HST := Lib.hid hm1
    clear hcm hcl hB hm1
    generalize moreS s X j = v at *
    generalize (X.ready[j].length : Int) = cx at *
    generalize (s.ready[j].length : Int) = cs at *
    have u1 : wrap64 (v + cx) = v + cx := hm2
    have u2 : wrap64 (v + cx - cs) = v + cx - cs := hm3
    go_wp2_with fail
    go_quiet (fail)
    all_goals go_wp2
    exact ⟨⟨j + 1,by omega,by go_num,by rw [HST.out]; exact congrArg _ u2,below_draws HB.out _⟩,by simp [intOf]; omega⟩
   ·obtain rfl : j = s.ready.length := by omega
    have HB9 := Lib.hid (HB4.out.trans (hB.mono HB4.out.size))
    have hv : moreS s X s.ready.length = ((X.outs.length : Int) + (lyingS X : Nat)) - ((s.outs.length : Int) + (lyingS s : Nat)) := moreS_all HLX.out
    have bs := count_six HR.out
    have bx := count_six HRX.out
    have ss := HR.out.sum
    have sx := HRX.out.sum
    obtain ⟨ls1,ls2⟩ := HLS.out
    obtain ⟨hg1,hg2,hg3,hg4⟩ := HGE.out
    generalize moreS s X s.ready.length = v at *
    have u1 : wrap64 (X.came - s.came) = X.came - s.came := by unfold wrap64; omega
    have u2 : wrap64 (X.acked - s.acked) = X.acked - s.acked := by unfold wrap64; omega
    have u3 : wrap64 (v + (X.acked - s.acked)) = v + (X.acked - s.acked) := by unfold wrap64; omega
    have u4 : wrap64 (X.dropped - s.dropped) = X.dropped - s.dropped := by unfold wrap64; omega
    have u5 : wrap64 (v + (X.acked - s.acked) + (X.dropped - s.dropped)) = v + (X.acked - s.acked) + (X.dropped - s.dropped) := by unfold wrap64; omega
    have weq : (X.came - s.came == v + (X.acked - s.acked) + (X.dropped - s.dropped)) = true := by simp; omega
    clear bs bx ss sx ls1 ls2 hv hB hso hxo hsr hj hlt
    go_wp2_with fail
    refine (bookBegun_any _ (HBX.out _ (HWX.out _ HB9.out).2).env).mono ?_
    rintro e w6 ⟨rfl,hb6⟩
    have HB6 := Lib.hid (HB9.out.trans (hb6.mono HB9.out.size))
    clear hb6
    obtain ⟨_,⟨n0,n1,n2,n3,n4,n5,n6,n7⟩,_,_,_,_⟩ := HBX.out _ (HWX.out _ HB6.out).2
    obtain ⟨k0,k1,k2,k3,k4,k5,k6,k7⟩ := (HWX.out _ HB6.out).1.cells
    go_wp2_with fail
    go_ret
    exact ⟨rfl,(HBX.out _ (HWX.out _ HB6.out).2).below⟩
 ·have be : (er != 0) = true := by simp [he]
  clear he HOK
  go_wp2_with fail
  refine (bookBegun_any _ (HBX.out _ (HWX.out _ (Below.refl _ _)).2).env).mono ?_
  rintro e w6 ⟨rfl,hb6⟩
  have HB6 := Lib.hid hb6
  clear hb6
  go_wp2_with fail
  go_ret
  exact ⟨rfl,(HBX.out _ (HWX.out _ HB6.out).2).below⟩
theorem bookKept_any (p : PlanD) (p1 p2 p3 : Option Addr) (q1 q2 q3 : Nat) (s : StateD) (a1 a2 a3 : Option Addr) (c1 c2 c3 : Nat) (rows : List RowD) (x : ActD) (w : World) (hp : PlanAt w 0 w.heap.size p1 p2 p3 p) (hps : PlanSmall p) (_ : PlanInts p) (hs : StateAt w 0 w.heap.size a1 a2 a3 rows s) (hss : StateSmall s) (hsi : StateInts s)
  (_ : s.ready.length ≤ c1 ∧ s.outs.length ≤ c2 ∧ s.takers.length ≤ c3) (hx : ActSmall x) (hE : Env w) :
  Calls Tryz.prog 7 #[planV p p1 p2 p3 q1 q2 q3,stateV s a1 a2 a3 c1 c2 c3,.agg (vAct x).toArray] w fun e w' => e = .returned (.bool true) ∧ Below w.heap.size w w' :=
 bookKept_go p s x p1 p2 p3 a1 a2 a3 q1 q2 q3 c1 c2 c3 rows w hE hp hps hs hss hsi hx
end Go.Proofs.YtaanpcjkflhomaaGreatDoor
