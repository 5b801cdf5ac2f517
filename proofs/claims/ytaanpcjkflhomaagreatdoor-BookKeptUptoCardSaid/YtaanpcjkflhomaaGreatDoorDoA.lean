/-
  log.Do: an act is done.
-/
import Derived.Test.YtaanpcjkflhomaaGreatDoorHandA
import Derived.Test.YtaanpcjkflhomaaGreatDoorBunCC
import Derived.Test.YtaanpcjkflhomaaGreatDoorDoP
import Derived.Test.YtaanpcjkflhomaaGreatDoorActD
set_option linter.unusedSimpArgs false
set_option linter.unusedVariables false
namespace Go.Proofs.YtaanpcjkflhomaaGreatDoor
open Go Go.RowKit
set_option maxRecDepth 100000
theorem do_kind1 {p : PlanD} {s : StateD} {x : ActD} (h : x.kind = 1) : doS p s x = publishS p s x.a x.key x.body ∧ doErr p s x = publishErr p s x.a x.key x.body := by
 unfold doS doErr
 rw [h]
 simp only [Int.reduceEq,↓reduceIte,and_self]
theorem do_kind2 {p : PlanD} {s : StateD} {x : ActD} (h : x.kind = 2) : doS p s x = joinS p s x.a x.b ∧ doErr p s x = joinErr p s x.a x.b := by
 unfold doS doErr
 rw [h]
 simp only [Int.reduceEq,↓reduceIte,and_self]
theorem do_kind3 {p : PlanD} {s : StateD} {x : ActD} (h : x.kind = 3) : doS p s x = leaveS p s x.a ∧ doErr p s x = leaveErr p s x.a := by
 unfold doS doErr
 rw [h]
 simp only [Int.reduceEq,↓reduceIte,and_self]
theorem do_kind4 {p : PlanD} {s : StateD} {x : ActD} (h : x.kind = 4) : doS p s x = deliverS p s x.a ∧ doErr p s x = deliverErr p s x.a := by
 unfold doS doErr
 rw [h]
 simp only [Int.reduceEq,↓reduceIte,and_self]
theorem do_kind5 {p : PlanD} {s : StateD} {x : ActD} (h : x.kind = 5) : doS p s x = ackS p s x.a ∧ doErr p s x = ackErr p s x.a := by
 unfold doS doErr
 rw [h]
 simp only [Int.reduceEq,↓reduceIte,and_self]
theorem do_kind6 {p : PlanD} {s : StateD} {x : ActD} (h : x.kind = 6) : doS p s x = rejectS p s x.a (x.b != 0) ∧ doErr p s x = rejectErr p s x.a := by
 unfold doS doErr
 rw [h]
 simp only [Int.reduceEq,↓reduceIte,and_self]
theorem do_kind0 {p : PlanD} {s : StateD} {x : ActD} (h1 : x.kind ≠ 1) (h2 : x.kind ≠ 2) (h3 : x.kind ≠ 3) (h4 : x.kind ≠ 4) (h5 : x.kind ≠ 5) (h6 : x.kind ≠ 6) : doS p s x = zeroS ∧ doErr p s x = 7 := by
 unfold doS doErr
 simp only [h1,h2,h3,h4,h5,h6,↓reduceIte,and_self]
theorem one_any (Y : StateD) (b1 b2 b3 : Option Addr) (d1 d2 d3 : Nat) (n e : Int) (w : World) : Calls Tryz.prog 80 #[stateV Y b1 b2 b3 d1 d2 d3,.int .i64 n,.int .i64 e] w fun r w' => r = .returned (.tuple #[stateV Y b1 b2 b3 d1 d2 d3,.int .i64 e]) ∧ Below w.heap.size w w' := by
 unfold stateV vState
 go_enter Tryz.func80,Tryz.ntmps80
 go_upto_region 1 with fail
 obtain ⟨W1,hW1⟩ : ∃ W1,((w.alloc (.cells #[.slice b1 Y.ready.length d1,.slice b2 Y.outs.length d2,.slice b3 Y.takers.length d3,.int .i64 Y.nextSeq,.int .i64 Y.nextTag,.int .i64 Y.came,.int .i64 Y.acked,.int .i64 Y.dropped] 31)).alloc (.cells #[.slice none 0 0,.slice none 0 0,.slice none 0 0,.int .i64 0,.int .i64 0,.int .i64 0,.int .i64 0,.int .i64 0] 31)) = W1 := ⟨_,rfl⟩
 have hb : Below w.heap.size w W1 := by rw [← hW1]; exact ((Below.refl _ _).alloc (Nat.le_refl _) _).alloc (by simp) _
 have h1 : Bk W1 w.heap.size 31 #[.slice b1 Y.ready.length d1,.slice b2 Y.outs.length d2,.slice b3 Y.takers.length d3,.int .i64 Y.nextSeq,.int .i64 Y.nextTag,.int .i64 Y.came,.int .i64 Y.acked,.int .i64 Y.dropped] := by rw [← hW1]; exact (Bk.new _ _ _).alloc _
 have h2 : Bk W1 (w.heap.size + 1) 31 zeroCells := by rw [← hW1]; exact Bk.new_at _ _ _ (by simp)
 rw [hW1]
 clear hW1
 unfold zeroCells at h2
 obtain ⟨n0,n1,n2,n3,n4,n5,n6,n7,_,_,_,_,_,_,_,_,hlt1⟩ := zero_cells h1
 obtain ⟨k0,k1,k2,k3,k4,k5,k6,k7,f0,f1,f2,f3,f4,f5,f6,f7,hlt⟩ := zero_cells h2
 clear h1 h2
 go_wp2_with fail
 refine bodyPost_ret (v := .tuple #[.agg #[.slice b1 Y.ready.length d1,.slice b2 Y.outs.length d2,.slice b3 Y.takers.length d3,.int .i64 Y.nextSeq,.int .i64 Y.nextTag,.int .i64 Y.came,.int .i64 Y.acked,.int .i64 Y.dropped],.int .i64 e]) (by simp [results,Tryz.results80,go_sem,k0,k1,k2,k3,k4,k5,k6,k7,hlt]) rfl ?_
 exact ⟨rfl,below_set8 hb (by omega) _ _ _ _ _ _ _ _⟩
set_option maxHeartbeats 8000000 in
theorem Do_any (p : PlanD) (s : StateD) (x : ActD) (p1 p2 p3 a1 a2 a3 : Option Addr) (q1 q2 q3 c1 c2 c3 : Nat) (rows : List RowD) (w : World) (hE : Env w) (hp : PlanAt w 0 w.heap.size p1 p2 p3 p) (hps : PlanSmall p) (hs : StateAt w 0 w.heap.size a1 a2 a3 rows s) (hss : StateSmall s) (hsi : StateInts s) (hx : ActSmall x) :
  Calls Tryz.prog 34 #[planV p p1 p2 p3 q1 q2 q3,stateV s a1 a2 a3 c1 c2 c3,.agg (vAct x).toArray] w (StPost (doS p s x) (doErr p s x) w) := by
 have hbx := two_boxes q1 q2 q3 c1 c2 c3 hE hp hs 26 31
 unfold vState at hbx
 unfold stateV planV vState vAct
 have HPS := Lib.hid hps
 have HSS := Lib.hid hss
 have HSI := Lib.hid hsi
 have HAS := Lib.hid hx
 clear hE hp hs hps hss hsi hx
 obtain ⟨⟨m0,m1,m2⟩,⟨n0,n1,n2,n3,n4,n5,n6,n7⟩,_,_,_,_⟩ := hbx ((((w.alloc (.cells #[.slice p1 p.posts.length q1,.slice p2 p.queues.length q2,.slice p3 p.binds.length q3] 26)).alloc (.cells #[Value.slice a1 s.ready.length c1,Value.slice a2 s.outs.length c2,Value.slice a3 s.takers.length c3,Value.int IntKind.i64 s.nextSeq,Value.int IntKind.i64 s.nextTag,Value.int IntKind.i64 s.came,Value.int IntKind.i64 s.acked,Value.int IntKind.i64 s.dropped] 31)).alloc (.cells #[.int .i64 x.kind,.int .i64 x.a,.int .i64 x.b,.string x.key,.string x.body] 57)).alloc (.cells #[.slice none 0 0,.slice none 0 0,.slice none 0 0,.int .i64 0,.int .i64 0,.int .i64 0,.int .i64 0,.int .i64 0] 31)) (((Below.refl _ _).alloc (Nat.le_refl _) _).alloc (by simp) _)
 go_enter Tryz.func34,Tryz.ntmps34
 go_upto_region 1 with fail
 clear m0 m1 m2 n0 n1 n2 n3 n4 n5 n6 n7
 obtain ⟨V2,hV2⟩ : ∃ V2,((w.alloc (.cells #[.slice p1 p.posts.length q1,.slice p2 p.queues.length q2,.slice p3 p.binds.length q3] 26)).alloc (.cells #[Value.slice a1 s.ready.length c1,Value.slice a2 s.outs.length c2,Value.slice a3 s.takers.length c3,Value.int IntKind.i64 s.nextSeq,Value.int IntKind.i64 s.nextTag,Value.int IntKind.i64 s.came,Value.int IntKind.i64 s.acked,Value.int IntKind.i64 s.dropped] 31)) = V2 := ⟨_,rfl⟩
 have hz2 : V2.heap.size = w.heap.size + 1 + 1 := by rw [← hV2]; simp
 rw [hV2] at hbx
 rw [hV2]
 clear hV2
 obtain ⟨U0,hU0⟩ : ∃ U,V2.alloc (.cells #[.int .i64 x.kind,.int .i64 x.a,.int .i64 x.b,.string x.key,.string x.body] 57) = U := ⟨_,rfl⟩
 have kb0 : Bk U0 (w.heap.size + 1 + 1) 57 #[.int .i64 x.kind,.int .i64 x.a,.int .i64 x.b,.string x.key,.string x.body] := by rw [← hU0]; exact Bk.new_at _ _ _ (by rw [hz2])
 have zu0 : U0.heap.size = w.heap.size + 1 + 1 + 1 := by rw [← hU0]; simp [hz2]
 have bu0 : Below V2.heap.size V2 U0 := by rw [← hU0]; exact (Below.refl _ _).alloc (Nat.le_refl _) _
 rw [hU0]
 obtain ⟨W0,hW0⟩ : ∃ W0,U0.alloc (.cells #[.slice none 0 0,.slice none 0 0,.slice none 0 0,.int .i64 0,.int .i64 0,.int .i64 0,.int .i64 0,.int .i64 0] 31) = W0 := ⟨_,rfl⟩
 have kbz : Bk W0 (w.heap.size + 1 + 1 + 1) 31 zeroCells := by rw [← hW0]; exact Bk.new_at _ _ _ zu0.symm
 have bW : Below U0.heap.size U0 W0 := by rw [← hW0]; exact (Below.refl _ _).alloc (Nat.le_refl _) _
 have HZ0 : Hid (W0.heap.size = w.heap.size + 1 + 1 + 1 + 1) := by refine (?_ : W0.heap.size = _); rw [← hW0,← zu0]; simp
 rw [hW0]
 have HBX : Hid (∀ W,Below W0.heap.size W0 W → CkIn w p s p1 p2 p3 a1 a2 a3 q1 q2 q3 c1 c2 c3 rows W ∧ Bk W (w.heap.size + 1 + 1 + 1) 31 zeroCells ∧ Bk W (w.heap.size + 1 + 1) 57 #[.int .i64 x.kind,.int .i64 x.a,.int .i64 x.b,.string x.key,.string x.body]) := Lib.hid fun W hW =>
  ⟨hbx W ((bu0.trans (bW.mono bu0.size)).trans (hW.mono (bu0.trans (bW.mono bu0.size)).size)),kbz.below hW kbz.lt,((kb0.below bW (by rw [zu0]; omega)).below hW (by have := bW.size; rw [zu0] at this; omega))⟩
 clear hbx hz2 hW0 kbz bW kb0 zu0 bu0 hU0
 have HLO : Hid (w.heap.size ≤ W0.heap.size) := Lib.hid (by have := HZ0.out; omega)
 have HIN := Lib.hid (HBX.out _ (Below.refl _ _)).1
 obtain ⟨⟨m0,m1,m2⟩,⟨n0,n1,n2,n3,n4,n5,n6,n7⟩,_,_,_,_⟩ := HIN.out
 have hact := (HBX.out _ (Below.refl _ _)).2.2
 have x0 := hact.cell 0; have x1 := hact.cell 1; have x2 := hact.cell 2; have x3 := hact.cell 3; have x4 := hact.cell 4
 simp only [List.getElem?_toArray,List.getElem?_cons_zero,List.getElem?_cons_succ] at x0 x1 x2 x3 x4
 clear hact
 by_cases h1 : x.kind = 1
 ·obtain ⟨hS,hEr⟩ := do_kind1 (p := p) (s := s) h1
  have HSE := Lib.hid (And.intro hS hEr)
  rw [h1] at x0
  clear hS hEr h1
  go_wp2_with fail
  refine (Publish_any p s x.a x.key x.body p1 p2 p3 a1 a2 a3 q1 q2 q3 c1 c2 c3 rows W0 HIN.out.env HIN.out.planAt HPS.out HIN.out.stateAt HSS.out HSI.out HAS.out.key HAS.out.body HAS.out.a).mono ?_
  intro e W1 hpost
  obtain ⟨b1,b2,b3,d1,d2,d3,rows1,rfl,hs1,hb1⟩ := hpost
  have HB1 := Lib.hid hb1
  have HS1 := Lib.hid hs1
  clear hb1 hs1 m0 m1 m2 n0 n1 n2 n3 n4 n5 n6 n7 x0 x1 x2 x3 x4
  generalize publishS p s x.a x.key x.body = Y at *
  generalize publishErr p s x.a x.key x.body = er at *
  unfold stateV vState
  go_wp2_with fail
  refine (one_any Y b1 b2 b3 d1 d2 d3 _ er W1).mono ?_
  rintro e W2 ⟨rfl,hb2⟩
  unfold stateV vState
  have HB2 := Lib.hid (HB1.out.trans (hb2.mono HB1.out.size))
  have HS2 := Lib.hid ((HS1.out.below hb2 (Nat.le_refl _)).wider (Nat.le_refl _) hb2.size)
  clear hb2
  have hzk := (HBX.out _ HB2.out).2.1
  unfold zeroCells at hzk
  obtain ⟨k0,k1,k2,k3,k4,k5,k6,k7,f0,f1,f2,f3,f4,f5,f6,f7,hlt⟩ := zero_cells hzk
  clear hzk
  go_wp2_with fail
  refine bodyPost_ret (v := (.tuple #[.agg #[.slice b1 Y.ready.length d1,.slice b2 Y.outs.length d2,.slice b3 Y.takers.length d3,.int .i64 Y.nextSeq,.int .i64 Y.nextTag,.int .i64 Y.came,.int .i64 Y.acked,.int .i64 Y.dropped],.int .i64 er])) (by simp [results,Tryz.results34,go_sem,k0,k1,k2,k3,k4,k5,k6,k7,hlt]) rfl ?_
  rw [HSE.out.1,HSE.out.2]
  exact ⟨b1,b2,b3,d1,d2,d3,rows1,rfl,(st8 HS2.out (show w.heap.size + 1 + 1 + 1 < W0.heap.size by rw [HZ0.out]; omega) _ _ _ _ _ _ _ _).wider HLO.out (by simp),below_set8 (HBX.out _ HB2.out).1.below (by omega) _ _ _ _ _ _ _ _⟩
 by_cases h2 : x.kind = 2
 ·obtain ⟨hS,hEr⟩ := do_kind2 (p := p) (s := s) h2
  have HSE := Lib.hid (And.intro hS hEr)
  rw [h2] at x0
  clear hS hEr h2
  go_wp2_with fail
  refine (Join_any p s x.a x.b p1 p2 p3 a1 a2 a3 q1 q2 q3 c1 c2 c3 rows W0 HIN.out.env HIN.out.planAt HPS.out HIN.out.stateAt HSS.out HSI.out).mono ?_
  intro e W1 hpost
  obtain ⟨b1,b2,b3,d1,d2,d3,rows1,rfl,hs1,hb1⟩ := hpost
  have HB1 := Lib.hid hb1
  have HS1 := Lib.hid hs1
  clear hb1 hs1 m0 m1 m2 n0 n1 n2 n3 n4 n5 n6 n7 x0 x1 x2 x3 x4
  generalize joinS p s x.a x.b = Y at *
  generalize joinErr p s x.a x.b = er at *
  unfold stateV vState
  go_wp2_with fail
  refine (one_any Y b1 b2 b3 d1 d2 d3 _ er W1).mono ?_
  rintro e W2 ⟨rfl,hb2⟩
  unfold stateV vState
  have HB2 := Lib.hid (HB1.out.trans (hb2.mono HB1.out.size))
  have HS2 := Lib.hid ((HS1.out.below hb2 (Nat.le_refl _)).wider (Nat.le_refl _) hb2.size)
  clear hb2
  have hzk := (HBX.out _ HB2.out).2.1
  unfold zeroCells at hzk
  obtain ⟨k0,k1,k2,k3,k4,k5,k6,k7,f0,f1,f2,f3,f4,f5,f6,f7,hlt⟩ := zero_cells hzk
  clear hzk
  go_wp2_with fail
  refine bodyPost_ret (v := (.tuple #[.agg #[.slice b1 Y.ready.length d1,.slice b2 Y.outs.length d2,.slice b3 Y.takers.length d3,.int .i64 Y.nextSeq,.int .i64 Y.nextTag,.int .i64 Y.came,.int .i64 Y.acked,.int .i64 Y.dropped],.int .i64 er])) (by simp [results,Tryz.results34,go_sem,k0,k1,k2,k3,k4,k5,k6,k7,hlt]) rfl ?_
  rw [HSE.out.1,HSE.out.2]
  exact ⟨b1,b2,b3,d1,d2,d3,rows1,rfl,(st8 HS2.out (show w.heap.size + 1 + 1 + 1 < W0.heap.size by rw [HZ0.out]; omega) _ _ _ _ _ _ _ _).wider HLO.out (by simp),below_set8 (HBX.out _ HB2.out).1.below (by omega) _ _ _ _ _ _ _ _⟩
 by_cases h3 : x.kind = 3
 ·obtain ⟨hS,hEr⟩ := do_kind3 (p := p) (s := s) h3
  have HSE := Lib.hid (And.intro hS hEr)
  rw [h3] at x0
  clear hS hEr h3
  go_wp2_with fail
  refine (Leave_any p s x.a p1 p2 p3 a1 a2 a3 q1 q2 q3 c1 c2 c3 rows W0 HIN.out.env HIN.out.planAt HPS.out HIN.out.stateAt HSS.out HSI.out).mono ?_
  intro e W1 hpost
  obtain ⟨b1,b2,b3,d1,d2,d3,rows1,rfl,hs1,hb1⟩ := hpost
  have HB1 := Lib.hid hb1
  have HS1 := Lib.hid hs1
  clear hb1 hs1 m0 m1 m2 n0 n1 n2 n3 n4 n5 n6 n7 x0 x1 x2 x3 x4
  generalize leaveS p s x.a = Y at *
  generalize leaveErr p s x.a = er at *
  unfold stateV vState
  have hzk := (HBX.out _ HB1.out).2.1
  unfold zeroCells at hzk
  obtain ⟨k0,k1,k2,k3,k4,k5,k6,k7,f0,f1,f2,f3,f4,f5,f6,f7,hlt⟩ := zero_cells hzk
  clear hzk
  go_wp2_with fail
  refine bodyPost_ret (v := (.tuple #[.agg #[.slice b1 Y.ready.length d1,.slice b2 Y.outs.length d2,.slice b3 Y.takers.length d3,.int .i64 Y.nextSeq,.int .i64 Y.nextTag,.int .i64 Y.came,.int .i64 Y.acked,.int .i64 Y.dropped],.int .i64 er])) (by simp [results,Tryz.results34,go_sem,k0,k1,k2,k3,k4,k5,k6,k7,hlt]) rfl ?_
  rw [HSE.out.1,HSE.out.2]
  exact ⟨b1,b2,b3,d1,d2,d3,rows1,rfl,(st8 HS1.out (show w.heap.size + 1 + 1 + 1 < W0.heap.size by rw [HZ0.out]; omega) _ _ _ _ _ _ _ _).wider HLO.out (by simp),below_set8 (HBX.out _ HB1.out).1.below (by omega) _ _ _ _ _ _ _ _⟩
 by_cases h4 : x.kind = 4
 ·obtain ⟨hS,hEr⟩ := do_kind4 (p := p) (s := s) h4
  have HSE := Lib.hid (And.intro hS hEr)
  rw [h4] at x0
  clear hS hEr h4
  go_wp2_with fail
  refine (Deliver_any p s x.a p1 p2 p3 a1 a2 a3 q1 q2 q3 c1 c2 c3 rows W0 HIN.out.env HIN.out.planAt HPS.out HIN.out.stateAt HSS.out HSI.out).mono ?_
  intro e W1 hpost
  obtain ⟨b1,b2,b3,d1,d2,d3,rows1,rfl,hs1,hb1⟩ := hpost
  have HB1 := Lib.hid hb1
  have HS1 := Lib.hid hs1
  clear hb1 hs1 m0 m1 m2 n0 n1 n2 n3 n4 n5 n6 n7 x0 x1 x2 x3 x4
  generalize deliverS p s x.a = Y at *
  generalize deliverErr p s x.a = er at *
  unfold stateV vState
  go_wp2_with fail
  refine (one_any Y b1 b2 b3 d1 d2 d3 _ er W1).mono ?_
  rintro e W2 ⟨rfl,hb2⟩
  unfold stateV vState
  have HB2 := Lib.hid (HB1.out.trans (hb2.mono HB1.out.size))
  have HS2 := Lib.hid ((HS1.out.below hb2 (Nat.le_refl _)).wider (Nat.le_refl _) hb2.size)
  clear hb2
  have hzk := (HBX.out _ HB2.out).2.1
  unfold zeroCells at hzk
  obtain ⟨k0,k1,k2,k3,k4,k5,k6,k7,f0,f1,f2,f3,f4,f5,f6,f7,hlt⟩ := zero_cells hzk
  clear hzk
  go_wp2_with fail
  refine bodyPost_ret (v := (.tuple #[.agg #[.slice b1 Y.ready.length d1,.slice b2 Y.outs.length d2,.slice b3 Y.takers.length d3,.int .i64 Y.nextSeq,.int .i64 Y.nextTag,.int .i64 Y.came,.int .i64 Y.acked,.int .i64 Y.dropped],.int .i64 er])) (by simp [results,Tryz.results34,go_sem,k0,k1,k2,k3,k4,k5,k6,k7,hlt]) rfl ?_
  rw [HSE.out.1,HSE.out.2]
  exact ⟨b1,b2,b3,d1,d2,d3,rows1,rfl,(st8 HS2.out (show w.heap.size + 1 + 1 + 1 < W0.heap.size by rw [HZ0.out]; omega) _ _ _ _ _ _ _ _).wider HLO.out (by simp),below_set8 (HBX.out _ HB2.out).1.below (by omega) _ _ _ _ _ _ _ _⟩
 by_cases h5 : x.kind = 5
 ·obtain ⟨hS,hEr⟩ := do_kind5 (p := p) (s := s) h5
  have HSE := Lib.hid (And.intro hS hEr)
  rw [h5] at x0
  clear hS hEr h5
  go_wp2_with fail
  refine (Ack_any p s x.a p1 p2 p3 a1 a2 a3 q1 q2 q3 c1 c2 c3 rows W0 HIN.out.env HIN.out.planAt HPS.out HIN.out.stateAt HSS.out HSI.out).mono ?_
  intro e W1 hpost
  obtain ⟨b1,b2,b3,d1,d2,d3,rows1,rfl,hs1,hb1⟩ := hpost
  have HB1 := Lib.hid hb1
  have HS1 := Lib.hid hs1
  clear hb1 hs1 m0 m1 m2 n0 n1 n2 n3 n4 n5 n6 n7 x0 x1 x2 x3 x4
  generalize ackS p s x.a = Y at *
  generalize ackErr p s x.a = er at *
  unfold stateV vState
  have hzk := (HBX.out _ HB1.out).2.1
  unfold zeroCells at hzk
  obtain ⟨k0,k1,k2,k3,k4,k5,k6,k7,f0,f1,f2,f3,f4,f5,f6,f7,hlt⟩ := zero_cells hzk
  clear hzk
  go_wp2_with fail
  refine bodyPost_ret (v := (.tuple #[.agg #[.slice b1 Y.ready.length d1,.slice b2 Y.outs.length d2,.slice b3 Y.takers.length d3,.int .i64 Y.nextSeq,.int .i64 Y.nextTag,.int .i64 Y.came,.int .i64 Y.acked,.int .i64 Y.dropped],.int .i64 er])) (by simp [results,Tryz.results34,go_sem,k0,k1,k2,k3,k4,k5,k6,k7,hlt]) rfl ?_
  rw [HSE.out.1,HSE.out.2]
  exact ⟨b1,b2,b3,d1,d2,d3,rows1,rfl,(st8 HS1.out (show w.heap.size + 1 + 1 + 1 < W0.heap.size by rw [HZ0.out]; omega) _ _ _ _ _ _ _ _).wider HLO.out (by simp),below_set8 (HBX.out _ HB1.out).1.below (by omega) _ _ _ _ _ _ _ _⟩
 by_cases h6 : x.kind = 6
 ·obtain ⟨hS,hEr⟩ := do_kind6 (p := p) (s := s) h6
  have HSE := Lib.hid (And.intro hS hEr)
  rw [h6] at x0
  clear hS hEr h6
  go_wp2_with fail
  refine (Reject_any p s x.a (x.b != 0) p1 p2 p3 a1 a2 a3 q1 q2 q3 c1 c2 c3 rows W0 HIN.out.env HIN.out.planAt HPS.out HIN.out.stateAt HSS.out HSI.out).mono ?_
  intro e W1 hpost
  obtain ⟨b1,b2,b3,d1,d2,d3,rows1,rfl,hs1,hb1⟩ := hpost
  have HB1 := Lib.hid hb1
  have HS1 := Lib.hid hs1
  clear hb1 hs1 m0 m1 m2 n0 n1 n2 n3 n4 n5 n6 n7 x0 x1 x2 x3 x4
  generalize rejectS p s x.a (x.b != 0) = Y at *
  generalize rejectErr p s x.a = er at *
  unfold stateV vState
  have hzk := (HBX.out _ HB1.out).2.1
  unfold zeroCells at hzk
  obtain ⟨k0,k1,k2,k3,k4,k5,k6,k7,f0,f1,f2,f3,f4,f5,f6,f7,hlt⟩ := zero_cells hzk
  clear hzk
  go_wp2_with fail
  refine bodyPost_ret (v := (.tuple #[.agg #[.slice b1 Y.ready.length d1,.slice b2 Y.outs.length d2,.slice b3 Y.takers.length d3,.int .i64 Y.nextSeq,.int .i64 Y.nextTag,.int .i64 Y.came,.int .i64 Y.acked,.int .i64 Y.dropped],.int .i64 er])) (by simp [results,Tryz.results34,go_sem,k0,k1,k2,k3,k4,k5,k6,k7,hlt]) rfl ?_
  rw [HSE.out.1,HSE.out.2]
  exact ⟨b1,b2,b3,d1,d2,d3,rows1,rfl,(st8 HS1.out (show w.heap.size + 1 + 1 + 1 < W0.heap.size by rw [HZ0.out]; omega) _ _ _ _ _ _ _ _).wider HLO.out (by simp),below_set8 (HBX.out _ HB1.out).1.below (by omega) _ _ _ _ _ _ _ _⟩
 obtain ⟨hS,hEr⟩ := do_kind0 (p := p) (s := s) h1 h2 h3 h4 h5 h6
 have HSE := Lib.hid (And.intro hS hEr)
 have hzk := (HBX.out _ (Below.refl _ _)).2.1
 unfold zeroCells at hzk
 obtain ⟨k0,k1,k2,k3,k4,k5,k6,k7,f0,f1,f2,f3,f4,f5,f6,f7,hlt⟩ := zero_cells hzk
 clear hzk hS hEr
 have e1 : (x.kind == 1) = false := by simp [h1]
 have e2 : (x.kind == 2) = false := by simp [h2]
 have e3 : (x.kind == 3) = false := by simp [h3]
 have e4 : (x.kind == 4) = false := by simp [h4]
 have e5 : (x.kind == 5) = false := by simp [h5]
 have e6 : (x.kind == 6) = false := by simp [h6]
 clear h1 h2 h3 h4 h5 h6
 go_wp2_with fail
 refine bodyPost_ret (v := .tuple #[stateV zeroS none none none 0 0 0,.int .i64 7]) (by simp [results,Tryz.results34,go_sem,stateV,vState,zeroS,k0,k1,k2,k3,k4,k5,k6,k7,hlt]) rfl ?_
 rw [HSE.out.1,HSE.out.2]
 exact ⟨none,none,none,0,0,0,[],rfl,by exact zero_at _ _ _,below_set8 (HBX.out _ (Below.refl _ _)).1.below (by omega) _ _ _ _ _ _ _ _⟩
end Go.Proofs.YtaanpcjkflhomaaGreatDoor
