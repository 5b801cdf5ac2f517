/-
  Walk of the reference's LyingOf: how many letters lie in each queue.
  Walk of book.Lying.
-/
import Derived.Test.YtaanpcjkflhomaaGreatDoorStateE
import Derived.Test.YtaanpcjkflhomaaGreatDoorBunJ
import Derived.Test.YtaanpcjkflhomaaGreatDoorBunDA
set_option linter.unusedSimpArgs false
set_option linter.unusedVariables false
namespace Go.Proofs.YtaanpcjkflhomaaGreatDoor
open Go Go.RowKit
set_option maxRecDepth 100000
def lensS (s : StateD) : List Int := s.ready.map fun l => (l.length : Int)
theorem lens_len (s : StateD) : (lensS s).length = s.ready.length := List.length_map _
theorem lens_step {s : StateD} {k : Nat} (h : k < s.ready.length) : (lensS s).take (k + 1) = (lensS s).take k ++ [(s.ready[k].length : Int)] := by
 rw [List.take_succ_eq_append_getElem (by rw [lens_len]; exact h)]
 simp [lensS]
open Go Go.RowKit
set_option maxRecDepth 100000
def mixL (s : StateD) (k : Nat) : List Int := (lensS s).take k ++ List.replicate (s.ready.length - k) 0
theorem mix_zero (s : StateD) : mixL s 0 = List.replicate s.ready.length 0 := by simp [mixL]
theorem mix_all (s : StateD) : mixL s s.ready.length = lensS s := by simp [mixL,List.take_of_length_le,lens_len]
theorem mix_len {s : StateD} {k : Nat} (h : k ≤ s.ready.length) : (mixL s k).length = s.ready.length := by
 unfold mixL
 rw [List.length_append,List.length_take,lens_len,List.length_replicate]
 omega
theorem mix_step {s : StateD} {k : Nat} (h : k < s.ready.length) : (mixL s k).set k (s.ready[k].length : Int) = mixL s (k + 1) := by
 have hl : ((lensS s).take k).length = k := by rw [List.length_take,lens_len]; omega
 unfold mixL
 rw [List.set_append_right _ _ (by omega),hl,Nat.sub_self,lens_step h,show s.ready.length - k = (s.ready.length - (k + 1)) + 1 by omega,List.replicate_succ,zB,List.append_assoc]
 rfl
def LnRel (s : StateD) (W0 : World) (g : Nat) (i : Value) (wr : World) : Prop := ∃ k : Nat,k ≤ s.ready.length ∧ i = .int .i64 k ∧ Bk wr g 3 (intsV (mixL s k)).toArray ∧ Below W0.heap.size W0 wr
set_option maxHeartbeats 4000000 in
theorem Lying_any (p : PlanD) (s : StateD) (p1 p2 p3 a1 a2 a3 : Option Addr) (q1 q2 q3 c1 c2 c3 : Nat) (rows : List RowD) (w : World) (hE : Env w) (hp : PlanAt w 0 w.heap.size p1 p2 p3 p) (hps : PlanSmall p) (hs : StateAt w 0 w.heap.size a1 a2 a3 rows s) (hss : StateSmall s) (hsi : StateInts s) :
  Calls Tryz.prog 23 #[planV p p1 p2 p3 q1 q2 q3,stateV s a1 a2 a3 c1 c2 c3] w fun e w' => ∃ a n c,e = .returned (.tuple #[.slice a n c,.int .i64 (stateErr p s)]) ∧ n = (if stateErr p s = 0 then lensS s else []).length ∧ Sl w' w.heap.size w'.heap.size a (intsV (if stateErr p s = 0 then lensS s else [])) ∧ Below w.heap.size w w' := by
 have hbx := two_boxes q1 q2 q3 c1 c2 c3 hE hp hs 26 31
 unfold vState at hbx
 unfold stateV planV vState
 have HBX := Lib.hid hbx
 have HPS := Lib.hid hps
 have HSS := Lib.hid hss
 have HSI := Lib.hid hsi
 clear hbx hE hp hs hps hss hsi
 go_enter Tryz.func23,Tryz.ntmps23
 obtain ⟨⟨m0,m1,m2⟩,⟨n0,n1,n2,n3,n4,n5,n6,n7⟩,_,_,_,_⟩ := HBX.out _ (Below.refl _ _)
 go_wp2_with fail
 clear m0 m1 m2 n0 n1 n2 n3 n4 n5 n6 n7
 generalize ((w.alloc (.cells #[.slice p1 p.posts.length q1,.slice p2 p.queues.length q2,.slice p3 p.binds.length q3] 26)).alloc (.cells #[Value.slice a1 s.ready.length c1,Value.slice a2 s.outs.length c2,Value.slice a3 s.takers.length c3,Value.int IntKind.i64 s.nextSeq,Value.int IntKind.i64 s.nextTag,Value.int IntKind.i64 s.came,Value.int IntKind.i64 s.acked,Value.int IntKind.i64 s.dropped] 31)) = W0 at *
 refine (SCheck_any p s p1 p2 p3 a1 a2 a3 q1 q2 q3 c1 c2 c3 rows W0 (HBX.out _ (Below.refl _ _)).env (HBX.out _ (Below.refl _ _)).planAt HPS.out (HBX.out _ (Below.refl _ _)).stateAt HSS.out HSI.out).mono ?_
 rintro e w1 ⟨rfl,hb1⟩
 obtain ⟨_,⟨n0,n1,n2,n3,n4,n5,n6,n7⟩,_,_,_,hsat⟩ := HBX.out _ hb1
 have HB1 := Lib.hid hb1
 have hbw := (HBX.out _ hb1).below
 have HBW := Lib.hid hbw
 clear hbw
 by_cases he : stateErr p s = 0
 ·rw [he]
  have HE0 := Lib.hid he
  clear he hb1
  have hrd := HSS.out.ready
  obtain ⟨W2,hmk,hbk,hB2⟩ : ∃ W2,(Instr.makeSlice 40 (.int .i64 (s.ready.length : Int)) (.int .i64 (s.ready.length : Int))).run Tryz.prog w1 = .ok (.slice (some ⟨w1.heap.size,0,none⟩) s.ready.length s.ready.length) W2 ∧ Bk W2 w1.heap.size 3 (intsV (mixL s 0)).toArray ∧ Below W0.heap.size W0 W2 :=
   ⟨_,run_make1 (P := Tryz.prog) Tryz.underlying40 infoInt rfl s.ready.length _ rfl (by decide) (by omega) w1,by rw [mix_zero]; unfold intsV; rw [List.map_replicate]; exact Bk.new _ _ _,HB1.out.alloc HB1.out.size _⟩
  have HB2 := Lib.hid hB2
  have HK := Lib.hid hbk
  have HG := Lib.hid HB1.out.size
  clear hbk
  go_upto_region 5 with fail
  clear hmk n0 n1 n2 n3 n4 n5 n6 n7 hsat
  obtain ⟨_,⟨n0,n1,n2,n3,n4,n5,n6,n7⟩,_,_,_,hsat⟩ := HBX.out _ hB2
  clear hB2
  go_wp2_with fail
  clear n0 n1 n2 n3 n4 n5 n6 n7 hsat
  go_loopw [8,9,23] (fun x y i wr => LnRel s W0 w1.heap.size i wr) (fun _ _ i _ => s.ready.length - (intOf i).toNat)
  case atStart => exact ⟨0,by omega,rfl,HK.out,HB2.out⟩
  case round =>
   obtain ⟨k,hk,rfl,hbk,hB⟩ := hrel
   have HB := Lib.hid hB
   have HBK := Lib.hid hbk
   have hrd := HSS.out.ready
   have hsat := (HBX.out _ hB).stateAt
   have hrl : rows.length = s.ready.length := by rw [← hsat.same,List.length_map]
   by_cases hlt : k < s.ready.length
   ·obtain ⟨b,o,ha,_,hb,hc⟩ := sl_elem vRow_len (by decide) hsat.ready (show k < rows.length by omega)
    have e0 : wr.cell? ⟨b,o + k,none⟩ = some (.slice (rows[k]'(by omega)).at_ (rows[k]'(by omega)).items.length (rows[k]'(by omega)).cap) := by have := hc 0 _ rfl; simpa using this
    have hit : s.ready[k] = (rows[k]'(by omega)).items := by simp [← hsat.same]
    have hst := mix_step hlt
    rw [hit] at hst
    have HSTEP := Lib.hid hst
    have d0 := hbk.cell k
    have d1 := hbk.frozen k
    have d2 := hbk.lt
    have hkl : k < (intsV (mixL s k)).length := by rw [intsV_len,mix_len hk]; exact hlt
    rw [List.getElem?_toArray,List.getElem?_eq_getElem hkl] at d0
    clear hc hsat hit hst hB hbk
    generalize rows[k]'(by omega) = r at *
    subst ha
    go_wp2_with fail
    refine ⟨⟨k + 1,by omega,rfl,?_,HB.out.setCell HG.out _⟩,by simp [intOf]; omega⟩
    have h := HBK.out.set_ k (.int .i64 r.items.length)
    rw [zA] at h
    rw [← HSTEP.out]
    unfold intsV at h ⊢
    rw [List.map_set]
    exact h
   ·obtain rfl : k = s.ready.length := by omega
    clear hsat
    go_wp2_with fail
    refine bodyPost_ret (v := .tuple #[.slice (some ⟨w1.heap.size,0,none⟩) s.ready.length s.ready.length,.int .i64 0]) (by simp [results,Tryz.results23,go_sem]) rfl ?_
    have hl : w.heap.size ≤ w1.heap.size := HBW.out.size
    rw [mix_all] at HBK
    refine ⟨_,_,⟨_,by first | rfl | rw [HE0.out]⟩,(lens_len s).symm,?_,(HBX.out _ HB.out).below⟩
    exact .inr ⟨_,_,rfl,hl,HBK.out.lt,fun j u hu => by
     have h := HBK.out.cell (0 + j)
     rw [List.getElem?_toArray,Nat.zero_add,hu] at h
     rw [Nat.zero_add]
     exact h⟩
 ·have hb : (stateErr p s != 0) = true := by simp [he]
  go_wp2_with fail
  refine bodyPost_ret (v := .tuple #[.slice none 0 0,.int .i64 (stateErr p s)]) (by simp [results,Tryz.results23,go_sem]) rfl ?_
  exact ⟨_,_,⟨_,rfl⟩,rfl,Sl.nil _ _ _ _,HBW.out⟩
end Go.Proofs.YtaanpcjkflhomaaGreatDoor
