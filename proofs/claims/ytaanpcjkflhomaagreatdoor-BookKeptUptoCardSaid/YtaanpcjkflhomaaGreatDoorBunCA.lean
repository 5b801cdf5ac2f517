/-
  The library's IndexFunc at a slice of Outs: where the first stands of which the function says yes.
  The plain law of replies: an Out is taken away, what it held is acked, goes back, or is dropped; who leaves. No program in sight.
  (*Hall).Settle where all that is to settle waits already.
  The library's Delete of one Out in a row of the call's own.
  reply.take: an Out is taken away.
  reply.turned, Ack.
  reply.reject.
  Ack, Reject.
-/
import Derived.Test.YtaanpcjkflhomaaGreatDoorBunC
import Derived.Test.YtaanpcjkflhomaaGreatDoorBunB
import Derived.Test.YtaanpcjkflhomaaGreatDoorBunF
import Derived.Test.YtaanpcjkflhomaaGreatDoorBunT
import Derived.Test.YtaanpcjkflhomaaGreatDoorBunR
import Derived.Test.YtaanpcjkflhomaaGreatDoorBunH
import Derived.Test.YtaanpcjkflhomaaGreatDoorLinesGA
import Derived.Test.YtaanpcjkflhomaaGreatDoorCuts
import Derived.Lib.SliceRun
import Derived.Deep.RegionLaw
import Derived.ArgAppend
import Derived.Test.YtaanpcjkflhomaaGreatDoorBunS
import Derived.Test.YtaanpcjkflhomaaGreatDoorBunJ
set_option linter.unusedSimpArgs false
set_option linter.unusedVariables false
namespace Go.Proofs.YtaanpcjkflhomaaGreatDoor
open Go.RowKit
set_option maxRecDepth 100000
set_option maxHeartbeats 1000000 in
theorem indexFunc_Out (g : Nat) (lb : Array Value) (eg : ∀ args w,(callFunc g args).run Tryz.prog w = .ok (.enter g args) w) (p : OutD → Bool) (xs : List OutD) (a : Option Addr) (c lo : Nat) (w : World)
  (hp : ∀ x ∈ xs,∀ W,Below w.heap.size w W → Calls Tryz.prog g (#[.agg (vOut x).toArray] ++ lb) W fun e W' => e = .returned (.bool (p x)) ∧ Below W.heap.size W W')
  (hx : Sl w lo w.heap.size a (xs.flatMap (vOut))) (hl : xs.length ≤ 4294967296) :
  Calls Tryz.prog 91 #[.slice a xs.length c,.func (.func g) #[] lb] w fun e w' => e = .returned (.int .i64 (idxOf p xs)) ∧ Below w.heap.size w w' := by
 have HX := Lib.hid hx; clear hx
 have HP := Lib.hid hp; clear hp
 go_enter Tryz.func91,Tryz.ntmps91
 go_wp2_with fail
 go_loopw [8] (fun i wr => IdxRel p xs w.heap.size w i wr) (fun i _ => xs.length - (intOf i).toNat)
 case atStart => exact ⟨0,by omega,rfl,Below.refl _ _,fun j x hj => absurd hj (by omega)⟩
 case round =>
  obtain ⟨k,hk,rfl,hB,hall⟩ := hrel
  have HA := Lib.hid hall; clear hall
  by_cases hlt : k < xs.length
  ·obtain ⟨b,o,rfl,_,hb,hc⟩ := sl_elem (enc := vOut) (size := 8) (fun _ => rfl) (by decide) HX.out hlt
   obtain ⟨e0,e1,e2,e3,e4,e5,e6,e7⟩ := out_cells (wr := wr) (b := b) (o := o) (k := k) (x := xs[k]) fun j u hu => (hB.cell (p := ⟨b,_,none⟩) hb).trans (hc j u hu)
   have HPk := Lib.hid (HP.out xs[k] (List.getElem_mem hlt) wr hB)
   have HB := Lib.hid hB
   clear hc hB
   cases hq : p xs[k]
   ·have HQ := Lib.hid hq; clear hq
    go_wp2_with fail
    refine HPk.out.mono ?_
    rw [HQ.out]
    rintro e w1 ⟨rfl,hb1⟩
    have H1 := Lib.hid (HB.out.trans (hb1.mono HB.out.size)); clear hb1
    go_wp2_with fail
    exact ⟨idxRel_step HA.out hlt HQ.out H1.out,by simp [intOf]; omega⟩
   ·have HQ := Lib.hid (idxOf_hit HA.out hlt hq)
    have HQ2 := Lib.hid hq; clear hq
    go_wp2_with fail
    refine HPk.out.mono ?_
    rw [HQ2.out]
    rintro e w1 ⟨rfl,hb1⟩
    have H1 := Lib.hid (HB.out.trans (hb1.mono HB.out.size)); clear hb1
    go_wp2_with fail
    go_ret
    exact ⟨by rw [HQ.out]; rfl,H1.out⟩
  ·have HQ := Lib.hid (idxOf_miss HA.out (by omega))
   go_wp2_with fail
   go_ret
   exact ⟨by rw [HQ.out]; rfl,hB⟩
def outK (s : StateD) (tag : Int) : Option Nat := s.outs.findIdx? fun x => decide (x.tag = tag)
def outD0 : OutD := ⟨0,0,0,⟨0,⟨#[]⟩,⟨#[]⟩,false,0⟩⟩
def outAtK (s : StateD) (k : Nat) : OutD := (s.outs[k]?).getD outD0
def withoutS (s : StateD) (k : Nat) : StateD := { s with outs := s.outs.eraseIdx k }
def ackErr (p : PlanD) (s : StateD) (tag : Int) : Int := if stateErr p s ≠ 0 then stateErr p s else if outK s tag = none then 5 else 0
def ackS (p : PlanD) (s : StateD) (tag : Int) : StateD := if ackErr p s tag = 0 then { withoutS s ((outK s tag).getD 0) with acked := s.acked + 1 } else zeroS
def againI (x : ItemD) : ItemD := { x with again := true }
def rejectC (p : PlanD) (s : StateD) (k : Nat) (x : OutD) (back : Bool) : StateD × List ArrivalD :=
 if back = true then layP p (withoutS s k) x.queue (againI x.item) else ({ withoutS s k with dropped := s.dropped + 1 },dyingP p x.queue x.item)
def rejectD (p : PlanD) (s : StateD) (k : Nat) (x : OutD) (back : Bool) : StateD := settleP p (rejectC p s k x back).1 (rejectC p s k x back).2
def rejectErr (p : PlanD) (s : StateD) (tag : Int) : Int := if stateErr p s ≠ 0 then stateErr p s else if outK s tag = none then 5 else if 524288 < s.nextSeq then 2 else 0
def rejectS (p : PlanD) (s : StateD) (tag : Int) (back : Bool) : StateD := if rejectErr p s tag = 0 then rejectD p s ((outK s tag).getD 0) (outAtK s ((outK s tag).getD 0)) back else zeroS
def leaveL (p : PlanD) (t : Int) : List OutD → StateD → StateD × Int
 | [],c => (c,0)
 | x :: l,c => if x.taker = t then (if rejectErr p c x.tag = 0 then leaveL p t l (rejectS p c x.tag true) else (zeroS,rejectErr p c x.tag)) else leaveL p t l c
def takerAt (s : StateD) (t : Int) : TakerD := (s.takers[t.toNat]?).getD ⟨-1,1⟩
def noTaker (s : StateD) (t : Int) : Prop := t < 0 ∨ (s.takers.length : Int) ≤ t ∨ (takerAt s t).queue < 0
instance (s : StateD) (t : Int) : Decidable (noTaker s t) := by unfold noTaker; infer_instance
def leaveErr (p : PlanD) (s : StateD) (t : Int) : Int := if stateErr p s ≠ 0 then stateErr p s else if noTaker s t then 5 else (leaveL p t s.outs s).2
def leaveF (s : StateD) (t : Int) (c : StateD) : StateD := { c with takers := s.takers.set t.toNat ⟨-1,(takerAt s t).atOnce⟩ }
def leaveS (p : PlanD) (s : StateD) (t : Int) : StateD := if leaveErr p s t = 0 then leaveF s t (leaveL p t s.outs s).1 else zeroS
theorem outK_some {s : StateD} {tag : Int} {k : Nat} (h : outK s tag = some k) : ∃ hk : k < s.outs.length,s.outs[k].tag = tag ∧ ∀ j (hj : j < k),s.outs[j].tag ≠ tag := by
 unfold outK at h
 rw [List.findIdx?_eq_some_iff_getElem] at h
 obtain ⟨h1,h2,h3⟩ := h
 exact ⟨h1,by simpa using h2,fun j hj => by simpa using h3 j hj⟩
theorem outK_none {s : StateD} {tag : Int} (h : outK s tag = none) : ∀ x ∈ s.outs,x.tag ≠ tag := by
 unfold outK at h
 rw [List.findIdx?_eq_none_iff] at h
 intro x hx
 simpa using h x hx
theorem outK_at {s : StateD} {tag : Int} {k : Nat} (hk : k < s.outs.length) (h1 : s.outs[k].tag = tag) (h2 : ∀ j (hj : j < k),s.outs[j].tag ≠ tag) : outK s tag = some k := by
 unfold outK
 rw [List.findIdx?_eq_some_iff_getElem]
 exact ⟨hk,by simpa using h1,fun j hj => by simpa using h2 j hj⟩
theorem outAtK_get {s : StateD} {k : Nat} (hk : k < s.outs.length) : outAtK s k = s.outs[k] := by
 unfold outAtK
 rw [List.getElem?_eq_getElem hk]
 rfl
theorem erase_perm : ∀ (l : List OutD) (k : Nat) (hk : k < l.length),(l[k] :: l.eraseIdx k).Perm l
 | x :: l,0,_ => .refl _
 | x :: l,k + 1,h => (List.Perm.swap x _ _).trans ((erase_perm l k (by simpa using h)).cons x)
theorem without_near {p : PlanD} {s : StateD} (h : Right p s) {k : Nat} (hk : k < s.outs.length) : Near p (withoutS s k) ∧ s.outs[k].item.seq ∉ seqsS (withoutS s k) ∧ s.outs[k].item.seq < s.nextSeq := by
 have hsub : (s.outs.eraseIdx k).Sublist s.outs := List.eraseIdx_sublist _ _
 have hss : (seqsS (withoutS s k)).Sublist (seqsS s) := (hsub.map _).append_left _
 have hperm : (seqsS s).Perm (s.outs[k].item.seq :: seqsS (withoutS s k)) := by
  have h1 := ((erase_perm s.outs k hk).map fun x : OutD => x.item.seq).symm
  rw [List.map_cons] at h1
  exact (h1.append_left (seqsR s.ready)).trans List.perm_middle
 have hnd := hperm.nodup_iff.1 h.nodup
 refine ⟨?_,(List.nodup_cons.1 hnd).1,h.below _ (hperm.mem_iff.2 List.mem_cons_self)⟩
 refine { len := h.len,nextSeq := h.nextSeq,nextTag := h.nextTag,came := h.came,acked := h.acked,dropped := h.dropped,line := h.line,taker := h.taker,out := fun y hy => h.out y (hsub.subset hy),order := h.order.sublist hsub,nodup := h.nodup.sublist hss,below := fun n hn => h.below n (hss.subset hn),limit := h.limit,held := fun i t ht => ?_,plan := h.plan,many := h.many,sum := ?_,same := h.same }
 ·have h1 := h.held i t ht
  have h2 : heldS (withoutS s k) i ≤ heldS s i := hsub.countP_le
  omega
 ·have h1 := h.sum
  have h2 : (withoutS s k).outs.length = s.outs.length - 1 := List.length_eraseIdx_of_lt hk
  show s.came = ((lyingS s : Nat) : Int) + 1 + (((withoutS s k).outs.length : Nat) : Int) + s.acked + s.dropped
  omega
theorem right_outs {p : PlanD} {s : StateD} (h : Right p s) : s.outs.length ≤ 1048576 := by
 have h1 := count_in' h.came
 have h2 := count_in' h.acked
 have h3 := count_in' h.dropped
 have h4 := h.sum
 omega
theorem near_acked {p : PlanD} {s : StateD} (h : Near p s) : Right p { s with acked := s.acked + 1 } := by
 have h1 := count_in' h.came
 have h2 := count_in' h.acked
 have h3 := count_in' h.dropped
 have h4 := h.sum
 refine { len := h.len,nextSeq := h.nextSeq,nextTag := h.nextTag,came := h.came,acked := ?_,dropped := h.dropped,line := h.line,taker := h.taker,out := h.out,order := h.order,nodup := h.nodup,below := h.below,limit := h.limit,held := h.held,plan := h.plan,many := h.many,sum := ?_,same := h.same }
 ·unfold countB
  simp only [Bool.and_eq_true,decide_eq_true_eq]
  omega
 ·show s.came = ((lyingS s : Nat) : Int) + ((s.outs.length : Nat) : Int) + (s.acked + 1) + s.dropped
  omega
theorem near_dropped {p : PlanD} {s : StateD} (h : Near p s) : Right p { s with dropped := s.dropped + 1 } := by
 have h1 := count_in' h.came
 have h2 := count_in' h.acked
 have h3 := count_in' h.dropped
 have h4 := h.sum
 refine { len := h.len,nextSeq := h.nextSeq,nextTag := h.nextTag,came := h.came,acked := h.acked,dropped := ?_,line := h.line,taker := h.taker,out := h.out,order := h.order,nodup := h.nodup,below := h.below,limit := h.limit,held := h.held,plan := h.plan,many := h.many,sum := ?_,same := h.same }
 ·unfold countB
  simp only [Bool.and_eq_true,decide_eq_true_eq]
  omega
 ·show s.came = ((lyingS s : Nat) : Int) + ((s.outs.length : Nat) : Int) + s.acked + (s.dropped + 1)
  omega
theorem outK_facts {p : PlanD} {s : StateD} (h : Right p s) {k : Nat} (hk : k < s.outs.length) : itemFine s.outs[k].item = true ∧ 0 ≤ s.outs[k].queue ∧ s.outs[k].queue < (p.queues.length : Int) ∧ s.outs[k].tag < s.nextTag := by
 obtain ⟨t,ht,h0,h1,h2,h3,h4,h5,h6⟩ := tk_out h.toFormed (List.getElem_mem hk)
 have := taker_four h ht
 exact ⟨h6,by omega,by omega,h3⟩
theorem again_fine {x : ItemD} (h : itemFine x = true) : itemFine (againI x) = true := h
theorem again_wI (x : ItemD) : wI (againI x) = wI x := rfl
theorem wI_le (x : ItemD) : wI x ≤ 20 := by unfold wI; split <;> (try split) <;> omega
theorem layP_keeps (p : PlanD) (s : StateD) (q : Int) (x : ItemD) : (layP p s q x).1.outs = s.outs ∧ (layP p s q x).1.takers = s.takers ∧ (layP p s q x).1.acked = s.acked ∧ (layP p s q x).1.nextTag = s.nextTag ∧ (layP p s q x).1.nextSeq = s.nextSeq ∧ (layP p s q x).1.came = s.came ∧ s.dropped ≤ (layP p s q x).1.dropped ∧ (layP p s q x).1.ready.length = s.ready.length := by
 unfold layP
 split
 ·exact ⟨rfl,rfl,rfl,rfl,rfl,rfl,Int.le_refl _,by simp⟩
 ·exact ⟨rfl,rfl,rfl,rfl,rfl,rfl,by show s.dropped ≤ s.dropped + 1; omega,by simp⟩
structure RejC (p : PlanD) (s : StateD) (k : Nat) (c : StateD × List ArrivalD) : Prop where
 hall : HallOk p c
 less : wC c ≤ 500
 outs : c.1.outs = s.outs.eraseIdx k
 takers : c.1.takers = s.takers
 acked : c.1.acked = s.acked
 tag : c.1.nextTag = s.nextTag
 seq : c.1.nextSeq = s.nextSeq
 came : c.1.came = s.came
 dropped : s.dropped ≤ c.1.dropped
 len : c.1.ready.length = s.ready.length
theorem reject_c {p : PlanD} {s : StateD} (h : Right p s) {k : Nat} (hk : k < s.outs.length) (back : Bool) : RejC p s k (rejectC p s k s.outs[k] back) := by
 obtain ⟨h1,h2,h3⟩ := without_near h hk
 obtain ⟨f1,f2,f3,f4⟩ := outK_facts h hk
 have hw := wS_le h
 have hwi := wI_le s.outs[k].item
 unfold rejectC
 cases back with
 | true =>
  rw [if_pos rfl]
  obtain ⟨l1,l2,l3⟩ := lay_right h1 ⟨f2,f3⟩ (again_fine f1) (show (againI s.outs[k].item).seq < (withoutS s k).nextSeq from h3) h2
  rw [again_wI] at l3
  have e : wS (withoutS s k) = wS s := rfl
  obtain ⟨k1,k2,k3,k4,k5,k6,k7,k8⟩ := layP_keeps p (withoutS s k) s.outs[k].queue (againI s.outs[k].item)
  exact ⟨⟨l1,l2⟩,by omega,k1,k2,k3,k4,k5,k6,k7,k8⟩
 | false =>
  rw [if_neg (by decide)]
  obtain ⟨d1,d2⟩ := dying_ok (checkP_right h.plan) ⟨f2,f3⟩ f1
  refine ⟨⟨near_dropped h1,d1⟩,?_,rfl,rfl,rfl,rfl,rfl,rfl,by show s.dropped ≤ s.dropped + 1; omega,rfl⟩
  have e : wS (withoutS s k) = wS s := rfl
  unfold wC
  show wS (withoutS s k) + ((dyingP p s.outs[k].queue s.outs[k].item).map wA).sum ≤ 500
  omega
structure RejOk (p : PlanD) (s : StateD) (k : Nat) (x : StateD) : Prop where
 right : Right p x
 outs : x.outs = s.outs.eraseIdx k
 takers : x.takers = s.takers
 acked : x.acked = s.acked
 tag : x.nextTag = s.nextTag
 seq : s.nextSeq ≤ x.nextSeq
 came : s.came ≤ x.came
 dropped : s.dropped ≤ x.dropped
 len : x.ready.length = s.ready.length
theorem reject_d {p : PlanD} {s : StateD} (h : Right p s) {k : Nat} (hk : k < s.outs.length) (hs : s.nextSeq ≤ 524288) (back : Bool) : RejOk p s k (rejectD p s k s.outs[k] back) := by
 have hc := reject_c h hk back
 unfold rejectD
 generalize rejectC p s k s.outs[k] back = c at *
 obtain ⟨c1,c2⟩ := c
 have hs1 : c1.nextSeq ≤ 524288 := by have := hc.seq; simp only at this; omega
 have hw1 : wC (c1,c2) ≤ 700 := by have := hc.less; omega
 obtain ⟨n,s1,h4,h5⟩ := kept_exists hs1 hw1 _ 0 _ (Nat.le_refl _) (.start hc.hall) (.start c1 c2)
 obtain ⟨h6,h7⟩ := h4.end_ hw1
 show RejOk p s k (settleP p c1 c2)
 rw [h6]
 have hr : Right p s1 := h4.ok.right
 have hq := h4.seq
 have e1 := hc.seq
 have e2 := h5.dropped
 have e3 := hc.dropped
 have e4 := hr.same
 have e5 := h.same
 simp only at hq e1 e2 e3
 refine ⟨hr,h5.outs.trans hc.outs,h5.takers.trans hc.takers,h5.acked.trans hc.acked,h5.tag.trans hc.tag,by omega,by omega,by omega,h5.len.trans hc.len⟩
theorem ack_ok {p : PlanD} {s : StateD} {tag : Int} : ackErr p s tag = 0 ↔ Right p s ∧ ∃ k,outK s tag = some k := by
 unfold ackErr
 rw [← right_iff]
 split
 ·rename_i h; exact ⟨fun e => absurd e h,fun e => absurd e.1 h⟩
 ·rename_i h
  split
  ·rename_i h1
   exact ⟨fun e => (by cases e),fun e => (by obtain ⟨_,k,hk⟩ := e; rw [hk] at h1; cases h1)⟩
  ·rename_i h1
   exact ⟨fun _ => ⟨Decidable.not_not.1 h,Option.ne_none_iff_exists'.1 h1⟩,fun _ => rfl⟩
theorem reject_ok {p : PlanD} {s : StateD} {tag : Int} : rejectErr p s tag = 0 ↔ Right p s ∧ (∃ k,outK s tag = some k) ∧ s.nextSeq ≤ 524288 := by
 unfold rejectErr
 rw [← right_iff]
 split
 ·rename_i h; exact ⟨fun e => absurd e h,fun e => absurd e.1 h⟩
 ·rename_i h
  split
  ·rename_i h1
   exact ⟨fun e => (by cases e),fun e => (by obtain ⟨_,⟨k,hk⟩,_⟩ := e; rw [hk] at h1; cases h1)⟩
  ·rename_i h1
   split
   ·rename_i h2
    exact ⟨fun e => (by cases e),fun e => (by have := e.2.2; omega)⟩
   ·rename_i h2
    exact ⟨fun _ => ⟨Decidable.not_not.1 h,Option.ne_none_iff_exists'.1 h1,by omega⟩,fun _ => rfl⟩
theorem ack_done {p : PlanD} {s : StateD} {tag : Int} {k : Nat} (h : Right p s) (hk : outK s tag = some k) : ackErr p s tag = 0 ∧ ackS p s tag = { withoutS s k with acked := s.acked + 1 } ∧ Right p (ackS p s tag) := by
 have e := ack_ok.2 ⟨h,k,hk⟩
 have e2 : ackS p s tag = { withoutS s k with acked := s.acked + 1 } := by unfold ackS; rw [if_pos e,hk]; rfl
 obtain ⟨hl,_⟩ := outK_some hk
 refine ⟨e,e2,?_⟩
 rw [e2]
 exact near_acked (without_near h hl).1
theorem reject_done {p : PlanD} {s : StateD} {tag : Int} {k : Nat} (h : Right p s) (hk : outK s tag = some k) (hs : s.nextSeq ≤ 524288) (back : Bool) : rejectErr p s tag = 0 ∧ rejectS p s tag back = rejectD p s k (outAtK s k) back ∧ RejOk p s k (rejectS p s tag back) := by
 have e := reject_ok.2 ⟨h,⟨k,hk⟩,hs⟩
 have e2 : rejectS p s tag back = rejectD p s k (outAtK s k) back := by unfold rejectS; rw [if_pos e,hk]; rfl
 obtain ⟨hl,_⟩ := outK_some hk
 refine ⟨e,e2,?_⟩
 rw [e2,outAtK_get hl]
 exact reject_d h hl hs back
structure LeaveAt (p : PlanD) (s : StateD) (t : Int) (i : Nat) (c : StateD) : Prop where
 right : Right p c
 go : leaveL p t s.outs s = leaveL p t (s.outs.drop i) c
 takers : c.takers = s.takers
 acked : c.acked = s.acked
 tag : c.nextTag = s.nextTag
 len : c.ready.length = s.ready.length
 came : s.came ≤ c.came
 dropped : s.dropped ≤ c.dropped
 outs : c.outs = ((s.outs.take i).filter fun x => decide (x.taker ≠ t)) ++ s.outs.drop i
theorem LeaveAt.start {p : PlanD} {s : StateD} (h : Right p s) (t : Int) : LeaveAt p s t 0 s := ⟨h,rfl,rfl,rfl,rfl,rfl,Int.le_refl _,Int.le_refl _,by simp⟩
theorem LeaveAt.skip {p : PlanD} {s c : StateD} {t : Int} {i : Nat} (h : LeaveAt p s t i c) (hi : i < s.outs.length) (hx : s.outs[i].taker ≠ t) : LeaveAt p s t (i + 1) c := by
 have hd : s.outs.drop i = s.outs[i] :: s.outs.drop (i + 1) := List.drop_eq_getElem_cons hi
 refine ⟨h.right,?_,h.takers,h.acked,h.tag,h.len,h.came,h.dropped,?_⟩
 ·rw [h.go,hd]
  show (if _ then _ else _) = _
  rw [if_neg hx]
 ·rw [h.outs,hd,List.take_succ_eq_append_getElem hi,List.filter_append,List.append_assoc]
  congr 1
  simp [hx]
theorem LeaveAt.tagK {p : PlanD} {s c : StateD} {t : Int} {i : Nat} (h : LeaveAt p s t i c) (hi : i < s.outs.length) : outK c s.outs[i].tag = some (((s.outs.take i).filter fun x => decide (x.taker ≠ t)).length) ∧ c.outs.eraseIdx (((s.outs.take i).filter fun x => decide (x.taker ≠ t)).length) = ((s.outs.take i).filter fun x => decide (x.taker ≠ t)) ++ s.outs.drop (i + 1) := by
 have hd : s.outs.drop i = s.outs[i] :: s.outs.drop (i + 1) := List.drop_eq_getElem_cons hi
 have ho := h.outs
 rw [hd] at ho
 have hord := h.right.order
 generalize ((s.outs.take i).filter fun x => decide (x.taker ≠ t)) = A at *
 have hlen : A.length < c.outs.length := by rw [ho,List.length_append,List.length_cons]; omega
 have hat : c.outs[A.length] = s.outs[i] := by
  have : c.outs[A.length]? = some s.outs[i] := by rw [ho,List.getElem?_append_right (Nat.le_refl _),Nat.sub_self]; rfl
  rw [List.getElem?_eq_getElem hlen] at this
  simpa using this
 refine ⟨outK_at hlen (by rw [hat]) (fun j hj => ?_),?_⟩
 ·have := List.pairwise_iff_getElem.1 hord j A.length (by omega) hlen hj
  rw [hat] at this
  omega
 ·rw [ho,List.eraseIdx_append_of_length_le (Nat.le_refl _),Nat.sub_self]
  rfl
theorem LeaveAt.back {p : PlanD} {s c : StateD} {t : Int} {i : Nat} (h : LeaveAt p s t i c) (hi : i < s.outs.length) (hx : s.outs[i].taker = t) (he : rejectErr p c s.outs[i].tag = 0) : LeaveAt p s t (i + 1) (rejectS p c s.outs[i].tag true) := by
 have hd : s.outs.drop i = s.outs[i] :: s.outs.drop (i + 1) := List.drop_eq_getElem_cons hi
 obtain ⟨h1,h2⟩ := h.tagK hi
 obtain ⟨_,_,hs⟩ := reject_ok.1 he
 obtain ⟨_,_,r⟩ := reject_done h.right h1 hs true
 refine ⟨r.right,?_,r.takers.trans h.takers,r.acked.trans h.acked,r.tag.trans h.tag,r.len.trans h.len,Int.le_trans h.came r.came,Int.le_trans h.dropped r.dropped,?_⟩
 ·rw [h.go,hd]
  show (if _ then (if _ then _ else _) else _) = _
  rw [if_pos hx,if_pos he]
 ·rw [r.outs,h2,List.take_succ_eq_append_getElem hi,List.filter_append,List.append_assoc]
  congr 1
  simp [hx]
theorem LeaveAt.stop {p : PlanD} {s c : StateD} {t : Int} {i : Nat} (h : LeaveAt p s t i c) (hi : i < s.outs.length) (hx : s.outs[i].taker = t) (he : rejectErr p c s.outs[i].tag ≠ 0) : leaveL p t s.outs s = (zeroS,rejectErr p c s.outs[i].tag) ∧ rejectErr p c s.outs[i].tag = 2 := by
 have hd : s.outs.drop i = s.outs[i] :: s.outs.drop (i + 1) := List.drop_eq_getElem_cons hi
 refine ⟨?_,?_⟩
 ·rw [h.go,hd]
  show (if _ then (if _ then _ else _) else _) = _
  rw [if_pos hx,if_neg he]
 ·obtain ⟨h1,_⟩ := h.tagK hi
  unfold rejectErr at he ⊢
  rw [if_neg (by rw [right_iff.2 h.right]; decide),h1] at he ⊢
  simp only [reduceCtorEq,if_false] at he ⊢
  split
  ·rfl
  ·rename_i h2; rw [if_neg h2] at he; exact absurd rfl he
theorem LeaveAt.end_ {p : PlanD} {s c : StateD} {t : Int} (h : LeaveAt p s t s.outs.length c) : leaveL p t s.outs s = (c,0) ∧ c.outs = s.outs.filter fun x => decide (x.taker ≠ t) := by
 refine ⟨?_,?_⟩
 ·rw [h.go,List.drop_length]
  rfl
 ·rw [h.outs,List.drop_length,List.take_length,List.append_nil]
theorem leave_exists {p : PlanD} {s : StateD} {t : Int} : ∀ (m i : Nat) (c : StateD),i + m = s.outs.length → LeaveAt p s t i c → (∃ c',LeaveAt p s t s.outs.length c') ∨ leaveL p t s.outs s = (zeroS,2)
 | 0,i,c,hm,h => .inl ⟨c,by rwa [show s.outs.length = i by omega]⟩
 | m + 1,i,c,hm,h => by
  have hi : i < s.outs.length := by omega
  by_cases hx : s.outs[i].taker = t
  ·by_cases he : rejectErr p c s.outs[i].tag = 0
   ·exact leave_exists m (i + 1) _ (by omega) (h.back hi hx he)
   ·obtain ⟨h1,h2⟩ := h.stop hi hx he
    rw [h2] at h1
    exact .inr h1
  ·exact leave_exists m (i + 1) _ (by omega) (h.skip hi hx)
theorem noTaker_right {p : PlanD} {s : StateD} (h : Right p s) {t : Int} (hn : ¬ noTaker s t) : ∃ k : Nat,t = (k : Int) ∧ ∃ hk : k < s.takers.length,takerAt s t = s.takers[k] ∧ 0 ≤ s.takers[k].queue ∧ s.takers[k].queue < (p.queues.length : Int) ∧ 1 ≤ s.takers[k].atOnce ∧ s.takers[k].atOnce ≤ 4 := by
 unfold noTaker at hn
 obtain ⟨k,hk⟩ := Int.eq_ofNat_of_zero_le (show 0 ≤ t by omega)
 subst hk
 have hkl : k < s.takers.length := by omega
 have e : takerAt s (k : Int) = s.takers[k] := by unfold takerAt; rw [Int.toNat_natCast,List.getElem?_eq_getElem hkl]; rfl
 have := taker_four h (List.getElem?_eq_getElem hkl)
 rw [e] at hn
 exact ⟨k,rfl,hkl,e,by omega,by omega,by omega,by omega⟩
structure LeftOk (p : PlanD) (s : StateD) (t : Int) (x : StateD) : Prop where
 right : Right p x
 outs : x.outs = s.outs.filter fun y => decide (y.taker ≠ t)
 held : heldS x t = 0
 takers : x.takers.length = s.takers.length
 acked : x.acked = s.acked
 tag : x.nextTag = s.nextTag
 len : x.ready.length = s.ready.length
 came : s.came ≤ x.came
 dropped : s.dropped ≤ x.dropped
theorem leave_ok {p : PlanD} {s : StateD} {t : Int} (h : leaveErr p s t = 0) : Right p s ∧ ¬ noTaker s t ∧ ∃ c,LeaveAt p s t s.outs.length c ∧ leaveS p s t = leaveF s t c := by
 have h0 := h
 unfold leaveErr at h
 split at h
 ·rename_i h1; exact absurd h h1
 ·rename_i h1
  split at h
  ·cases h
  ·rename_i h2
   have hR := right_iff.1 (Decidable.not_not.1 h1)
   rcases leave_exists _ 0 s (Nat.zero_add _) (.start hR t) with ⟨c,hc⟩ | hc
   ·exact ⟨hR,h2,c,hc,by unfold leaveS; rw [if_pos h0,hc.end_.1]⟩
   ·rw [hc] at h; cases h
theorem leave_left {p : PlanD} {s : StateD} {t : Int} (h : leaveErr p s t = 0) : LeftOk p s t (leaveS p s t) := by
 obtain ⟨hR,hn,c,hc,e⟩ := leave_ok h
 obtain ⟨k,rfl,hk,hta,hq0,hq1,ha1,ha4⟩ := noTaker_right hR hn
 obtain ⟨_,ho⟩ := hc.end_
 have hr := hc.right
 rw [e]
 have hset : (leaveF s k c).takers = s.takers.set k ⟨-1,s.takers[k].atOnce⟩ := by unfold leaveF; rw [Int.toNat_natCast,hta]
 have houts : (leaveF s k c).outs = c.outs := rfl
 have hmem : ∀ x ∈ c.outs,x.taker ≠ (k : Int) := fun x hx => by
  rw [ho,List.mem_filter] at hx
  simpa using hx.2
 have hheld : heldS (leaveF s k c) (k : Int) = 0 := by
  unfold heldS
  rw [List.countP_eq_zero]
  intro x hx
  simpa using hmem x hx
 have hlen : (leaveF s k c).takers.length = s.takers.length := by rw [hset,List.length_set]
 refine ⟨?_,ho,hheld,hlen,hc.acked,hc.tag,hc.len,hc.came,hc.dropped⟩
 refine { len := hr.len,nextSeq := hr.nextSeq,nextTag := hr.nextTag,came := hr.came,acked := hr.acked,dropped := hr.dropped,line := hr.line,taker := fun x hx => ?_,out := fun x hx => ?_,order := hr.order,nodup := hr.nodup,below := hr.below,limit := hr.limit,held := fun i x hx => ?_,plan := hr.plan,many := by rw [hlen]; exact hR.many,sum := hr.sum,same := hr.same }
 ·rw [hset] at hx
  rcases List.mem_or_eq_of_mem_set hx with h1 | rfl
  ·exact hR.taker x h1
  ·unfold takerB
   simp only [Bool.and_eq_true,decide_eq_true_eq]
   exact ⟨⟨⟨by omega,by omega⟩,ha1⟩,ha4⟩
 ·obtain ⟨y,h1,h2,h3,h4,h5,h6,h7,h8⟩ := tk_out hr.toFormed (show x ∈ c.outs from hx)
  refine tk_mk (t := y) ?_ h2 h3 h4 h5 h6 h8
  rw [hset,List.getElem?_set,if_neg (fun e1 => hmem x hx (by omega)),← hc.takers]
  exact h1
 ·rw [hset,List.getElem?_set] at hx
  split at hx
  ·rename_i h1
   subst h1
   have hx : (⟨-1,s.takers[k].atOnce⟩ : TakerD) = x := by simpa [hk] using hx
   rw [hheld,← hx]
   show ((0 : Nat) : Int) ≤ s.takers[k].atOnce
   omega
  ·rw [← hc.takers] at hx
   exact hr.held i x hx
open Go Go.RowKit
set_option maxRecDepth 100000
set_option maxHeartbeats 4000000 in
theorem Settle_nil (lo g Hb : Nat) (p : PlanD) (p1 p2 p3 : Option Addr) (q1 q2 q3 : Nat) (hr : PlanRight p) (hs : PlanSmall p) (v1 v2 v3 wv : Value) (rows : List RowD) (s : StateD) (l : List ArrivalD) (w : World) (H : HallAt w lo g Hb p p1 p2 p3 q1 q2 q3 v1 v2 v3 wv rows s l) (hok : HallOk p (s,l)) (hsq : s.nextSeq ≤ 524288) (hw : wC (s,l) ≤ 700) :
  Calls Tryz.prog 98 #[.pointer (some ⟨Hb,0,none⟩),.slice none 0 0] w (SettlePost lo g Hb p p1 p2 p3 q1 q2 q3 v1 v2 v3 s l w) := by
 have hll := wC_ge s l
 obtain ⟨A0,C0,rfl,_⟩ := own_slice H.wait
 obtain ⟨v6,W6,hr6,ho6,hg6⟩ := run_appArr w lo _ l [] none 0 0 w.heap.size H.wait (Sl.nil _ _ _ _) (by simp; omega) H.size 88
 rw [List.append_nil] at ho6
 have a4 := H.hall.cell 4
 simp only [hallV,List.getElem?_toArray,List.getElem?_cons_zero,List.getElem?_cons_succ] at a4
 have k6 : KeepsT [140] w W6 := KeepsT.grown H.wait hg6 (by simp)
 have hh6 := k6 _ _ _ (by decide) H.hall
 have y4 := hh6.cell 4
 have f4 := hh6.frozen 4
 have l4 := hh6.lt
 simp only [hallV,List.getElem?_toArray,List.getElem?_cons_zero,List.getElem?_cons_succ] at y4
 obtain ⟨A6,C6,rfl,_⟩ := own_slice ho6
 obtain ⟨W7,hW7⟩ : ∃ W7,W6.setCell ⟨Hb,4,none⟩ (.slice A6 l.length C6) = W7 := ⟨_,rfl⟩
 obtain ⟨h7,k7,b7⟩ := H.waits (l' := l) (wv' := .slice A6 l.length C6) (ts := []) k6 (below_own H.wait hg6 (Below.refl _ _) (Nat.le_refl _) H.size) ho6
 rw [hW7] at h7 k7 b7
 have HR6 := Lib.hid hr6
 have H7 := Lib.hid (And.intro h7 (BK.of b7 k7))
 have HOK := Lib.hid hok
 clear hr6 ho6 hg6 k6 hh6 h7 k7 b7 H hok
 go_enter Tryz.func98,Tryz.ntmps98
 go_wp2_with (at_builtin; refine Lib.wpList_append_run _ rfl _ _ _ _ rfl _ _ rfl rfl _ _ HR6.out ?_)
 refine st_loop lo g Hb p p1 p2 p3 q1 q2 q3 hr hs v1 v2 v3 s l w hsq hw _ ?_ _ 0 W7 rfl ⟨_,rows,s,l,H7.out.1,RunOk.start HOK.out,Nat.zero_le _,H7.out.2⟩
 rintro t n W ht ⟨wv',rows',s1,L,hH,hR,hB⟩
 obtain ⟨u,rfl⟩ := st1_open ht
 obtain ⟨e1,e2⟩ := hR.end_ hw
 have hhall := hH.hall
 have c4 := hhall.cell 4
 have g4 := hhall.frozen 4
 have m4 := hhall.lt
 obtain ⟨A8,C8,rfl,_⟩ := own_slice hH.wait
 simp only [hallV,List.getElem?_toArray,List.getElem?_cons_zero,List.getElem?_cons_succ] at c4
 obtain ⟨h9,k9,b9⟩ := hH.waits (l' := []) (wv' := .slice none 0 0) (ts := []) (KeepsT.refl _ _) (Below.refl _ _) (World.ownsRow_nil _ _ _ _)
 have HF : Hid (s1 = settleP p s l ∧ (n : Int) = (settleP p s l).nextSeq - s.nextSeq ∧ HallAt (W.setCell ⟨Hb,4,none⟩ (.slice none 0 0)) lo g Hb p p1 p2 p3 q1 q2 q3 v1 v2 v3 (.slice none 0 0) rows' s1 [] ∧ BK lo w (W.setCell ⟨Hb,4,none⟩ (.slice none 0 0))) := Lib.hid ⟨e1.symm,by rw [e1]; exact e2,h9,hB.trans (BK.of b9 k9)⟩
 clear ht hH hR hB hhall h9 k9 b9 e1 e2
 go_wp2
 go_ret
 refine ⟨by rw [HF.out.2.1]; rfl,.slice none 0 0,rows',?_,HF.out.2.2.2⟩
 rw [← HF.out.1]
 exact HF.out.2.2.1
open Go.RowKit
set_option maxRecDepth 100000
def layL (us : List Value) : Nat → List Value → List Value
 | _,[] => us
 | o,v :: r => layL (us.set o v) (o + 1) r
theorem layL_eq : ∀ (vs : List Value) (us : List Value) (o : Nat),o + vs.length ≤ us.length → layL us o vs = us.take o ++ vs ++ us.drop (o + vs.length)
 | [],us,o,_ => by simp [layL]
 | v :: r,us,o,h => by
  have hl : o < us.length := by simp at h; omega
  rw [layL,layL_eq r (us.set o v) (o + 1) (by simp at h ⊢; omega)]
  rw [List.drop_set_of_lt (by omega),List.take_succ_eq_append_getElem (by simpa using hl),List.getElem_set_self]
  rw [List.take_set_of_le (Nat.le_refl _)]
  simp only [List.append_assoc,List.singleton_append,List.length_cons,List.cons_append]
  rw [show o + 1 + r.length = o + (r.length + 1) by omega]
  rfl
theorem own_setCells {B g n cap size : Nat} {e : TypeId} : ∀ (vs : List Value) (o : Nat) (w : World) (us : List Value),w.ownsRow B e size (.slice (some ⟨g,0,none⟩) n cap) n us →
  (w.setCells g o vs).ownsRow B e size (.slice (some ⟨g,0,none⟩) n cap) n (layL us o vs) ∧ w.grownBy (w.setCells g o vs) (some g)
 | [],o,w,us,h => ⟨h,⟨rfl,rfl,rfl,Nat.le_refl _,fun _ _ _ => rfl⟩⟩
 | v :: r,o,w,us,h => by
  have h1 := h.stored o v
  have h2 := own_setCells r (o + 1) _ _ h1.1
  exact ⟨h2.1,grown_trans h1.2 h2.2⟩
theorem own_short {w : World} {B g n m cap size : Nat} {e : TypeId} {us : List Value} (h : w.ownsRow B e size (.slice (some ⟨g,0,none⟩) n cap) n us) (hm : m ≤ n) : w.ownsRow B e size (.slice (some ⟨g,0,none⟩) m cap) m (us.take (m * size)) := by
 obtain ⟨hl,h⟩ := h
 refine ⟨by rw [List.length_take,hl]; exact Nat.min_eq_left (Nat.mul_le_mul_right _ hm),?_⟩
 rcases h with ⟨h1,_⟩ | ⟨g',cap',cur,hv,hg,hh,hnc,hcm,hcs,ht⟩
 ·cases h1
 ·right
  simp only [Value.slice.injEq,Option.some.injEq,Addr.mk.injEq,and_true,true_and] at hv
  obtain ⟨rfl,rfl⟩ := hv
  refine ⟨g,cap,cur,rfl,hg,hh,by omega,hcm,hcs,?_⟩
  rw [← ht,List.take_take,Nat.min_eq_left (Nat.mul_le_mul_right _ hm)]
theorem grown_of_drew {w w' : World} {g : Option Nat} (h : w.drew.grownBy w' g) : w.grownBy w' g := grown_trans (grown_drew _ _) h
theorem run_clearN {P : Program} (w : World) (t e ty : TypeId) (z : Value) (zs : List Value) (ht : P.underlying t = some (.slice e)) (hv : ∀ w,(zeroValue e).run P w = .ok z w) (hz : z.cells.toList = zs) (b o c : Nat)
  (h1 : ∀ u ∈ zs,u.oneCell' = true) (hc : ∀ j,j < zs.length → (w.cell? ⟨b,o + j,none⟩).isSome = true) (hf : ∀ j,j < zs.length → w.frozen? ⟨b,o + j,none⟩ = false) :
  (Builtin.clear_ #[t] ty #[.slice (some ⟨b,o,none⟩) 1 c]).run P w = .ok (.tuple #[]) (w.setCells b o zs) := by
 have hzc : (Builtin.zeroCells z.cells 1).toList = zs := by
  rw [← hz]
  unfold Builtin.zeroCells
  apply List.ext_getElem
  ·simp
  ·intro i h1 h2
   have hi : i < z.cells.size := by simpa using h2
   simp [Nat.mod_eq_of_lt hi,hi]
 have hst := run_storeCells_cells (P := P) b o zs 0 w (by simpa using hc) (by simpa using hf) h1
 simp only [Nat.add_zero] at hst
 simp [Builtin.clear_,run_underlying ht,hv,hzc,hst]
def outZ : List Value := [.int .i64 0,.int .i64 0,.int .i64 0,.int .i64 0,.string ⟨#[]⟩,.string ⟨#[]⟩,.bool false,.int .i64 0]
theorem zero_out : ∀ w,(zeroValue 77).run Tryz.prog w = .ok (.agg #[.int .i64 0,.int .i64 0,.int .i64 0,.int .i64 0,.string ⟨#[]⟩,.string ⟨#[]⟩,.bool false,.int .i64 0]) w := fun w => by
 obtain ⟨i,hi,hz0,_,_⟩ := info_parts (P := Tryz.prog) infoOut
 simp [zeroValue,typeInfo,hi,hz0]
theorem flat_erase (l : List OutD) (k : Nat) (hk : k < l.length) : (layL (layL (l.flatMap vOut) (k * 8) ((l.drop (k + 1)).flatMap vOut)) ((l.length - 1) * 8) outZ).take ((l.length - 1) * 8) = (l.eraseIdx k).flatMap vOut := by
 have e0 : (l.flatMap vOut).length = l.length * 8 := flat_len vOut_len l
 have e1 : ((l.drop (k + 1)).flatMap vOut).length = (l.length - (k + 1)) * 8 := by rw [flat_len vOut_len,List.length_drop]
 have e2 : (l.flatMap vOut).take (k * 8) = (l.take k).flatMap vOut := flat_takeN vOut_len k l
 have a1 := layL_eq ((l.drop (k + 1)).flatMap vOut) (l.flatMap vOut) (k * 8) (by rw [e0,e1]; omega)
 have hl1 : (layL (l.flatMap vOut) (k * 8) ((l.drop (k + 1)).flatMap vOut)).length = l.length * 8 := by
  rw [a1]
  simp only [List.length_append,List.length_take,List.length_drop,e0,e1]
  omega
 rw [layL_eq outZ _ _ (by rw [hl1]; show (l.length - 1) * 8 + 8 ≤ l.length * 8; omega)]
 rw [List.append_assoc,List.take_append_of_le_length (by rw [List.length_take,hl1]; omega),List.take_take,Nat.min_self,a1]
 have hA : ((l.flatMap vOut).take (k * 8) ++ (l.drop (k + 1)).flatMap vOut).length = (l.length - 1) * 8 := by
  rw [List.length_append,List.length_take,e0,e1]
  omega
 rw [← hA,List.take_left,e2,← List.flatMap_append,List.eraseIdx_eq_take_drop_succ]
theorem eg_sizeOut : ∀ w,(sizeOf (Tryz.prog.elem 28)).run Tryz.prog w = .ok 8 w := fun _ => by kernel_rfl
theorem outs_ones (l : List OutD) : ∀ u ∈ l.flatMap vOut,u.oneCell' = true := by
 intro u hu
 obtain ⟨x,_,hx⟩ := List.mem_flatMap.1 hu
 exact outs_one x u hx
set_option maxHeartbeats 4000000 in
theorem DeleteO_any (B g C k : Nat) (l : List OutD) (w : World) (hown : w.ownsRow B 77 8 (.slice (some ⟨g,0,none⟩) l.length C) l.length (l.flatMap vOut)) (hk : k < l.length) (hl : l.length ≤ 1048576) :
  Calls Tryz.prog 93 #[.slice (some ⟨g,0,none⟩) l.length C,.int .i64 (k : Int),.int .i64 ((k : Int) + 1)] w fun e w' => e = .returned (.slice (some ⟨g,0,none⟩) (l.length - 1) C) ∧ w'.ownsRow B 77 8 (.slice (some ⟨g,0,none⟩) (l.length - 1) C) (l.length - 1) ((l.eraseIdx k).flatMap vOut) ∧ w.grownBy w' (some g) := by
 obtain ⟨_,_,he,hnC⟩ := own_slice hown
 simp only [Value.slice.injEq,true_and] at he
 obtain ⟨rfl,rfl⟩ := he
 obtain ⟨i0,hi0,hz0,hz1,hz2⟩ := info_parts (P := Tryz.prog) infoOut
 have hfe := flat_erase l k hk
 obtain ⟨news,hnews⟩ : ∃ news,(l.drop (k + 1)).flatMap vOut = news := ⟨_,rfl⟩
 obtain ⟨m,hm⟩ : ∃ m,l.length = k + m + 1 := ⟨l.length - (k + 1),by omega⟩
 have hnl : news.length = m * 8 := by rw [← hnews,flat_len vOut_len,List.length_drop,hm]; congr 1; omega
 have hul : (l.flatMap vOut).length = (k + m + 1) * 8 := by rw [flat_len vOut_len,hm]
 rw [hnews] at hfe
 have hdrop : (l.flatMap vOut).drop ((k + 1) * 8) = news := by rw [flat_dropN vOut_len,hnews]
 rw [hm] at hown hnC hfe ⊢
 have hsl := (Sl.of_own hown).cut (k := k + 1) (n := k + m + 1) (cap := C) hul (by omega) hnC
 rw [hdrop] at hsl
 obtain ⟨A,hA,hsrc⟩ : ∃ A : Addr,cutA (some ⟨g,0,none⟩) C (k + 1) 8 = some A ∧ Hid (∀ j u,news[j]? = some u → w.drew.cell? (A.add j) = some u) := by
  have h0 : ∃ A,cutA (some ⟨g,0,none⟩) C (k + 1) 8 = some A := by unfold cutA; split <;> exact ⟨_,rfl⟩
  obtain ⟨A,hA⟩ := h0
  refine ⟨A,hA,Lib.hid fun j u hu => ?_⟩
  rw [hA] at hsl
  rcases hsl with h | ⟨b,o,e,_,_,hc⟩
  ·rw [h] at hu; simp at hu
  ·simp only [Option.some.injEq] at e
   rw [e,addr_add']
   exact hc j u hu
 have HNO : Hid (∀ u ∈ news,u.oneCell' = true) := Lib.hid (by rw [← hnews]; exact outs_ones _)
 have HSP : Hid (∀ t,t < news.length → (w.drew.cell? ⟨g,0 + k * 8 + t,none⟩).isSome = true ∧ w.drew.frozen? ⟨g,0 + k * 8 + t,none⟩ = false) := Lib.hid fun t ht => by
  rw [hnl] at ht
  have hlt : 0 + k * 8 + t < (l.flatMap vOut).length := by rw [hul]; omega
  refine ⟨?_,hown.frozenAt _⟩
  have := hown.cellAt (0 + k * 8 + t) (by omega)
  show (w.cell? _).isSome = true
  rw [this,List.getElem?_eq_getElem hlt]
  rfl
 obtain ⟨W1,hW1⟩ : ∃ W1,w.drew.setCells g (0 + k * 8) news = W1 := ⟨_,rfl⟩
 have hown0 : w.drew.ownsRow B 77 8 (.slice (some ⟨g,0,none⟩) (k + m + 1) C) (k + m + 1) (l.flatMap vOut) := hown.drew
 obtain ⟨o1,g1⟩ := own_setCells news (0 + k * 8) _ _ hown0
 rw [hW1] at o1 g1
 obtain ⟨o2,g2⟩ := own_setCells outZ ((k + m) * 8) _ _ o1
 have hl1 : (layL (l.flatMap vOut) (0 + k * 8) news).length = (k + m + 1) * 8 := o1.1
 have hclr : ∀ ty,(Builtin.clear_ #[28] ty #[.slice (some ⟨g,(k + m) * 8,none⟩) 1 (C - (k + m))]).run Tryz.prog W1 = .ok (.tuple #[]) (W1.setCells g ((k + m) * 8) outZ) := fun ty =>
  run_clearN W1 _ _ ty _ outZ Tryz.underlying28 zero_out rfl g ((k + m) * 8) _ (by unfold outZ; simp [Value.oneCell']) (fun j hj => by
   have hlt : (k + m) * 8 + j < (layL (l.flatMap vOut) (0 + k * 8) news).length := by rw [hl1]; have : outZ.length = 8 := rfl; omega
   have := o1.cellAt ((k + m) * 8 + j) (by rw [hl1] at hlt; omega)
   rw [this,List.getElem?_eq_getElem hlt]
   rfl) (fun j hj => o1.frozenAt _)
 have o3 := own_short (m := k + m) o2 (by omega)
 rw [show (0 + k * 8) = k * 8 by omega] at o3
 rw [show k + m + 1 - 1 = k + m by omega] at hfe ⊢
 rw [hfe] at o3
 have HO3 := Lib.hid o3
 have HG : Hid (w.grownBy (W1.setCells g ((k + m) * 8) outZ) (some g)) := Lib.hid (grown_of_drew (grown_trans g1 g2))
 have HW := Lib.hid hW1
 have hcut := fun W => run_cut (P := Tryz.prog) (t := 28) (size := 8) Tryz.underlying28 eg_sizeOut (some ⟨g,0,none⟩) (k + m + 1) C (k + 1) ((k : Int) + 1) (by omega) (by omega) W
 rw [hA,show k + m + 1 - (k + 1) = m by omega] at hcut
 have hhi := fun W => run_cutHi (P := Tryz.prog) (t := 28) (size := 8) Tryz.underlying28 eg_sizeOut (some ⟨g,0,none⟩) (k + m + 1) C k (k : Int) rfl (by omega) W
 have hlhm : ∀ W : World,∃ v,(Instr.slice 28 (.slice (some ⟨g,0,none⟩) (k + m + 1) C) (some (.int .i64 (k : Int))) (some (.int .i64 ((k : Int) + 1))) (some (.int .i64 ((k + m + 1 : Nat) : Int)))).run Tryz.prog W = .ok v W := fun W => by
  refine ⟨sliced (some ⟨g,0,none⟩) (k : Int).toNat ((k : Int) + 1).toNat (((k + m + 1 : Nat) : Int)).toNat 8,(run_slice_lhm W _ (some ⟨g,0,none⟩) (k + m + 1) C Tryz.underlying28 .i64 .i64 .i64 (k : Int) ((k : Int) + 1) ((k + m + 1 : Nat) : Int) (by omega) (by omega) (by omega) (by omega)).trans ?_⟩
  rw [eg_sizeOut]
  rfl
 have hend : ∀ W,(Instr.slice 28 (.slice (some ⟨g,0,none⟩) (k + m) C) (some (.int .i64 ((k + m : Nat) : Int))) (some (.int .i64 ((k + m + 1 : Nat) : Int))) none).run Tryz.prog W = .ok (.slice (some ⟨g,(k + m) * 8,none⟩) 1 (C - (k + m))) W := fun W => by
  refine (run_slice_lh W _ (some ⟨g,0,none⟩) (k + m) C Tryz.underlying28 .i64 .i64 ((k + m : Nat) : Int) ((k + m + 1 : Nat) : Int) (by omega) (by omega) (by omega)).trans ?_
  rw [eg_sizeOut]
  simp only [Result.andThen,sliced,Int.toNat_natCast]
  rw [if_neg (by omega),show k + m + 1 - (k + m) = 1 by omega]
  simp [addr_add']
 have hcne : ((k : Int) == (k : Int) + 1) = false := beq_eq_false_iff_ne.2 (by omega)
 clear hW1 o1 o2 o3 g1 g2 hown0 hown hsl hdrop hfe hA hul hl1
 have mixed : Tryz.prog.follows .mixedOrders = true := by kernel_rfl
 obtain ⟨v0,hv0⟩ := hlhm w
 clear hlhm
 go_enter Tryz.func93,Tryz.ntmps93
 go_wp2_with fail
 go_region_law_o (refine step_append_room rfl (.tmp 22) (.tmp 25) 28 rfl 77 i0 8 Tryz.underlying28 hi0 hz1 g 0 k C (by simp [Act.eval,Act.put]) A m (C - (k + 1)) news (by simp [Act.eval,Act.put]) hnl hsrc.out HNO.out (by omega) HSP.out ?_; rw [HW.out])
 go_wp2
 go_ret
 exact ⟨rfl,HO3.out,HG.out⟩
open Go Go.RowKit
set_option maxRecDepth 100000
theorem idx_out (s : StateD) (tag : Int) : idxOf (fun x : OutD => decide (x.tag = tag)) s.outs = match outK s tag with | some k => (k : Int) | none => -1 := by
 cases hg : outK s tag with
 | none => exact idxOf_miss (k := s.outs.length) (fun j x _ hx => by simpa using outK_none hg x (List.mem_of_getElem? hx)) (Nat.le_refl _)
 | some k =>
  obtain ⟨hk,h1,h2⟩ := outK_some hg
  refine idxOf_hit (fun j x hj hx => ?_) hk (by simpa using h1)
  rw [List.getElem?_eq_getElem (by omega)] at hx
  cases hx
  simpa using h2 j hj
theorem eg_take1 : ∀ args w,(callFunc 92 args).run Tryz.prog w = .ok (.enter 92 args) w := enters_of Tryz.func92 (by kernel_rfl) rfl
theorem take1_any (x : OutD) (tag : Int) (tb : Nat) (w : World) (ht : w.cell? ⟨tb,0,none⟩ = some (.int .i64 tag)) : Calls Tryz.prog 92 #[.agg (vOut x).toArray,.pointer (some ⟨tb,0,none⟩)] w fun e w' => e = .returned (.bool (decide (x.tag = tag))) ∧ Below w.heap.size w w' := by
 have hb := (Below.refl w.heap.size w).alloc (Nat.le_refl _) (.cells #[.int .i64 x.tag,.int .i64 x.taker,.int .i64 x.queue,.int .i64 x.item.seq,.string x.item.key,.string x.item.body,.bool x.item.again,.int .i64 x.item.deaths] 77)
 have ht1 : (w.alloc (.cells #[.int .i64 x.tag,.int .i64 x.taker,.int .i64 x.queue,.int .i64 x.item.seq,.string x.item.key,.string x.item.body,.bool x.item.again,.int .i64 x.item.deaths] 77)).cell? ⟨tb,0,none⟩ = some (.int .i64 tag) := (hb.cell (p := ⟨tb,0,none⟩) (lt_of_cell ht)).trans ht
 have hq : (x.tag == tag) = decide (x.tag = tag) := by by_cases e : x.tag = tag <;> simp [e]
 unfold vOut
 go_enter Tryz.func92,Tryz.ntmps92
 go_wp2_with fail
 go_ret
 exact ⟨by first | rfl | rw [hq],hb⟩
theorem gw_one (w : World) (g i : Nat) (v : Value) : w.grownBy (w.setCell ⟨g,i,none⟩ v) (some g) := ⟨rfl,rfl,rfl,by simp [World.setCell],fun k _ hk => heap_setCell_other w ⟨g,i,none⟩ k v (fun e => hk (by simp [e]))⟩
theorem grown_set8 (w : World) (g : Nat) (u0 u1 u2 u3 u4 u5 u6 u7 : Value) : w.grownBy ((((((((w.setCell ⟨g,0,none⟩ u0).setCell ⟨g,1,none⟩ u1).setCell ⟨g,2,none⟩ u2).setCell ⟨g,3,none⟩ u3).setCell ⟨g,4,none⟩ u4).setCell ⟨g,5,none⟩ u5).setCell ⟨g,6,none⟩ u6).setCell ⟨g,7,none⟩ u7) (some g) :=
 grown_trans (grown_trans (grown_trans (grown_trans (grown_trans (grown_trans (grown_trans (gw_one _ _ _ _) (gw_one _ _ _ _)) (gw_one _ _ _ _)) (gw_one _ _ _ _)) (gw_one _ _ _ _)) (gw_one _ _ _ _)) (gw_one _ _ _ _)) (gw_one _ _ _ _)
def KO (v : Value) (w W : World) : Prop := ∀ b cs,v.ownBlock ≠ some b → Bk w b 77 cs → Bk W b 77 cs
def TakePost (lo g : Nat) (v1 v2 v3 : Value) (rows : List RowD) (s : StateD) (tag : Int) (w : World) (e : Ending) (W : World) : Prop :=
 (outK s tag = none ∧ e = .returned (.tuple #[.agg outZ.toArray,.bool false]) ∧ Below w.heap.size w W) ∨
 ∃ k,outK s tag = some k ∧ e = .returned (.tuple #[.agg (vOut (outAtK s k)).toArray,.bool true]) ∧ ∃ v2',RefAt W lo g v1 v2' v3 rows (withoutS s k) ∧ KeepsT [77,31] w W ∧ Below lo w W ∧ v2'.ownBlock = v2.ownBlock ∧ KO v2 w W
set_option maxHeartbeats 8000000 in
theorem take_any (lo g : Nat) (v1 v2 v3 : Value) (rows : List RowD) (s : StateD) (tag : Int) (w : World) (H : RefAt w lo g v1 v2 v3 rows s) (hl : s.outs.length ≤ 1048576) :
  Calls Tryz.prog 48 #[.pointer (some ⟨g,0,none⟩),.int .i64 tag] w (TakePost lo g v1 v2 v3 rows s tag w) := by
 obtain ⟨A2,C2,rfl,hC2⟩ := own_slice H.held.outs
 have hlow := H.size
 have hG : ∀ b,A2 = some ⟨b,0,none⟩ → b < w.heap.size := fun b e => by subst e; exact (H.held.outs.lt b rfl).2
 have HG2 := Lib.hid hG
 have HGL := Lib.hid H.box.lt
 obtain ⟨V0,hV0⟩ : ∃ V0,w.alloc (.cells #[.int .i64 tag] 3) = V0 := ⟨_,rfl⟩
 have kt : Bk V0 w.heap.size 3 #[.int .i64 tag] := by rw [← hV0]; exact Bk.new _ _ _
 have hb0 : Below w.heap.size w V0 := by rw [← hV0]; exact (Below.refl _ _).alloc (Nat.le_refl _) _
 obtain ⟨W0,hW0⟩ : ∃ W0,V0.alloc (.cells #[.int .i64 0,.int .i64 0,.int .i64 0,.int .i64 0,.string ⟨#[]⟩,.string ⟨#[]⟩,.bool false,.int .i64 0] 77) = W0 := ⟨_,rfl⟩
 have kz : Bk W0 V0.heap.size 77 #[.int .i64 0,.int .i64 0,.int .i64 0,.int .i64 0,.string ⟨#[]⟩,.string ⟨#[]⟩,.bool false,.int .i64 0] := by rw [← hW0]; exact Bk.new _ _ _
 have hb1 : Below V0.heap.size V0 W0 := by rw [← hW0]; exact (Below.refl _ _).alloc (Nat.le_refl _) _
 have kt0 := kt.below hb1 kt.lt
 have hz1 : V0.heap.size = w.heap.size + 1 := by rw [← hV0]; simp
 have HB0 := Lib.hid (hb0.trans (hb1.mono hb0.size))
 have hH0 := H.since HB0.out
 have n1 : W0.cell? ⟨g,1,none⟩ = some (.slice A2 s.outs.length C2) := hH0.box.cell 1
 have HH0 := Lib.hid hH0
 have HKT := Lib.hid kt0
 rw [hz1] at kz
 have HKZ := Lib.hid kz
 have HLOW := Lib.hid hlow
 clear hb0 hb1 kt kt0 kz H hH0 hlow hG
 go_enter Tryz.func48,Tryz.ntmps48
 go_wp2_with fail
 clear n1
 refine (indexFunc_Out 92 #[.pointer (some ⟨w.heap.size,0,none⟩)] eg_take1 (fun x => decide (x.tag = tag)) s.outs A2 C2 lo W0 (fun x _ W hW => by simpa using take1_any x tag w.heap.size W ((HKT.out.below hW HKT.out.lt).cell 0)) (Sl.of_own HH0.out.held.outs) (by omega)).mono ?_
 rw [idx_out]
 rintro e W1 ⟨rfl,hb1⟩
 have HB1 := Lib.hid (HB0.out.trans (hb1.mono HB0.out.size))
 have HH1 := Lib.hid (HH0.out.since hb1)
 have HKZ1 := Lib.hid (HKZ.out.below hb1 HKZ.out.lt)
 clear hb1 HKZ HKT HH0 HB0
 cases hk : outK s tag with
 | none =>
  obtain ⟨k0,k1,k2,k3,k4,k5,k6,k7,f0,f1,f2,f3,f4,f5,f6,f7,hlt⟩ := zero_cells HKZ1.out
  dsimp only
  go_wp2_with fail
  refine bodyPost_ret (v := .tuple #[.agg outZ.toArray,.bool false]) (by simp [results,Tryz.results48,go_sem,outZ,k0,k1,k2,k3,k4,k5,k6,k7,hlt]) rfl ?_
  exact .inl ⟨hk,rfl,below_set8 HB1.out (by omega) _ _ _ _ _ _ _ _⟩
 | some k =>
  obtain ⟨hkl,htg,hnt⟩ := outK_some hk
  clear htg hnt
  have hx := outAtK_get hkl
  obtain ⟨g2,rfl⟩ := own_addr HH1.out.held.outs (by omega)
  have hg2 : g2 < W1.heap.size := (HH1.out.held.outs.lt g2 rfl).2
  obtain ⟨e0,e1,e2,e3,e4,e5,e6,e7⟩ := out_cells (wr := W1) (b := g2) (o := 0) (k := k) (x := s.outs[k]) fun j u hu => by
   obtain ⟨b,o,e,_,_,hc⟩ := sl_elem vOut_len (by decide) (Sl.of_own HH1.out.held.outs) hkl
   simp only [Option.some.injEq,Addr.mk.injEq,and_true] at e
   obtain ⟨rfl,rfl⟩ := e
   exact hc j u hu
  rw [← hx] at e0 e1 e2 e3 e4 e5 e6 e7
  simp only [Nat.zero_add] at e0 e1 e2 e3 e4 e5 e6 e7
  have HX := Lib.hid hx
  generalize outAtK s k = x at *
  clear hx
  have n1 : W1.cell? ⟨g,1,none⟩ = some (.slice (some ⟨g2,0,none⟩) s.outs.length C2) := HH1.out.box.cell 1
  have hj : (k : Int) < (s.outs.length : Int) := by omega
  dsimp only
  go_upto_region 5 with fail
  obtain ⟨W2,hW2⟩ : ∃ W2,W1.alloc (.cells #[.int .i64 x.tag,.int .i64 x.taker,.int .i64 x.queue,.int .i64 x.item.seq,.string x.item.key,.string x.item.body,.bool x.item.again,.int .i64 x.item.deaths] 77) = W2 := ⟨_,rfl⟩
  have kx2 : Bk W2 W1.heap.size 77 #[.int .i64 x.tag,.int .i64 x.taker,.int .i64 x.queue,.int .i64 x.item.seq,.string x.item.key,.string x.item.body,.bool x.item.again,.int .i64 x.item.deaths] := by rw [← hW2]; exact Bk.new _ _ _
  have hb2 : Below W1.heap.size W1 W2 := by rw [← hW2]; exact (Below.refl _ _).alloc (Nat.le_refl _) _
  have HB2 := Lib.hid (HB1.out.trans (hb2.mono HB1.out.size))
  have hH2 := HH1.out.since hb2
  have HKZ2 := Lib.hid (HKZ1.out.below hb2 HKZ1.out.lt)
  have HKX2 := Lib.hid kx2
  have HH2 := Lib.hid hH2
  rw [hW2]
  clear e0 e1 e2 e3 e4 e5 e6 e7 n1 hb2 kx2 hW2
  have n1 : W2.cell? ⟨g,1,none⟩ = some (.slice (some ⟨g2,0,none⟩) s.outs.length C2) := hH2.box.cell 1
  clear hH2
  go_wp2_with fail
  refine (DeleteO_any lo g2 C2 k s.outs W2 HH2.out.held.outs hkl hl).mono ?_
  rintro e W3 ⟨rfl,ho3,hg3⟩
  clear n1
  have hgz : (w.heap.size + 1) ≠ g2 := by
   have h1 := HG2.out g2 rfl
   omega
  have kx3 := HKX2.out.grown hg3 (by simp only [ne_eq,Option.some.injEq]; omega)
  have kz3 := HKZ2.out.grown hg3 (by simp only [ne_eq,Option.some.injEq]; exact hgz)
  have kb3 := HH2.out.box.grown hg3 (own_bk2 HH2.out.held.outs HH2.out.box (by decide))
  have hkk : KeepsT [77] W2 W3 := KeepsT.grown HH2.out.held.outs hg3 (by simp)
  have hbl3 := below_own HH2.out.held.outs hg3 (HB2.out.mono HLOW.out) (Nat.le_refl _) HH2.out.size
  rw [← List.length_eraseIdx_of_lt hkl] at ho3
  have hhe := HH2.out.held.outsTo hkk ho3
  have hgl := HH2.out.gl
  obtain ⟨W4,hW4⟩ : ∃ W4,W3.setCell ⟨g,1,none⟩ (.slice (some ⟨g2,0,none⟩) (s.outs.length - 1) C2) = W4 := ⟨_,rfl⟩
  have kk4 := KeepsT.set kb3 (ts := [31]) (by decide) 1 (.slice (some ⟨g2,0,none⟩) (s.outs.length - 1) C2)
  have kb4 : Bk W4 g 31 (ownV (withoutS s k) v1 (.slice (some ⟨g2,0,none⟩) (s.outs.length - 1) C2) v3) := by rw [← hW4]; exact kb3.set_ 1 _
  have hbl4 := hbl3.setCell (p := ⟨g,1,none⟩) hgl (.slice (some ⟨g2,0,none⟩) (s.outs.length - 1) C2)
  have hgV : (w.heap.size + 1) ≠ g := by have h1 := HGL.out; omega
  have hgX : W1.heap.size ≠ g := by have h1 := HGL.out; have h2 := HB1.out.size; omega
  have kx4 := kx3.far (p := ⟨g,1,none⟩) hgX (.slice (some ⟨g2,0,none⟩) (s.outs.length - 1) C2)
  have kz4 := kz3.far (p := ⟨g,1,none⟩) hgV (.slice (some ⟨g2,0,none⟩) (s.outs.length - 1) C2)
  rw [hW4] at kk4 hbl4 kx4 kz4
  rw [List.length_eraseIdx_of_lt hkl] at hhe
  have hR4 : RefAt W4 lo g v1 (.slice (some ⟨g2,0,none⟩) (s.outs.length - 1) C2) v3 rows (withoutS s k) := ⟨hbl4.size |> fun h => Nat.le_trans HLOW.out h,kb4,hhe.kept kk4,hgl⟩
  have b1 := kb3.cell 1
  have fb1 := kb3.frozen 1
  have lb1 := kb3.lt
  simp only [ownV,List.getElem?_toArray,List.getElem?_cons_zero,List.getElem?_cons_succ] at b1
  have HKO : Hid (∀ b cs,b ≠ g2 → Bk w b 77 cs → Bk W4 b 77 cs) := Lib.hid fun b cs hne hbk =>
   kk4 b _ cs (by decide) ((hbk.below HB2.out hbk.lt).grown hg3 (by simp only [ne_eq,Option.some.injEq]; exact hne))
  have HR4 := Lib.hid (And.intro hR4 (And.intro hbl4 ((KeepsT.of_below (ts := []) HB2.out).more (by simp) |>.trans ((hkk.more (by simp)).trans (kk4.more (by simp))) : KeepsT [77,31] w W4)))
  have HKX4 := Lib.hid kx4
  have HKZ4 := Lib.hid kz4
  clear kx3 kz3 kb3 hkk hbl3 hhe kk4 kb4 hbl4 kx4 kz4 hR4 ho3 hg3
  go_upto_region 6 with fail
  clear b1 fb1 lb1 hW4
  obtain ⟨q0,q1,q2,q3,q4,q5,q6,q7,_,_,_,_,_,_,_,_,_⟩ := zero_cells HKX4.out
  obtain ⟨k0,k1,k2,k3,k4,k5,k6,k7,f0,f1,f2,f3,f4,f5,f6,f7,hlt⟩ := zero_cells HKZ4.out
  go_wp2_with fail
  refine bodyPost_ret (v := .tuple #[.agg #[.int .i64 x.tag,.int .i64 x.taker,.int .i64 x.queue,.int .i64 x.item.seq,.string x.item.key,.string x.item.body,.bool x.item.again,.int .i64 x.item.deaths],.bool true]) (by simp [results,Tryz.results48,go_sem,k0,k1,k2,k3,k4,k5,k6,k7,hlt]) rfl ?_
  have hgr := grown_set8 W4 (w.heap.size + 1) (.int .i64 x.tag) (.int .i64 x.taker) (.int .i64 x.queue) (.int .i64 x.item.seq) (.string x.item.key) (.string x.item.body) (.bool x.item.again) (.int .i64 x.item.deaths)
  have hk5 : KeepsT [77] W4 _ := KeepsT.set8 HKZ4.out (by decide) (.int .i64 x.tag) (.int .i64 x.taker) (.int .i64 x.queue) (.int .i64 x.item.seq) (.string x.item.key) (.string x.item.body) (.bool x.item.again) (.int .i64 x.item.deaths)
  have hb5 := below_set8 (B := lo) HR4.out.2.1 (show lo ≤ (w.heap.size + 1) by have h1 := HLOW.out; omega) (.int .i64 x.tag) (.int .i64 x.taker) (.int .i64 x.queue) (.int .i64 x.item.seq) (.string x.item.key) (.string x.item.body) (.bool x.item.again) (.int .i64 x.item.deaths)
  have hko5 : ∀ b cs,b ≠ g2 → Bk w b 77 cs → Bk ((((((((W4.setCell ⟨(w.heap.size + 1),0,none⟩ (.int .i64 x.tag)).setCell ⟨(w.heap.size + 1),1,none⟩ (.int .i64 x.taker)).setCell ⟨(w.heap.size + 1),2,none⟩ (.int .i64 x.queue)).setCell ⟨(w.heap.size + 1),3,none⟩ (.int .i64 x.item.seq)).setCell ⟨(w.heap.size + 1),4,none⟩ (.string x.item.key)).setCell ⟨(w.heap.size + 1),5,none⟩ (.string x.item.body)).setCell ⟨(w.heap.size + 1),6,none⟩ (.bool x.item.again)).setCell ⟨(w.heap.size + 1),7,none⟩ (.int .i64 x.item.deaths)) b 77 cs := fun b cs hne hbk =>
   far_set8 (HKO.out b cs hne hbk) (by have := hbk.lt; omega) _ _ _ _ _ _ _ _
  have ho5 := HR4.out.1.held.outs.kept hgr (.inr (by show some g2 ≠ some (w.heap.size + 1); simp only [ne_eq,Option.some.injEq]; omega))
  exact .inr ⟨k,hk,by rw [outAtK_get hkl,← HX.out]; rfl,.slice (some ⟨g2,0,none⟩) (s.outs.length - 1) C2,⟨Nat.le_trans HLOW.out hb5.size,hk5 _ _ _ (by decide) HR4.out.1.box,HR4.out.1.held.outsTo hk5 ho5,HR4.out.1.gl⟩,HR4.out.2.2.trans (hk5.more (by simp)),hb5,rfl,fun b cs hne hbk => hko5 b cs (fun e => hne (by rw [e]; rfl)) hbk⟩
open Go Go.RowKit
set_option maxRecDepth 100000
def TurnPost (lo g : Nat) (E : Int) (X : StateD) (w : World) (e : Ending) (W : World) : Prop :=
 e = .returned (.int .i64 E) ∧ Below lo w W ∧ (E = 0 → ∃ v1 v2 v3 rows,RefAt W lo g v1 v2 v3 rows X)
set_option maxHeartbeats 8000000 in
theorem turned_held (p : PlanD) (s : StateD) (E : Int) (X : StateD) (gf : Nat) (lb : Array Value) (eg : ∀ args w,(callFunc gf args).run Tryz.prog w = .ok (.enter gf args) w) (p1 p2 p3 a1 a2 a3 : Option Addr) (q1 q2 q3 c1 c2 c3 : Nat) (rows : List RowD) (w : World) (hE : Env w) (hp : PlanAt w 0 w.heap.size p1 p2 p3 p) (hps : PlanSmall p) (hs : StateAt w 0 w.heap.size a1 a2 a3 rows s) (hss : StateSmall s) (hsi : StateInts s)
  (Y : StateD) (F : Int) (hYF : (stateErr p s ≠ 0 → Y = zeroS ∧ F = stateErr p s) ∧ (stateErr p s = 0 → F = E ∧ (E = 0 → Y = X) ∧ (E ≠ 0 → Y = zeroS)))
  (hT : Right p s → ∀ (W : World) (lo g : Nat) (v1 v2 v3 : Value) (rows : List RowD),w.heap.size ≤ lo → Below w.heap.size w W → RefAt W lo g v1 v2 v3 rows s → Calls Tryz.prog gf (#[.pointer (some ⟨g,0,none⟩)] ++ lb) W (TurnPost lo g E X W)) :
  Calls Tryz.prog 46 #[planV p p1 p2 p3 q1 q2 q3,stateV s a1 a2 a3 c1 c2 c3,.func (.func gf) #[] lb] w (StPostC Y F w) := by
 have HT := Lib.hid hT
 have HYF := Lib.hid hYF
 clear hT hYF
 have hbx := two_boxes q1 q2 q3 c1 c2 c3 hE hp hs 26 31
 unfold vState at hbx
 unfold stateV planV vState
 have htl := hss.takers
 have HPS := Lib.hid hps
 have HSS := Lib.hid hss
 have HSI := Lib.hid hsi
 clear hE hp hs hps hss hsi
 go_enter Tryz.func46,Tryz.ntmps46
 obtain ⟨⟨m0,m1,m2⟩,⟨n0,n1,n2,n3,n4,n5,n6,n7⟩,_,_,_,_⟩ := hbx _ ((Below.refl _ _).alloc (Nat.le_refl _) (.cells #[.slice none 0 0,.slice none 0 0,.slice none 0 0,.int .i64 0,.int .i64 0,.int .i64 0,.int .i64 0,.int .i64 0] 31))
 go_wp2_with fail
 clear m0 m1 m2 n0 n1 n2 n3 n4 n5 n6 n7
 obtain ⟨V0,hV0⟩ : ∃ V0,((w.alloc (.cells #[.slice p1 p.posts.length q1,.slice p2 p.queues.length q2,.slice p3 p.binds.length q3] 26)).alloc (.cells #[Value.slice a1 s.ready.length c1,Value.slice a2 s.outs.length c2,Value.slice a3 s.takers.length c3,Value.int IntKind.i64 s.nextSeq,Value.int IntKind.i64 s.nextTag,Value.int IntKind.i64 s.came,Value.int IntKind.i64 s.acked,Value.int IntKind.i64 s.dropped] 31)) = V0 := ⟨_,rfl⟩
 have hzV : V0.heap.size = w.heap.size + 1 + 1 := by rw [← hV0]; simp
 rw [hV0] at hbx
 have HBV := Lib.hid hbx
 obtain ⟨W0,hW0⟩ : ∃ W0,V0.alloc (.cells #[.slice none 0 0,.slice none 0 0,.slice none 0 0,.int .i64 0,.int .i64 0,.int .i64 0,.int .i64 0,.int .i64 0] 31) = W0 := ⟨_,rfl⟩
 have hbV : Below V0.heap.size V0 W0 := by rw [← hW0]; exact (Below.refl _ _).alloc (Nat.le_refl _) _
 have HZ : Hid (W0.heap.size = w.heap.size + 1 + 1 + 1) := by refine (?_ : W0.heap.size = _); rw [← hW0,← hzV]; simp
 have HBX : Hid (∀ W,Below W0.heap.size W0 W → CkIn w p s p1 p2 p3 a1 a2 a3 q1 q2 q3 c1 c2 c3 rows W ∧ Bk W (w.heap.size + 1 + 1) 31 zeroCells) := fun W hW => by
  have k : Bk W0 (w.heap.size + 1 + 1) 31 zeroCells := by rw [← hW0]; exact Bk.new_at _ _ _ hzV.symm
  exact ⟨HBV.out W (hbV.trans (hW.mono hbV.size)),k.below hW k.lt⟩
 rw [hV0,hW0]
 clear hbx hbV hzV HBV hV0 hW0
 refine (SCheck_any p s p1 p2 p3 a1 a2 a3 q1 q2 q3 c1 c2 c3 rows W0 (HBX.out _ (Below.refl _ _)).1.env (HBX.out _ (Below.refl _ _)).1.planAt HPS.out (HBX.out _ (Below.refl _ _)).1.stateAt HSS.out HSI.out).mono ?_
 rintro e W1 ⟨rfl,hb1⟩
 have HB1 := Lib.hid hb1
 clear hb1
 by_cases hc : stateErr p s = 0
 ·have b1 : (stateErr p s != 0) = false := by simp [hc]
  have HC := Lib.hid hc
  have HRT := Lib.hid (right_iff.1 hc)
  clear hc
  obtain ⟨n0,n1,n2,n3,n4,n5,n6,n7⟩ := (HBX.out _ HB1.out).1.state
  go_wp2_with fail
  have hcall := Own_any s a1 a2 a3 c1 c2 c3 rows W1 (HBX.out _ HB1.out).1.stateAt HSS.out
  unfold stateV vState at hcall
  refine hcall.mono ?_
  clear hcall n0 n1 n2 n3 n4 n5 n6 n7
  rintro e W5 ⟨v1,v2,v3,rows5,rfl,ho5,hb5⟩
  unfold ownV
  obtain ⟨W6,hW6⟩ : ∃ W6,W5.alloc (.cells #[v1,v2,v3,.int .i64 s.nextSeq,.int .i64 s.nextTag,.int .i64 s.came,.int .i64 s.acked,.int .i64 s.dropped] 31) = W6 := ⟨_,rfl⟩
  have kb6 : Bk W6 W5.heap.size 31 (ownV s v1 v2 v3) := by rw [← hW6]; exact Bk.new _ _ _
  have hal6 : Below W5.heap.size W5 W6 := by rw [← hW6]; exact (Below.refl _ _).alloc (Nat.le_refl _) _
  have h16 : Below W1.heap.size W1 W6 := hb5.trans (hal6.mono hb5.size)
  have HB6 := Lib.hid (HB1.out.trans (h16.mono HB1.out.size))
  have HLO := Lib.hid (Nat.le_trans (HBX.out _ (Below.refl _ _)).1.below.size HB1.out.size)
  have HR6 := Lib.hid (show RefAt W6 W1.heap.size W5.heap.size v1 v2 v3 rows5 s from ⟨h16.size,kb6,(ho5.below hal6).held,hb5.size⟩)
  obtain ⟨A1,C1,rfl,_⟩ := own_slice ho5.ready
  obtain ⟨A2,C2,rfl,_⟩ := own_slice ho5.outs
  obtain ⟨A3,C3,rfl,_⟩ := own_slice ho5.takers
  clear ho5 hb5 kb6 hal6 h16
  go_wp2_with fail
  clear hW6
  refine (HT.out HRT.out W6 W1.heap.size W5.heap.size _ _ _ rows5 HLO.out (HBX.out _ HB6.out).1.below HR6.out).mono ?_
  rintro e W7 ⟨rfl,hb7,hr7⟩
  have HB7 := Lib.hid (HB6.out.trans (hb7.mono HB1.out.size))
  have HR7 := Lib.hid hr7
  clear hb7 hr7
  by_cases hE0 : E = 0
  ·have b2 : (E != 0) = false := by simp [hE0]
   have HY := Lib.hid (And.intro ((HYF.out.2 HC.out).2.1 hE0) (HYF.out.2 HC.out).1)
   obtain ⟨v1,v2,v3,rows7,h8⟩ := HR7.out hE0
   have HE0 := Lib.hid hE0
   clear hE0
   obtain ⟨A1,C1,rfl,_⟩ := own_slice h8.held.ready
   obtain ⟨A2,C2,rfl,_⟩ := own_slice h8.held.outs
   obtain ⟨A3,C3,rfl,_⟩ := own_slice h8.held.takers
   have g0 := h8.box.cell 0
   have g1 := h8.box.cell 1
   have g2 := h8.box.cell 2
   have g3 := h8.box.cell 3
   have g4 := h8.box.cell 4
   have g5 := h8.box.cell 5
   have g6 := h8.box.cell 6
   have g7 := h8.box.cell 7
   simp only [ownV,List.getElem?_toArray,List.getElem?_cons_zero,List.getElem?_cons_succ] at g0 g1 g2 g3 g4 g5 g6 g7
   have HH8 := Lib.hid h8
   clear h8
   have hzk := (HBX.out _ HB7.out).2
   have HZS := Lib.hid hzk
   unfold zeroCells at hzk
   obtain ⟨k0,k1,k2,k3,k4,k5,k6,k7,f0,f1,f2,f3,f4,f5,f6,f7,hlt⟩ := zero_cells hzk
   clear hzk
   go_wp2_with fail
   refine bodyPost_ret (v := .tuple #[.agg #[.slice A1 X.ready.length C1,.slice A2 X.outs.length C2,.slice A3 X.takers.length C3,.int .i64 X.nextSeq,.int .i64 X.nextTag,.int .i64 X.came,.int .i64 X.acked,.int .i64 X.dropped],.int .i64 0]) (by simp [results,Tryz.results46,go_sem,k0,k1,k2,k3,k4,k5,k6,k7,hlt]) rfl ?_
   have hfin := (HH8.out.held.kept (KeepsT.set8 HZS.out (ts := [31]) (by decide) (.slice A1 X.ready.length C1) (.slice A2 X.outs.length C2) (.slice A3 X.takers.length C3) (.int .i64 X.nextSeq) (.int .i64 X.nextTag) (.int .i64 X.came) (.int .i64 X.acked) (.int .i64 X.dropped)))
   refine ⟨A1,A2,A3,C1,C2,C3,_,(by rw [HY.out.1,HY.out.2,HE0.out]; rfl),(by rw [HY.out.1]; exact hfin.wider HLO.out),below_set8 (HBX.out _ HB7.out).1.below (by omega) _ _ _ _ _ _ _ _⟩
  ·have b2 : (E != 0) = true := by simp [hE0]
   have HY := Lib.hid (And.intro ((HYF.out.2 HC.out).2.2 hE0) (HYF.out.2 HC.out).1)
   clear hE0
   have hzk := (HBX.out _ HB7.out).2
   unfold zeroCells at hzk
   obtain ⟨k0,k1,k2,k3,k4,k5,k6,k7,f0,f1,f2,f3,f4,f5,f6,f7,hlt⟩ := zero_cells hzk
   clear hzk
   go_wp2_with fail
   refine bodyPost_ret (v := .tuple #[stateV zeroS none none none 0 0 0,.int .i64 E]) (by simp [results,Tryz.results46,go_sem,stateV,vState,zeroS,k0,k1,k2,k3,k4,k5,k6,k7,hlt]) rfl ?_
   exact ⟨none,none,none,0,0,0,[],by rw [HY.out.1,HY.out.2],by rw [HY.out.1]; exact held_zero _ _,below_set8 (HBX.out _ HB7.out).1.below (by omega) _ _ _ _ _ _ _ _⟩
 ·have b1 : (stateErr p s != 0) = true := by simp [hc]
  have HY := Lib.hid (HYF.out.1 hc)
  clear hc
  have hzk := (HBX.out _ HB1.out).2
  unfold zeroCells at hzk
  obtain ⟨k0,k1,k2,k3,k4,k5,k6,k7,f0,f1,f2,f3,f4,f5,f6,f7,hlt⟩ := zero_cells hzk
  clear hzk
  go_wp2_with fail
  refine bodyPost_ret (v := .tuple #[stateV zeroS none none none 0 0 0,.int .i64 (stateErr p s)]) (by simp [results,Tryz.results46,go_sem,stateV,vState,zeroS,k0,k1,k2,k3,k4,k5,k6,k7,hlt]) rfl ?_
  exact ⟨none,none,none,0,0,0,[],by rw [HY.out.1,HY.out.2],by rw [HY.out.1]; exact held_zero _ _,below_set8 (HBX.out _ HB1.out).1.below (by omega) _ _ _ _ _ _ _ _⟩
theorem turned_any (p : PlanD) (s : StateD) (E : Int) (X : StateD) (gf : Nat) (lb : Array Value) (eg : ∀ args w,(callFunc gf args).run Tryz.prog w = .ok (.enter gf args) w) (p1 p2 p3 a1 a2 a3 : Option Addr) (q1 q2 q3 c1 c2 c3 : Nat) (rows : List RowD) (w : World) (hE : Env w) (hp : PlanAt w 0 w.heap.size p1 p2 p3 p) (hps : PlanSmall p) (hs : StateAt w 0 w.heap.size a1 a2 a3 rows s) (hss : StateSmall s) (hsi : StateInts s)
  (Y : StateD) (F : Int) (hYF : (stateErr p s ≠ 0 → Y = zeroS ∧ F = stateErr p s) ∧ (stateErr p s = 0 → F = E ∧ (E = 0 → Y = X) ∧ (E ≠ 0 → Y = zeroS)))
  (hT : Right p s → ∀ (W : World) (lo g : Nat) (v1 v2 v3 : Value) (rows : List RowD),w.heap.size ≤ lo → Below w.heap.size w W → RefAt W lo g v1 v2 v3 rows s → Calls Tryz.prog gf (#[.pointer (some ⟨g,0,none⟩)] ++ lb) W (TurnPost lo g E X W)) :
  Calls Tryz.prog 46 #[planV p p1 p2 p3 q1 q2 q3,stateV s a1 a2 a3 c1 c2 c3,.func (.func gf) #[] lb] w (StPost Y F w) :=
 (turned_held p s E X gf lb eg p1 p2 p3 a1 a2 a3 q1 q2 q3 c1 c2 c3 rows w hE hp hps hs hss hsi Y F hYF hT).mono fun _ _ h => h.post
theorem ackT_any (lo g tb : Nat) (p : PlanD) (s : StateD) (hR : Right p s) (tag : Int) (v1 v2 v3 : Value) (rows : List RowD) (w : World) (ht : w.cell? ⟨tb,0,none⟩ = some (.int .i64 tag)) (H : RefAt w lo g v1 v2 v3 rows s) :
  Calls Tryz.prog 47 #[.pointer (some ⟨g,0,none⟩),.pointer (some ⟨tb,0,none⟩)] w (TurnPost lo g (ackErr p s tag) (ackS p s tag) w) := by
 have hoc := right_outs hR
 have hac := count_in' hR.acked
 have HCALL := Lib.hid (take_any lo g v1 v2 v3 rows s tag w H hoc)
 have HLOW := Lib.hid H.size
 have HR := Lib.hid hR
 clear H hR hoc
 go_enter Tryz.func47,Tryz.ntmps47
 go_wp2_with fail
 clear ht
 refine HCALL.out.mono ?_
 rintro e W1 h
 rcases h with ⟨hk,rfl,hb⟩ | ⟨k,hk,rfl,v2',h1,hk1,hb1,_,_⟩
 ·have he : ackErr p s tag = 5 := by unfold ackErr; rw [if_neg (by rw [right_iff.2 HR.out]; decide),if_pos hk]
  have HE := Lib.hid he
  have HB := Lib.hid (hb.mono HLOW.out)
  clear hb he hk
  unfold outZ
  go_wp2_with fail
  go_ret
  exact ⟨by rw [HE.out]; rfl,HB.out.alloc (Nat.le_trans HLOW.out HB.out.size) _,fun h => absurd h (by rw [HE.out]; decide)⟩
 ·obtain ⟨he,hS,_⟩ := ack_done HR.out hk
  have HE := Lib.hid (And.intro he hS)
  obtain ⟨W2,hW2⟩ : ∃ W2,W1.alloc (.cells (vOut (outAtK s k)).toArray 77) = W2 := ⟨_,rfl⟩
  have hb2 : Below W1.heap.size W1 W2 := by rw [← hW2]; exact (Below.refl _ _).alloc (Nat.le_refl _) _
  have h2 := h1.since hb2
  have m6 : W2.cell? ⟨g,6,none⟩ = some (.int .i64 s.acked) := h2.box.cell 6
  have z6 := h2.box.frozen 6
  have l6 := h2.box.lt
  obtain ⟨r3,k3,b3⟩ := h2.num 6 (.int .i64 (s.acked + 1)) s.nextSeq s.nextTag s.came (s.acked + 1) s.dropped rfl
  have HF := Lib.hid (And.intro r3 ((hb1.trans (hb2.mono h1.size)).trans b3))
  have hwr : IntKind.i64.wrap (s.acked + 1) = s.acked + 1 := IntWalk.i64_in _ (by omega)
  clear h1 hk1 hb1 hb2 h2 r3 k3 b3 he hS hk
  generalize outAtK s k = x at *
  unfold vOut at *
  go_upto_region 2 with fail
  clear hW2
  go_wp2_with fail
  go_ret
  exact ⟨by rw [HE.out.1]; rfl,HF.out.2,fun _ => ⟨_,_,_,_,by rw [HE.out.2]; exact HF.out.1⟩⟩
theorem eg_ack1 : ∀ args w,(callFunc 47 args).run Tryz.prog w = .ok (.enter 47 args) w := enters_of Tryz.func47 (by kernel_rfl) rfl
theorem ack_turn (p : PlanD) (s : StateD) (tag : Int) : (stateErr p s ≠ 0 → ackS p s tag = zeroS ∧ ackErr p s tag = stateErr p s) ∧ (stateErr p s = 0 → ackErr p s tag = ackErr p s tag ∧ (ackErr p s tag = 0 → ackS p s tag = ackS p s tag) ∧ (ackErr p s tag ≠ 0 → ackS p s tag = zeroS)) := by
 have h0 : ackErr p s tag ≠ 0 → ackS p s tag = zeroS := fun h => by unfold ackS; rw [if_neg h]
 refine ⟨fun h => ?_,fun _ => ⟨rfl,fun _ => rfl,h0⟩⟩
 have e : ackErr p s tag = stateErr p s := by unfold ackErr; rw [if_pos h]
 exact ⟨h0 (by rw [e]; exact h),e⟩
open Go Go.RowKit
set_option maxRecDepth 100000
theorem own_block_lt {w : World} {B : Nat} {e : TypeId} {size n : Nat} {v : Value} {us : List Value} (h : w.ownsRow B e size v n us) : ∀ b,w.heap.size ≤ b → v.ownBlock = none ∨ v.ownBlock ≠ some b := fun b hb => by
 obtain ⟨a,c,rfl,_⟩ := own_slice h
 cases a with
 | none => exact .inl rfl
 | some ad =>
  right
  intro e
  have e2 : ad.block = b := by simpa [Value.ownBlock] using e
  rcases h.2 with ⟨h1,_⟩ | ⟨g,cap,cur,hv,_,hg,_⟩
  ·cases h1
  ·simp only [Value.slice.injEq,Option.some.injEq] at hv
   obtain ⟨rfl,_⟩ := hv
   have := (Array.getElem?_eq_some_iff.1 hg).1
   simp only at e2
   omega
theorem HeldAt.setOut {w : World} {lo : Nat} {v1 v2 v3 : Value} {rows : List RowD} {s : StateD} (h : HeldAt w lo v1 v2 v3 rows s) {b : Nat} {cs : Array Value} (hk : Bk w b 77 cs) (hne : v2.ownBlock = none ∨ v2.ownBlock ≠ some b) (i : Nat) (u : Value) : HeldAt (w.setCell ⟨b,i,none⟩ u) lo v1 v2 v3 rows s :=
 h.outsTo (KeepsT.set hk (ts := [77]) (by decide) i u) (h.outs.kept (gw_one _ _ _ _) hne)
structure BackPre (p : PlanD) (s : StateD) (k q : Nat) (x : OutD) : Prop where
 is_ : outAtK s k = x
 qu : x.queue = (q : Int)
 ql : q < p.queues.length
 len : s.ready.length = p.queues.length
 sorted : (lineAt s q).Pairwise fun x y => x.seq < y.seq
 none : (lineAt s q).any (fun y => decide (y.seq = x.item.seq)) = false
 short : (lineAt s q).length ≤ 100000
 ok : ∀ y ∈ pushL (lineAt s q) (againI x.item),y.key.size ≤ 1048576 ∧ 0 ≤ y.deaths ∧ y.deaths ≤ 2
 dropped : 0 ≤ s.dropped ∧ s.dropped ≤ 1048576
 deaths : 0 ≤ x.item.deaths ∧ x.item.deaths ≤ 2
 key : x.item.key.size ≤ 1048576
theorem back_pre {p : PlanD} {s : StateD} (h : Right p s) {k : Nat} (hk : k < s.outs.length) : ∃ q x,BackPre p s k q x := by
 obtain ⟨h1,h2,h3⟩ := without_near h hk
 obtain ⟨f1,f2,f3,f4⟩ := outK_facts h hk
 have hr := checkP_right h.plan
 obtain ⟨q,hq⟩ := Int.eq_ofNat_of_zero_le f2
 have hql : q < p.queues.length := by omega
 have hqr : ((q : Int)).toNat < s.ready.length := by rw [h.len]; omega
 have hm := lineAt_mem (s := s) (q := (q : Int)) hqr
 have hf := lineFine_iff.1 (h.line _ hm)
 have hlim : ((lineAt s q).length : Int) ≤ p.queues[q].limit := by
  refine h.limit q _ _ ?_ (List.getElem?_eq_getElem hql)
  rw [lineAt_get hqr]
  exact List.getElem?_eq_getElem (by omega)
 have h6 := hr.queue _ (List.getElem_mem hql)
 refine ⟨q,s.outs[k],outAtK_get hk,hq,hql,h.len,hf.2,?_,by omega,fun y hy => ?_,count_in' h.dropped,(item_small f1).2,(item_small f1).1⟩
 ·rw [List.any_eq_false]
  intro y hy he
  apply h2
  unfold seqsS seqsR
  rw [List.mem_append]
  left
  rw [List.mem_flatMap]
  exact ⟨_,hm,List.mem_map.2 ⟨y,hy,by simpa using he⟩⟩
 ·rcases pushL_mem.1 hy with rfl | hy
  ·exact item_small (again_fine f1)
  ·exact item_small (hf.1 y hy)
def VO (x : OutD) (b : Bool) : Array Value := #[.int .i64 x.tag,.int .i64 x.taker,.int .i64 x.queue,.int .i64 x.item.seq,.string x.item.key,.string x.item.body,.bool b,.int .i64 x.item.deaths]
def RejPost (lo g : Nat) (E : Int) (X : StateD) (v2 : Value) (w : World) (e : Ending) (W : World) : Prop :=
 e = .returned (.int .i64 E) ∧ Below lo w W ∧ (E = 0 → ∃ v1 v2' v3 rows,RefAt W lo g v1 v2' v3 rows X ∧ v2'.ownBlock = v2.ownBlock ∧ KO v2 w W)
theorem RejPost.turn {lo g : Nat} {E : Int} {X : StateD} {v2 : Value} {w : World} {e : Ending} {W : World} (h : RejPost lo g E X v2 w e W) : TurnPost lo g E X w e W :=
 ⟨h.1,h.2.1,fun h0 => by obtain ⟨v1,v2',v3,rows,h1,_⟩ := h.2.2 h0; exact ⟨v1,v2',v3,rows,h1⟩⟩
set_option maxHeartbeats 8000000 in
theorem reject_any (lo g : Nat) (p : PlanD) (p1 p2 p3 : Option Addr) (q1 q2 q3 : Nat) (s : StateD) (hR : Right p s) (hps : PlanSmall p) (tag : Int) (back : Bool) (v1 v2 v3 : Value) (rows : List RowD) (w : World) (hp : PlanAt w 0 lo p1 p2 p3 p) (hE : EnvB lo w) (H : RefAt w lo g v1 v2 v3 rows s) :
  Calls Tryz.prog 50 #[.agg #[.slice p1 p.posts.length q1,.slice p2 p.queues.length q2,.slice p3 p.binds.length q3],.pointer (some ⟨g,0,none⟩),.int .i64 tag,.bool back] w (RejPost lo g (rejectErr p s tag) (rejectS p s tag back) v2 w) := by
 have hoc := right_outs hR
 have hlow := H.size
 obtain ⟨W0,hW0⟩ : ∃ W0,w.alloc (.cells #[.slice p1 p.posts.length q1,.slice p2 p.queues.length q2,.slice p3 p.binds.length q3] 26) = W0 := ⟨_,rfl⟩
 have kp : Bk W0 w.heap.size 26 #[.slice p1 p.posts.length q1,.slice p2 p.queues.length q2,.slice p3 p.binds.length q3] := by rw [← hW0]; exact Bk.new _ _ _
 have hb0 : Below w.heap.size w W0 := by rw [← hW0]; exact (Below.refl _ _).alloc (Nat.le_refl _) _
 have hH0 := H.since hb0
 obtain ⟨A1,C1,rfl,_⟩ := own_slice H.held.ready
 obtain ⟨A2,C2,rfl,_⟩ := own_slice H.held.outs
 obtain ⟨A3,C3,rfl,_⟩ := own_slice H.held.takers
 have n0 := hH0.box.cell 0
 have n1 := hH0.box.cell 1
 have n2 := hH0.box.cell 2
 have n3 := hH0.box.cell 3
 have n4 := hH0.box.cell 4
 have n5 := hH0.box.cell 5
 have n6 := hH0.box.cell 6
 have n7 := hH0.box.cell 7
 simp only [ownV,List.getElem?_toArray,List.getElem?_cons_zero,List.getElem?_cons_succ] at n0 n1 n2 n3 n4 n5 n6 n7
 have HPA : Hid (∀ W,Below lo w W → PlanAt W 0 lo p1 p2 p3 p ∧ EnvB lo W) := Lib.hid fun W hW => ⟨hp.below hW (Nat.le_refl _),hE.keep fun p hp => hW.cell hp⟩
 have HH0 := Lib.hid hH0
 have HKP := Lib.hid kp
 have HR := Lib.hid hR
 have HB0 := Lib.hid hb0
 have HLOW := Lib.hid hlow
 have HOC := Lib.hid hoc
 have HPS := Lib.hid hps
 clear hp hE H hH0 kp hb0 hR hlow hoc hps
 go_enter Tryz.func50,Tryz.ntmps50
 go_wp2_with fail
 clear hW0
 refine (Room_any s A1 A2 A3 C1 C2 C3 W0).mono ?_
 rintro e W1 ⟨rfl,hb1⟩
 have HH1 := Lib.hid (HH0.out.since hb1)
 have HB1 := Lib.hid (HB0.out.trans (hb1.mono HB0.out.size))
 have HKP1 := Lib.hid (HKP.out.below hb1 HKP.out.lt)
 clear hb1 n0 n1 n2 n3 n4 n5 n6 n7 HKP HH0
 go_wp2_with fail
 refine (take_any lo g _ _ _ rows s tag W1 HH1.out HOC.out).mono ?_
 rintro e W2 h
 rcases h with ⟨hk,rfl,hb⟩ | ⟨k,hk,rfl,v2',h2,hk2,hb2,hob2,hko2⟩
 ·have he : rejectErr p s tag = 5 := by unfold rejectErr; rw [if_neg (by rw [right_iff.2 HR.out]; decide),if_pos hk]
  have HE := Lib.hid he
  have HB := Lib.hid ((HB1.out.mono HLOW.out).trans (hb.mono HH1.out.size))
  clear hb he hk
  unfold outZ
  go_wp2_with fail
  go_ret
  exact ⟨by rw [HE.out]; rfl,HB.out.alloc (Nat.le_trans HLOW.out HB.out.size) _,fun h => absurd h (by rw [HE.out]; decide)⟩
 ·obtain ⟨hkl,htg,hnt⟩ := outK_some hk
  clear htg hnt
  have HK := Lib.hid hk
  clear hk
  obtain ⟨q,x,hpre⟩ := back_pre HR.out hkl
  have hx := hpre.is_
  have HQU := Lib.hid hpre.qu
  obtain ⟨W3,hW3⟩ : ∃ W3,W2.alloc (.cells (VO (outAtK s k) (outAtK s k).item.again) 77) = W3 := ⟨_,rfl⟩
  have kx3 : Bk W3 W2.heap.size 77 (VO (outAtK s k) (outAtK s k).item.again) := by rw [← hW3]; exact Bk.new _ _ _
  have hb23 : Below W2.heap.size W2 W3 := by rw [← hW3]; exact (Below.refl _ _).alloc (Nat.le_refl _) _
  have h3 := h2.since hb23
  have HB3 := Lib.hid (((HB1.out.mono HLOW.out).trans hb2).trans (hb23.mono h2.size))
  have kp3 := (hk2 _ _ _ (by decide) HKP1.out).below hb23 (hk2 _ _ _ (by decide) HKP1.out).lt
  have HRC := Lib.hid (reject_c HR.out hkl back)
  have HKO3 : Hid (∀ b cs,(Value.slice A2 s.outs.length C2).ownBlock ≠ some b → Bk w b 77 cs → Bk W3 b 77 cs) := Lib.hid fun b cs hne hbk => by
   have h1 := hko2 b cs hne (hbk.below HB1.out hbk.lt)
   exact h1.below hb23 h1.lt
  have HOB2 := Lib.hid hob2
  have HW2 := Lib.hid (Nat.le_trans HB1.out.size (hb2.size))
  have HOB := Lib.hid (own_block_lt h2.held.outs W2.heap.size (Nat.le_refl _))
  have hg23 : g < W2.heap.size := h2.box.lt
  have hg23' : g ≠ W2.heap.size := by omega
  have HG := Lib.hid hg23'
  have HPRE := Lib.hid hpre
  have HH3 := Lib.hid h3
  have HKP3 := Lib.hid kp3
  rw [← outAtK_get hkl] at HRC
  have HXX := Lib.hid hx
  rw [hx] at hW3 kx3 HRC ⊢
  unfold VO at hW3 kx3
  have HKX3 := Lib.hid kx3
  have HLE2 := Lib.hid h2.size
  clear hb2 hk2 h2 h3 kp3 hb23 hpre hg23 hg23' hx hob2 hko2
  unfold vOut
  go_upto_region 3 with fail
  clear hW3 HKP1
  by_cases hsq : s.nextSeq ≤ 524288
  ·have hd : decide (s.nextSeq ≤ 524288) = true := by simp [hsq]
   obtain ⟨he,hS,_⟩ := reject_done HR.out HK.out hsq back
   rw [HXX.out] at hS
   have HE := Lib.hid (And.intro he hS)
   have HSQ := Lib.hid hsq
   clear he hS hsq
   rw [hd]
   obtain ⟨m0,m1,m2⟩ : W3.cell? ⟨w.heap.size,0,none⟩ = some (.slice p1 p.posts.length q1) ∧ W3.cell? ⟨w.heap.size,1,none⟩ = some (.slice p2 p.queues.length q2) ∧ W3.cell? ⟨w.heap.size,2,none⟩ = some (.slice p3 p.binds.length q3) := ⟨HKP3.out.cell 0,HKP3.out.cell 1,HKP3.out.cell 2⟩
   go_wp2_with fail
   refine (Open_any g p p1 p2 p3 q1 q2 q3 W3).mono ?_
   clear m0 m1 m2
   rintro e W4 ⟨rfl,kh4,hb4⟩
   have hb34 := HB3.out.trans (hb4.mono HH3.out.size)
   have h4 := HH3.out.since hb4
   have kx4 := HKX3.out.below hb4 HKX3.out.lt
   have hhn : W3.heap.size + 1 ≠ W2.heap.size := by have := HKX3.out.lt; omega
   obtain ⟨x0,x1,x2,x3,x4,x5,x6,x7,f0,f1,f2,f3,f4,f5,f6,f7,lx⟩ := zero_cells kx4
   rw [HQU.out] at x2
   have HH4 := Lib.hid h4
   have HKX4 := Lib.hid kx4
   have HKH4 := Lib.hid kh4
   have HB4 := Lib.hid hb34
   have HHN := Lib.hid hhn
   have HKO4 : Hid (∀ b cs,(Value.slice A2 s.outs.length C2).ownBlock ≠ some b → Bk w b 77 cs → Bk W4 b 77 cs) := Lib.hid fun b cs hne hbk => by
    have h1 := HKO3.out b cs hne hbk
    exact h1.below hb4 h1.lt
   clear h4 kx4 kh4 hb34 hb4 hhn
   cases back with
   | true =>
    go_upto_region 10 with fail
    obtain ⟨W5,hW5⟩ : ∃ W5,W4.setCell ⟨W2.heap.size,6,none⟩ (.bool true) = W5 := ⟨_,rfl⟩
    have hb5 := HB4.out.setCell (p := ⟨W2.heap.size,6,none⟩) HLE2.out (.bool true)
    have kx5 := HKX4.out.set_ 6 (.bool true)
    have kh5 := HKH4.out.far (p := ⟨W2.heap.size,6,none⟩) HHN.out (.bool true)
    have kb5 := HH4.out.box.far (p := ⟨W2.heap.size,6,none⟩) HG.out (.bool true)
    have he5 := HH4.out.held.setOut HKX4.out HOB.out 6 (.bool true)
    have hko5 : ∀ b cs,(Value.slice A2 s.outs.length C2).ownBlock ≠ some b → Bk w b 77 cs → Bk (W4.setCell ⟨W2.heap.size,6,none⟩ (.bool true)) b 77 cs := fun b cs hne hbk =>
     (HKO4.out b cs hne hbk).far (p := ⟨W2.heap.size,6,none⟩) (by have h1 := hbk.lt; have h2 := HW2.out; show b ≠ W2.heap.size; omega) _
    rw [hW5] at hb5 kx5 kh5 kb5 he5 hko5
    have HKO5 := Lib.hid hko5
    obtain ⟨y0,y1,y2,y3,y4,y5,y6,y7,_,_,_,_,_,_,_,_,_⟩ := zero_cells (show Bk W5 W2.heap.size 77 #[.int .i64 x.tag,.int .i64 x.taker,.int .i64 x.queue,.int .i64 x.item.seq,.string x.item.key,.string x.item.body,.bool true,.int .i64 x.item.deaths] from kx5)
    rw [HQU.out] at y2
    rw [hW5]
    have HB5 := Lib.hid hb5
    have hH5 : HallAt W5 lo g (W3.heap.size + 1) p p1 p2 p3 q1 q2 q3 (.slice A1 s.ready.length C1) v2' (.slice A3 s.takers.length C3) (.slice none 0 0) rows (withoutS s k) [] :=
     ⟨(HPA.out _ hb5).1,(HPA.out _ hb5).2,Nat.le_trans HLOW.out hb5.size,kh5,kb5,he5,World.ownsRow_nil _ _ _ _,HH4.out.gl,Nat.le_trans HLE2.out (by have := HKX3.out.lt; omega)⟩
    have HL := Lib.hid (Lay_any lo g (W3.heap.size + 1) p p1 p2 p3 q1 q2 q3 (checkP_right HR.out.plan) HPS.out _ _ _ _ rows (withoutS s k) [] q (againI x.item) W5 hH5 HPRE.out.ql HPRE.out.len HPRE.out.sorted HPRE.out.none HPRE.out.short HPRE.out.ok (by simp) HPRE.out.dropped)
    unfold vItem againI at HL
    clear hb5 kx5 kh5 kb5 he5 hH5 hW5 hko5 x0 x1 x2 x3 x4 x5 x6 x7 f0 f1 f2 f3 f4 f5 f6 f7 lx
    go_wp2_with fail
    refine HL.out.mono ?_
    rintro e W6 ⟨rfl,wv6,rows6,h6,⟨hb6,ho6⟩⟩
    rw [List.nil_append] at h6
    clear y0 y1 y2 y3 y4 y5 y6 y7
    have hcc : rejectC p s k x true = layP p (withoutS s k) (q : Int) ⟨x.item.seq,x.item.key,x.item.body,true,x.item.deaths⟩ := by unfold rejectC; rw [if_pos rfl,HQU.out]; rfl
    rw [← hcc] at h6
    have HE2 := Lib.hid HE.out.2
    unfold rejectD at HE2
    clear hcc
    generalize rejectC p s k x true = c at *
    have hsq : c.1.nextSeq ≤ 524288 := by rw [HRC.out.seq]; exact HSQ.out
    have HB6 := Lib.hid (HB5.out.trans hb6)
    have HO6 := Lib.hid ho6
    have HST := Lib.hid (Settle_nil lo g (W3.heap.size + 1) p p1 p2 p3 q1 q2 q3 (checkP_right HR.out.plan) HPS.out _ _ _ wv6 rows6 c.1 c.2 W6 h6 HRC.out.hall hsq (Nat.le_trans (show wC (c.1,c.2) ≤ 500 from HRC.out.less) (by decide)))
    clear h6 hb6 hsq ho6
    go_wp2_with fail
    refine HST.out.mono ?_
    rintro e W7 ⟨rfl,wv7,rows7,h7,⟨hb7,ho7⟩⟩
    have HKO7 : Hid (KO (Value.slice A2 s.outs.length C2) w W7) := Lib.hid fun b cs hne hbk => ho7 b cs (HO6.out b cs (HKO5.out b cs hne hbk))
    have HF := Lib.hid (And.intro (HB6.out.trans hb7) (show RefAt W7 lo g _ _ _ rows7 (settleP p c.1 c.2) from ⟨h7.size,h7.box,h7.held,h7.gl⟩))
    clear h7 hb7 ho7
    go_wp2_with fail
    go_ret
    exact ⟨by rw [HE.out.1]; rfl,HF.out.1,fun _ => ⟨_,_,_,rows7,by rw [HE2.out]; exact HF.out.2,HOB2.out,HKO7.out⟩⟩
   | false =>
    have hH5 : HallAt W4 lo g (W3.heap.size + 1) p p1 p2 p3 q1 q2 q3 (.slice A1 s.ready.length C1) v2' (.slice A3 s.takers.length C3) (.slice none 0 0) rows (withoutS s k) [] :=
     ⟨(HPA.out _ HB4.out).1,(HPA.out _ HB4.out).2,Nat.le_trans HLOW.out HB4.out.size,HKH4.out,HH4.out.box,HH4.out.held,World.ownsRow_nil _ _ _ _,HH4.out.gl,Nat.le_trans HLE2.out (by have := HKX3.out.lt; omega)⟩
    have HB5 := HB4
    have HKO5 := HKO4
    have HL := Lib.hid (Die_any lo g (W3.heap.size + 1) p p1 p2 p3 q1 q2 q3 (checkP_right HR.out.plan) HPS.out _ _ _ _ rows (withoutS s k) [] q x.item W4 hH5 HPRE.out.ql HPRE.out.deaths HPRE.out.key (by simp) HPRE.out.dropped)
    unfold vItem at HL
    clear hH5
    go_wp2_with fail
    refine HL.out.mono ?_
    rintro e W6 ⟨rfl,wv6,h6,⟨hb6,ho6⟩⟩
    rw [List.nil_append] at h6
    have rows6 := rows
    clear x0 x1 x2 x3 x4 x5 x6 x7 f0 f1 f2 f3 f4 f5 f6 f7 lx
    have hcc : rejectC p s k x false = ({ withoutS s k with dropped := (withoutS s k).dropped + 1 },dyingP p (q : Int) x.item) := by unfold rejectC; rw [if_neg (by decide),HQU.out]; rfl
    have h6 : HallAt W6 lo g (W3.heap.size + 1) p p1 p2 p3 q1 q2 q3 (.slice A1 s.ready.length C1) v2' (.slice A3 s.takers.length C3) wv6 rows (rejectC p s k x false).1 (rejectC p s k x false).2 := by rw [hcc]; exact h6
    have HE2 := Lib.hid HE.out.2
    unfold rejectD at HE2
    clear hcc
    generalize rejectC p s k x false = c at *
    have hsq : c.1.nextSeq ≤ 524288 := by rw [HRC.out.seq]; exact HSQ.out
    have HB6 := Lib.hid (HB5.out.trans hb6)
    have HO6 := Lib.hid ho6
    have HST := Lib.hid (Settle_nil lo g (W3.heap.size + 1) p p1 p2 p3 q1 q2 q3 (checkP_right HR.out.plan) HPS.out _ _ _ wv6 rows c.1 c.2 W6 h6 HRC.out.hall hsq (Nat.le_trans (show wC (c.1,c.2) ≤ 500 from HRC.out.less) (by decide)))
    clear h6 hb6 hsq ho6
    go_wp2_with fail
    refine HST.out.mono ?_
    rintro e W7 ⟨rfl,wv7,rows7,h7,⟨hb7,ho7⟩⟩
    have HKO7 : Hid (KO (Value.slice A2 s.outs.length C2) w W7) := Lib.hid fun b cs hne hbk => ho7 b cs (HO6.out b cs (HKO5.out b cs hne hbk))
    have HF := Lib.hid (And.intro (HB6.out.trans hb7) (show RefAt W7 lo g _ _ _ rows7 (settleP p c.1 c.2) from ⟨h7.size,h7.box,h7.held,h7.gl⟩))
    clear h7 hb7 ho7
    go_wp2_with fail
    go_ret
    exact ⟨by rw [HE.out.1]; rfl,HF.out.1,fun _ => ⟨_,_,_,rows7,by rw [HE2.out]; exact HF.out.2,HOB2.out,HKO7.out⟩⟩
  ·have hd : decide (s.nextSeq ≤ 524288) = false := by simp; omega
   have he : rejectErr p s tag = 2 := by unfold rejectErr; rw [if_neg (by rw [right_iff.2 HR.out]; decide),HK.out,if_neg (by simp),if_pos (by omega)]
   have HE := Lib.hid he
   clear he hsq
   rw [hd]
   go_wp2_with fail
   go_ret
   exact ⟨by rw [HE.out]; rfl,HB3.out,fun h => absurd h (by rw [HE.out]; decide)⟩
open Go Go.RowKit
set_option maxRecDepth 100000
theorem envb_of {W0 W : World} {lo : Nat} (h : Env W0) (hb : Below W0.heap.size W0 W) (hl : W0.heap.size ≤ lo) : EnvB lo W :=
 have k := (EnvB.mk' h).keep fun p hp => hb.cell hp
 ⟨k.1,Nat.lt_of_lt_of_le k.2 hl⟩
theorem st8 {w : World} {lo hi g : Nat} {a1 a2 a3 : Option Addr} {rows : List RowD} {s : StateD} (h : StateAt w lo hi a1 a2 a3 rows s) (hg : g < lo) (u0 u1 u2 u3 u4 u5 u6 u7 : Value) :
  StateAt ((((((((w.setCell ⟨g,0,none⟩ u0).setCell ⟨g,1,none⟩ u1).setCell ⟨g,2,none⟩ u2).setCell ⟨g,3,none⟩ u3).setCell ⟨g,4,none⟩ u4).setCell ⟨g,5,none⟩ u5).setCell ⟨g,6,none⟩ u6).setCell ⟨g,7,none⟩ u7) lo hi a1 a2 a3 rows s :=
 ((((((((h.away (p := ⟨g,0,none⟩) (.inl hg) u0).away (p := ⟨g,1,none⟩) (.inl hg) u1).away (p := ⟨g,2,none⟩) (.inl hg) u2).away (p := ⟨g,3,none⟩) (.inl hg) u3).away (p := ⟨g,4,none⟩) (.inl hg) u4).away (p := ⟨g,5,none⟩) (.inl hg) u5).away (p := ⟨g,6,none⟩) (.inl hg) u6).away (p := ⟨g,7,none⟩) (.inl hg) u7)
set_option maxHeartbeats 8000000 in
theorem Ack_held (p : PlanD) (s : StateD) (tag : Int) (p1 p2 p3 a1 a2 a3 : Option Addr) (q1 q2 q3 c1 c2 c3 : Nat) (rows : List RowD) (w : World) (hE : Env w) (hp : PlanAt w 0 w.heap.size p1 p2 p3 p) (hps : PlanSmall p) (hs : StateAt w 0 w.heap.size a1 a2 a3 rows s) (hss : StateSmall s) (hsi : StateInts s) :
  Calls Tryz.prog 15 #[planV p p1 p2 p3 q1 q2 q3,stateV s a1 a2 a3 c1 c2 c3,.int .i64 tag] w (StPostC (ackS p s tag) (ackErr p s tag) w) := by
 have hbx := two_boxes q1 q2 q3 c1 c2 c3 hE hp hs 26 31
 unfold vState at hbx
 unfold stateV planV vState
 have HPS := Lib.hid hps
 have HSS := Lib.hid hss
 have HSI := Lib.hid hsi
 have HPQ := Lib.hid hp
 clear hE hp hs hps hss hsi
 obtain ⟨⟨m0,m1,m2⟩,⟨n0,n1,n2,n3,n4,n5,n6,n7⟩,_,_,_,_⟩ := hbx ((((w.alloc (.cells #[.slice p1 p.posts.length q1,.slice p2 p.queues.length q2,.slice p3 p.binds.length q3] 26)).alloc (.cells #[Value.slice a1 s.ready.length c1,Value.slice a2 s.outs.length c2,Value.slice a3 s.takers.length c3,Value.int IntKind.i64 s.nextSeq,Value.int IntKind.i64 s.nextTag,Value.int IntKind.i64 s.came,Value.int IntKind.i64 s.acked,Value.int IntKind.i64 s.dropped] 31)).alloc (.cells #[.int .i64 tag] 3)).alloc (.cells #[.slice none 0 0,.slice none 0 0,.slice none 0 0,.int .i64 0,.int .i64 0,.int .i64 0,.int .i64 0,.int .i64 0] 31)) (((Below.refl _ _).alloc (Nat.le_refl _) _).alloc (by simp) _)
 go_enter Tryz.func15,Tryz.ntmps15
 go_wp2_with fail
 clear m0 m1 m2 n0 n1 n2 n3 n4 n5 n6 n7
 obtain ⟨V2,hV2⟩ : ∃ V2,((w.alloc (.cells #[.slice p1 p.posts.length q1,.slice p2 p.queues.length q2,.slice p3 p.binds.length q3] 26)).alloc (.cells #[Value.slice a1 s.ready.length c1,Value.slice a2 s.outs.length c2,Value.slice a3 s.takers.length c3,Value.int IntKind.i64 s.nextSeq,Value.int IntKind.i64 s.nextTag,Value.int IntKind.i64 s.came,Value.int IntKind.i64 s.acked,Value.int IntKind.i64 s.dropped] 31)) = V2 := ⟨_,rfl⟩
 have hz2 : V2.heap.size = w.heap.size + 1 + 1 := by rw [← hV2]; simp
 rw [hV2] at hbx
 rw [hV2]
 clear hV2
 obtain ⟨U0,hU0⟩ : ∃ U,V2.alloc (.cells #[.int .i64 tag] 3) = U := ⟨_,rfl⟩
 have kb0 : Bk U0 (w.heap.size + 1 + 1) 3 #[.int .i64 tag] := by rw [← hU0]; exact Bk.new_at _ _ _ (by rw [hz2])
 have zu0 : U0.heap.size = w.heap.size + 1 + 1 + 1 := by rw [← hU0]; simp [hz2]
 have bu0 : Below V2.heap.size V2 U0 := by rw [← hU0]; exact (Below.refl _ _).alloc (Nat.le_refl _) _
 rw [hU0]
 obtain ⟨W0,hW0⟩ : ∃ W0,U0.alloc (.cells #[.slice none 0 0,.slice none 0 0,.slice none 0 0,.int .i64 0,.int .i64 0,.int .i64 0,.int .i64 0,.int .i64 0] 31) = W0 := ⟨_,rfl⟩
 have kbz : Bk W0 (w.heap.size + 1 + 1 + 1) 31 zeroCells := by rw [← hW0]; exact Bk.new_at _ _ _ zu0.symm
 have bW : Below U0.heap.size U0 W0 := by rw [← hW0]; exact (Below.refl _ _).alloc (Nat.le_refl _) _
 have HZ0 : Hid (W0.heap.size = w.heap.size + 1 + 1 + 1 + 1) := by refine (?_ : W0.heap.size = _); rw [← hW0,← zu0]; simp
 rw [hW0]
 have HBX : Hid (∀ W,Below W0.heap.size W0 W → CkIn w p s p1 p2 p3 a1 a2 a3 q1 q2 q3 c1 c2 c3 rows W ∧ Bk W (w.heap.size + 1 + 1 + 1) 31 zeroCells ∧ Bk W (w.heap.size + 1 + 1) 3 #[.int .i64 tag]) := Lib.hid fun W hW =>
  ⟨hbx W ((bu0.trans (bW.mono bu0.size)).trans (hW.mono (bu0.trans (bW.mono bu0.size)).size)),kbz.below hW kbz.lt,((kb0.below bW (by rw [zu0]; omega)).below hW (by have := bW.size; rw [zu0] at this; omega))⟩
 clear hbx hz2 hW0 kbz bW kb0 zu0 bu0 hU0
 have HIN := Lib.hid (HBX.out _ (Below.refl _ _)).1
 refine (turned_held p s (ackErr p s tag) (ackS p s tag) 47 #[.pointer (some ⟨w.heap.size + 1 + 1,0,none⟩)] eg_ack1 p1 p2 p3 a1 a2 a3 q1 q2 q3 c1 c2 c3 rows W0 HIN.out.env HIN.out.planAt HPS.out HIN.out.stateAt HSS.out HSI.out (ackS p s tag) (ackErr p s tag) (ack_turn p s tag) (fun hR W lo g v1 v2 v3 rows' hlo hW hr => ackT_any lo g (w.heap.size + 1 + 1) p s hR tag v1 v2 v3 rows' W ((HBX.out _ hW).2.2.cell 0) hr)).mono ?_
 rintro e W1 ⟨b1,b2,b3,d1,d2,d3,rows1,rfl,hs1,hb1⟩
 have HB1 := Lib.hid hb1
 have HS1 := Lib.hid hs1
 clear hb1 hs1
 generalize ackS p s tag = Y at *
 unfold stateV vState
 have hzk := (HBX.out _ HB1.out).2.1
 have HZS := Lib.hid hzk
 unfold zeroCells at hzk
 obtain ⟨k0,k1,k2,k3,k4,k5,k6,k7,f0,f1,f2,f3,f4,f5,f6,f7,hlt⟩ := zero_cells hzk
 clear hzk
 go_wp2_with fail
 refine bodyPost_ret (v := .tuple #[.agg #[.slice b1 Y.ready.length d1,.slice b2 Y.outs.length d2,.slice b3 Y.takers.length d3,.int .i64 Y.nextSeq,.int .i64 Y.nextTag,.int .i64 Y.came,.int .i64 Y.acked,.int .i64 Y.dropped],.int .i64 (ackErr p s tag)]) (by simp [results,Tryz.results15,go_sem,k0,k1,k2,k3,k4,k5,k6,k7,hlt]) rfl ?_
 exact ⟨b1,b2,b3,d1,d2,d3,rows1,rfl,(HS1.out.kept (KeepsT.set8 HZS.out (ts := [31]) (by decide) _ _ _ _ _ _ _ _)).wider (Nat.le_trans (by omega) (Nat.le_of_eq HZ0.out.symm)),below_set8 (HBX.out _ HB1.out).1.below (by omega) _ _ _ _ _ _ _ _⟩
theorem Ack_any (p : PlanD) (s : StateD) (tag : Int) (p1 p2 p3 a1 a2 a3 : Option Addr) (q1 q2 q3 c1 c2 c3 : Nat) (rows : List RowD) (w : World) (hE : Env w) (hp : PlanAt w 0 w.heap.size p1 p2 p3 p) (hps : PlanSmall p) (hs : StateAt w 0 w.heap.size a1 a2 a3 rows s) (hss : StateSmall s) (hsi : StateInts s) :
  Calls Tryz.prog 15 #[planV p p1 p2 p3 q1 q2 q3,stateV s a1 a2 a3 c1 c2 c3,.int .i64 tag] w (StPost (ackS p s tag) (ackErr p s tag) w) :=
 (Ack_held p s tag p1 p2 p3 a1 a2 a3 q1 q2 q3 c1 c2 c3 rows w hE hp hps hs hss hsi).mono fun _ _ h => h.post
theorem rejT_any (lo g pb tb bb : Nat) (p : PlanD) (p1 p2 p3 : Option Addr) (q1 q2 q3 : Nat) (s : StateD) (hR : Right p s) (hps : PlanSmall p) (tag : Int) (back : Bool) (v1 v2 v3 : Value) (rows : List RowD) (w : World) (hp : PlanAt w 0 lo p1 p2 p3 p) (hE : EnvB lo w)
  (hm : w.cell? ⟨pb,0,none⟩ = some (.slice p1 p.posts.length q1) ∧ w.cell? ⟨pb,1,none⟩ = some (.slice p2 p.queues.length q2) ∧ w.cell? ⟨pb,2,none⟩ = some (.slice p3 p.binds.length q3)) (ht : w.cell? ⟨tb,0,none⟩ = some (.int .i64 tag)) (hbk : w.cell? ⟨bb,0,none⟩ = some (.bool back)) (H : RefAt w lo g v1 v2 v3 rows s) :
  Calls Tryz.prog 49 #[.pointer (some ⟨g,0,none⟩),.pointer (some ⟨pb,0,none⟩),.pointer (some ⟨tb,0,none⟩),.pointer (some ⟨bb,0,none⟩)] w (TurnPost lo g (rejectErr p s tag) (rejectS p s tag back) w) := by
 have HCALL := Lib.hid (reject_any lo g p p1 p2 p3 q1 q2 q3 s hR hps tag back v1 v2 v3 rows w hp hE H)
 obtain ⟨m0,m1,m2⟩ := hm
 clear hp hE H hR hps
 go_enter Tryz.func49,Tryz.ntmps49
 go_wp2_with fail
 refine HCALL.out.mono ?_
 intro e W1 hrp
 obtain ⟨rfl,hb1,h1⟩ := hrp.turn
 clear hrp
 have HF := Lib.hid (And.intro hb1 h1)
 clear hb1 h1 m0 m1 m2 ht hbk
 go_wp2_with fail
 go_ret
 exact ⟨rfl,HF.out.1,HF.out.2⟩
theorem eg_rej1 : ∀ args w,(callFunc 49 args).run Tryz.prog w = .ok (.enter 49 args) w := enters_of Tryz.func49 (by kernel_rfl) rfl
theorem rej_turn (p : PlanD) (s : StateD) (tag : Int) (back : Bool) : (stateErr p s ≠ 0 → rejectS p s tag back = zeroS ∧ rejectErr p s tag = stateErr p s) ∧ (stateErr p s = 0 → rejectErr p s tag = rejectErr p s tag ∧ (rejectErr p s tag = 0 → rejectS p s tag back = rejectS p s tag back) ∧ (rejectErr p s tag ≠ 0 → rejectS p s tag back = zeroS)) := by
 have h0 : rejectErr p s tag ≠ 0 → rejectS p s tag back = zeroS := fun h => by unfold rejectS; rw [if_neg h]
 refine ⟨fun h => ?_,fun _ => ⟨rfl,fun _ => rfl,h0⟩⟩
 have e : rejectErr p s tag = stateErr p s := by unfold rejectErr; rw [if_pos h]
 exact ⟨h0 (by rw [e]; exact h),e⟩
set_option maxHeartbeats 8000000 in
theorem Reject_any (p : PlanD) (s : StateD) (tag : Int) (back : Bool) (p1 p2 p3 a1 a2 a3 : Option Addr) (q1 q2 q3 c1 c2 c3 : Nat) (rows : List RowD) (w : World) (hE : Env w) (hp : PlanAt w 0 w.heap.size p1 p2 p3 p) (hps : PlanSmall p) (hs : StateAt w 0 w.heap.size a1 a2 a3 rows s) (hss : StateSmall s) (hsi : StateInts s) :
  Calls Tryz.prog 16 #[planV p p1 p2 p3 q1 q2 q3,stateV s a1 a2 a3 c1 c2 c3,.int .i64 tag,.bool back] w (StPost (rejectS p s tag back) (rejectErr p s tag) w) := by
 have hbx := two_boxes q1 q2 q3 c1 c2 c3 hE hp hs 26 31
 unfold vState at hbx
 unfold stateV planV vState
 have HPS := Lib.hid hps
 have HSS := Lib.hid hss
 have HSI := Lib.hid hsi
 have HPQ := Lib.hid hp
 clear hE hp hs hps hss hsi
 obtain ⟨⟨m0,m1,m2⟩,⟨n0,n1,n2,n3,n4,n5,n6,n7⟩,_,_,_,_⟩ := hbx (((((w.alloc (.cells #[.slice p1 p.posts.length q1,.slice p2 p.queues.length q2,.slice p3 p.binds.length q3] 26)).alloc (.cells #[Value.slice a1 s.ready.length c1,Value.slice a2 s.outs.length c2,Value.slice a3 s.takers.length c3,Value.int IntKind.i64 s.nextSeq,Value.int IntKind.i64 s.nextTag,Value.int IntKind.i64 s.came,Value.int IntKind.i64 s.acked,Value.int IntKind.i64 s.dropped] 31)).alloc (.cells #[.int .i64 tag] 3)).alloc (.cells #[.bool back] 4)).alloc (.cells #[.slice none 0 0,.slice none 0 0,.slice none 0 0,.int .i64 0,.int .i64 0,.int .i64 0,.int .i64 0,.int .i64 0] 31)) ((((Below.refl _ _).alloc (Nat.le_refl _) _).alloc (by simp) _).alloc (by simp) _)
 go_enter Tryz.func16,Tryz.ntmps16
 go_wp2_with fail
 clear m0 m1 m2 n0 n1 n2 n3 n4 n5 n6 n7
 obtain ⟨V2,hV2⟩ : ∃ V2,((w.alloc (.cells #[.slice p1 p.posts.length q1,.slice p2 p.queues.length q2,.slice p3 p.binds.length q3] 26)).alloc (.cells #[Value.slice a1 s.ready.length c1,Value.slice a2 s.outs.length c2,Value.slice a3 s.takers.length c3,Value.int IntKind.i64 s.nextSeq,Value.int IntKind.i64 s.nextTag,Value.int IntKind.i64 s.came,Value.int IntKind.i64 s.acked,Value.int IntKind.i64 s.dropped] 31)) = V2 := ⟨_,rfl⟩
 have hz2 : V2.heap.size = w.heap.size + 1 + 1 := by rw [← hV2]; simp
 rw [hV2] at hbx
 rw [hV2]
 clear hV2
 obtain ⟨U0,hU0⟩ : ∃ U,V2.alloc (.cells #[.int .i64 tag] 3) = U := ⟨_,rfl⟩
 have kb0 : Bk U0 (w.heap.size + 1 + 1) 3 #[.int .i64 tag] := by rw [← hU0]; exact Bk.new_at _ _ _ (by rw [hz2])
 have zu0 : U0.heap.size = w.heap.size + 1 + 1 + 1 := by rw [← hU0]; simp [hz2]
 have bu0 : Below V2.heap.size V2 U0 := by rw [← hU0]; exact (Below.refl _ _).alloc (Nat.le_refl _) _
 rw [hU0]
 obtain ⟨U1,hU1⟩ : ∃ U,U0.alloc (.cells #[.bool back] 4) = U := ⟨_,rfl⟩
 have kb1 : Bk U1 (w.heap.size + 1 + 1 + 1) 4 #[.bool back] := by rw [← hU1]; exact Bk.new_at _ _ _ (by rw [zu0])
 have zu1 : U1.heap.size = w.heap.size + 1 + 1 + 1 + 1 := by rw [← hU1]; simp [zu0]
 have bu1 : Below U0.heap.size U0 U1 := by rw [← hU1]; exact (Below.refl _ _).alloc (Nat.le_refl _) _
 rw [hU1]
 obtain ⟨W0,hW0⟩ : ∃ W0,U1.alloc (.cells #[.slice none 0 0,.slice none 0 0,.slice none 0 0,.int .i64 0,.int .i64 0,.int .i64 0,.int .i64 0,.int .i64 0] 31) = W0 := ⟨_,rfl⟩
 have kbz : Bk W0 (w.heap.size + 1 + 1 + 1 + 1) 31 zeroCells := by rw [← hW0]; exact Bk.new_at _ _ _ zu1.symm
 have bW : Below U1.heap.size U1 W0 := by rw [← hW0]; exact (Below.refl _ _).alloc (Nat.le_refl _) _
 have HZ0 : Hid (W0.heap.size = w.heap.size + 1 + 1 + 1 + 1 + 1) := by refine (?_ : W0.heap.size = _); rw [← hW0,← zu1]; simp
 rw [hW0]
 have HBX : Hid (∀ W,Below W0.heap.size W0 W → CkIn w p s p1 p2 p3 a1 a2 a3 q1 q2 q3 c1 c2 c3 rows W ∧ Bk W (w.heap.size + 1 + 1 + 1 + 1) 31 zeroCells ∧ Bk W (w.heap.size + 1 + 1) 3 #[.int .i64 tag] ∧ Bk W (w.heap.size + 1 + 1 + 1) 4 #[.bool back]) := Lib.hid fun W hW =>
  ⟨hbx W (((bu0.trans (bu1.mono bu0.size)).trans (bW.mono (bu0.trans (bu1.mono bu0.size)).size)).trans (hW.mono ((bu0.trans (bu1.mono bu0.size)).trans (bW.mono (bu0.trans (bu1.mono bu0.size)).size)).size)),kbz.below hW kbz.lt,(((kb0.below bu1 (by rw [zu0]; omega)).below bW (by rw [zu1]; omega)).below hW (by have := bW.size; rw [zu1] at this; omega)),((kb1.below bW (by rw [zu1]; omega)).below hW (by have := bW.size; rw [zu1] at this; omega))⟩
 clear hbx hz2 hW0 kbz bW kb0 zu0 bu0 hU0 kb1 zu1 bu1 hU1
 have HIN := Lib.hid (HBX.out _ (Below.refl _ _)).1
 refine (turned_any p s (rejectErr p s tag) (rejectS p s tag back) 49 #[.pointer (some ⟨w.heap.size,0,none⟩),.pointer (some ⟨w.heap.size + 1 + 1,0,none⟩),.pointer (some ⟨w.heap.size + 1 + 1 + 1,0,none⟩)] eg_rej1 p1 p2 p3 a1 a2 a3 q1 q2 q3 c1 c2 c3 rows W0 HIN.out.env HIN.out.planAt HPS.out HIN.out.stateAt HSS.out HSI.out (rejectS p s tag back) (rejectErr p s tag) (rej_turn p s tag back) (fun hR W lo g v1 v2 v3 rows' hlo hW hr => rejT_any lo g w.heap.size (w.heap.size + 1 + 1) (w.heap.size + 1 + 1 + 1) p p1 p2 p3 q1 q2 q3 s hR HPS.out tag back v1 v2 v3 rows' W ((HPQ.out.below (HBX.out _ hW).1.below (Nat.le_refl _)).wider (Nat.le_refl _) (Nat.le_trans (HBX.out _ (Below.refl _ _)).1.below.size hlo)) (envb_of (HIN.out.env) hW hlo) (HBX.out _ hW).1.plan ((HBX.out _ hW).2.2.1.cell 0) ((HBX.out _ hW).2.2.2.cell 0) hr)).mono ?_
 rintro e W1 ⟨b1,b2,b3,d1,d2,d3,rows1,rfl,hs1,hb1⟩
 have HB1 := Lib.hid hb1
 have HS1 := Lib.hid hs1
 clear hb1 hs1
 generalize rejectS p s tag back = Y at *
 unfold stateV vState
 have hzk := (HBX.out _ HB1.out).2.1
 unfold zeroCells at hzk
 obtain ⟨k0,k1,k2,k3,k4,k5,k6,k7,f0,f1,f2,f3,f4,f5,f6,f7,hlt⟩ := zero_cells hzk
 clear hzk
 go_wp2_with fail
 refine bodyPost_ret (v := .tuple #[.agg #[.slice b1 Y.ready.length d1,.slice b2 Y.outs.length d2,.slice b3 Y.takers.length d3,.int .i64 Y.nextSeq,.int .i64 Y.nextTag,.int .i64 Y.came,.int .i64 Y.acked,.int .i64 Y.dropped],.int .i64 (rejectErr p s tag)]) (by simp [results,Tryz.results16,go_sem,k0,k1,k2,k3,k4,k5,k6,k7,hlt]) rfl ?_
 exact ⟨b1,b2,b3,d1,d2,d3,rows1,rfl,(st8 HS1.out (show w.heap.size + 1 + 1 + 1 + 1 < W0.heap.size by rw [HZ0.out]; omega) _ _ _ _ _ _ _ _).wider (Nat.le_trans (by omega) (Nat.le_of_eq HZ0.out.symm)) (by simp),below_set8 (HBX.out _ HB1.out).1.below (by omega) _ _ _ _ _ _ _ _⟩
end Go.Proofs.YtaanpcjkflhomaaGreatDoor
