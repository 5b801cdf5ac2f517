/-
  The plain law of acts: what each does, and what holds behind it. No program in sight.
-/
import Derived.Test.YtaanpcjkflhomaaGreatDoorHandP
import Derived.Test.YtaanpcjkflhomaaGreatDoorBunCA
set_option linter.unusedSimpArgs false
set_option linter.unusedVariables false
namespace Go.Proofs.YtaanpcjkflhomaaGreatDoor
def doErr (p : PlanD) (s : StateD) (x : ActD) : Int :=
 if x.kind = 1 then publishErr p s x.a x.key x.body else if x.kind = 2 then joinErr p s x.a x.b else if x.kind = 3 then leaveErr p s x.a else if x.kind = 4 then deliverErr p s x.a else if x.kind = 5 then ackErr p s x.a else if x.kind = 6 then rejectErr p s x.a else 7
def doS (p : PlanD) (s : StateD) (x : ActD) : StateD :=
 if x.kind = 1 then publishS p s x.a x.key x.body else if x.kind = 2 then joinS p s x.a x.b else if x.kind = 3 then leaveS p s x.a else if x.kind = 4 then deliverS p s x.a else if x.kind = 5 then ackS p s x.a else if x.kind = 6 then rejectS p s x.a (x.b != 0) else zeroS
structure DoneOk (p : PlanD) (s x : StateD) : Prop where
 was : Right p s
 right : Right p x
 came : s.came ≤ x.came
 acked : s.acked ≤ x.acked
 dropped : s.dropped ≤ x.dropped
 tag : s.nextTag ≤ x.nextTag
theorem publish_done {p : PlanD} {s : StateD} {x : Int} {key body : ByteArray} (h : publishErr p s x key body = 0) : DoneOk p s (publishS p s x key body) := by
 have hr := publish_right h
 obtain ⟨h0,_,_,h4⟩ := publish_ok h
 have hR := right_iff.1 h0
 obtain ⟨n,h5,h6,h7⟩ := arrive_kept h4
 have e : publishS p s x key body = arriveS p s (pubL p x key body) := by unfold publishS; rw [if_pos h]
 rw [e] at hr ⊢
 have e1 := h6.seq
 have e2 := h7.dropped
 have e3 := hr.same
 have e4 := hR.same
 simp only at e1 e2
 exact ⟨hR,hr,by omega,Int.le_of_eq h7.acked.symm,e2,Int.le_of_eq h7.tag.symm⟩
theorem join_done {p : PlanD} {s : StateD} {q m : Int} (h : joinErr p s q m = 0) : DoneOk p s (joinS p s q m) := by
 obtain ⟨ha,_,_⟩ := join_ok.1 h
 obtain ⟨hR,_,_⟩ := ask_ok.1 ha
 have hr := join_right h
 have e : joinS p s q m = { s with takers := joinL s.takers ⟨q,m⟩ } := by unfold joinS; rw [if_pos h]
 rw [e] at hr ⊢
 exact ⟨hR,hr,Int.le_refl _,Int.le_refl _,Int.le_refl _,Int.le_refl _⟩
theorem leave_done {p : PlanD} {s : StateD} {t : Int} (h : leaveErr p s t = 0) : DoneOk p s (leaveS p s t) := by
 have hl := leave_left h
 exact ⟨(leave_ok h).1,hl.right,hl.came,Int.le_of_eq hl.acked.symm,hl.dropped,Int.le_of_eq hl.tag.symm⟩
theorem deliver_done' {p : PlanD} {s : StateD} {q : Int} (h : deliverErr p s q = 0) : DoneOk p s (deliverS p s q) := by
 obtain ⟨i,_,_,_,e,hr⟩ := deliver_right h
 obtain ⟨h0,_⟩ := deliver_ok.1 h
 obtain ⟨h1,_,_⟩ := next_ok.1 h0
 obtain ⟨hR,_,_⟩ := ask_ok.1 h1
 rw [e]
 exact ⟨hR,hr,Int.le_refl _,Int.le_refl _,Int.le_refl _,by show s.nextTag ≤ s.nextTag + 1; omega⟩
theorem ack_done' {p : PlanD} {s : StateD} {t : Int} (h : ackErr p s t = 0) : DoneOk p s (ackS p s t) := by
 obtain ⟨hR,k,hk⟩ := ack_ok.1 h
 obtain ⟨_,e,hr⟩ := ack_done hR hk
 rw [e] at hr ⊢
 exact ⟨hR,hr,Int.le_refl _,by show s.acked ≤ s.acked + 1; omega,Int.le_refl _,Int.le_refl _⟩
theorem reject_done' {p : PlanD} {s : StateD} {t : Int} {b : Bool} (h : rejectErr p s t = 0) : DoneOk p s (rejectS p s t b) := by
 obtain ⟨hR,⟨k,hk⟩,hs⟩ := reject_ok.1 h
 obtain ⟨_,_,hd⟩ := reject_done hR hk hs b
 exact ⟨hR,hd.right,hd.came,Int.le_of_eq hd.acked.symm,hd.dropped,Int.le_of_eq hd.tag.symm⟩
theorem do_done {p : PlanD} {s : StateD} {x : ActD} (h : doErr p s x = 0) : DoneOk p s (doS p s x) := by
 unfold doErr at h
 unfold doS
 split at h
 ·rename_i h1; rw [if_pos h1]; exact publish_done h
 rename_i h1; rw [if_neg h1]
 split at h
 ·rename_i h2; rw [if_pos h2]; exact join_done h
 rename_i h2; rw [if_neg h2]
 split at h
 ·rename_i h3; rw [if_pos h3]; exact leave_done h
 rename_i h3; rw [if_neg h3]
 split at h
 ·rename_i h4; rw [if_pos h4]; exact deliver_done' h
 rename_i h4; rw [if_neg h4]
 split at h
 ·rename_i h5; rw [if_pos h5]; exact ack_done' h
 rename_i h5; rw [if_neg h5]
 split at h
 ·rename_i h6; rw [if_pos h6]; exact reject_done' h
 ·cases h
end Go.Proofs.YtaanpcjkflhomaaGreatDoor
