/-
  The plain law of the book: a queue is emptied, letter by letter. No program in sight.
  Walk of book.Drain, its start: what it asks, who has the queue, the taker that joins.
  Walk of book.Drain.
-/
import Derived.Test.YtaanpcjkflhomaaGreatDoorBunCA
import Derived.Test.YtaanpcjkflhomaaGreatDoorBunJ
set_option linter.unusedSimpArgs false
set_option linter.unusedVariables false
namespace Go.Proofs.YtaanpcjkflhomaaGreatDoor
theorem pass_on {p : PlanD} {s : StateD} {q : Int} (h : deliverErr p s q = 0) :
  ∃ (k : Nat) (x : ItemD) (rest : List ItemD),q = (k : Int) ∧ k < s.ready.length ∧ s.ready[k]? = some (x :: rest) ∧ headAt s q = x ∧ ackErr p (deliverS p s q) (deliverT p s q) = 0 ∧
   ackS p (deliverS p s q) (deliverT p s q) = { s with ready := s.ready.set k rest,nextTag := s.nextTag + 1,acked := s.acked + 1 } ∧
   Right p { s with ready := s.ready.set k rest,nextTag := s.nextTag + 1,acked := s.acked + 1 } := by
 obtain ⟨i,hb,he,_,e,hR1⟩ := deliver_right h
 obtain ⟨h0,ht⟩ := deliver_ok.1 h
 obtain ⟨r,hl,hr⟩ := line_head h0
 obtain ⟨h1,_,_⟩ := next_ok.1 h0
 obtain ⟨hR,hq0,hq1⟩ := ask_ok.1 h1
 obtain ⟨k,rfl⟩ := Int.eq_ofNat_of_zero_le hq0
 rw [Int.toNat_natCast] at hr
 have hkr : k < s.ready.length := (List.getElem?_eq_some_iff.1 hr).1
 have eT : deliverT p s (k : Int) = s.nextTag := by unfold deliverT; rw [if_pos h]
 rw [e,eT]
 have hk1 : outK (givenS s (k : Int) i) s.nextTag = some s.outs.length := by
  refine outK_at (by unfold givenS; simp) (by unfold givenS; simp) (fun j hj => ?_)
  have : (givenS s (k : Int) i).outs[j]'(by unfold givenS; simp; omega) = s.outs[j] := by unfold givenS; simp [List.getElem_append_left hj]
  rw [this]
  have := (outK_facts hR hj).2.2.2
  omega
 obtain ⟨e1,e2,e3⟩ := ack_done hR1 hk1
 have ew : withoutS (givenS s (k : Int) i) s.outs.length = { s with ready := s.ready.set k r,nextTag := s.nextTag + 1 } := by
  unfold withoutS givenS
  rw [List.eraseIdx_append_of_length_le (Nat.le_refl _),Nat.sub_self,hl,Int.toNat_natCast]
  simp
 have ea : ackS p (givenS s (k : Int) i) s.nextTag = { s with ready := s.ready.set k r,nextTag := s.nextTag + 1,acked := s.acked + 1 } := by
  rw [e2,ew]
  rfl
 rw [ea] at e3
 exact ⟨k,_,r,rfl,hkr,hr,rfl,e1,ea,e3⟩
def qTaken (s : StateD) (q : Int) : Bool := s.takers.any fun t => decide (t.queue = q)
def drainC (s : StateD) (q : Int) (i : Nat) : StateD :=
 { s with takers := joinL s.takers ⟨q,1⟩,ready := s.ready.set q.toNat ((lineAt s q).drop i),nextTag := s.nextTag + i,acked := s.acked + i }
def drainErr (p : PlanD) (s : StateD) (q : Int) : Int :=
 if askErr p s q ≠ 0 then askErr p s q else if qTaken s q = true then 9 else if joinErr p s q 1 ≠ 0 then joinErr p s q 1 else if 1048576 < s.nextTag + (lineAt s q).length then 2 else 0
def drainS (p : PlanD) (s : StateD) (q : Int) : StateD :=
 if drainErr p s q = 0 then { drainC s q (lineAt s q).length with takers := joinL s.takers ⟨-1,1⟩ } else zeroS
def drainL (p : PlanD) (s : StateD) (q : Int) : List ByteArray := if drainErr p s q = 0 then (lineAt s q).map (·.body) else []
theorem line_get {p : PlanD} {s : StateD} (h : Right p s) {k : Nat} (hk : (k : Int) < (p.queues.length : Int)) : ∃ hk : k < s.ready.length,lineAt s (k : Int) = s.ready[k] := by
 have hl := h.len
 refine ⟨by omega,?_⟩
 unfold lineAt
 rw [Int.toNat_natCast,List.getElem?_eq_getElem (by omega)]
 rfl
theorem drainC_zero {p : PlanD} {s : StateD} {k : Nat} (h : joinErr p s (k : Int) 1 = 0) : drainC s (k : Int) 0 = joinS p s (k : Int) 1 := by
 obtain ⟨ha,_,_⟩ := join_ok.1 h
 obtain ⟨hR,_,hq⟩ := ask_ok.1 ha
 obtain ⟨hk,e⟩ := line_get hR hq
 unfold drainC joinS
 rw [if_pos h,e,Int.toNat_natCast,List.drop_zero,List.set_getElem_self]
 simp
theorem drainC_line {p : PlanD} {s : StateD} (h : Right p s) {k : Nat} (hk : (k : Int) < (p.queues.length : Int)) (i : Nat) : lineAt (drainC s (k : Int) i) (k : Int) = (lineAt s (k : Int)).drop i := by
 obtain ⟨hk,_⟩ := line_get h hk
 show (((s.ready.set (k : Int).toNat _)[(k : Int).toNat]?).getD []) = _
 rw [Int.toNat_natCast,List.getElem?_set_self hk]
 rfl
theorem drainC_elig {p : PlanD} {s : StateD} {k : Nat} (h : joinErr p s (k : Int) 1 = 0) (i : Nat) : Elig (drainC s (k : Int) i) (k : Int) (joinI s.takers) := by
 obtain ⟨ha,_,_⟩ := join_ok.1 h
 obtain ⟨hR,_,_⟩ := ask_ok.1 ha
 refine ⟨⟨k,1⟩,?_,rfl,?_⟩
 ·show (joinL s.takers _)[joinI s.takers]? = _
  rw [joinL_at,if_pos rfl]
 ·have : heldS s (joinI s.takers) = 0 := held_gone hR.toFormed fun t ht => joinI_gone ht
  show ((heldS s (joinI s.takers) : Nat) : Int) < 1
  omega
theorem drain_step {p : PlanD} {s : StateD} {k : Nat} (h : joinErr p s (k : Int) 1 = 0) {i : Nat} (hi : i < (lineAt s (k : Int)).length) (hR : Right p (drainC s (k : Int) i)) :
  (s.nextTag + i = 1048576 → deliverErr p (drainC s (k : Int) i) (k : Int) = 2) ∧
  (s.nextTag + i ≠ 1048576 → deliverErr p (drainC s (k : Int) i) (k : Int) = 0 ∧ headAt (drainC s (k : Int) i) (k : Int) = (lineAt s (k : Int))[i] ∧
   ackErr p (deliverS p (drainC s (k : Int) i) (k : Int)) (deliverT p (drainC s (k : Int) i) (k : Int)) = 0 ∧
   ackS p (deliverS p (drainC s (k : Int) i) (k : Int)) (deliverT p (drainC s (k : Int) i) (k : Int)) = drainC s (k : Int) (i + 1) ∧ Right p (drainC s (k : Int) (i + 1))) := by
 obtain ⟨ha,_,_⟩ := join_ok.1 h
 obtain ⟨hR0,_,hq⟩ := ask_ok.1 ha
 have hline := drainC_line hR0 hq i
 have hd : (lineAt s (k : Int)).drop i = (lineAt s (k : Int))[i] :: (lineAt s (k : Int)).drop (i + 1) := List.drop_eq_getElem_cons hi
 have hn : nextErr p (drainC s (k : Int) i) (k : Int) = 0 := by
  refine next_ok.2 ⟨ask_ok.2 ⟨hR,by omega,hq⟩,by rw [hline,List.length_drop]; omega,?_⟩
  unfold bestN
  rcases bestAt_spec hR (k : Int) (drainC s (k : Int) i).takers.length with ⟨_,hno⟩ | ⟨j,_,e,_⟩
  ·exact absurd (drainC_elig h i) (hno _ (drainC_elig h i).lt)
  ·rw [e]
   show ¬ ((j : Nat) : Int) < 0
   omega
 refine ⟨fun ht => ?_,fun ht => ?_⟩
 ·unfold deliverErr
  rw [if_neg (by rw [hn]; decide),if_pos (show (drainC s (k : Int) i).nextTag = 1048576 from ht)]
 ·have h0 : deliverErr p (drainC s (k : Int) i) (k : Int) = 0 := deliver_ok.2 ⟨hn,ht⟩
  obtain ⟨k',x,r,hk,hkr,hr,hx,e1,e2,e3⟩ := pass_on h0
  have hk' : k' = k := by omega
  subst hk'
  have hl2 : lineAt (drainC s (k' : Int) i) (k' : Int) = x :: r := by unfold lineAt; rw [Int.toNat_natCast,hr]; rfl
  rw [hline,hd] at hl2
  obtain ⟨rfl,rfl⟩ := List.cons.inj hl2
  have e4 : ({ drainC s (k' : Int) i with ready := (drainC s (k' : Int) i).ready.set k' ((lineAt s (k' : Int)).drop (i + 1)),nextTag := (drainC s (k' : Int) i).nextTag + 1,acked := (drainC s (k' : Int) i).acked + 1 } : StateD) = drainC s (k' : Int) (i + 1) := by
   unfold drainC
   simp only [Int.toNat_natCast,List.set_set]
   congr 1 <;> omega
  rw [e4] at e2 e3
  exact ⟨h0,hx,e1,e2,e3⟩
theorem drainC_right {p : PlanD} {s : StateD} {k : Nat} (h : joinErr p s (k : Int) 1 = 0) : ∀ i : Nat,i ≤ (lineAt s (k : Int)).length → s.nextTag + i ≤ 1048576 → Right p (drainC s (k : Int) i)
 | 0,_,_ => by rw [drainC_zero h]; exact join_right h
 | i + 1,hi,ht => ((drain_step h (by omega) (drainC_right h i (by omega) (by omega))).2 (by omega)).2.2.2.2
theorem drain_ok {p : PlanD} {s : StateD} {q : Int} : drainErr p s q = 0 ↔ joinErr p s q 1 = 0 ∧ qTaken s q = false ∧ s.nextTag + (lineAt s q).length ≤ 1048576 := by
 unfold drainErr
 split
 ·rename_i h
  exact ⟨fun e => absurd e h,fun e => absurd (join_ok.1 e.1).1 h⟩
 ·split
  ·rename_i h
   exact ⟨fun e => (by cases e),fun e => (by rw [e.2.1] at h; cases h)⟩
  ·rename_i h1
   split
   ·rename_i h
    exact ⟨fun e => absurd e h,fun e => absurd e.1 h⟩
   ·rename_i h2
    split
    ·exact ⟨fun e => (by cases e),fun e => (by omega)⟩
    ·exact ⟨fun _ => ⟨by omega,by simpa using h1,by omega⟩,fun _ => rfl⟩
open Go Go.RowKit
set_option maxRecDepth 100000
theorem eg_drain1 : ∀ args w,(callFunc 64 args).run Tryz.prog w = .ok (.enter 64 args) w := enters_of Tryz.func64 (by kernel_rfl) rfl
theorem drain1_any (t : TakerD) (q : Int) (b : Nat) (w : World) (hq : w.cell? ⟨b,0,none⟩ = some (.int .i64 q)) (hb : b < w.heap.size) : Calls Tryz.prog 64 #[.agg (vTaker t).toArray,.pointer (some ⟨b,0,none⟩)] w fun e w' => e = .returned (.bool (decide (t.queue = q))) ∧ Below w.heap.size w w' := by
 have hb2 := (Below.refl w.heap.size w).alloc (Nat.le_refl _) (.cells #[.int .i64 t.queue,.int .i64 t.atOnce] 79)
 have hq2 := (hb2.cell (p := ⟨b,0,none⟩) hb).trans hq
 clear hq
 unfold vTaker
 go_enter Tryz.func64,Tryz.ntmps64
 go_wp2_with fail
 go_ret
 exact ⟨rfl,hb2⟩
theorem HeldAt.takerQ {w : World} {lo g C k N : Nat} {v1 v2 : Value} {rows : List RowD} {s : StateD} (h : HeldAt w lo v1 v2 (.slice (some ⟨g,0,none⟩) N C) rows s) (hN : N = s.takers.length) {t : TakerD} (hk : s.takers[k]? = some t) (q : Int) :
  HeldAt (w.setCell ⟨g,k * 2,none⟩ (.int .i64 q)) lo v1 v2 (.slice (some ⟨g,0,none⟩) N C) rows { s with takers := s.takers.set k ⟨q,t.atOnce⟩ } ∧ KeepsT [79] w (w.setCell ⟨g,k * 2,none⟩ (.int .i64 q)) := by
 subst hN
 obtain ⟨hkl,rfl⟩ := List.getElem?_eq_some_iff.1 hk
 have hst := h.takers.stored (k * 2) (.int .i64 q)
 have hkp : KeepsT [79] w (w.setCell ⟨g,k * 2,none⟩ (.int .i64 q)) := KeepsT.grown h.takers hst.2 (by decide)
 refine ⟨⟨h.same,own_keepT h.ready hkp (by decide),fun r hr => ⟨(h.row r hr).1.keep hkp (by decide),(h.row r hr).2⟩,own_keepT h.outs hkp (by decide),?_⟩,hkp⟩
 have h3 := hst.1
 have e : (s.takers.flatMap vTaker).set (k * 2) (.int .i64 q) = (s.takers.set k ⟨q,s.takers[k].atOnce⟩).flatMap vTaker := by
  have h4 := flat_taker s.takers k hkl q s.takers[k].atOnce
  rw [← h4]
  have h5 : ((s.takers.flatMap vTaker).set (k * 2) (.int .i64 q))[k * 2 + 1]? = some (.int .i64 s.takers[k].atOnce) := by
   rw [List.getElem?_set_ne (by omega)]
   exact (flat_get vTaker_len _ k hkl 1 (by decide)).trans rfl
  obtain ⟨h6,h7⟩ := List.getElem?_eq_some_iff.1 h5
  rw [← h7,List.set_getElem_self h6]
 rw [e] at h3
 show World.ownsRow _ _ _ _ _ (s.takers.set k _).length _
 rw [List.length_set]
 exact h3
theorem joinL_set (l : List TakerD) (t u : TakerD) : (joinL l t).set (joinI l) u = joinL l u := by
 unfold joinL joinI
 cases goneK l with
 | some k => simp
 | none => simp
open Go Go.RowKit
set_option maxRecDepth 100000
def DrPost (x : StateD) (l : List ByteArray) (err : Int) (w : World) (e : Ending) (w' : World) : Prop :=
 ∃ a1 a2 a3 c1 c2 c3 rows al cl,e = .returned (.tuple #[stateV x a1 a2 a3 c1 c2 c3,.slice al l.length cl,.int .i64 err]) ∧ StateAt w' w.heap.size w'.heap.size a1 a2 a3 rows x ∧ Sl w' w.heap.size w'.heap.size al (l.map Value.string) ∧ Below w.heap.size w w'
theorem drain_err {p : PlanD} {s : StateD} {q : Int} {err : Int} (h : drainErr p s q = err) (h0 : err ≠ 0) : drainS p s q = zeroS ∧ drainL p s q = [] ∧ drainErr p s q = err :=
 ⟨by unfold drainS; rw [if_neg (by rw [h]; exact h0)],by unfold drainL; rw [if_neg (by rw [h]; exact h0)],h⟩
theorem dr_zero {p : PlanD} {s : StateD} {q : Int} {err : Int} (h : drainErr p s q = err) (h0 : err ≠ 0) (w W : World) (hb : Below w.heap.size w W) : DrPost (drainS p s q) (drainL p s q) (drainErr p s q) w (.returned (.tuple #[stateV zeroS none none none 0 0 0,.slice none 0 0,.int .i64 err])) W := by
 obtain ⟨h1,h2,h3⟩ := drain_err h h0
 rw [h1,h2,h3]
 exact ⟨none,none,none,0,0,0,[],none,0,rfl,zero_at _ _ _,Sl.nil _ _ _ _,hb⟩
def DnRel (p : PlanD) (s : StateD) (k : Nat) (G lo : Nat) (W0 : World) (l e : Value) (wr : World) : Prop :=
 (∃ (i : Nat) (b1 b2 b3 : Option Addr) (d1 d2 d3 : Nat) (rows : List RowD),i ≤ (lineAt s (k : Int)).length ∧ s.nextTag + i ≤ 1048576 ∧ e = .int .i64 0 ∧ Bk wr G 31 (vState (drainC s (k : Int) i) b1 b2 b3 d1 d2 d3) ∧
  HeldAt wr lo (.slice b1 (drainC s (k : Int) i).ready.length d1) (.slice b2 (drainC s (k : Int) i).outs.length d2) (.slice b3 (drainC s (k : Int) i).takers.length d3) rows (drainC s (k : Int) i) ∧
  wr.ownsRow lo 9 1 l i (((lineAt s (k : Int)).take i).map fun x => Value.string x.body) ∧ Below W0.heap.size W0 wr) ∨
 (1048576 < s.nextTag + (lineAt s (k : Int)).length ∧ e = .int .i64 2 ∧ (∃ v,Bk wr G 31 v) ∧ Below W0.heap.size W0 wr)
def dnM (s : StateD) (k : Nat) (l e : Value) : Nat := match e with
 | .int _ 0 => (match l with | .slice _ n _ => (lineAt s (k : Int)).length + 1 - n | _ => 0)
 | _ => 0
theorem Bk.put8 {w : World} {g : Nat} {t : TypeId} {v0 v1 v2 v3 v4 v5 v6 v7 : Value} (h : Bk w g t #[v0,v1,v2,v3,v4,v5,v6,v7]) (u0 u1 u2 u3 u4 u5 u6 u7 : Value) : Bk ((((((((w.setCell ⟨g,0,none⟩ u0).setCell ⟨g,1,none⟩ u1).setCell ⟨g,2,none⟩ u2).setCell ⟨g,3,none⟩ u3).setCell ⟨g,4,none⟩ u4).setCell ⟨g,5,none⟩ u5).setCell ⟨g,6,none⟩ u6).setCell ⟨g,7,none⟩ u7) g t #[u0,u1,u2,u3,u4,u5,u6,u7] := by
 have := (((((((h.set_ 0 u0).set_ 1 u1).set_ 2 u2).set_ 3 u3).set_ 4 u4).set_ 5 u5).set_ 6 u6).set_ 7 u7
 simpa using this
theorem dn_take {s : StateD} {q : Int} {i : Nat} {x : ItemD} {rest : List ItemD} (h : (lineAt s q).drop i = x :: rest) (hi : i < (lineAt s q).length) : ((lineAt s q).take (i + 1)).map (fun x => Value.string x.body) = ((lineAt s q).take i).map (fun x => Value.string x.body) ++ [.string x.body] := by
 rw [List.take_succ_eq_append_getElem hi,List.map_append]
 rw [List.drop_eq_getElem_cons hi] at h
 rw [(List.cons.inj h).1]
 rfl
theorem dnM_ok (s : StateD) (k : Nat) (a : Option Addr) (n c : Nat) : dnM s k (.slice a n c) (.int .i64 0) = (lineAt s (k : Int)).length + 1 - n := rfl
theorem dnM_two (s : StateD) (k : Nat) (l : Value) : dnM s k l (.int .i64 2) = 0 := rfl
theorem dn_len {p : PlanD} {s : StateD} (h : Right p s) {k : Nat} (hk : (k : Int) < (p.queues.length : Int)) (i : Nat) : (drainC s (k : Int) i).ready.length = s.ready.length ∧ (drainC s (k : Int) i).ready[k]? = some ((lineAt s (k : Int)).drop i) := by
 obtain ⟨hk,_⟩ := line_get h hk
 refine ⟨List.length_set,?_⟩
 show (s.ready.set (k : Int).toNat _)[k]? = _
 rw [Int.toNat_natCast,List.getElem?_set_self hk]
set_option maxHeartbeats 8000000 in
theorem Drain_any (p : PlanD) (s : StateD) (q : Int) (p1 p2 p3 a1 a2 a3 : Option Addr) (q1 q2 q3 c1 c2 c3 : Nat) (rows : List RowD) (w : World) (hE : Env w) (hp : PlanAt w 0 w.heap.size p1 p2 p3 p) (hps : PlanSmall p) (hs : StateAt w 0 w.heap.size a1 a2 a3 rows s) (hss : StateSmall s) (hsi : StateInts s) :
  Calls Tryz.prog 24 #[planV p p1 p2 p3 q1 q2 q3,stateV s a1 a2 a3 c1 c2 c3,.int .i64 q] w (DrPost (drainS p s q) (drainL p s q) (drainErr p s q) w) := by
 have hbx := two_boxes q1 q2 q3 c1 c2 c3 hE hp hs 26 31
 unfold vState at hbx
 unfold stateV planV vState
 have HPS := Lib.hid hps
 have HSS := Lib.hid hss
 have HSI := Lib.hid hsi
 have htl := hss.takers
 have HTL : Hid (s.takers.length ≤ 4294967296) := Lib.hid (by omega)
 clear hE hp hs hps hss hsi htl
 obtain ⟨⟨m0,m1,m2⟩,⟨n0,n1,n2,n3,n4,n5,n6,n7⟩,_,_,_,_⟩ := hbx ((((w.alloc (.cells #[.slice p1 p.posts.length q1,.slice p2 p.queues.length q2,.slice p3 p.binds.length q3] 26)).alloc (.cells #[Value.slice a1 s.ready.length c1,Value.slice a2 s.outs.length c2,Value.slice a3 s.takers.length c3,Value.int IntKind.i64 s.nextSeq,Value.int IntKind.i64 s.nextTag,Value.int IntKind.i64 s.came,Value.int IntKind.i64 s.acked,Value.int IntKind.i64 s.dropped] 31)).alloc (.cells #[.int .i64 q] 3)).alloc (.cells #[.slice none 0 0,.slice none 0 0,.slice none 0 0,.int .i64 0,.int .i64 0,.int .i64 0,.int .i64 0,.int .i64 0] 31)) (((Below.refl _ _).alloc (Nat.le_refl _) _).alloc (by simp) _)
 go_enter Tryz.func24,Tryz.ntmps24
 go_wp2_with fail
 clear m0 m1 m2 n0 n1 n2 n3 n4 n5 n6 n7
 obtain ⟨V2,hV2⟩ : ∃ V2,((w.alloc (.cells #[.slice p1 p.posts.length q1,.slice p2 p.queues.length q2,.slice p3 p.binds.length q3] 26)).alloc (.cells #[Value.slice a1 s.ready.length c1,Value.slice a2 s.outs.length c2,Value.slice a3 s.takers.length c3,Value.int IntKind.i64 s.nextSeq,Value.int IntKind.i64 s.nextTag,Value.int IntKind.i64 s.came,Value.int IntKind.i64 s.acked,Value.int IntKind.i64 s.dropped] 31)) = V2 := ⟨_,rfl⟩
 have hz2 : V2.heap.size = w.heap.size + 1 + 1 := by rw [← hV2]; simp
 rw [hV2] at hbx
 rw [hV2]
 clear hV2
 obtain ⟨U0,hU0⟩ : ∃ U,V2.alloc (.cells #[.int .i64 q] 3) = U := ⟨_,rfl⟩
 have kb0 : Bk U0 (w.heap.size + 1 + 1) 3 #[.int .i64 q] := by rw [← hU0]; exact Bk.new_at _ _ _ (by rw [hz2])
 have zu0 : U0.heap.size = w.heap.size + 1 + 1 + 1 := by rw [← hU0]; simp [hz2]
 have bu0 : Below V2.heap.size V2 U0 := by rw [← hU0]; exact (Below.refl _ _).alloc (Nat.le_refl _) _
 rw [hU0]
 obtain ⟨W0,hW0⟩ : ∃ W0,U0.alloc (.cells #[.slice none 0 0,.slice none 0 0,.slice none 0 0,.int .i64 0,.int .i64 0,.int .i64 0,.int .i64 0,.int .i64 0] 31) = W0 := ⟨_,rfl⟩
 have kbz : Bk W0 (w.heap.size + 1 + 1 + 1) 31 zeroCells := by rw [← hW0]; exact Bk.new_at _ _ _ zu0.symm
 have bW : Below U0.heap.size U0 W0 := by rw [← hW0]; exact (Below.refl _ _).alloc (Nat.le_refl _) _
 have HZ0 : Hid (W0.heap.size = w.heap.size + 1 + 1 + 1 + 1) := by refine (?_ : W0.heap.size = _); rw [← hW0,← zu0]; simp
 rw [hW0]
 have HBX : Hid (∀ W,Below W0.heap.size W0 W → CkIn w p s p1 p2 p3 a1 a2 a3 q1 q2 q3 c1 c2 c3 rows W ∧ Bk W (w.heap.size + 1 + 1 + 1) 31 zeroCells ∧ Bk W (w.heap.size + 1 + 1) 3 #[.int .i64 q]) := Lib.hid fun W hW =>
  ⟨hbx W ((bu0.trans (bW.mono bu0.size)).trans (hW.mono (bu0.trans (bW.mono bu0.size)).size)),kbz.below hW kbz.lt,((kb0.below bW (by rw [zu0]; omega)).below hW (by have := bW.size; rw [zu0] at this; omega))⟩
 clear hbx hz2 hW0 kbz bW kb0 zu0 bu0 hU0
 have HIN := Lib.hid (HBX.out _ (Below.refl _ _)).1
 refine (Asked_any p s q p1 p2 p3 a1 a2 a3 q1 q2 q3 c1 c2 c3 rows W0 HIN.out.env HIN.out.planAt HPS.out HIN.out.stateAt HSS.out HSI.out).mono ?_
 rintro e W1 ⟨rfl,hb1⟩
 have HB1 := Lib.hid hb1
 clear hb1
 by_cases hc : askErr p s q = 0
 ·have ba : (askErr p s q != 0) = false := by simp [hc]
  have HC := Lib.hid hc
  clear hc
  obtain ⟨_,⟨n0,n1,n2,n3,n4,n5,n6,n7⟩,_,_,_,_⟩ := (HBX.out _ HB1.out).1
  go_wp2_with fail
  clear n0 n1 n2 n3 n4 n5 n6 n7
  refine (containsFunc_Taker 64 #[.pointer (some ⟨w.heap.size + 1 + 1,0,none⟩)] eg_drain1 (fun t => decide (t.queue = q)) s.takers a3 c3 0 W1 (fun x _ W hW => drain1_any x q (w.heap.size + 1 + 1) W ((HBX.out _ (HB1.out.trans (hW.mono HB1.out.size))).2.2.cell 0) (HBX.out _ (HB1.out.trans (hW.mono HB1.out.size))).2.2.lt) (HBX.out _ HB1.out).1.stateAt.takers HTL.out).mono ?_
  rintro e W2 ⟨rfl,hb2⟩
  have HB2 := Lib.hid (HB1.out.trans (hb2.mono HB1.out.size))
  clear hb2
  by_cases ht : qTaken s q = true
  ·have bt : (s.takers.any fun t => decide (t.queue = q)) = true := ht
   have HR : Hid (drainErr p s q = 9 ∧ (9 : Int) ≠ 0) := Lib.hid ⟨by unfold drainErr; rw [if_neg (by simp [HC.out]),if_pos ht],by decide⟩
   clear ht
   rw [bt]
   have hzk := (HBX.out _ HB2.out).2.1
   unfold zeroCells at hzk
   obtain ⟨k0,k1,k2,k3,k4,k5,k6,k7,f0,f1,f2,f3,f4,f5,f6,f7,hlt⟩ := zero_cells hzk
   clear hzk
   go_wp2_with fail
   refine bodyPost_ret (v := .tuple #[stateV zeroS none none none 0 0 0,.slice none 0 0,.int .i64 9]) (by simp [results,Tryz.results24,go_sem,stateV,vState,zeroS,k0,k1,k2,k3,k4,k5,k6,k7,hlt]) rfl
    (dr_zero HR.out.1 HR.out.2 w _ (below_set8 (HBX.out _ HB2.out).1.below (by omega) _ _ _ _ _ _ _ _))
  ·have bt : (s.takers.any fun t => decide (t.queue = q)) = false := by simpa [qTaken] using ht
   rw [bt]
   have HT := Lib.hid (by simpa using ht : qTaken s q = false)
   clear ht bt
   obtain ⟨⟨m0,m1,m2⟩,⟨n0,n1,n2,n3,n4,n5,n6,n7⟩,_,_,_,_⟩ := (HBX.out _ HB2.out).1
   have y0 : W2.cell? ⟨w.heap.size + 1 + 1,0,none⟩ = some (.int .i64 q) := (HBX.out _ HB2.out).2.2.cell 0
   go_wp2_with fail
   clear m0 m1 m2 n0 n1 n2 n3 n4 n5 n6 n7 y0
   refine (Join_held p s q 1 p1 p2 p3 a1 a2 a3 q1 q2 q3 c1 c2 c3 rows W2 (HBX.out _ HB2.out).1.env (HBX.out _ HB2.out).1.planAt HPS.out (HBX.out _ HB2.out).1.stateAt HSS.out HSI.out).mono ?_
   rintro e W3 ⟨j1,j2,j3,d1,d2,d3,rowsJ,rfl,hh3,hb3⟩
   have HB3 := Lib.hid (HB2.out.trans (hb3.mono HB2.out.size))
   have HZ3 := Lib.hid hb3.size
   clear hb3
   have HH3 := Lib.hid hh3
   clear hh3
   generalize hJ : joinS p s q 1 = X at *
   have HJ := Lib.hid hJ
   clear hJ
   unfold stateV vState
   by_cases hj : joinErr p s q 1 = 0
   ·obtain ⟨hR0,hq0,hq1⟩ := ask_ok.1 HC.out
    obtain ⟨k,rfl⟩ := Int.eq_ofNat_of_zero_le hq0
    have HRS := Lib.hid hR0
    have HQ1 := Lib.hid hq1
    have hX0 : X = drainC s (k : Int) 0 := HJ.out.symm.trans (drainC_zero hj).symm
    subst hX0
    have HJ0 := Lib.hid hj
    have HJN : Hid (joinN p s (k : Int) 1 = joinI s.takers) := by refine (?_ : joinN p s (k : Int) 1 = joinI s.takers); unfold joinN; rw [if_pos hj]
    have HT0 : Hid (s.nextTag ≤ 1048576) := Lib.hid (by have := hR0.nextTag; unfold countB at this; simp only [Bool.and_eq_true,decide_eq_true_eq] at this; exact this.2)
    rw [hj,HJN.out]
    clear hR0 hq0 hq1 hj
    go_wp2_with fail
    obtain ⟨W4,hW4⟩ : ∃ W4,W3.alloc (.cells #[.slice j1 (drainC s (k : Int) 0).ready.length d1,.slice j2 (drainC s (k : Int) 0).outs.length d2,.slice j3 (drainC s (k : Int) 0).takers.length d3,.int .i64 (drainC s (k : Int) 0).nextSeq,.int .i64 (drainC s (k : Int) 0).nextTag,.int .i64 (drainC s (k : Int) 0).came,.int .i64 (drainC s (k : Int) 0).acked,.int .i64 (drainC s (k : Int) 0).dropped] 31) = W4 := ⟨_,rfl⟩
    have HB4 : Hid (Below W0.heap.size W0 W4) := Lib.hid (by rw [← hW4]; exact HB3.out.alloc HB3.out.size _)
    have HK4 : Hid (Bk W4 W3.heap.size 31 (vState (drainC s (k : Int) 0) j1 j2 j3 d1 d2 d3) ∧ HeldAt W4 W2.heap.size (.slice j1 (drainC s (k : Int) 0).ready.length d1) (.slice j2 (drainC s (k : Int) 0).outs.length d2) (.slice j3 (drainC s (k : Int) 0).takers.length d3) rowsJ (drainC s (k : Int) 0)) := Lib.hid (by
     rw [← hW4]
     exact ⟨Bk.new _ _ _,HH3.out.kept (KeepsT.alloc [] W3 _)⟩)
    have HG : Hid (W0.heap.size ≤ W2.heap.size ∧ W2.heap.size ≤ W3.heap.size ∧ W3.heap.size < W4.heap.size) := Lib.hid ⟨HB2.out.size,HZ3.out,by rw [← hW4]; simp⟩
    rw [hW4]
    clear hW4
    go_loopw [12,13] (fun e l wr => DnRel p s k W3.heap.size W2.heap.size W0 l e wr) (fun e l _ => dnM s k l e)
    case atStart =>
     exact .inl ⟨0,j1,j2,j3,d1,d2,d3,rowsJ,Nat.zero_le _,by have := HT0.out; omega,rfl,HK4.out.1,HK4.out.2,World.ownsRow_nil _ _ _ _,HB4.out⟩
    case round =>
     rcases hrel with ⟨i,b1,b2,b3,d1,d2,d3,rowsI,hi,hti,rfl,hbk,hheld,hown,hB⟩ | ⟨hgt,rfl,⟨vb,hbk⟩,hB⟩
     ·obtain ⟨hlen,hrow⟩ := dn_len HRS.out HQ1.out i
      have hkr : k < s.ready.length := (line_get HRS.out HQ1.out).1
      have HRX := Lib.hid (drainC_right HJ0.out i hi hti)
      obtain ⟨g,rfl⟩ := own_addr hheld.ready (by rw [hlen]; omega)
      obtain ⟨ra,rc,hrc,hsl,hcell⟩ := hheld.rowAt rfl hrow
      have hc0 := (hcell [] wr (by decide) (KeepsT.refl _ _)).1
      have hlim1 : (k : Int) < ((drainC s (k : Int) i).ready.length : Int) := by rw [hlen]; omega
      have HHD := Lib.hid hheld
      have HBK := Lib.hid hbk
      have HOW := Lib.hid hown
      have HB := Lib.hid hB
      have y0 : wr.cell? ⟨w.heap.size + 1 + 1,0,none⟩ = some (.int .i64 (k : Int)) := (HBX.out _ hB).2.2.cell 0
      unfold vState at hbk
      obtain ⟨n0,n1,n2,n3,n4,n5,n6,n7,_,_,_,_,_,_,_,_,hltG⟩ := zero_cells hbk
      by_cases hlt : i < (lineAt s (k : Int)).length
      ·obtain ⟨x,rest,hdr⟩ : ∃ x rest,(lineAt s (k : Int)).drop i = x :: rest := ⟨_,_,List.drop_eq_getElem_cons hlt⟩
       have HTK := Lib.hid (dn_take hdr hlt)
       rw [hdr] at hc0 hsl hrc
       obtain ⟨rb,ro,rfl,hlrb,hitem⟩ := hsl.head
       obtain ⟨nl,hnl⟩ : ∃ nl,(x :: rest).length = nl := ⟨_,rfl⟩
       have hnl0 : 0 < nl := by rw [← hnl]; exact Nat.succ_pos _
       rw [hnl] at hc0
       obtain ⟨i0,i1,i2,i3,i4⟩ := hitem [] wr (by decide) (KeepsT.refl _ _)
       obtain ⟨al,cl,rfl,_⟩ := own_slice hown
       have HLT := Lib.hid hlt
       have HTI := Lib.hid hti
       have hL : i < 4294967296 := by have := (HSS.out.row _ (List.getElem_mem hkr)).len; have e := (line_get HRS.out HQ1.out).2; rw [e] at hlt; omega
       have hbase : W2.heap.size ≤ wr.heap.size := by have := HG.out; have := hltG; omega
       clear hdr hsl hrc hcell hitem hrow hlen hkr hheld hown hB hbk hi hlt hti hnl i0 i1 i3 i4
       go_upto_region 11 with (at_builtin; refine append1 rfl _ _ 43 rfl W2.heap.size 9 infoStr Tryz.underlying43 rfl (by decide) (by decide) wr _ _ _ rfl HOW.out [.string x.body] rfl rfl rfl (by simp [Value.oneCell']) (by omega) hbase ?_; intro v5 w5 ho5 hg5; have HO5 := Lib.hid (And.intro ho5 hg5); clear ho5 hg5)
       clear n0 n1 n2 n3 n4 n5 n6 n7 hltG hc0 i2 y0 hlim1 hnl0
       have K5 : KeepsT [9] wr w5 := KeepsT.grown HOW.out HO5.out.2 (by decide)
       have HBK5 := Lib.hid (K5 _ _ _ (by decide) HBK.out)
       have HH5 := Lib.hid (HHD.out.kept K5)
       have HB5 := Lib.hid (below_own HOW.out HO5.out.2 HB.out HG.out.1 HB.out.size)
       have HOW5 : Hid (w5.ownsRow W2.heap.size 9 1 v5 (i + 1) (((lineAt s (k : Int)).take (i + 1)).map fun x => Value.string x.body)) := Lib.hid (by rw [HTK.out]; exact HO5.out.1)
       clear K5 HTK HO5 HOW HHD HBK
       obtain ⟨⟨m0,m1,m2⟩,_,_,_,_,_⟩ := (HBX.out _ HB5.out).1
       have y0 : w5.cell? ⟨w.heap.size + 1 + 1,0,none⟩ = some (.int .i64 (k : Int)) := (HBX.out _ HB5.out).2.2.cell 0
       have hbk5 := HBK5.out
       unfold vState at hbk5
       obtain ⟨n0,n1,n2,n3,n4,n5,n6,n7,_,_,_,_,_,_,_,_,hltG⟩ := zero_cells hbk5
       clear hbk5
       go_wp2_with fail
       clear n0 n1 n2 n3 n4 n5 n6 n7 m0 m1 m2 y0
       refine (Deliver_any p (drainC s (k : Int) i) k p1 p2 p3 (some ⟨g,0,none⟩) b2 b3 q1 q2 q3 d1 d2 d3 rowsI w5 (HBX.out _ HB5.out).1.env (HBX.out _ HB5.out).1.planAt HPS.out (HH5.out.stateAt.1.wider (Nat.zero_le _) (Nat.le_refl _)) HRX.out.small HRX.out.ints).mono ?_
       rintro e W6 ⟨y1,y2,y3,f1,f2,f3,rowsD,rfl,hs6,hb6⟩
       have HB6 := Lib.hid (HB5.out.trans (hb6.mono HB5.out.size))
       have HBK6 := Lib.hid (HBK5.out.below hb6 HBK5.out.lt)
       have HOW6 := Lib.hid (own_below HOW5.out hb6)
       have HS6 := Lib.hid hs6
       have HSZ6 := Lib.hid hb6.size
       have HDS := Lib.hid (drain_step HJ0.out HLT.out HRX.out)
       have HDR := Lib.hid (fun h : deliverErr p (drainC s (k : Int) i) (k : Int) = 0 => (by obtain ⟨_,_,_,_,e,hr⟩ := deliver_right h; rw [e]; exact hr : Right p (deliverS p (drainC s (k : Int) i) (k : Int))))
       clear hb6 hs6
       generalize deliverS p (drainC s (k : Int) i) (k : Int) = Y at *
       generalize deliverT p (drainC s (k : Int) i) (k : Int) = tg at *
       unfold stateV vState
       have hbk6 := HBK6.out
       unfold vState at hbk6
       obtain ⟨n0,n1,n2,n3,n4,n5,n6,n7,g0,g1,g2,g3,g4,g5,g6,g7,hltG6⟩ := zero_cells hbk6
       have HP7 := Lib.hid (hbk6.put8 (.slice y1 Y.ready.length f1) (.slice y2 Y.outs.length f2) (.slice y3 Y.takers.length f3) (.int .i64 Y.nextSeq) (.int .i64 Y.nextTag) (.int .i64 Y.came) (.int .i64 Y.acked) (.int .i64 Y.dropped))
       have HK7 := Lib.hid (KeepsT.set8 (ts := [31]) hbk6 (by decide) (.slice y1 Y.ready.length f1) (.slice y2 Y.outs.length f2) (.slice y3 Y.takers.length f3) (.int .i64 Y.nextSeq) (.int .i64 Y.nextTag) (.int .i64 Y.came) (.int .i64 Y.acked) (.int .i64 Y.dropped))
       have HB7 := Lib.hid (below_set8 HB6.out (show W0.heap.size ≤ W3.heap.size by have := HG.out; omega) (.slice y1 Y.ready.length f1) (.slice y2 Y.outs.length f2) (.slice y3 Y.takers.length f3) (.int .i64 Y.nextSeq) (.int .i64 Y.nextTag) (.int .i64 Y.came) (.int .i64 Y.acked) (.int .i64 Y.dropped))
       clear hbk6
       by_cases ht : s.nextTag + i = 1048576
       ·rw [HDS.out.1 ht]
        have HGT : Hid (1048576 < s.nextTag + (lineAt s (k : Int)).length) := Lib.hid (by have := HLT.out; omega)
        clear ht
        go_wp2_with fail
        exact ⟨.inr ⟨HGT.out,rfl,⟨_,HP7.out⟩,HB7.out⟩,by rw [dnM_ok,dnM_two]; have := HLT.out; omega⟩
       ·obtain ⟨hd0,_,ha0,ha1,haR⟩ := HDS.out.2 ht
        rw [hd0]
        have HAE := Lib.hid ha0
        have HAS := Lib.hid ha1
        have HAR := Lib.hid haR
        have HYR := Lib.hid (HDR.out hd0)
        have HTI2 : Hid (s.nextTag + (i + 1 : Nat) ≤ 1048576) := Lib.hid (by have := HTI.out; omega)
        clear hd0 ha0 ha1 haR ht
        go_upto_region 12 with fail
        clear n0 n1 n2 n3 n4 n5 n6 n7 g0 g1 g2 g3 g4 g5 g6 g7
        have HST7 := Lib.hid ((st8 HS6.out hltG (.slice y1 Y.ready.length f1) (.slice y2 Y.outs.length f2) (.slice y3 Y.takers.length f3) (.int .i64 Y.nextSeq) (.int .i64 Y.nextTag) (.int .i64 Y.came) (.int .i64 Y.acked) (.int .i64 Y.dropped)).wider (Nat.zero_le _) (show W6.heap.size ≤ ((((((((W6.setCell ⟨W3.heap.size,0,none⟩ (.slice y1 Y.ready.length f1)).setCell ⟨W3.heap.size,1,none⟩ (.slice y2 Y.outs.length f2)).setCell ⟨W3.heap.size,2,none⟩ (.slice y3 Y.takers.length f3)).setCell ⟨W3.heap.size,3,none⟩ (.int .i64 Y.nextSeq)).setCell ⟨W3.heap.size,4,none⟩ (.int .i64 Y.nextTag)).setCell ⟨W3.heap.size,5,none⟩ (.int .i64 Y.came)).setCell ⟨W3.heap.size,6,none⟩ (.int .i64 Y.acked)).setCell ⟨W3.heap.size,7,none⟩ (.int .i64 Y.dropped)).heap.size by simp))
        have HZ7 : Hid (w5.heap.size ≤ ((((((((W6.setCell ⟨W3.heap.size,0,none⟩ (.slice y1 Y.ready.length f1)).setCell ⟨W3.heap.size,1,none⟩ (.slice y2 Y.outs.length f2)).setCell ⟨W3.heap.size,2,none⟩ (.slice y3 Y.takers.length f3)).setCell ⟨W3.heap.size,3,none⟩ (.int .i64 Y.nextSeq)).setCell ⟨W3.heap.size,4,none⟩ (.int .i64 Y.nextTag)).setCell ⟨W3.heap.size,5,none⟩ (.int .i64 Y.came)).setCell ⟨W3.heap.size,6,none⟩ (.int .i64 Y.acked)).setCell ⟨W3.heap.size,7,none⟩ (.int .i64 Y.dropped)).heap.size) := Lib.hid (Nat.le_trans HSZ6.out (by simp))
        obtain ⟨W7,hW7⟩ : ∃ W7,((((((((W6.setCell ⟨W3.heap.size,0,none⟩ (.slice y1 Y.ready.length f1)).setCell ⟨W3.heap.size,1,none⟩ (.slice y2 Y.outs.length f2)).setCell ⟨W3.heap.size,2,none⟩ (.slice y3 Y.takers.length f3)).setCell ⟨W3.heap.size,3,none⟩ (.int .i64 Y.nextSeq)).setCell ⟨W3.heap.size,4,none⟩ (.int .i64 Y.nextTag)).setCell ⟨W3.heap.size,5,none⟩ (.int .i64 Y.came)).setCell ⟨W3.heap.size,6,none⟩ (.int .i64 Y.acked)).setCell ⟨W3.heap.size,7,none⟩ (.int .i64 Y.dropped)) = W7 := ⟨_,rfl⟩
        rw [hW7] at HP7 HK7 HB7 HST7 HZ7
        rw [hW7]
        clear hW7
        obtain ⟨⟨m0,m1,m2⟩,_,_,_,_,_⟩ := (HBX.out _ HB7.out).1
        obtain ⟨n0,n1,n2,n3,n4,n5,n6,n7,_,_,_,_,_,_,_,_,hltG7⟩ := zero_cells HP7.out
        go_wp2_with fail
        clear n0 n1 n2 n3 n4 n5 n6 n7 m0 m1 m2
        refine (Ack_held p Y tg p1 p2 p3 y1 y2 y3 q1 q2 q3 f1 f2 f3 rowsD W7 (HBX.out _ HB7.out).1.env (HBX.out _ HB7.out).1.planAt HPS.out (HST7.out.wider (Nat.le_refl _) (Nat.le_refl _)) HYR.out.small HYR.out.ints).mono ?_
        rw [HAE.out,HAS.out]
        rintro e W8 ⟨z1,z2,z3,l1,l2,l3,rowsA,rfl,hh8,hb8⟩
        have HB8 := Lib.hid (HB7.out.trans (hb8.mono HB7.out.size))
        have hbk8 := HP7.out.below hb8 hltG7
        have HOW8 := Lib.hid (own_below (own_keepT HOW6.out HK7.out (by decide)) hb8)
        have HZ8 : Hid (W2.heap.size ≤ W7.heap.size) := Lib.hid (by have := HG.out; omega)
        unfold stateV vState
        have HP9 := Lib.hid (hbk8.put8 (.slice z1 (drainC s (k : Int) (i + 1)).ready.length l1) (.slice z2 (drainC s (k : Int) (i + 1)).outs.length l2) (.slice z3 (drainC s (k : Int) (i + 1)).takers.length l3) (.int .i64 (drainC s (k : Int) (i + 1)).nextSeq) (.int .i64 (drainC s (k : Int) (i + 1)).nextTag) (.int .i64 (drainC s (k : Int) (i + 1)).came) (.int .i64 (drainC s (k : Int) (i + 1)).acked) (.int .i64 (drainC s (k : Int) (i + 1)).dropped))
        have HK9 := Lib.hid (KeepsT.set8 (ts := [31]) hbk8 (by decide) (.slice z1 (drainC s (k : Int) (i + 1)).ready.length l1) (.slice z2 (drainC s (k : Int) (i + 1)).outs.length l2) (.slice z3 (drainC s (k : Int) (i + 1)).takers.length l3) (.int .i64 (drainC s (k : Int) (i + 1)).nextSeq) (.int .i64 (drainC s (k : Int) (i + 1)).nextTag) (.int .i64 (drainC s (k : Int) (i + 1)).came) (.int .i64 (drainC s (k : Int) (i + 1)).acked) (.int .i64 (drainC s (k : Int) (i + 1)).dropped))
        have HB9 := Lib.hid (below_set8 HB8.out (show W0.heap.size ≤ W3.heap.size by have := HG.out; omega) (.slice z1 (drainC s (k : Int) (i + 1)).ready.length l1) (.slice z2 (drainC s (k : Int) (i + 1)).outs.length l2) (.slice z3 (drainC s (k : Int) (i + 1)).takers.length l3) (.int .i64 (drainC s (k : Int) (i + 1)).nextSeq) (.int .i64 (drainC s (k : Int) (i + 1)).nextTag) (.int .i64 (drainC s (k : Int) (i + 1)).came) (.int .i64 (drainC s (k : Int) (i + 1)).acked) (.int .i64 (drainC s (k : Int) (i + 1)).dropped))
        have HH8 := Lib.hid hh8
        obtain ⟨n0,n1,n2,n3,n4,n5,n6,n7,g0,g1,g2,g3,g4,g5,g6,g7,hltG8⟩ := zero_cells hbk8
        clear hbk8 hh8 hb8
        go_wp2_with fail
        obtain ⟨al5,cl5,rfl,_⟩ := own_slice HOW8.out
        exact ⟨.inl ⟨i + 1,z1,z2,z3,l1,l2,l3,rowsA,HLT.out,HTI2.out,rfl,HP9.out,(HH8.out.kept HK9.out).wider HZ8.out,own_keepT HOW8.out HK9.out (by decide),HB9.out⟩,by rw [dnM_ok,dnM_ok]; have := HLT.out; omega⟩
      ·obtain rfl : i = (lineAt s (k : Int)).length := by omega
       have HTI := Lib.hid hti
       have hnil : ((lineAt s (k : Int)).drop (lineAt s (k : Int)).length).length = 0 := by simp
       rw [hnil] at hc0
       have htk : (drainC s (k : Int) (lineAt s (k : Int)).length).takers[joinI s.takers]? = some ⟨(k : Int),1⟩ := by show (joinL s.takers _)[joinI s.takers]? = _; rw [joinL_at,if_pos rfl]
       have hjl := (List.getElem?_eq_some_iff.1 htk).1
       obtain ⟨g3,rfl⟩ := own_addr hheld.takers (by omega)
       obtain ⟨al,cl,rfl,_⟩ := own_slice hown
       have ht0 : wr.cell? ⟨g3,joinI s.takers * 2,none⟩ = some (.int .i64 (k : Int)) := by
        refine (hheld.takers.cellAt _ (by omega)).trans ((flat_get vTaker_len _ (joinI s.takers) hjl 0 (by decide)).trans ?_)
        rw [(List.getElem?_eq_some_iff.1 htk).2]
        rfl
       have fz := hheld.takers.frozenAt (joinI s.takers * 2)
       obtain ⟨hg31,hg32⟩ := hheld.takers.lt g3 rfl
       have hj1 : ((joinI s.takers : Nat) : Int) < ((drainC s (k : Int) (lineAt s (k : Int)).length).takers.length : Int) := by omega
       have hj0 : (0 : Int) ≤ ((joinI s.takers : Nat) : Int) := by omega
       have HZ := Lib.hid (hheld.takerQ rfl htk (-1))
       have HB9 : Hid (Below W0.heap.size W0 (wr.setCell ⟨g3,joinI s.takers * 2,none⟩ (.int .i64 (-1)))) := Lib.hid (hB.setCell (p := ⟨g3,joinI s.takers * 2,none⟩) (by have := HG.out; show W0.heap.size ≤ g3; omega) _)
       have hS : drainErr p s (k : Int) = 0 := drain_ok.2 ⟨HJ0.out,HT.out,hti⟩
       have HS : Hid (drainErr p s (k : Int) = 0 ∧ drainS p s (k : Int) = { (drainC s (k : Int) (lineAt s (k : Int)).length) with takers := (drainC s (k : Int) (lineAt s (k : Int)).length).takers.set (joinI s.takers) ⟨-1,1⟩ } ∧ drainL p s (k : Int) = (lineAt s (k : Int)).map (·.body)) := Lib.hid ⟨hS,by unfold drainS; rw [if_pos hS]; show _ = ({ (drainC s (k : Int) (lineAt s (k : Int)).length) with takers := (joinL s.takers ⟨(k : Int),1⟩).set (joinI s.takers) ⟨-1,1⟩ } : StateD); rw [joinL_set],by unfold drainL; rw [if_pos hS]⟩
       clear hS hnil hsl hrc hcell hrow hlen hkr hheld hown hB hbk hi hlt hti htk hjl
       go_upto_region 17 with fail
       clear n0 n1 n2 n3 n4 n5 n6 n7 hltG hc0 y0 hlim1 ht0 fz hj1 hj0
       have HBKZ := Lib.hid (HZ.out.2 _ _ _ (by decide) HBK.out)
       have HOWZ := Lib.hid (own_keepT HOW.out HZ.out.2 (by decide))
       obtain ⟨Z,hZ⟩ : ∃ Z,wr.setCell ⟨g3,joinI s.takers * 2,none⟩ (.int .i64 (-1)) = Z := ⟨_,rfl⟩
       rw [hZ] at HZ HB9 HBKZ HOWZ
       rw [hZ]
       clear hZ
       have hbkz := HBKZ.out
       unfold vState at hbkz
       obtain ⟨n0,n1,n2,n3,n4,n5,n6,n7,_,_,_,_,_,_,_,_,hltG⟩ := zero_cells hbkz
       clear hbkz
       have hzk := (HBX.out _ HB9.out).2.1
       have HZS := Lib.hid hzk
       unfold zeroCells at hzk
       obtain ⟨k0,k1,k2,k3,k4,k5,k6,k7,f0,f1,f2,f3,f4,f5,f6,f7,hlt⟩ := zero_cells hzk
       clear hzk
       go_wp2_with fail
       refine bodyPost_ret (v := .tuple #[.agg #[.slice (some ⟨g,0,none⟩) (drainC s (k : Int) (lineAt s (k : Int)).length).ready.length d1,.slice b2 (drainC s (k : Int) (lineAt s (k : Int)).length).outs.length d2,.slice (some ⟨g3,0,none⟩) (drainC s (k : Int) (lineAt s (k : Int)).length).takers.length d3,.int .i64 (drainC s (k : Int) (lineAt s (k : Int)).length).nextSeq,.int .i64 (drainC s (k : Int) (lineAt s (k : Int)).length).nextTag,.int .i64 (drainC s (k : Int) (lineAt s (k : Int)).length).came,.int .i64 (drainC s (k : Int) (lineAt s (k : Int)).length).acked,.int .i64 (drainC s (k : Int) (lineAt s (k : Int)).length).dropped],.slice al (lineAt s (k : Int)).length cl,.int .i64 0]) (by simp [results,Tryz.results24,go_sem,k0,k1,k2,k3,k4,k5,k6,k7,hlt]) rfl ?_
       have K8 := KeepsT.set8 (ts := [31]) HZS.out (by decide) (.slice (some ⟨g,0,none⟩) (drainC s (k : Int) (lineAt s (k : Int)).length).ready.length d1) (.slice b2 (drainC s (k : Int) (lineAt s (k : Int)).length).outs.length d2) (.slice (some ⟨g3,0,none⟩) (drainC s (k : Int) (lineAt s (k : Int)).length).takers.length d3) (.int .i64 (drainC s (k : Int) (lineAt s (k : Int)).length).nextSeq) (.int .i64 (drainC s (k : Int) (lineAt s (k : Int)).length).nextTag) (.int .i64 (drainC s (k : Int) (lineAt s (k : Int)).length).came) (.int .i64 (drainC s (k : Int) (lineAt s (k : Int)).length).acked) (.int .i64 (drainC s (k : Int) (lineAt s (k : Int)).length).dropped)
       have hlo : w.heap.size ≤ W2.heap.size := (HBX.out _ HB2.out).1.below.size
       have hF := HZ.out.1.kept K8
       have hO := own_keepT HOWZ.out K8 (by decide)
       have hX := below_set8 (HBX.out _ HB9.out).1.below (show w.heap.size ≤ w.heap.size + 1 + 1 + 1 by omega) (.slice (some ⟨g,0,none⟩) (drainC s (k : Int) (lineAt s (k : Int)).length).ready.length d1) (.slice b2 (drainC s (k : Int) (lineAt s (k : Int)).length).outs.length d2) (.slice (some ⟨g3,0,none⟩) (drainC s (k : Int) (lineAt s (k : Int)).length).takers.length d3) (.int .i64 (drainC s (k : Int) (lineAt s (k : Int)).length).nextSeq) (.int .i64 (drainC s (k : Int) (lineAt s (k : Int)).length).nextTag) (.int .i64 (drainC s (k : Int) (lineAt s (k : Int)).length).came) (.int .i64 (drainC s (k : Int) (lineAt s (k : Int)).length).acked) (.int .i64 (drainC s (k : Int) (lineAt s (k : Int)).length).dropped)
       refine ⟨some ⟨g,0,none⟩,b2,some ⟨g3,0,none⟩,d1,d2,d3,rowsI,al,cl,?_,(by rw [HS.out.2.1]; exact hF.stateAt.1.wider hlo (Nat.le_refl _)),?_,hX⟩
       ·rw [HS.out.1,HS.out.2.1,HS.out.2.2,List.length_map]
        unfold stateV vState
        rw [List.length_set]
       ·rw [HS.out.2.2]
        have e : ((lineAt s (k : Int)).map (·.body)).map Value.string = ((lineAt s (k : Int)).take (lineAt s (k : Int)).length).map fun x => Value.string x.body := by rw [List.take_length,List.map_map]; rfl
        rw [e]
        exact (Sl.of_own hO).wider hlo (Nat.le_refl _)
     ·have HR : Hid (drainErr p s (k : Int) = 2 ∧ (2 : Int) ≠ 0) := Lib.hid ⟨by unfold drainErr; rw [if_neg (by simp [HC.out]),if_neg (by simp [HT.out]),if_neg (by simp [HJ0.out]),if_pos hgt],by decide⟩
      have HB := Lib.hid hB
      clear hgt hbk hB
      have hzk := (HBX.out _ HB.out).2.1
      unfold zeroCells at hzk
      obtain ⟨k0,k1,k2,k3,k4,k5,k6,k7,f0,f1,f2,f3,f4,f5,f6,f7,hlt⟩ := zero_cells hzk
      clear hzk
      go_wp2_with fail
      refine bodyPost_ret (v := .tuple #[stateV zeroS none none none 0 0 0,.slice none 0 0,.int .i64 2]) (by simp [results,Tryz.results24,go_sem,stateV,vState,zeroS,k0,k1,k2,k3,k4,k5,k6,k7,hlt]) rfl
       (dr_zero HR.out.1 HR.out.2 w _ (below_set8 (HBX.out _ HB.out).1.below (by omega) _ _ _ _ _ _ _ _))
   ·have HR : Hid (drainErr p s q = joinErr p s q 1 ∧ joinErr p s q 1 ≠ 0) := Lib.hid ⟨by unfold drainErr; rw [if_neg (by simp [HC.out]),if_neg (by simp [HT.out]),if_pos hj],hj⟩
    have bj : (joinErr p s q 1 == 0) = false := by simp [hj]
    have bn : (joinErr p s q 1 != 0) = true := by simp [hj]
    clear hj
    generalize joinErr p s q 1 = je at *
    go_wp2_with fail
    obtain ⟨W4,hW4⟩ : ∃ W4,W3.alloc (.cells #[.slice j1 X.ready.length d1,.slice j2 X.outs.length d2,.slice j3 X.takers.length d3,.int .i64 X.nextSeq,.int .i64 X.nextTag,.int .i64 X.came,.int .i64 X.acked,.int .i64 X.dropped] 31) = W4 := ⟨_,rfl⟩
    have HB4 : Hid (Below W0.heap.size W0 W4) := Lib.hid (by rw [← hW4]; exact HB3.out.alloc HB3.out.size _)
    rw [hW4]
    clear hW4
    go_loopw [12] (fun e wr => e = .int .i64 je ∧ wr = W4) (fun _ _ => 0)
    case atStart => exact ⟨rfl,rfl⟩
    case round =>
     obtain ⟨rfl,rfl⟩ := hrel
     have hzk := (HBX.out _ HB4.out).2.1
     unfold zeroCells at hzk
     obtain ⟨k0,k1,k2,k3,k4,k5,k6,k7,f0,f1,f2,f3,f4,f5,f6,f7,hlt⟩ := zero_cells hzk
     clear hzk
     go_wp2_with fail
     refine bodyPost_ret (v := .tuple #[stateV zeroS none none none 0 0 0,.slice none 0 0,.int .i64 je]) (by simp [results,Tryz.results24,go_sem,stateV,vState,zeroS,k0,k1,k2,k3,k4,k5,k6,k7,hlt]) rfl
      (dr_zero HR.out.1 HR.out.2 w _ (below_set8 (HBX.out _ HB4.out).1.below (by omega) _ _ _ _ _ _ _ _))
 ·have ba : (askErr p s q != 0) = true := by simp [hc]
  have HR : Hid (drainErr p s q = askErr p s q ∧ askErr p s q ≠ 0) := Lib.hid ⟨by unfold drainErr; rw [if_pos hc],hc⟩
  clear hc
  have hzk := (HBX.out _ HB1.out).2.1
  unfold zeroCells at hzk
  obtain ⟨k0,k1,k2,k3,k4,k5,k6,k7,f0,f1,f2,f3,f4,f5,f6,f7,hlt⟩ := zero_cells hzk
  clear hzk
  go_wp2_with fail
  refine bodyPost_ret (v := .tuple #[stateV zeroS none none none 0 0 0,.slice none 0 0,.int .i64 (askErr p s q)]) (by simp [results,Tryz.results24,go_sem,stateV,vState,zeroS,k0,k1,k2,k3,k4,k5,k6,k7,hlt]) rfl
   (dr_zero HR.out.1 HR.out.2 w _ (below_set8 (HBX.out _ HB1.out).1.below (by omega) _ _ _ _ _ _ _ _))
end Go.Proofs.YtaanpcjkflhomaaGreatDoor
