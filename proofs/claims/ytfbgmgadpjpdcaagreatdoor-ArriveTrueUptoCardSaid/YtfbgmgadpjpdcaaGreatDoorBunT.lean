/-
  The plain law of what stays while letters arrive. No program in sight.
  What letters do at the office, without the program.
  arriveBegun answers true: what must be in any case of what arrives.
  Arguments opened: what arrives; an act.
-/
import Derived.Test.YtfbgmgadpjpdcaaGreatDoorBunR
import Derived.Test.YtfbgmgadpjpdcaaGreatDoorBunO
import Derived.Test.YtfbgmgadpjpdcaaGreatDoorBunJ
import Derived.Test.YtfbgmgadpjpdcaaGreatDoorBunG
import Derived.Test.YtfbgmgadpjpdcaaGreatDoorBunS
import Derived.Test.YtfbgmgadpjpdcaaGreatDoorBunE
import Derived.Test.YtfbgmgadpjpdcaaGreatDoorBunA
set_option linter.unusedSimpArgs false
set_option linter.unusedVariables false
namespace Go.Proofs.YtfbgmgadpjpdcaaGreatDoor

theorem lineAt_set {s s' : StateD} {q q' : Int} {r : List ItemD} (h : s'.ready = s.ready.set q.toNat r) (hq : q.toNat < s.ready.length) : lineAt s' q' = if q'.toNat = q.toNat then r else lineAt s q' := by
  unfold lineAt
  rw [h, List.getElem?_set]
  by_cases e : q'.toNat = q.toNat
  · rw [if_pos e, if_pos e.symm, if_pos hq]
    rfl
  · rw [if_neg e, if_neg (fun h => e h.symm)]
theorem lineAt_below {p : PlanD} {s : StateD} (h : Right p s) (q : Int) : ∀ y ∈ lineAt s q, y.seq < s.nextSeq := fun y hy => by
  refine h.below _ ?_
  unfold seqsS seqsR
  rw [List.mem_append]
  left
  rw [List.mem_flatMap]
  refine ⟨lineAt s q, ?_, List.mem_map.2 ⟨y, hy, rfl⟩⟩
  by_cases hq : q.toNat < s.ready.length
  · exact lineAt_mem hq
  · exfalso
    unfold lineAt at hy
    rw [List.getElem?_eq_none (by omega)] at hy
    cases hy
def TailNew (b : Int) (old now : List ItemD) : Prop := ∃ k new, now = old.drop k ++ new ∧ ∀ y ∈ new, b ≤ y.seq
theorem TailNew.refl (b : Int) (l : List ItemD) : TailNew b l l := ⟨0, [], by simp, fun y hy => (by cases hy)⟩
theorem TailNew.push {b : Int} {old now : List ItemD} {x : ItemD} (h : TailNew b old now) (hx : b ≤ x.seq) : TailNew b old (now ++ [x]) := by
  obtain ⟨k, new, rfl, hn⟩ := h
  refine ⟨k, new ++ [x], by rw [List.append_assoc], fun y hy => ?_⟩
  rcases List.mem_append.1 hy with hy | hy
  · exact hn y hy
  · rw [List.mem_singleton.1 hy]; exact hx
theorem TailNew.drop {b : Int} {old now : List ItemD} (h : TailNew b old now) : TailNew b old (now.drop 1) := by
  obtain ⟨k, new, rfl, hn⟩ := h
  by_cases hk : k < old.length
  · refine ⟨k + 1, new, ?_, hn⟩
    have h1 : 1 ≤ (old.drop k).length := by rw [List.length_drop]; omega
    rw [List.drop_append_of_le_length h1, List.drop_drop]
  · have e : old.drop k = [] := List.drop_eq_nil_of_le (by omega)
    refine ⟨k, new.drop 1, by rw [e]; rfl, fun y hy => hn y (List.mem_of_mem_drop hy)⟩

structure Kept (s : StateD) (l : List ArrivalD) (n : Nat) (c : StateD × List ArrivalD) : Prop where
  outs : c.1.outs = s.outs
  takers : c.1.takers = s.takers
  acked : c.1.acked = s.acked
  tag : c.1.nextTag = s.nextTag
  dropped : s.dropped ≤ c.1.dropped
  len : c.1.ready.length = s.ready.length
  more : l.length ≤ n + c.2.length
  tail : ∀ q : Int, TailNew s.nextSeq (lineAt s q) (lineAt c.1 q)
theorem Kept.start (s : StateD) (l : List ArrivalD) : Kept s l 0 (s, l) := ⟨rfl, rfl, rfl, rfl, Int.le_refl _, rfl, by simp, fun q => .refl _ _⟩
theorem Kept.next {p : PlanD} {s s1 : StateD} {l l1 : List ArrivalD} {a : ArrivalD} {n : Nat} (h : Kept s l n (s1, a :: l1)) (hr : RunOk p s l n (s1, a :: l1)) : Kept s l (n + 1) (stepA p (s1, a :: l1)) := by
  have hq := hr.ok.wait a List.mem_cons_self
  have hseq := hr.seq
  simp only at hseq
  have hR : Right p s1 := hr.ok.right
  have hql : a.queue.toNat < s1.ready.length := by have := hR.len; have := hq.queue; omega
  have hpush : pushL (lineAt (seqd s1) a.queue) (itemOf s1 a) = lineAt s1 a.queue ++ [itemOf s1 a] := pushL_last fun y hy => lineAt_below hR a.queue y hy
  have hx : s.nextSeq ≤ (itemOf s1 a).seq := by show s.nextSeq ≤ s1.nextSeq; omega
  have hm := h.more
  simp only [List.length_cons] at hm
  have hT := h.tail a.queue
  simp only at hT
  simp only [stepA]
  unfold layP
  rw [hpush]
  split
  · refine ⟨h.outs, h.takers, h.acked, h.tag, h.dropped, ?_, ?_, fun q => ?_⟩
    · simp only [List.length_set]; exact h.len
    · simp only [List.append_nil]; omega
    · conv => arg 3; rw [lineAt_set (s := s1) (q := a.queue) rfl hql]
      split
      · rename_i e
        have : lineAt s q = lineAt s a.queue := by unfold lineAt; rw [e]
        rw [this]
        exact hT.push hx
      · exact h.tail q
  · refine ⟨h.outs, h.takers, h.acked, h.tag, ?_, ?_, ?_, fun q => ?_⟩
    · have := h.dropped
      simp only [seqd] at this ⊢
      omega
    · simp only [List.length_set]; exact h.len
    · simp only [List.length_append]; omega
    · conv => arg 3; rw [lineAt_set (s := s1) (q := a.queue) rfl hql]
      split
      · rename_i e
        have : lineAt s q = lineAt s a.queue := by unfold lineAt; rw [e]
        rw [this]
        exact (hT.push hx).drop
      · exact h.tail q
theorem kept_exists {p : PlanD} {s : StateD} {l : List ArrivalD} (hs : s.nextSeq ≤ 524288) (hw : wC (s, l) ≤ 700) : ∀ (m n : Nat) (c : StateD × List ArrivalD), wC c ≤ m → RunOk p s l n c → Kept s l n c → ∃ n s1, RunOk p s l n (s1, []) ∧ Kept s l n (s1, [])
  | m, n, (s1, []), _, h, hk => ⟨n, s1, h, hk⟩
  | 0, n, (s1, a :: l1), hm, h, hk => by
    exfalso
    unfold wC wA at hm
    simp only [List.map_cons, List.sum_cons] at hm
    omega
  | m + 1, n, (s1, a :: l1), hm, h, hk => by
    have h1 := h.next hs hw
    have h2 := (stepA_ok h.ok (by have h8 := h.seq; have h9 := h.less; simp only at h8; omega)).2
    exact kept_exists hs hw m (n + 1) _ (by omega) h1 (hk.next h)
theorem arrive_kept {p : PlanD} {s : StateD} {l : List ArrivalD} (h : arriveErr p s l = 0) : ∃ n : Nat, arriveN p s l = (n : Int) ∧ RunOk p s l n (arriveS p s l, []) ∧ Kept s l n (arriveS p s l, []) := by
  obtain ⟨h1, h2, h3⟩ := arrive_ok h
  have hw := wC_le h1.right h2
  obtain ⟨n, s1, h4, h5⟩ := kept_exists h3 hw _ 0 _ (Nat.le_refl _) (.start h1) (.start s l)
  obtain ⟨h6, h7⟩ := h4.end_ hw
  have e : arriveS p s l = s1 := by unfold arriveS; rw [if_pos h, h6]
  rw [e]
  exact ⟨n, by unfold arriveN; rw [if_pos h, h6]; omega, h4, h5⟩

def oldN (b : Int) (l : List ItemD) : Nat := (l.takeWhile fun y => decide (y.seq < b)).length
theorem oldN_le (b : Int) (l : List ItemD) : oldN b l ≤ l.length := by
  have := congrArg List.length (List.takeWhile_append_dropWhile (p := fun y : ItemD => decide (y.seq < b)) (l := l))
  rw [List.length_append] at this
  unfold oldN
  omega
theorem tail_old {b : Int} {old now : List ItemD} (h : TailNew b old now) (ho : ∀ y ∈ old, y.seq < b) : oldN b now ≤ old.length ∧ now.take (oldN b now) = old.drop (old.length - oldN b now) := by
  obtain ⟨k, new, rfl, hn⟩ := h
  have h1 : ((old.drop k ++ new).takeWhile fun y => decide (y.seq < b)) = old.drop k := by
    rw [List.takeWhile_append_of_pos (fun y hy => by simpa using ho y (List.mem_of_mem_drop hy))]
    have : (new.takeWhile fun y => decide (y.seq < b)) = [] := by
      cases new with
      | nil => rfl
      | cons y r =>
        have := hn y List.mem_cons_self
        rw [List.takeWhile_cons_of_neg (by simp; omega)]
    rw [this, List.append_nil]
  have h2 : oldN b (old.drop k ++ new) = (old.drop k).length := by unfold oldN; rw [h1]
  rw [h2]
  refine ⟨by rw [List.length_drop]; omega, ?_⟩
  rw [List.take_left, List.length_drop]
  by_cases hk : k ≤ old.length
  · rw [show old.length - (old.length - k) = k by omega]
  · rw [List.drop_eq_nil_of_le (show old.length ≤ k by omega), show old.length - (old.length - k) = old.length by omega, List.drop_length]
theorem oldN_step {b : Int} {l : List ItemD} : ∀ {k : Nat}, k ≤ oldN b l → (k = oldN b l ↔ ∀ y, l[k]? = some y → b ≤ y.seq) := by
  unfold oldN
  induction l with
  | nil => intro k hk; simp at hk ⊢; exact hk
  | cons x r ih =>
    intro k hk
    by_cases hx : x.seq < b
    · rw [List.takeWhile_cons_of_pos (by simpa using hx)] at hk ⊢
      cases k with
      | zero =>
        simp only [List.length_cons, List.getElem?_cons_zero, Option.some.injEq]
        constructor
        · intro e; omega
        · intro e; have := e x rfl; omega
      | succ k =>
        simp only [List.length_cons, List.getElem?_cons_succ] at hk ⊢
        rw [← ih (k := k) (by omega)]
        omega
    · rw [List.takeWhile_cons_of_neg (by simpa using hx)] at hk ⊢
      simp only [List.length_nil, Nat.le_zero] at hk
      subst hk
      simp only [List.length_nil, List.getElem?_cons_zero, Option.some.injEq, true_iff]
      intro y e
      subst e
      omega

end Go.Proofs.YtfbgmgadpjpdcaaGreatDoor

namespace Go.Proofs.YtfbgmgadpjpdcaaGreatDoor

def bNew : ByteArray := ⟨#[110, 101, 119]⟩
def bOther : ByteArray := ⟨#[111, 116, 104, 101, 114]⟩
def kX : ByteArray := ⟨#[120]⟩
def arrL : List ArrivalD := [⟨0, kXY, bNew, 0⟩, ⟨1, kZ, bOther, 0⟩]
def arrX : List ArrivalD := [⟨3, kX, .empty, 0⟩]
def arrS1 : StateD := { busyS with ready := [[letterP 3 bThree, letterP 4 bNew], [], []], nextSeq := 5, came := 5, dropped := 1 }
def arrS2 : StateD := { busyS with ready := [[letterP 3 bThree, letterP 4 bNew], [⟨5, kZ, bOther, false, 0⟩], []], nextSeq := 6, came := 6, dropped := 1 }
def arrS : StateD := { busyS with ready := [[letterP 3 bThree, letterP 4 bNew], [⟨5, kZ, bOther, false, 0⟩], [⟨6, kXY, bTwo, false, 1⟩]], nextSeq := 7, came := 7, dropped := 1 }
theorem off2 : onL officeP 2 kXY = [(4, ⟨2, false, 2, ⟨#[120, 46, 121]⟩⟩)] := by
  have h0 : byP officeP ⟨2, false, 2, ⟨#[120, 46, 121]⟩⟩ kXY = true := by rw [byP_list]; decide
  have e : officeP.binds = [⟨0, false, 0, ⟨#[120, 46, 35]⟩⟩, ⟨0, true, 1, ⟨#[42, 46, 121]⟩⟩, ⟨1, false, 1, ⟨#[35]⟩⟩, ⟨1, true, 0, ⟨#[35]⟩⟩, ⟨2, false, 2, ⟨#[120, 46, 121]⟩⟩] := rfl
  unfold onL
  simp [onTo, e, h0]
theorem outs2 : outs officeP 2 kXY = [2] := by
  have e : officeP.posts.length = 3 := rfl
  unfold outs
  rw [e]
  simp [outAt, off2, gather, addTo]
theorem ofL2 : ofL officeP 2 kXY = [2] := by
  unfold ofL
  rw [outs2, sortI_self (by decide : ([2] : List Int).Pairwise (· < ·))]
  have : offAt officeP kXY [2] ([2] : List Int).length = [2] := by simp [offAt, off2, collect, queueTo]
  rw [this, sortI_self (by decide), compact_self (by decide)]
theorem dying2 {b : ByteArray} {n : Int} : dyingP officeP 0 (letterP n b) = [⟨2, kXY, b, 1⟩] := by
  unfold dyingP
  have hc : ¬ ((queueAt officeP 0).dead < 0 ∨ 2 ≤ (letterP n b).deaths) := (show ¬ ((2 : Int) < 0 ∨ 2 ≤ (0 : Int)) from by decide)
  rw [if_neg hc, show (queueAt officeP 0).dead = ((2 : Nat) : Int) from rfl, show (letterP n b).key = kXY from rfl]
  have := ofL2
  rw [show ofL officeP ((2 : Nat) : Int) kXY = [2] from ofL2]
  rfl
theorem z_key : splitErr isWord kZ = 0 := key_err (by decide)
theorem arr_step1 : stepA officeP (busyS, arrL) = (arrS1, [⟨1, kZ, bOther, 0⟩, ⟨2, kXY, bTwo, 1⟩]) := by
  have hp : pushL (lineAt (seqd busyS) 0) (itemOf busyS ⟨0, kXY, bNew, 0⟩) = [letterP 2 bTwo, letterP 3 bThree, letterP 4 bNew] := rfl
  have hl : layP officeP (seqd busyS) 0 (itemOf busyS ⟨0, kXY, bNew, 0⟩) = (arrS1, [⟨2, kXY, bTwo, 1⟩]) := by
    unfold layP
    rw [hp, if_neg (by decide), show headL [letterP 2 bTwo, letterP 3 bThree, letterP 4 bNew] = letterP 2 bTwo from rfl, dying2]
    rfl
  show ((layP officeP (seqd busyS) 0 (itemOf busyS ⟨0, kXY, bNew, 0⟩)).1, _ ++ (layP officeP (seqd busyS) 0 (itemOf busyS ⟨0, kXY, bNew, 0⟩)).2) = _
  rw [hl]
  rfl
theorem arr_step2 : stepA officeP (arrS1, [⟨1, kZ, bOther, 0⟩, ⟨2, kXY, bTwo, 1⟩]) = (arrS2, [⟨2, kXY, bTwo, 1⟩]) := by
  have hp : pushL (lineAt (seqd arrS1) 1) (itemOf arrS1 ⟨1, kZ, bOther, 0⟩) = [⟨5, kZ, bOther, false, 0⟩] := rfl
  have hl : layP officeP (seqd arrS1) 1 (itemOf arrS1 ⟨1, kZ, bOther, 0⟩) = (arrS2, []) := by
    unfold layP
    rw [hp, if_pos (by decide)]
    rfl
  show ((layP officeP (seqd arrS1) 1 (itemOf arrS1 ⟨1, kZ, bOther, 0⟩)).1, _ ++ (layP officeP (seqd arrS1) 1 (itemOf arrS1 ⟨1, kZ, bOther, 0⟩)).2) = _
  rw [hl]
  rfl
theorem arr_step3 : stepA officeP (arrS2, [⟨2, kXY, bTwo, 1⟩]) = (arrS, []) := by
  have hp : pushL (lineAt (seqd arrS2) 2) (itemOf arrS2 ⟨2, kXY, bTwo, 1⟩) = [⟨6, kXY, bTwo, false, 1⟩] := rfl
  have hl : layP officeP (seqd arrS2) 2 (itemOf arrS2 ⟨2, kXY, bTwo, 1⟩) = (arrS, []) := by
    unfold layP
    rw [hp, if_pos (by decide)]
    rfl
  show ((layP officeP (seqd arrS2) 2 (itemOf arrS2 ⟨2, kXY, bTwo, 1⟩)).1, _ ++ (layP officeP (seqd arrS2) 2 (itemOf arrS2 ⟨2, kXY, bTwo, 1⟩)).2) = _
  rw [hl]
  rfl
theorem arr_settle : settleP officeP busyS arrL = arrS := by
  refine settle_of (n := 3) ?_ (by decide)
  show stepA officeP (stepA officeP (stepA officeP (busyS, arrL))) = _
  rw [arr_step1, arr_step2, arr_step3]
theorem arr_err : arriveErr officeP busyS arrL = 0 := by
  unfold arriveErr
  rw [if_neg (by rw [busy_right]; decide), if_neg (by decide), if_neg (by decide), if_neg (by simp [arrL, arrFine, xy_key, z_key]; decide), if_neg (by decide)]
theorem arr_office : arriveErr officeP busyS arrL = 0 ∧ arriveN officeP busyS arrL = 3 ∧ arriveS officeP busyS arrL = arrS := by
  refine ⟨arr_err, ?_, ?_⟩
  · unfold arriveN; rw [if_pos arr_err, arr_settle]; rfl
  · unfold arriveS; rw [if_pos arr_err, arr_settle]
theorem arr_errX : arriveErr officeP busyS arrX = 5 := by
  unfold arriveErr
  rw [if_neg (by rw [busy_right]; decide), if_neg (by decide), if_pos (by decide)]
theorem arr_officeX : arriveErr officeP busyS arrX = 5 ∧ arriveN officeP busyS arrX = 0 ∧ arriveS officeP busyS arrX = zeroS := by
  refine ⟨arr_errX, ?_, ?_⟩
  · unfold arriveN; rw [if_neg (by rw [arr_errX]; decide)]
  · unfold arriveS; rw [if_neg (by rw [arr_errX]; decide)]

end Go.Proofs.YtfbgmgadpjpdcaaGreatDoor

namespace Go.Proofs.YtfbgmgadpjpdcaaGreatDoor
open Go Go.RowKit
set_option maxRecDepth 100000

theorem row_cell {w : World} {lo hi rb ro k : Nat} {a2 a3 : Option Addr} {rows : List RowD} {s : StateD} {l : List ItemD} (h : StateAt w lo hi (some ⟨rb, ro, none⟩) a2 a3 rows s) (hk : s.ready[k]? = some l) :
    ∃ ra rc, w.cell? ⟨rb, ro + k, none⟩ = some (.slice ra l.length rc) ∧ Sl w lo hi ra (l.flatMap vItem) ∧ l.length ≤ rc := by
  rw [← h.same, List.getElem?_map, Option.map_eq_some_iff] at hk
  obtain ⟨r, hr, rfl⟩ := hk
  have hkl : k < rows.length := (List.getElem?_eq_some_iff.1 hr).1
  obtain ⟨b, o, e, _, _, hc⟩ := sl_elem vRow_len (by decide) h.ready hkl
  simp only [Option.some.injEq, Addr.mk.injEq, and_true] at e
  obtain ⟨rfl, rfl⟩ := e
  have e2 : rows[k] = r := by rw [List.getElem?_eq_getElem hkl] at hr; exact Option.some.inj hr
  rw [e2] at hc
  have h1 := hc 0 _ rfl
  rw [Nat.mul_one] at h1
  exact ⟨r.at_, r.cap, h1, (h.row r (List.mem_of_getElem? hr)).1, (h.row r (List.mem_of_getElem? hr)).2⟩
theorem cLetters (l : List ArrivalD) (x : StateD) (n e : Int) (h : arriveErr officeP busyS l = e ∧ arriveN officeP busyS l = n ∧ arriveS officeP busyS l = x) (hll : l.length ≤ 4) (hsm : ∀ a ∈ l, ArrSmall a) (b1 b2 b3 lo g0 g1 g2 g3 : Nat) (al : Option Addr) (cl : Nat) (w : World) (hE : Env w) (ho : OfficeIn w b1 b2 b3) (hs : BusyAt w lo g0 g1 g2 g3) (hl : Sl w 0 w.heap.size al (l.flatMap vArrival)) :
    Calls Tryz.prog 14 #[officeV b1 b2 b3, busyV g1 g2 g3, .slice al l.length cl] w (ArPost x n e w) := by
  have := Letters_any officeP busyS l _ _ _ _ _ _ al 3 3 5 3 1 2 cl (busyRowD g0) w hE ho.plan office_small hs.state busy_small busy_ints hl (by omega) hsm
  rw [h.1, h.2.1, h.2.2] at this
  exact this
theorem arrL_small : ∀ a ∈ arrL, ArrSmall a := by
  intro a ha
  simp only [arrL, List.mem_cons, List.not_mem_nil, or_false] at ha
  rcases ha with rfl | rfl
  · exact ⟨by decide, by decide, by decide, by decide⟩
  · exact ⟨by decide, by decide, by decide, by decide⟩
theorem arrX_small : ∀ a ∈ arrX, ArrSmall a := by
  intro a ha
  simp only [arrX, List.mem_cons, List.not_mem_nil, or_false] at ha
  subst ha
  exact ⟨by decide, by decide, by decide, by decide⟩

set_option maxHeartbeats 4000000 in
theorem arriveBegun_any (w : World) (hE : Env w) : Calls Tryz.prog 16 #[] w fun e w' => e = .returned (.bool true) ∧ Below w.heap.size w w' := by
  have HE := Lib.hid hE; clear hE
  go_enter Tryz.func16, Tryz.ntmps16
  go_wp2_with fail
  refine (office_in _).mono ?_
  rintro e w1 ⟨p1, p2, p3, rfl, ho1, hb1⟩
  go_wp2_with fail
  refine (busy_any _).mono ?_
  rintro e w2 ⟨g0, g1, g2, g3, rfl, hy2, hb2⟩
  have hb2' := hb1.trans (hb2.mono hb1.size)
  have ho2 := ho1.below hb2
  go_wp2_with fail
  obtain ⟨W3, hW3⟩ : ∃ W3, w2.alloc (.cells #[.int .i64 0, .string ⟨#[120, 46, 121]⟩, .string ⟨#[110, 101, 119]⟩, .int .i64 0, .int .i64 1, .string ⟨#[122]⟩, .string ⟨#[111, 116, 104, 101, 114]⟩, .int .i64 0] 76) = W3 := ⟨_, rfl⟩
  have hb3 : Below w2.heap.size w2 W3 := by rw [← hW3]; exact (Below.refl _ _).alloc (Nat.le_refl _) _
  have hl3 : Sl W3 0 W3.heap.size (some ⟨w2.heap.size, 0, none⟩) (arrL.flatMap vArrival) := by
    rw [← hW3]
    exact (Sl.new w2 (arrL.flatMap vArrival) 76 (w2.heap.size + 1) (by omega)).wider (Nat.zero_le _) (by simp)
  have hb3' := hb2'.trans (hb3.mono hb2'.size)
  rw [hW3]
  refine (cLetters arrL arrS 3 0 arr_office (by decide) arrL_small p1 p2 p3 _ g0 g1 g2 g3 (some ⟨w2.heap.size, 0, none⟩) 2 W3 (below_env hb3' HE.out) (ho2.below hb3) (hy2.below hb3) hl3).mono ?_
  rintro e w4 ⟨x1, x2, x3, d1, d2, d3, rx, rfl, hs4, hb4⟩
  have HB4 := Lib.hid (hb3'.trans (hb4.mono hb3'.size))
  have HS4 := Lib.hid hs4
  clear hb1 hb2 hb2' hb3 hb3' hb4 ho1 ho2 hy2 hs4 hl3 hW3
  rw [show stateV arrS x1 x2 x3 d1 d2 d3 = .agg #[.slice x1 3 d1, .slice x2 1 d2, .slice x3 2 d3, .int .i64 7, .int .i64 6, .int .i64 7, .int .i64 1, .int .i64 1] from rfl]
  go_wp2_with fail
  obtain ⟨WA, hWA⟩ : ∃ WA, w4.alloc (.cells #[.slice x1 3 d1, .slice x2 1 d2, .slice x3 2 d3, .int .i64 7, .int .i64 6, .int .i64 7, .int .i64 1, .int .i64 1] 31) = WA := ⟨_, rfl⟩
  have HA := Lib.hid (box_since (x := arrS) d1 d2 d3 HS4.out HB4.out hWA)
  rw [hWA]
  clear hWA HS4 HB4
  refine (office_in _).mono ?_
  rintro e w5 ⟨p1, p2, p3, rfl, ho5, hb5⟩
  go_wp2_with fail
  refine (busy_any _).mono ?_
  rintro e w6 ⟨g0, g1, g2, g3, rfl, hy6, hb6⟩
  have hb6' := hb5.trans (hb6.mono hb5.size)
  have ho6 := ho5.below hb6
  go_wp2_with fail
  obtain ⟨W7, hW7⟩ : ∃ W7, w6.alloc (.cells #[.int .i64 3, .string ⟨#[120]⟩, .string ⟨#[]⟩, .int .i64 0] 76) = W7 := ⟨_, rfl⟩
  have hb7 : Below w6.heap.size w6 W7 := by rw [← hW7]; exact (Below.refl _ _).alloc (Nat.le_refl _) _
  have hl7 : Sl W7 0 W7.heap.size (some ⟨w6.heap.size, 0, none⟩) (arrX.flatMap vArrival) := by
    rw [← hW7]
    exact (Sl.new w6 (arrX.flatMap vArrival) 76 (w6.heap.size + 1) (by omega)).wider (Nat.zero_le _) (by simp)
  have hb7' := hb6'.trans (hb7.mono hb6'.size)
  rw [hW7]
  refine (cLetters arrX zeroS 0 5 arr_officeX (by decide) arrX_small p1 p2 p3 _ g0 g1 g2 g3 (some ⟨w6.heap.size, 0, none⟩) 1 W7 (below_env (HA.out _ hb7').2 HE.out) (ho6.below hb7) (hy6.below hb7) hl7).mono ?_
  rintro e w8 ⟨z1, z2, z3, f1, f2, f3, rz, rfl, _, hb8⟩
  rw [show stateV zeroS z1 z2 z3 f1 f2 f3 = .agg #[.slice z1 0 f1, .slice z2 0 f2, .slice z3 0 f3, .int .i64 0, .int .i64 0, .int .i64 0, .int .i64 0, .int .i64 0] from rfl]
  have hb8' := hb7'.trans (hb8.mono hb7'.size)
  go_upto_region 3 with fail
  obtain ⟨wf, hwf⟩ : ∃ wf, w8.alloc (.cells #[.slice z1 0 f1, .slice z2 0 f2, .slice z3 0 f3, .int .i64 0, .int .i64 0, .int .i64 0, .int .i64 0, .int .i64 0] 31) = wf := ⟨_, rfl⟩
  have hbf : Below WA.heap.size WA wf := by rw [← hwf]; exact hb8'.alloc hb8'.size _
  have HBF := Lib.hid (HA.out _ hbf)
  rw [hwf]
  clear hwf hb5 hb6 hb6' hb7 hb7' hb8 hb8' hbf ho5 ho6 hy6 hl7 hW7 HA
  have hB := HBF.out.1
  have n0 : wf.cell? ⟨w4.heap.size, 0, none⟩ = some (.slice x1 3 d1) := hB.cells.1
  have n5 : wf.cell? ⟨w4.heap.size, 5, none⟩ = some (.int .i64 7) := hB.cells.2.2.2.2.2.1
  have n7 : wf.cell? ⟨w4.heap.size, 7, none⟩ = some (.int .i64 1) := hB.cells.2.2.2.2.2.2.2
  have hrl : rx.length = 3 := by have := congrArg List.length hB.at_.same; simpa [arrS] using this
  obtain ⟨rb, ro, rfl, _, _, _⟩ := sl_elem vRow_len (by decide) hB.at_.ready (k := 0) (by omega)
  obtain ⟨ra0, rc0, r0, s0, _⟩ := row_cell (k := 0) hB.at_ rfl
  obtain ⟨ra1, rc1, r1, s1, _⟩ := row_cell (k := 1) hB.at_ rfl
  obtain ⟨ra2, rc2, r2, s2, _⟩ := row_cell (k := 2) hB.at_ rfl
  obtain ⟨ib, io, rfl, _, _, hi⟩ := sl_elem vItem_len (by decide) s0 (k := 1) (by decide)
  obtain ⟨jb, jo, rfl, _, _, hj⟩ := sl_elem vItem_len (by decide) s2 (k := 0) (by decide)
  have i0 : wf.cell? ⟨ib, io + 5 + 0, none⟩ = some (.int .i64 4) := hi 0 _ rfl
  have i2 : wf.cell? ⟨ib, io + 5 + 2, none⟩ = some (.string ⟨#[110, 101, 119]⟩) := hi 2 _ rfl
  have j0 : wf.cell? ⟨jb, jo, none⟩ = some (.int .i64 6) := hj 0 _ rfl
  have j1 : wf.cell? ⟨jb, jo + 1, none⟩ = some (.string ⟨#[120, 46, 121]⟩) := hj 1 _ rfl
  have j2 : wf.cell? ⟨jb, jo + 2, none⟩ = some (.string ⟨#[116, 119, 111]⟩) := hj 2 _ rfl
  have j3 : wf.cell? ⟨jb, jo + 3, none⟩ = some (.bool false) := hj 3 _ rfl
  have j4 : wf.cell? ⟨jb, jo + 4, none⟩ = some (.int .i64 1) := hj 4 _ rfl
  have q0 : wf.cell? ⟨rb, ro, none⟩ = some (.slice (some ⟨ib, io, none⟩) 2 rc0) := r0
  have q1 : wf.cell? ⟨rb, ro + 1, none⟩ = some (.slice ra1 1 rc1) := r1
  have q2 : wf.cell? ⟨rb, ro + 2, none⟩ = some (.slice (some ⟨jb, jo, none⟩) 1 rc2) := r2
  have heq : ∀ w, (binOp .eql 43 (.agg #[.int .i64 6, .string ⟨#[120, 46, 121]⟩, .string ⟨#[116, 119, 111]⟩, .bool false, .int .i64 1]) (.agg #[.int .i64 6, .string ⟨#[120, 46, 121]⟩, .string ⟨#[116, 119, 111]⟩, .bool false, .int .i64 1])).run Tryz.prog w = .ok (.bool true) w := fun w => (eqlItem ⟨6, kXY, bTwo, false, 1⟩ ⟨6, kXY, bTwo, false, 1⟩ w).trans (by kernel_rfl)
  clear hi hj hB r0 r1 r2 s0 s1 s2
  go_wp2_with fail
  go_ret
  exact ⟨rfl, HBF.out.2⟩

end Go.Proofs.YtfbgmgadpjpdcaaGreatDoor

namespace Go.Proofs.YtfbgmgadpjpdcaaGreatDoor
open Go.RowKit Go.ChangeShapes Go.WideShapes Go.Deep
set_option maxRecDepth 100000
section
variable {H : Type} {encH : TypeId × Value → H} {w : World} {base : Nat} {spare : Nat → Bool} {held : Bool} {n : Nat} {cs : List Value} {y : DataW H × List MemPlace}
theorem cArrival : Tryz.prog.cellsOf 76 = 4 := by kernel_rfl
theorem arrival_in (h : DataW.trod encH Tryz.prog w base spare held n 76 cs = some y) : ∃ x, cs = vArrival x ∧ ArrivalR y.1 x := by
  obtain ⟨xs, m, hx, hl, hlen, hf⟩ := cells_struct Tryz.underlying76 h
  obtain ⟨c0, c1, c2, c3, rfl⟩ := len4 (hl.trans cArrival)
  obtain ⟨y0, m0, h0⟩ := field_of hf 0 rfl cInt
  obtain ⟨y1, m1, h1⟩ := field_of hf 1 rfl cString
  obtain ⟨y2, m2, h2⟩ := field_of hf 2 rfl cString
  obtain ⟨y3, m3, h3⟩ := field_of hf 3 rfl cInt
  obtain ⟨i, rfl, hi⟩ := int_in h0
  obtain ⟨k, rfl, hk⟩ := string_in h1
  obtain ⟨b, rfl, hb⟩ := string_in h2
  obtain ⟨j, rfl, hj⟩ := int_in h3
  rw [hx]
  exact ⟨⟨i, k, b, j⟩, rfl, Nat.lt_trans hk (bulk_agg m1), Nat.lt_trans hb (bulk_agg m2), hi, hj⟩

theorem open_arrivals {r : Go.Reach} {b0 : Nat} {v : Value} {d : DataW H} {p : List MemPlace} (hv : Value.okWide Tryz.prog w r b0 32 v) (h : DataW.Trod encH Tryz.prog w base spare held 32 v d p) (hB : Rows.uptoBulk d ≤ 1048576) :
    ∃ (a : Option Addr) (c : Nat) (l : List ArrivalD), v = .slice a l.length c ∧ l.length ≤ c ∧ Sl w 0 w.heap.size a (l.flatMap vArrival) ∧ (∀ x ∈ l, ArrSmall x) ∧ l.length ≤ 1048576 := by
  obtain ⟨a0, len, cap, rfl⟩ := okWide_slice Tryz.underlying32 hv
  obtain ⟨fuel, hf⟩ := h
  obtain ⟨a, c, xs, e, k, _, s, m, r, _⟩ := open_list (enc := vArrival) ArrivalR Tryz.underlying32 cArrival (by decide) vArrival_len (fun _ _ _ => arrival_in) hf
  have e' : Value.slice a0 len cap = .slice a xs.length c := by simpa [Value.cells] using e
  have m1 : xs.length < Rows.uptoBulk d := m
  refine ⟨a, c, xs, e', k, s, fun x hx => ?_, by omega⟩
  obtain ⟨d', hd, hb⟩ := r x hx
  obtain ⟨h1, h2, h3, h4⟩ := hd
  unfold i64 at h3 h4
  have m2 : Rows.uptoBulk d' ≤ Rows.uptoBulk d := hb
  exact ⟨by omega, by omega, by omega, by omega⟩

end
end Go.Proofs.YtfbgmgadpjpdcaaGreatDoor
