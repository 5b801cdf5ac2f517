/-
  Fits: plain, and walked: plan.By, plan.Fits; the reference's fits, FitsOf.
-/
import Derived.Test.YtbdikenloklhaaaDoorPlanR

import Derived.StillTailTactics
namespace Go.Proofs.YtbdikenloklhaaaDoor
open Go.RowKit
set_option maxRecDepth 100000

/-- Does a key fit, by the kind of a bind's post? -/
def byK (kind : Int) (pat key : ByteArray) : Bool := if kind = 1 then (pat.toList == key.toList) else if kind = 3 then fitP pat key else true
def kindAt (p : PlanD) (b : BindD) : Int := match p.posts[b.src.toNat]? with
  | some x => x.kind
  | none => 0
def byP (p : PlanD) (b : BindD) (key : ByteArray) : Bool := byK (kindAt p b) b.pattern key
def fitsErr (p : PlanD) (n : Int) (key : ByteArray) : Int := if checkP p ≠ 0 then checkP p else if n < 0 ∨ (p.binds.length : Int) ≤ n then 5 else splitErr isWord key
def fitsAt (p : PlanD) (n : Int) (key : ByteArray) : Bool := match p.binds[n.toNat]? with
  | some b => byP p b key
  | none => false
def fitsIs (p : PlanD) (n : Int) (key : ByteArray) : Bool := if fitsErr p n key = 0 then fitsAt p n key else false

/-- What a right plan is. -/
structure PlanRight (p : PlanD) : Prop where
  posts : p.posts.length ≤ 4
  queues : p.queues.length ≤ 4
  binds : p.binds.length ≤ 10
  names : ∀ s ∈ postNames p ++ queueNames p, nameP s = true
  nodupPosts : (postNames p).Nodup
  nodupQueues : (queueNames p).Nodup
  kind : ∀ x ∈ p.posts, 1 ≤ x.kind ∧ x.kind ≤ 3
  queue : ∀ x ∈ p.queues, 1 ≤ x.limit ∧ x.limit ≤ 6 ∧ -1 ≤ x.dead ∧ x.dead < (p.posts.length : Int)
  bind : ∀ b ∈ p.binds, 0 ≤ b.src ∧ b.src < (p.posts.length : Int) ∧ 0 ≤ b.to ∧ b.to < (if b.toPost then (p.posts.length : Int) else (p.queues.length : Int))
  pat : ∀ b ∈ p.binds, splitErr isWild b.pattern = 0

theorem patErr_ok : ∀ {bs : List BindD}, patErr bs = 0 → ∀ b ∈ bs, splitErr isWild b.pattern = 0
  | [], _, b, hb => by cases hb
  | x :: r, h, b, hb => by
    unfold patErr at h
    by_cases hx : splitErr isWild x.pattern = 0
    · rw [if_pos hx] at h
      rcases List.mem_cons.1 hb with rfl | hb
      · exact hx
      · exact patErr_ok h b hb
    · rw [if_neg hx] at h
      exact absurd h hx

theorem checkP_right {p : PlanD} (h : checkP p = 0) : PlanRight p := by
  unfold checkP at h
  split at h
  · cases h
  rename_i h1
  split at h
  · cases h
  rename_i h2
  split at h
  · cases h
  rename_i h3
  split at h
  · cases h
  rename_i h4
  split at h
  · cases h
  rename_i h5
  split at h
  · cases h
  rename_i h6
  simp only [Bool.or_eq_true, not_or, Bool.not_eq_true, dup, Bool.not_eq_false', decide_eq_true_eq] at h3
  simp only [Bool.not_eq_true, List.any_eq_false] at h2 h4 h5 h6
  refine ⟨by omega, by omega, by omega, fun s hs => ?_, h3.1, h3.2, fun x hx => ?_, fun x hx => ?_, fun b hb => ?_, patErr_ok h⟩
  · have := h2 s hs; simpa using this
  · have := h4 x hx; simp [kindP] at this; omega
  · have := h5 x hx; simp [queueP] at this; omega
  · have h' : bindP p.posts.length p.queues.length b = true := by
      have := h6 b hb
      cases hq : bindP p.posts.length p.queues.length b
      · rw [hq] at this; cases this
      · rfl
    have this := h'
    simp only [bindP, Bool.and_eq_true, decide_eq_true_eq] at this
    exact ⟨this.1.1.1, this.1.1.2, this.1.2, this.2⟩

theorem splitErr_size {p : List UInt8 → Bool} {s : ByteArray} (h : splitErr p s = 0) : s.size ≤ 24 := by
  unfold splitErr at h
  split at h
  · cases h
  · omega

set_option maxHeartbeats 1000000 in
theorem By_any (p : PlanD) (b : BindD) (key : ByteArray) (a1 a2 a3 : Option Addr) (c1 c2 c3 lo : Nat) (w : World) (hv : Env w) (hp : Sl w lo w.heap.size a1 (p.posts.flatMap vPost)) (k : Nat) (hk : k < p.posts.length) (_hl : p.posts.length ≤ 4194304) (hb : b.src = k)
    (h1 : b.pattern.size ≤ 1048576) (h2 : key.size ≤ 1048576) :
    Calls Tryd.prog 65 #[planV p a1 a2 a3 c1 c2 c3, .agg (vBind b).toArray, .string key] w fun e w' => e = .returned (.bool (byP p b key)) ∧ Below w.heap.size w w' := by
  obtain ⟨src, tp, dst, pat⟩ := b
  simp only at hb
  subst hb
  obtain ⟨g, o, ha, _, hg, hc⟩ := sl_elem vPost_len (by decide) hp hk
  subst ha
  have hbl : ∀ o1 o2, Below w.heap.size w ((w.alloc o1).alloc o2) := fun o1 o2 => ((Below.refl _ w).alloc (Nat.le_refl _) o1).alloc (by simp) o2
  have e1 : ∀ o1 o2, ((w.alloc o1).alloc o2).cell? ⟨g, o + k * 2 + 1, none⟩ = some (.int .i64 p.posts[k].kind) := fun o1 o2 => ((hbl o1 o2).cell (p := ⟨g, _, none⟩) hg).trans (hc 1 _ rfl)
  have hby : byP p ⟨k, tp, dst, pat⟩ key = byK p.posts[k].kind pat key := by
    simp [byP, kindAt, hk]
  have HBY := Lib.hid hby
  clear hby hc hp
  unfold planV vBind
  generalize p.posts[k].kind = kd at *
  have hve : ∀ o1 o2, Env ((w.alloc o1).alloc o2) := fun o1 o2 => below_env (hbl o1 o2) hv
  have HVE := Lib.hid hve
  have HBL := Lib.hid hbl
  clear hve hv hbl
  by_cases hk1 : kd = 1
  · subst hk1
    have HR : Hid (byP p ⟨k, tp, dst, pat⟩ key = (pat.toList == key.toList)) := HBY.out.trans (by simp [byK])
    go_enter Tryd.func65, Tryd.ntmps65
    go_wp2_with fail
    go_ret
    exact ⟨by rw [HR.out]; rfl, HBL.out _ _⟩
  · by_cases hk3 : kd = 3
    · subst hk3
      have HR : Hid (byP p ⟨k, tp, dst, pat⟩ key = fitP pat key) := HBY.out.trans (by simp [byK])
      clear hk1
      go_enter Tryd.func65, Tryd.ntmps65
      go_wp2_with fail
      obtain ⟨m, hm⟩ := HVE.out (.cells #[Value.slice (some ⟨g, o, none⟩) p.posts.length c1, Value.slice a2 p.queues.length c2, Value.slice a3 p.binds.length c3] 26) (.cells #[Value.int .i64 k, .bool tp, .int .i64 dst, .string pat] 92)
      refine (Fit_any pat key m _ (by omega) (by omega) hm).mono ?_
      rintro e w1 ⟨rfl, hb1⟩
      have H1 := Lib.hid ((HBL.out _ _).trans (hb1.mono (HBL.out _ _).size)); clear hb1 hm
      go_wp2_with fail
      go_ret
      exact ⟨by rw [HR.out]; rfl, H1.out⟩
    · have HR : Hid (byP p ⟨k, tp, dst, pat⟩ key = true) := HBY.out.trans (by simp [byK, hk1, hk3])
      have b1 : (kd == 1) = false := by simp [hk1]
      have b3 : (kd == 3) = false := by simp [hk3]
      clear hk1 hk3
      go_enter Tryd.func65, Tryd.ntmps65
      go_wp2_with fail
      go_ret
      exact ⟨by rw [HR.out]; rfl, HBL.out _ _⟩


set_option maxHeartbeats 1000000 in
theorem reffits_any (p : PlanD) (n : Nat) (hn : n < p.binds.length) (key : ByteArray) (a1 a2 a3 : Option Addr) (c1 c2 c3 lo : Nat) (w : World) (hp : PlanAt w lo w.heap.size a1 a2 a3 p) (hps : PlanSmall p) (k : Nat) (hk : k < p.posts.length) (hb : p.binds[n].src = k) (h2 : key.size ≤ 1048576) :
    Calls Tryd.prog 67 #[planV p a1 a2 a3 c1 c2 c3, .int .i64 n, .string key] w fun e w' => e = .returned (.bool (fitsAt p n key)) ∧ Below w.heap.size w w' := by
  obtain ⟨g, o, ha, _, hg, hc⟩ := sl_elem vPost_len (by decide) hp.posts hk
  obtain ⟨g2, o2, ha2, _, hg2, hc2⟩ := sl_elem vBind_len (by decide) hp.binds hn
  subst ha ha2
  have hpat := hps.bind _ (List.getElem_mem hn)
  have hnl := hps.binds
  have hkl := hps.posts
  have hbl1 : ∀ o1, Below w.heap.size w (w.alloc o1) := fun o1 => (Below.refl _ w).alloc (Nat.le_refl _) o1
  have hbl : ∀ o1 o2, Below w.heap.size w ((w.alloc o1).alloc o2) := fun o1 o2 => ((Below.refl _ w).alloc (Nat.le_refl _) o1).alloc (by simp) o2
  have e1 : ∀ o1 o2, ((w.alloc o1).alloc o2).cell? ⟨g, o + k * 2 + 1, none⟩ = some (.int .i64 p.posts[k].kind) := fun o1 o2 => ((hbl o1 o2).cell (p := ⟨g, _, none⟩) hg).trans (hc 1 _ rfl)
  have d0 : ∀ o1, (w.alloc o1).cell? ⟨g2, o2 + n * 4, none⟩ = some (.int .i64 p.binds[n].src) := fun o1 => ((hbl1 o1).cell (p := ⟨g2, _, none⟩) hg2).trans (hc2 0 _ rfl)
  have d1 : ∀ o1, (w.alloc o1).cell? ⟨g2, o2 + n * 4 + 1, none⟩ = some (.bool p.binds[n].toPost) := fun o1 => ((hbl1 o1).cell (p := ⟨g2, _, none⟩) hg2).trans (hc2 1 _ rfl)
  have d2 : ∀ o1, (w.alloc o1).cell? ⟨g2, o2 + n * 4 + 2, none⟩ = some (.int .i64 p.binds[n].to) := fun o1 => ((hbl1 o1).cell (p := ⟨g2, _, none⟩) hg2).trans (hc2 2 _ rfl)
  have d3 : ∀ o1, (w.alloc o1).cell? ⟨g2, o2 + n * 4 + 3, none⟩ = some (.string p.binds[n].pattern) := fun o1 => ((hbl1 o1).cell (p := ⟨g2, _, none⟩) hg2).trans (hc2 3 _ rfl)
  have hby : fitsAt p n key = byK p.posts[k].kind p.binds[n].pattern key := by
    simp [fitsAt, byP, kindAt, hn, hb, hk]
  have HBY := Lib.hid hby
  have HBL := Lib.hid hbl
  clear hby hc hc2 hp hps hbl hbl1
  unfold planV
  rw [hb] at d0
  clear hb
  generalize p.posts[k].kind = kd at *
  generalize p.binds[n].pattern = pat at *
  generalize p.binds[n].toPost = tp at *
  generalize p.binds[n].to = dst at *
  by_cases hk1 : kd = 1
  · subst hk1
    have HR : Hid (fitsAt p n key = (pat.toList == key.toList)) := HBY.out.trans (by simp [byK])
    go_enter Tryd.func67, Tryd.ntmps67
    go_wp2_with fail
    go_ret
    exact ⟨by rw [HR.out]; rfl, HBL.out _ _⟩
  · by_cases hk3 : kd = 3
    · subst hk3
      have HR : Hid (fitsAt p n key = fitP pat key) := HBY.out.trans (by simp [byK])
      clear hk1
      go_enter Tryd.func67, Tryd.ntmps67
      go_wp2_with fail
      refine (refFit_any pat key _ (by omega) (by omega)).mono ?_
      rintro e w1 ⟨rfl, hb1⟩
      have H1 := Lib.hid ((HBL.out _ _).trans (hb1.mono (HBL.out _ _).size)); clear hb1
      go_wp2_with fail
      go_ret
      exact ⟨by rw [HR.out]; rfl, H1.out⟩
    · have HR : Hid (fitsAt p n key = true) := HBY.out.trans (by simp [byK, hk1, hk3])
      have b1 : (kd == 1) = false := by simp [hk1]
      have b3 : (kd == 3) = false := by simp [hk3]
      clear hk1 hk3
      go_enter Tryd.func67, Tryd.ntmps67
      go_wp2_with fail
      go_ret
      exact ⟨by rw [HR.out]; rfl, HBL.out _ _⟩

end Go.Proofs.YtbdikenloklhaaaDoor
