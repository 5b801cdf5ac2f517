/-
  Fits: plain, and walked: plan.By, plan.Fits; the reference's fits, FitsOf.
  plan.Fits and the reference's FitsOf, walked.
-/
import Derived.Test.YtbdikenloklhaaaDoorPlanR
import Derived.StillTailTactics
namespace Go.Proofs.YtbdikenloklhaaaDoor
open Go.RowKit
set_option maxRecDepth 100000

/-- Does a key fit, by the kind of a bind's post? -/
def byK (kind : Int) (pat key : ByteArray) : Bool := if kind = 1 then (pat.toList == key.toList) else if kind = 3 then fitP pat key else true
def kindAt (p : PlanD) (b : BindD) : Int := match p.posts[b.src.toNat]? with
  | some x => x.kind
  | none => 0
def byP (p : PlanD) (b : BindD) (key : ByteArray) : Bool := byK (kindAt p b) b.pattern key
def fitsErr (p : PlanD) (n : Int) (key : ByteArray) : Int := if checkP p ≠ 0 then checkP p else if n < 0 ∨ (p.binds.length : Int) ≤ n then 5 else splitErr isWord key
def fitsAt (p : PlanD) (n : Int) (key : ByteArray) : Bool := match p.binds[n.toNat]? with
  | some b => byP p b key
  | none => false
def fitsIs (p : PlanD) (n : Int) (key : ByteArray) : Bool := if fitsErr p n key = 0 then fitsAt p n key else false

/-- What a right plan is. -/
structure PlanRight (p : PlanD) : Prop where
  posts : p.posts.length ≤ 4
  queues : p.queues.length ≤ 4
  binds : p.binds.length ≤ 10
  names : ∀ s ∈ postNames p ++ queueNames p, nameP s = true
  nodupPosts : (postNames p).Nodup
  nodupQueues : (queueNames p).Nodup
  kind : ∀ x ∈ p.posts, 1 ≤ x.kind ∧ x.kind ≤ 3
  queue : ∀ x ∈ p.queues, 1 ≤ x.limit ∧ x.limit ≤ 6 ∧ -1 ≤ x.dead ∧ x.dead < (p.posts.length : Int)
  bind : ∀ b ∈ p.binds, 0 ≤ b.src ∧ b.src < (p.posts.length : Int) ∧ 0 ≤ b.to ∧ b.to < (if b.toPost then (p.posts.length : Int) else (p.queues.length : Int))
  pat : ∀ b ∈ p.binds, splitErr isWild b.pattern = 0

theorem patErr_ok : ∀ {bs : List BindD}, patErr bs = 0 → ∀ b ∈ bs, splitErr isWild b.pattern = 0
  | [], _, b, hb => by cases hb
  | x :: r, h, b, hb => by
    unfold patErr at h
    by_cases hx : splitErr isWild x.pattern = 0
    · rw [if_pos hx] at h
      rcases List.mem_cons.1 hb with rfl | hb
      · exact hx
      · exact patErr_ok h b hb
    · rw [if_neg hx] at h
      exact absurd h hx

theorem checkP_right {p : PlanD} (h : checkP p = 0) : PlanRight p := by
  unfold checkP at h
  split at h
  · cases h
  rename_i h1
  split at h
  · cases h
  rename_i h2
  split at h
  · cases h
  rename_i h3
  split at h
  · cases h
  rename_i h4
  split at h
  · cases h
  rename_i h5
  split at h
  · cases h
  rename_i h6
  simp only [Bool.or_eq_true, not_or, Bool.not_eq_true, dup, Bool.not_eq_false', decide_eq_true_eq] at h3
  simp only [Bool.not_eq_true, List.any_eq_false] at h2 h4 h5 h6
  refine ⟨by omega, by omega, by omega, fun s hs => ?_, h3.1, h3.2, fun x hx => ?_, fun x hx => ?_, fun b hb => ?_, patErr_ok h⟩
  · have := h2 s hs; simpa using this
  · have := h4 x hx; simp [kindP] at this; omega
  · have := h5 x hx; simp [queueP] at this; omega
  · have h' : bindP p.posts.length p.queues.length b = true := by
      have := h6 b hb
      cases hq : bindP p.posts.length p.queues.length b
      · rw [hq] at this; cases this
      · rfl
    have this := h'
    simp only [bindP, Bool.and_eq_true, decide_eq_true_eq] at this
    exact ⟨this.1.1.1, this.1.1.2, this.1.2, this.2⟩

theorem splitErr_size {p : List UInt8 → Bool} {s : ByteArray} (h : splitErr p s = 0) : s.size ≤ 24 := by
  unfold splitErr at h
  split at h
  · cases h
  · omega

set_option maxHeartbeats 1000000 in
theorem By_any (p : PlanD) (b : BindD) (key : ByteArray) (a1 a2 a3 : Option Addr) (c1 c2 c3 lo : Nat) (w : World) (hv : Env w) (hp : Sl w lo w.heap.size a1 (p.posts.flatMap vPost)) (k : Nat) (hk : k < p.posts.length) (_hl : p.posts.length ≤ 4194304) (hb : b.src = k)
    (h1 : b.pattern.size ≤ 1048576) (h2 : key.size ≤ 1048576) :
    Calls Tryd.prog 65 #[planV p a1 a2 a3 c1 c2 c3, .agg (vBind b).toArray, .string key] w fun e w' => e = .returned (.bool (byP p b key)) ∧ Below w.heap.size w w' := by
  obtain ⟨src, tp, dst, pat⟩ := b
  simp only at hb
  subst hb
  obtain ⟨g, o, ha, _, hg, hc⟩ := sl_elem vPost_len (by decide) hp hk
  subst ha
  have hbl : ∀ o1 o2, Below w.heap.size w ((w.alloc o1).alloc o2) := fun o1 o2 => ((Below.refl _ w).alloc (Nat.le_refl _) o1).alloc (by simp) o2
  have e1 : ∀ o1 o2, ((w.alloc o1).alloc o2).cell? ⟨g, o + k * 2 + 1, none⟩ = some (.int .i64 p.posts[k].kind) := fun o1 o2 => ((hbl o1 o2).cell (p := ⟨g, _, none⟩) hg).trans (hc 1 _ rfl)
  have hby : byP p ⟨k, tp, dst, pat⟩ key = byK p.posts[k].kind pat key := by
    simp [byP, kindAt, hk]
  have HBY := Lib.hid hby
  clear hby hc hp
  unfold planV vBind
  generalize p.posts[k].kind = kd at *
  have hve : ∀ o1 o2, Env ((w.alloc o1).alloc o2) := fun o1 o2 => below_env (hbl o1 o2) hv
  have HVE := Lib.hid hve
  have HBL := Lib.hid hbl
  clear hve hv hbl
  by_cases hk1 : kd = 1
  · subst hk1
    have HR : Hid (byP p ⟨k, tp, dst, pat⟩ key = (pat.toList == key.toList)) := HBY.out.trans (by simp [byK])
    go_enter Tryd.func65, Tryd.ntmps65
    go_wp2_with fail
    go_ret
    exact ⟨by rw [HR.out]; rfl, HBL.out _ _⟩
  · by_cases hk3 : kd = 3
    · subst hk3
      have HR : Hid (byP p ⟨k, tp, dst, pat⟩ key = fitP pat key) := HBY.out.trans (by simp [byK])
      clear hk1
      go_enter Tryd.func65, Tryd.ntmps65
      go_wp2_with fail
      obtain ⟨m, hm⟩ := HVE.out (.cells #[Value.slice (some ⟨g, o, none⟩) p.posts.length c1, Value.slice a2 p.queues.length c2, Value.slice a3 p.binds.length c3] 26) (.cells #[Value.int .i64 k, .bool tp, .int .i64 dst, .string pat] 92)
      refine (Fit_any pat key m _ (by omega) (by omega) hm).mono ?_
      rintro e w1 ⟨rfl, hb1⟩
      have H1 := Lib.hid ((HBL.out _ _).trans (hb1.mono (HBL.out _ _).size)); clear hb1 hm
      go_wp2_with fail
      go_ret
      exact ⟨by rw [HR.out]; rfl, H1.out⟩
    · have HR : Hid (byP p ⟨k, tp, dst, pat⟩ key = true) := HBY.out.trans (by simp [byK, hk1, hk3])
      have b1 : (kd == 1) = false := by simp [hk1]
      have b3 : (kd == 3) = false := by simp [hk3]
      clear hk1 hk3
      go_enter Tryd.func65, Tryd.ntmps65
      go_wp2_with fail
      go_ret
      exact ⟨by rw [HR.out]; rfl, HBL.out _ _⟩


set_option maxHeartbeats 1000000 in
theorem reffits_any (p : PlanD) (n : Nat) (hn : n < p.binds.length) (key : ByteArray) (a1 a2 a3 : Option Addr) (c1 c2 c3 lo : Nat) (w : World) (hp : PlanAt w lo w.heap.size a1 a2 a3 p) (hps : PlanSmall p) (k : Nat) (hk : k < p.posts.length) (hb : p.binds[n].src = k) (h2 : key.size ≤ 1048576) :
    Calls Tryd.prog 67 #[planV p a1 a2 a3 c1 c2 c3, .int .i64 n, .string key] w fun e w' => e = .returned (.bool (fitsAt p n key)) ∧ Below w.heap.size w w' := by
  obtain ⟨g, o, ha, _, hg, hc⟩ := sl_elem vPost_len (by decide) hp.posts hk
  obtain ⟨g2, o2, ha2, _, hg2, hc2⟩ := sl_elem vBind_len (by decide) hp.binds hn
  subst ha ha2
  have hpat := hps.bind _ (List.getElem_mem hn)
  have hnl := hps.binds
  have hkl := hps.posts
  have hbl1 : ∀ o1, Below w.heap.size w (w.alloc o1) := fun o1 => (Below.refl _ w).alloc (Nat.le_refl _) o1
  have hbl : ∀ o1 o2, Below w.heap.size w ((w.alloc o1).alloc o2) := fun o1 o2 => ((Below.refl _ w).alloc (Nat.le_refl _) o1).alloc (by simp) o2
  have e1 : ∀ o1 o2, ((w.alloc o1).alloc o2).cell? ⟨g, o + k * 2 + 1, none⟩ = some (.int .i64 p.posts[k].kind) := fun o1 o2 => ((hbl o1 o2).cell (p := ⟨g, _, none⟩) hg).trans (hc 1 _ rfl)
  have d0 : ∀ o1, (w.alloc o1).cell? ⟨g2, o2 + n * 4, none⟩ = some (.int .i64 p.binds[n].src) := fun o1 => ((hbl1 o1).cell (p := ⟨g2, _, none⟩) hg2).trans (hc2 0 _ rfl)
  have d1 : ∀ o1, (w.alloc o1).cell? ⟨g2, o2 + n * 4 + 1, none⟩ = some (.bool p.binds[n].toPost) := fun o1 => ((hbl1 o1).cell (p := ⟨g2, _, none⟩) hg2).trans (hc2 1 _ rfl)
  have d2 : ∀ o1, (w.alloc o1).cell? ⟨g2, o2 + n * 4 + 2, none⟩ = some (.int .i64 p.binds[n].to) := fun o1 => ((hbl1 o1).cell (p := ⟨g2, _, none⟩) hg2).trans (hc2 2 _ rfl)
  have d3 : ∀ o1, (w.alloc o1).cell? ⟨g2, o2 + n * 4 + 3, none⟩ = some (.string p.binds[n].pattern) := fun o1 => ((hbl1 o1).cell (p := ⟨g2, _, none⟩) hg2).trans (hc2 3 _ rfl)
  have hby : fitsAt p n key = byK p.posts[k].kind p.binds[n].pattern key := by
    simp [fitsAt, byP, kindAt, hn, hb, hk]
  have HBY := Lib.hid hby
  have HBL := Lib.hid hbl
  clear hby hc hc2 hp hps hbl hbl1
  unfold planV
  rw [hb] at d0
  clear hb
  generalize p.posts[k].kind = kd at *
  generalize p.binds[n].pattern = pat at *
  generalize p.binds[n].toPost = tp at *
  generalize p.binds[n].to = dst at *
  by_cases hk1 : kd = 1
  · subst hk1
    have HR : Hid (fitsAt p n key = (pat.toList == key.toList)) := HBY.out.trans (by simp [byK])
    go_enter Tryd.func67, Tryd.ntmps67
    go_wp2_with fail
    go_ret
    exact ⟨by rw [HR.out]; rfl, HBL.out _ _⟩
  · by_cases hk3 : kd = 3
    · subst hk3
      have HR : Hid (fitsAt p n key = fitP pat key) := HBY.out.trans (by simp [byK])
      clear hk1
      go_enter Tryd.func67, Tryd.ntmps67
      go_wp2_with fail
      refine (refFit_any pat key _ (by omega) (by omega)).mono ?_
      rintro e w1 ⟨rfl, hb1⟩
      have H1 := Lib.hid ((HBL.out _ _).trans (hb1.mono (HBL.out _ _).size)); clear hb1
      go_wp2_with fail
      go_ret
      exact ⟨by rw [HR.out]; rfl, H1.out⟩
    · have HR : Hid (fitsAt p n key = true) := HBY.out.trans (by simp [byK, hk1, hk3])
      have b1 : (kd == 1) = false := by simp [hk1]
      have b3 : (kd == 3) = false := by simp [hk3]
      clear hk1 hk3
      go_enter Tryd.func67, Tryd.ntmps67
      go_wp2_with fail
      go_ret
      exact ⟨by rw [HR.out]; rfl, HBL.out _ _⟩

end Go.Proofs.YtbdikenloklhaaaDoor

namespace Go.Proofs.YtbdikenloklhaaaDoor
open Go.RowKit
set_option maxRecDepth 100000

theorem plan_boxed {p : PlanD} {a1 a2 a3 : Option Addr} {lo : Nat} {w : World} (hp : PlanAt w lo w.heap.size a1 a2 a3 p) (o : Obj) : PlanAt (w.alloc o) 0 (w.alloc o).heap.size a1 a2 a3 p :=
  (hp.below ((Below.refl _ w).alloc (Nat.le_refl _) o) (Nat.le_refl _)).wider (Nat.zero_le _) (by simp)

theorem fits_in {p : PlanD} {n : Int} (h1 : checkP p = 0) (h2 : 0 ≤ n) (h3 : n < p.binds.length) : ∃ (m k : Nat) (hm : m < p.binds.length) (_ : k < p.posts.length), n = m ∧ p.binds[m].src = k := by
  obtain ⟨m, rfl⟩ := Int.eq_ofNat_of_zero_le h2
  have hm : m < p.binds.length := by omega
  have hr := (checkP_right h1).bind _ (List.getElem_mem hm)
  obtain ⟨k, hk⟩ := Int.eq_ofNat_of_zero_le hr.1
  exact ⟨m, k, hm, by omega, rfl, hk⟩

/-- A plan that a call has boxed, and all that stays in each later world. -/
def Boxed (w W0 : World) (p : PlanD) (a1 a2 a3 : Option Addr) (c1 c2 c3 : Nat) : Prop :=
  ∀ W, Below W0.heap.size W0 W → PlanAt W 0 W0.heap.size a1 a2 a3 p ∧ (W.cell? ⟨w.heap.size, 0, none⟩ = some (.slice a1 p.posts.length c1) ∧ W.cell? ⟨w.heap.size, 1, none⟩ = some (.slice a2 p.queues.length c2) ∧ W.cell? ⟨w.heap.size, 2, none⟩ = some (.slice a3 p.binds.length c3)) ∧ Below w.heap.size w W

theorem boxed_new {p : PlanD} {a1 a2 a3 : Option Addr} {lo : Nat} {w : World} (hp : PlanAt w lo w.heap.size a1 a2 a3 p) (c1 c2 c3 : Nat) (t : TypeId) :
    Boxed w (w.alloc (.cells #[.slice a1 p.posts.length c1, .slice a2 p.queues.length c2, .slice a3 p.binds.length c3] t)) p a1 a2 a3 c1 c2 c3 := fun W hW => by
  have hbk := (Bk.new w t #[.slice a1 p.posts.length c1, .slice a2 p.queues.length c2, .slice a3 p.binds.length c3]).below hW (by simp)
  refine ⟨(plan_boxed hp _).below hW (Nat.le_refl _), ⟨?_, ?_, ?_⟩, ((Below.refl _ w).alloc (Nat.le_refl _) _).trans (hW.mono (by simp))⟩
  · have := hbk.cell 0; simpa using this
  · have := hbk.cell 1; simpa using this
  · have := hbk.cell 2; simpa using this

set_option maxHeartbeats 2000000 in
theorem Fits_any (p : PlanD) (n : Int) (key : ByteArray) (a1 a2 a3 : Option Addr) (c1 c2 c3 lo : Nat) (w : World) (hv : Env w) (hp : PlanAt w lo w.heap.size a1 a2 a3 p) (hs : PlanSmall p) (h2 : key.size ≤ 1048576) :
    Calls Tryd.prog 18 #[planV p a1 a2 a3 c1 c2 c3, .int .i64 n, .string key] w fun e w' => e = .returned (.tuple #[.bool (fitsIs p n key), .int .i64 (fitsErr p n key)]) ∧ Below w.heap.size w w' := by
  have hnl := hs.binds
  have HS := Lib.hid hs; clear hs
  have hbx := boxed_new hp c1 c2 c3 26
  have hz0 : (w.alloc (.cells #[Value.slice a1 p.posts.length c1, Value.slice a2 p.queues.length c2, Value.slice a3 p.binds.length c3] 26)).heap.size = w.heap.size + 1 := by simp
  unfold planV
  have HV := Lib.hid hv; clear hv hp
  go_enter Tryd.func18, Tryd.ntmps18
  obtain ⟨m20, m21, m22⟩ := (hbx _ (Below.refl _ _)).2.1
  have HBX := Lib.hid hbx; clear hbx
  go_wp2_with fail
  generalize w.alloc (.cells #[Value.slice a1 p.posts.length c1, Value.slice a2 p.queues.length c2, Value.slice a3 p.binds.length c3] 26) = W0 at *
  refine (Check_any p a1 a2 a3 c1 c2 c3 0 W0 (below_env (HBX.out W0 (Below.refl _ _)).2.2 HV.out) ((HBX.out W0 (Below.refl _ _)).1) HS.out).mono ?_
  rintro e W1 ⟨rfl, hB1⟩
  have HB1 := Lib.hid hB1; clear hB1 m20 m21 m22 hz0
  obtain ⟨m20, m21, m22⟩ := (HBX.out _ HB1.out).2.1
  by_cases hc : checkP p = 0
  · have b1 : (checkP p != 0) = false := by simp [hc]
    by_cases hn : n < 0 ∨ (p.binds.length : Int) ≤ n
    · have HR : Hid (fitsErr p n key = 5 ∧ fitsIs p n key = false) := by
        have : fitsErr p n key = 5 := by simp [fitsErr, hc, hn]
        exact (⟨this, by simp [fitsIs, this]⟩ : fitsErr p n key = 5 ∧ fitsIs p n key = false)
      clear hc
      by_cases hn0 : n < 0
      · clear hn
        go_wp2_with fail
        go_ret2
        exact ⟨by rw [HR.out.1, HR.out.2]; rfl, (HBX.out _ HB1.out).2.2⟩
      · have hn1 : (p.binds.length : Int) ≤ n := by omega
        clear hn
        go_wp2_with fail
        go_ret2
        exact ⟨by rw [HR.out.1, HR.out.2]; rfl, (HBX.out _ HB1.out).2.2⟩
    · have hn0 : 0 ≤ n := by omega
      have hn1 : n < p.binds.length := by omega
      obtain ⟨m, k, hm, hk, rfl, hsrc⟩ := fits_in hc hn0 hn1
      have HF : Hid (fitsErr p m key = splitErr isWord key) := by
        have : fitsErr p m key = splitErr isWord key := by
          unfold fitsErr
          rw [if_neg (by simp [hc]), if_neg hn]
        exact (this : fitsErr p m key = splitErr isWord key)
      have HSRC := Lib.hid hsrc
      clear hc hn hn0 hn1 hsrc
      go_wp2_with fail
      refine (Split_env key W1 (by omega) (below_env (HBX.out _ HB1.out).2.2 HV.out)).mono ?_
      rintro e W2 ⟨sa, sc, rfl, _, _, hB2⟩
      have HB2 := Lib.hid (HB1.out.trans (hB2.mono HB1.out.size)); clear hB2 m20 m21 m22 HB1
      obtain ⟨F2, ⟨m20, m21, m22⟩, hb2⟩ := HBX.out _ HB2.out
      by_cases he : splitErr isWord key = 0
      · have HR : Hid (fitsErr p m key = 0 ∧ fitsIs p m key = fitsAt p m key) := by
          have : fitsErr p m key = 0 := HF.out.trans he
          exact (⟨this, by simp [fitsIs, this]⟩ : fitsErr p m key = 0 ∧ fitsIs p m key = fitsAt p m key)
        have b2 : (splitErr isWord key != 0) = false := by simp [he]
        clear he
        obtain ⟨g2, o2, ha2, _, hg2, hc2⟩ := sl_elem vBind_len (by decide) F2.binds hm
        have d0 : W2.cell? ⟨g2, o2 + m * 4, none⟩ = some (.int .i64 p.binds[m].src) := hc2 0 _ rfl
        have d1 : W2.cell? ⟨g2, o2 + m * 4 + 1, none⟩ = some (.bool p.binds[m].toPost) := hc2 1 _ rfl
        have d2 : W2.cell? ⟨g2, o2 + m * 4 + 2, none⟩ = some (.int .i64 p.binds[m].to) := hc2 2 _ rfl
        have d3 : W2.cell? ⟨g2, o2 + m * 4 + 3, none⟩ = some (.string p.binds[m].pattern) := hc2 3 _ rfl
        have HF2 := Lib.hid F2
        have HVb := Lib.hid (below_env hb2 HV.out)
        clear hc2 F2 hb2
        subst ha2
        go_wp2_with fail
        go_still_tail 7, (by kernel_rfl)
        change wpList _ _ _ _ _ W2.drew
        have HB2d := Lib.hid HB2.out.drew
        have HPd := Lib.hid ((HBX.out _ HB2d.out).1.wider (Nat.le_refl _) HB2d.out.size)
        have HVd := Lib.hid (below_env (HBX.out _ HB2d.out).2.2 HV.out)
        generalize W2.drew = W3 at *
        clear HB2 HF2 HVb d0 d1 d2 d3 m20 m21 m22
        go_wp2_with fail
        refine (By_any p p.binds[m] key a1 a2 _ c1 c2 c3 0 W3 HVd.out HPd.out.posts k hk (by have := HS.out.posts; omega) HSRC.out (HS.out.bind _ (List.getElem_mem hm)) h2).mono ?_
        rintro e W4 ⟨rfl, hB4⟩
        have HB4 := Lib.hid (HB2d.out.trans (hB4.mono HB2d.out.size)); clear hB4
        have HFA : Hid (byP p p.binds[m] key = fitsAt p m key) := by
          exact (by simp [fitsAt, hm] : byP p p.binds[m] key = fitsAt p m key)
        go_wp2_with fail
        go_ret2
        exact ⟨by rw [HR.out.1, HR.out.2, ← HFA.out]; rfl, (HBX.out _ HB4.out).2.2⟩
      · have HR : Hid (fitsIs p m key = false) := by
          exact (by simp [fitsIs, HF.out, he] : fitsIs p m key = false)
        have b2 : (splitErr isWord key != 0) = true := by simp [he]
        clear he
        go_wp2_with fail
        go_ret2
        exact ⟨by rw [HR.out, HF.out]; rfl, (HBX.out _ HB2.out).2.2⟩
  · have b1 : (checkP p != 0) = true := by simp [hc]
    have HR : Hid (fitsErr p n key = checkP p ∧ fitsIs p n key = false) := by
      have : fitsErr p n key = checkP p := by simp [fitsErr, hc]
      exact (⟨this, by simp [fitsIs, this, hc]⟩ : fitsErr p n key = checkP p ∧ fitsIs p n key = false)
    clear hc
    go_wp2_with fail
    go_ret2
    exact ⟨by rw [HR.out.1, HR.out.2]; rfl, (HBX.out _ HB1.out).2.2⟩


set_option maxHeartbeats 2000000 in
theorem FitsOf_any (p : PlanD) (n : Int) (key : ByteArray) (a1 a2 a3 : Option Addr) (c1 c2 c3 lo : Nat) (w : World) (hp : PlanAt w lo w.heap.size a1 a2 a3 p) (hs : PlanSmall p) (h2 : key.size ≤ 1048576) :
    Calls Tryd.prog 19 #[planV p a1 a2 a3 c1 c2 c3, .int .i64 n, .string key] w fun e w' => e = .returned (.tuple #[.bool (fitsIs p n key), .int .i64 (fitsErr p n key)]) ∧ Below w.heap.size w w' := by
  have hnl := hs.binds
  have HS := Lib.hid hs; clear hs
  have hbx := boxed_new hp c1 c2 c3 26
  have hz0 : (w.alloc (.cells #[Value.slice a1 p.posts.length c1, Value.slice a2 p.queues.length c2, Value.slice a3 p.binds.length c3] 26)).heap.size = w.heap.size + 1 := by simp
  unfold planV
  clear hp
  go_enter Tryd.func19, Tryd.ntmps19
  obtain ⟨m20, m21, m22⟩ := (hbx _ (Below.refl _ _)).2.1
  have HBX := Lib.hid hbx; clear hbx
  go_wp2_with fail
  generalize w.alloc (.cells #[Value.slice a1 p.posts.length c1, Value.slice a2 p.queues.length c2, Value.slice a3 p.binds.length c3] 26) = W0 at *
  refine (CheckPlan_any p a1 a2 a3 c1 c2 c3 0 W0 ((HBX.out W0 (Below.refl _ _)).1) HS.out).mono ?_
  rintro e W1 ⟨rfl, hB1⟩
  have HB1 := Lib.hid hB1; clear hB1 m20 m21 m22 hz0
  obtain ⟨m20, m21, m22⟩ := (HBX.out _ HB1.out).2.1
  by_cases hc : checkP p = 0
  · have b1 : (checkP p != 0) = false := by simp [hc]
    by_cases hn : n < 0 ∨ (p.binds.length : Int) ≤ n
    · have HR : Hid (fitsErr p n key = 5 ∧ fitsIs p n key = false) := by
        have : fitsErr p n key = 5 := by simp [fitsErr, hc, hn]
        exact (⟨this, by simp [fitsIs, this]⟩ : fitsErr p n key = 5 ∧ fitsIs p n key = false)
      have hw : (decide (0 ≤ n) && decide (n ≤ (p.binds.length : Int) - 1)) = false := by
        rw [← Bool.not_eq_true]
        simp only [Bool.and_eq_true, decide_eq_true_eq]
        omega
      have HW := Lib.hid hw
      clear hc hn hw
      go_wp2_with fail
      refine (within_any _ _ _ _).mono ?_
      rw [HW.out]
      rintro e W2 ⟨rfl, rfl⟩
      go_wp2_with fail
      go_ret2
      exact ⟨by rw [HR.out.1, HR.out.2]; rfl, (HBX.out _ HB1.out).2.2⟩
    · have hn0 : 0 ≤ n := by omega
      have hn1 : n < p.binds.length := by omega
      obtain ⟨m, k, hm, hk, rfl, hsrc⟩ := fits_in hc hn0 hn1
      have HF : Hid (fitsErr p m key = splitErr isWord key) := by
        have : fitsErr p m key = splitErr isWord key := by
          unfold fitsErr
          rw [if_neg (by simp [hc]), if_neg hn]
        exact (this : fitsErr p m key = splitErr isWord key)
      have hw : (decide (0 ≤ (m : Int)) && decide ((m : Int) ≤ (p.binds.length : Int) - 1)) = true := by
        simp only [Bool.and_eq_true, decide_eq_true_eq]
        omega
      have HW := Lib.hid hw
      have HSRC := Lib.hid hsrc
      clear hc hn hn0 hn1 hsrc hw
      go_wp2_with fail
      refine (within_any _ _ _ _).mono ?_
      rw [HW.out]
      rintro e W2 ⟨rfl, rfl⟩
      go_wp2_with fail
      refine (KeyError_any key W1 (by omega)).mono ?_
      rintro e W2 ⟨rfl, hB2⟩
      have HB2 := Lib.hid (HB1.out.trans (hB2.mono HB1.out.size)); clear hB2 m20 m21 m22 HB1
      obtain ⟨F2, ⟨m20, m21, m22⟩, hb2⟩ := HBX.out _ HB2.out
      by_cases he : splitErr isWord key = 0
      · have HR : Hid (fitsErr p m key = 0 ∧ fitsIs p m key = fitsAt p m key) := by
          have : fitsErr p m key = 0 := HF.out.trans he
          exact (⟨this, by simp [fitsIs, this]⟩ : fitsErr p m key = 0 ∧ fitsIs p m key = fitsAt p m key)
        have b2 : (splitErr isWord key != 0) = false := by simp [he]
        clear he
        have HF2 := Lib.hid (F2.wider (Nat.le_refl _) HB2.out.size)
        clear F2 hb2
        go_wp2_with fail
        refine (reffits_any p m hm key a1 a2 a3 c1 c2 c3 0 W2 HF2.out HS.out k hk HSRC.out h2).mono ?_
        rintro e W4 ⟨rfl, hB4⟩
        have HB4 := Lib.hid (HB2.out.trans (hB4.mono HB2.out.size)); clear hB4 m20 m21 m22
        go_wp2_with fail
        go_ret2
        exact ⟨by rw [HR.out.1, HR.out.2]; rfl, (HBX.out _ HB4.out).2.2⟩
      · have HR : Hid (fitsIs p m key = false) := by
          exact (by simp [fitsIs, HF.out, he] : fitsIs p m key = false)
        have b2 : (splitErr isWord key != 0) = true := by simp [he]
        clear he
        go_wp2_with fail
        go_ret2
        exact ⟨by rw [HR.out, HF.out]; rfl, (HBX.out _ HB2.out).2.2⟩
  · have b1 : (checkP p != 0) = true := by simp [hc]
    have HR : Hid (fitsErr p n key = checkP p ∧ fitsIs p n key = false) := by
      have : fitsErr p n key = checkP p := by simp [fitsErr, hc]
      exact (⟨this, by simp [fitsIs, this, hc]⟩ : fitsErr p n key = checkP p ∧ fitsIs p n key = false)
    clear hc
    go_wp2_with fail
    go_ret2
    exact ⟨by rw [HR.out.1, HR.out.2]; rfl, (HBX.out _ HB1.out).2.2⟩

end Go.Proofs.YtbdikenloklhaaaDoor
