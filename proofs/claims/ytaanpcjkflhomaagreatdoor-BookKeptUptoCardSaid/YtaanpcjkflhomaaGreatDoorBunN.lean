/-
  Fits: plain; plan.By, walked.
  route.on: the binds that a key fits from a post, handed out one behind the other.
  Slices of ints of one's own: sorted, cut to one of a kind; route.on called.
  route.posts: the posts to which a key comes.
-/
import Derived.Test.YtaanpcjkflhomaaGreatDoorBunD
import Derived.StillTailTactics
import Derived.Test.YtaanpcjkflhomaaGreatDoorBunB
import Derived.LoopTactic
import Derived.Maps.OwnIn
import Derived.Test.YtaanpcjkflhomaaGreatDoorShelfR
import Derived.RangeFuncNested
import Derived.RangeFuncLeaves
set_option linter.unusedSimpArgs false
set_option linter.unusedVariables false
namespace Go.Proofs.YtaanpcjkflhomaaGreatDoor
open Go.RowKit
set_option maxRecDepth 100000
def byK (kind : Int) (pat key : ByteArray) : Bool := if kind = 1 then (pat.toList == key.toList) else if kind = 3 then fitP pat key else true
def kindAt (p : PlanD) (b : BindD) : Int := match p.posts[b.src.toNat]? with
 | some x => x.kind
 | none => 0
def byP (p : PlanD) (b : BindD) (key : ByteArray) : Bool := byK (kindAt p b) b.pattern key
set_option maxHeartbeats 1000000 in
theorem By_any (p : PlanD) (b : BindD) (key : ByteArray) (a1 a2 a3 : Option Addr) (c1 c2 c3 lo : Nat) (w : World) (hv : Env w) (hp : Sl w lo w.heap.size a1 (p.posts.flatMap vPost)) (k : Nat) (hk : k < p.posts.length) (_hl : p.posts.length ≤ 4194304) (hb : b.src = k)
  (h1 : b.pattern.size ≤ 1048576) (h2 : key.size ≤ 1048576) :
  Calls Tryz.prog 175 #[planV p a1 a2 a3 c1 c2 c3,.agg (vBind b).toArray,.string key] w fun e w' => e = .returned (.bool (byP p b key)) ∧ Below w.heap.size w w' := by
 obtain ⟨src,tp,dst,pat⟩ := b
 simp only at hb
 subst hb
 obtain ⟨g,o,ha,_,hg,hc⟩ := sl_elem vPost_len (by decide) hp hk
 subst ha
 have hbl : ∀ o1 o2,Below w.heap.size w ((w.alloc o1).alloc o2) := fun o1 o2 => ((Below.refl _ w).alloc (Nat.le_refl _) o1).alloc (by simp) o2
 have e1 : ∀ o1 o2,((w.alloc o1).alloc o2).cell? ⟨g,o + k * 2 + 1,none⟩ = some (.int .i64 p.posts[k].kind) := fun o1 o2 => ((hbl o1 o2).cell (p := ⟨g,_,none⟩) hg).trans (hc 1 _ rfl)
 have hby : byP p ⟨k,tp,dst,pat⟩ key = byK p.posts[k].kind pat key := by
  simp [byP,kindAt,hk]
 have HBY := Lib.hid hby
 clear hby hc hp
 unfold planV vBind
 generalize p.posts[k].kind = kd at *
 have hve : ∀ o1 o2,Env ((w.alloc o1).alloc o2) := fun o1 o2 => below_env (hbl o1 o2) hv
 have HVE := Lib.hid hve
 have HBL := Lib.hid hbl
 clear hve hv hbl
 by_cases hk1 : kd = 1
 ·subst hk1
  have HR : Hid (byP p ⟨k,tp,dst,pat⟩ key = (pat.toList == key.toList)) := HBY.out.trans (by simp [byK])
  go_enter Tryz.func175,Tryz.ntmps175
  go_wp2_with fail
  go_ret
  exact ⟨by rw [HR.out]; rfl,HBL.out _ _⟩
 ·by_cases hk3 : kd = 3
  ·subst hk3
   have HR : Hid (byP p ⟨k,tp,dst,pat⟩ key = fitP pat key) := HBY.out.trans (by simp [byK])
   clear hk1
   go_enter Tryz.func175,Tryz.ntmps175
   go_wp2_with fail
   obtain ⟨m,hm⟩ := HVE.out (.cells #[Value.slice (some ⟨g,o,none⟩) p.posts.length c1,Value.slice a2 p.queues.length c2,Value.slice a3 p.binds.length c3] 26) (.cells #[Value.int .i64 k,.bool tp,.int .i64 dst,.string pat] 127)
   refine (Fit_any pat key m _ (by omega) (by omega) hm).mono ?_
   rintro e w1 ⟨rfl,hb1⟩
   have H1 := Lib.hid ((HBL.out _ _).trans (hb1.mono (HBL.out _ _).size)); clear hb1 hm
   go_wp2_with fail
   go_ret
   exact ⟨by rw [HR.out]; rfl,H1.out⟩
  ·have HR : Hid (byP p ⟨k,tp,dst,pat⟩ key = true) := HBY.out.trans (by simp [byK,hk1,hk3])
   have b1 : (kd == 1) = false := by simp [hk1]
   have b3 : (kd == 3) = false := by simp [hk3]
   clear hk1 hk3
   go_enter Tryz.func175,Tryz.ntmps175
   go_wp2_with fail
   go_ret
   exact ⟨by rw [HR.out]; rfl,HBL.out _ _⟩
open Go Go.RowKit Go.Shelf
set_option maxRecDepth 100000
attribute [local go_sem] Oper.semAt_some
def onTo (p : PlanD) (x : Int) (key : ByteArray) : Nat → List (Nat × BindD)
  | 0 => []
  | k + 1 => match p.binds[k]? with
    | some b => if b.src = x ∧ byP p b key = true then onTo p x key k ++ [(k, b)] else onTo p x key k
    | none => onTo p x key k
def onL (p : PlanD) (x : Int) (key : ByteArray) : List (Nat × BindD) := onTo p x key p.binds.length
theorem onTo_yes {p : PlanD} {x : Int} {key : ByteArray} {j : Nat} (h : j < p.binds.length) (h1 : p.binds[j].src = x) (h2 : byP p p.binds[j] key = true) : onTo p x key (j + 1) = onTo p x key j ++ [(j, p.binds[j])] := by
  rw [onTo, List.getElem?_eq_getElem h]
  simp only
  rw [if_pos ⟨h1, h2⟩]
theorem onTo_no {p : PlanD} {x : Int} {key : ByteArray} {j : Nat} (h : j < p.binds.length) (h1 : ¬ (p.binds[j].src = x ∧ byP p p.binds[j] key = true)) : onTo p x key (j + 1) = onTo p x key j := by
  rw [onTo, List.getElem?_eq_getElem h]
  simp only
  rw [if_neg h1]
theorem onTo_step (p : PlanD) (x : Int) (key : ByteArray) (j : Nat) : onTo p x key j <+: onTo p x key (j + 1) := by
  rw [onTo]
  split
  · split
    · exact List.prefix_append _ _
    · exact List.prefix_rfl
  · exact List.prefix_rfl
theorem onTo_prefix (p : PlanD) (x : Int) (key : ByteArray) {i j : Nat} (h : i ≤ j) : onTo p x key i <+: onTo p x key j := by
  induction j with
  | zero => obtain rfl : i = 0 := by omega
            exact List.prefix_rfl
  | succ j ih =>
    rcases Nat.lt_or_ge j i with h1 | h1
    · obtain rfl : i = j + 1 := by omega
      exact List.prefix_rfl
    · exact (ih h1).trans (onTo_step p x key j)
def KpS (Rd : Nat → Prop) (W W' : World) : Prop := KpAt Rd W W' ∧ W.heap.size ≤ W'.heap.size
theorem KpS.refl (Rd : Nat → Prop) (W : World) : KpS Rd W W := ⟨KpAt.refl Rd W, Nat.le_refl _⟩
theorem KpS.trans {Rd : Nat → Prop} {A B C : World} (h : KpS Rd A B) (k : KpS Rd B C) : KpS Rd A C := ⟨h.1.trans k.1, Nat.le_trans h.2 k.2⟩
theorem KpS.below {Rd : Nat → Prop} {W W' : World} {B : Nat} (hR : ∀ r, Rd r → r < B) (hB : B ≤ W.heap.size) (h : Below W.heap.size W W') : KpS Rd W W' :=
  ⟨fun r hr => h.block r (by have := hR r hr; omega), h.size⟩
theorem KpS.bk {Rd : Nat → Prop} {W W' : World} {g : Nat} {t : TypeId} {cs : Array Value} (h : KpS Rd W W') (hg : Rd g) (hb : Bk W g t cs) : Bk W' g t cs := (h.1 g hg).trans hb
def OnRd (B0 bp bq bk : Nat) (r : Nat) : Prop := r < B0 ∨ r = bp ∨ r = bq ∨ r = bk
def OnRel (p : PlanD) (x : Int) (key : ByteArray) (Rd : Nat → Prop) (W : World) (J : List (Nat × BindD) → World → Prop) (i : Value) (wr : World) : Prop :=
  ∃ j : Nat, j ≤ p.binds.length ∧ i = .int .i64 j ∧ KpS Rd W wr ∧ J (onTo p x key j) wr
theorem bind_cells {wr : World} {b o k : Nat} {x : BindD} (hc : ∀ j u, (vBind x)[j]? = some u → wr.cell? ⟨b, o + k * 4 + j, none⟩ = some u) :
    wr.cell? ⟨b, o + k * 4, none⟩ = some (.int .i64 x.src) ∧ wr.cell? ⟨b, o + k * 4 + 1, none⟩ = some (.bool x.toPost) ∧ wr.cell? ⟨b, o + k * 4 + 2, none⟩ = some (.int .i64 x.to) ∧ wr.cell? ⟨b, o + k * 4 + 3, none⟩ = some (.string x.pattern) := ⟨hc 0 _ rfl, hc 1 _ rfl, hc 2 _ rfl, hc 3 _ rfl⟩
theorem grown_below' {w w' : World} (h : Below w.heap.size w w') (row : Option Nat) : w.grownBy w' row := ⟨h.os, h.tape, h.output, h.size, fun k hk _ => h.block k hk⟩
def EnvB (B0 : Nat) (w : World) : Prop := Env w ∧ 0 < B0
theorem EnvB.keep {B0 : Nat} {w w' : World} (h : EnvB B0 w) (hk : ∀ p : Addr, p.block < B0 → w'.cell? p = w.cell? p) : EnvB B0 w' := by
  obtain ⟨⟨m, hm⟩, hg⟩ := h
  exact ⟨⟨m, (hk ⟨0, 0, none⟩ hg).trans hm⟩, hg⟩
theorem EnvB.mk' {w : World} (h : Env w) : EnvB w.heap.size w := by
  obtain ⟨m, hm⟩ := h
  exact ⟨⟨m, hm⟩, lt_of_cell hm⟩
set_option maxHeartbeats 2000000 in
theorem on1_in (n : Nat) (hn : 1 ≤ n) (l : Nat) (p : PlanD) (k : Nat) (key : ByteArray) (a1 a2 a3 : Option Addr) (c1 c2 c3 B0 bp bq bk : Nat) (J Jx : List (Nat × BindD) → World → Prop) (W : World)
    (hk : k < p.posts.length) (hps : PlanSmall p) (hkey : key.size ≤ 1048576) (hP : Bk W bp 26 #[.slice a1 p.posts.length c1, .slice a2 p.queues.length c2, .slice a3 p.binds.length c3]) (hQ : Bk W bq 3 #[.int .i64 (k : Int)]) (hK : Bk W bk 9 #[.string key])
    (hpl : PlanAt W 0 B0 a1 a2 a3 p) (hv : EnvB B0 W) (hB0 : B0 ≤ W.heap.size) (hJ : AbidesFrom W.heap.size J)
    (hY : ∀ pre y W1, y ∈ onL p k key → J pre W1 → pre.length < (onL p k key).length → YieldAt Fence.wide (n - 1) Tryz.prog l #[.int .i64 ((y : Nat × BindD).1 : Int), .agg (vBind y.2).toArray] W1 fun e W' =>
      (e = .returned (.bool true) ∧ J (pre ++ [y]) W' ∧ KpS (OnRd B0 bp bq bk) W1 W') ∨ (e = .returned (.bool false) ∧ Jx (pre ++ [y]) W'))
    (h0 : J [] W) :
    CallsIn Fence.wide n Tryz.prog 174 #[.func (.yield l) #[] #[], .pointer (some ⟨bp, 0, none⟩), .pointer (some ⟨bq, 0, none⟩), .pointer (some ⟨bk, 0, none⟩)] W fun e W' =>
      (∃ v, e = .returned v) ∧ ((∃ xs, xs = onL p k key ∧ J xs W') ∨ (∃ pre, pre <+: onL p k key ∧ Jx pre W')) := by
  have HRB : Hid (∀ r, OnRd B0 bp bq bk r → r < W.heap.size) := fun r hr => by
    have h1 := hP.lt
    have h2 := hQ.lt
    have h3 := hK.lt
    unfold OnRd at hr
    omega
  have HW : Hid (∀ wr, KpS (OnRd B0 bp bq bk) W wr → Bk wr bp 26 #[.slice a1 p.posts.length c1, .slice a2 p.queues.length c2, .slice a3 p.binds.length c3] ∧ Bk wr bq 3 #[.int .i64 (k : Int)] ∧ Bk wr bk 9 #[.string key] ∧ PlanAt wr 0 B0 a1 a2 a3 p ∧ EnvB B0 wr ∧ B0 ≤ wr.heap.size) := fun wr h => by
    have hc : ∀ q : Addr, q.block < B0 → wr.cell? q = W.cell? q := fun q hq => h.1.cell (p := q) (.inl hq)
    exact ⟨h.bk (.inr (.inl rfl)) hP, h.bk (.inr (.inr (.inl rfl))) hQ, h.bk (.inr (.inr (.inr rfl))) hK, ⟨hpl.posts.keep hc, hpl.queues.keep hc, hpl.binds.keep hc⟩, hv.keep hc, Nat.le_trans hB0 h.2⟩
  have HY := Lib.hid hY
  have HJ := Lib.hid hJ
  have HK := Lib.hid hk
  have HPS := Lib.hid hps
  have hbl := hps.binds
  have m2 := hP.cell 2
  rw [show (#[Value.slice a1 p.posts.length c1, .slice a2 p.queues.length c2, .slice a3 p.binds.length c3] : Array Value)[2]? = some (.slice a3 p.binds.length c3) from rfl] at m2
  clear hY hJ hk hP hQ hK hpl hv hB0 hps
  refine callsIn_of_wp Tryz.func174 rfl trivial ?_ rfl
  simp only [Tryz.ntmps174, List.size_toArray, List.length_cons, List.length_nil, Nat.reduceAdd, Nat.reduceSub, Array.replicate_succ, Array.replicate_zero, List.push_toArray, List.append_toArray, List.nil_append, List.cons_append]
  gi_wp2
  clear m2
  gi_loopw [10] (fun i wr => OnRel p k key (OnRd B0 bp bq bk) W J i wr) (fun i _ => p.binds.length - (intOf i).toNat)
  case atStart => exact ⟨0, Nat.zero_le _, rfl, KpS.refl _ _, h0⟩
  case round =>
    clear h0
    obtain ⟨j, hj, rfl, hkp, hjs⟩ := hrel
    by_cases hjl : j < p.binds.length
    · obtain ⟨hP, hQ, hK, hpl, hv, hB0⟩ := HW.out _ hkp
      obtain ⟨bb, bo, rfl, _, hbb, hcl⟩ := sl_elem vBind_len (by decide) hpl.binds hjl
      obtain ⟨e0, e1, e2, e3⟩ := bind_cells (wr := wr) hcl
      have d0 := hP.cell 0
      have d1 := hP.cell 1
      have d2 := hP.cell 2
      have dq := hQ.cell 0
      have dk := hK.cell 0
      simp only [List.getElem?_toArray, List.getElem?_cons_zero, List.getElem?_cons_succ] at d0 d1 d2 dq dk
      have hyes := onTo_yes (x := (k : Int)) (key := key) hjl
      have hno := onTo_no (x := (k : Int)) (key := key) hjl
      have hpz : p.binds[j].pattern.size ≤ 1048576 := HPS.out.bind _ (List.getElem_mem hjl)
      have HYES := Lib.hid hyes
      have HNO := Lib.hid hno
      have hz : Bk (wr.alloc (.cells #[.int .i64 p.binds[j].src, .bool p.binds[j].toPost, .int .i64 p.binds[j].to, .string p.binds[j].pattern] 127)) wr.heap.size 127 #[.int .i64 p.binds[j].src, .bool p.binds[j].toPost, .int .i64 p.binds[j].to, .string p.binds[j].pattern] := Bk.new _ _ _
      have z0 := hz.cell 0
      have z1 := hz.cell 1
      have z2 := hz.cell 2
      have z3 := hz.cell 3
      have y0 := (hP.alloc (.cells #[.int .i64 p.binds[j].src, .bool p.binds[j].toPost, .int .i64 p.binds[j].to, .string p.binds[j].pattern] 127)).cell 0
      have y1 := (hP.alloc (.cells #[.int .i64 p.binds[j].src, .bool p.binds[j].toPost, .int .i64 p.binds[j].to, .string p.binds[j].pattern] 127)).cell 1
      have y2 := (hP.alloc (.cells #[.int .i64 p.binds[j].src, .bool p.binds[j].toPost, .int .i64 p.binds[j].to, .string p.binds[j].pattern] 127)).cell 2
      have yq := (hQ.alloc (.cells #[.int .i64 p.binds[j].src, .bool p.binds[j].toPost, .int .i64 p.binds[j].to, .string p.binds[j].pattern] 127)).cell 0
      have yk := (hK.alloc (.cells #[.int .i64 p.binds[j].src, .bool p.binds[j].toPost, .int .i64 p.binds[j].to, .string p.binds[j].pattern] 127)).cell 0
      simp only [List.getElem?_toArray, List.getElem?_cons_zero, List.getElem?_cons_succ] at z0 z1 z2 z3 y0 y1 y2 yq yk
      have HZ := Lib.hid hz
      clear hz
      have HP2 := Lib.hid (And.intro hpl (And.intro hv hB0))
      have HKP := Lib.hid hkp
      have HJS := Lib.hid hjs
      clear hyes hno hcl hpl hv hB0 hkp hjs hP hQ hK
      generalize hb : p.binds[j] = b at *
      clear hb
      by_cases hs : b.src = (k : Int)
      · have hsb : (b.src == (k : Int)) = true := by simp [hs]
        have HS := Lib.hid hs
        clear hs
        gi_wp2
        refine ⟨trivial, ?_⟩
        have hby := By_any p b key a1 a2 (some ⟨bb, bo, none⟩) c1 c2 c3 0 (wr.alloc (.cells #[.int .i64 b.src, .bool b.toPost, .int .i64 b.to, .string b.pattern] 127)) (HP2.out.2.1.keep fun q hq => World.cell?_alloc_lt _ _ q (Nat.lt_of_lt_of_le hq HP2.out.2.2)).1 ((HP2.out.1.posts.keep fun q hq => World.cell?_alloc_lt _ _ q (Nat.lt_of_lt_of_le hq HP2.out.2.2)).wider (Nat.le_refl _) (by have := HP2.out.2.2; simp; omega)) k HK.out (by have := HPS.out.posts; omega) HS.out hpz hkey
        unfold planV vBind at hby
        refine (callsIn_wide.2 hby).mono ?_
        clear hby
        rintro e w2 ⟨rfl, hb2⟩
        have hX : Below wr.heap.size wr w2 := ((Below.refl _ _).alloc (Nat.le_refl _) _).trans (hb2.mono (by simp))
        have HKP2 : Hid (KpS (OnRd B0 bp bq bk) W w2) := HKP.out.trans (KpS.below HRB.out HKP.out.2 hX)
        have HJ2 : Hid (J (onTo p k key j) w2) := HJ.out _ _ _ none HJS.out (grown_below' hX none) (fun r e => by cases e)
        have hzb := HZ.out.below hb2 HZ.out.lt
        have v0 := hzb.cell 0
        have v1 := hzb.cell 1
        have v2 := hzb.cell 2
        have v3 := hzb.cell 3
        simp only [List.getElem?_toArray, List.getElem?_cons_zero, List.getElem?_cons_succ] at v0 v1 v2 v3
        clear hX hb2 hzb d0 d1 d2 dq dk e0 e1 e2 e3 z0 z1 z2 z3 y0 y1 y2 yq yk HZ
        cases hby : byP p b key
        · have HE := Lib.hid (HNO.out (fun h => by rw [hby] at h; exact absurd h.2 (by decide)))
          clear hby
          gi_wp2
          refine ⟨fun _ h => (by cases h), ?_⟩
          gi_wp2
          exact ⟨⟨j + 1, hjl, by go_num, HKP2.out, by rw [HE.out]; exact HJ2.out⟩, by simp [intOf]; omega⟩
        · have HE := Lib.hid (HYES.out HS.out hby)
          have HPR := Lib.hid (onTo_prefix p k key (show j + 1 ≤ p.binds.length from hjl))
          rw [HE.out] at HPR
          have hlen : (onTo p k key j).length < (onL p k key).length := by
            have := HPR.out.length_le
            rw [List.length_append] at this
            exact this
          obtain ⟨fn, tmps, assign, body, hy, hR⟩ := HY.out _ (j, b) w2 (HPR.out.subset (by simp)) HJ2.out hlen
          dsimp only at hy
          unfold vBind at hy
          clear hby hlen
          gi_wp2
          refine hR.mono ?_
          rintro e W3 (⟨rfl, hJ3, hk3⟩ | ⟨rfl, hJx3⟩)
          · have HJ3 := Lib.hid hJ3
            have HK3 := Lib.hid hk3
            clear hJ3 hk3
            gi_wp2
            exact ⟨⟨j + 1, hjl, by go_num, HKP2.out.trans HK3.out, by rw [HE.out]; exact HJ3.out⟩, by simp [intOf]; omega⟩
          · have HJX := Lib.hid hJx3
            clear hJx3
            gi_wp2
            refine bodyPost_ret (results_none rfl _ _ _) rfl ?_
            exact ⟨⟨_, rfl⟩, .inr ⟨_, HPR.out, HJX.out⟩⟩
      · have hsb : (b.src == (k : Int)) = false := by simp [hs]
        have hE := HNO.out (fun h => hs h.1)
        have HE := Lib.hid hE
        clear hE hs
        gi_wp2
        refine ⟨trivial, ?_⟩
        gi_wp2
        refine ⟨fun _ h => (by cases h), ?_⟩
        gi_wp2
        exact ⟨⟨j + 1, hjl, by go_num, HKP.out.trans (KpS.below HRB.out HKP.out.2 ((Below.refl _ _).alloc (Nat.le_refl _) _)), by rw [HE.out]; exact HJ.out _ _ _ none HJS.out (World.grownBy_alloc _ _ none) (fun r e => by cases e)⟩, by simp [intOf]; omega⟩
    · obtain rfl : j = p.binds.length := by omega
      gi_wp2
      go_end0
      exact ⟨⟨_, rfl⟩, .inl ⟨_, rfl, hjs⟩⟩
open Go Go.RowKit Go.Shelf Go.Sort
set_option maxRecDepth 100000
attribute [local go_sem] Oper.semAt_some
def IntsO (w : World) (base : Nat) (v : Value) (xs : List Int) : Prop := w.ownsRow base 3 1 v xs.length (xs.map (Value.int .i64))
theorem own_row {w : World} {base e g n C : Nat} {xs : List Value} (h : w.ownsRow base e 1 (.slice (some ⟨g,0,none⟩) n C) n xs) :
  ∃ cur,base ≤ g ∧ w.heap[g]? = some (.cells cur e (0,0)) ∧ n ≤ C ∧ C ≤ maxLen ∧ cur.size = C ∧ cur.toList.take n = xs := by
 obtain ⟨h1,h2⟩ := h
 rcases h2 with ⟨h2,_⟩ | ⟨g',cap,cur,h3,h4,h5,h6,h7,h8,h9⟩
 ·cases h2
 ·cases h3
  exact ⟨cur,h4,h5,h6,h7,by omega,by simpa using h9⟩
theorem own_cell {w : World} {base e g n C : Nat} {xs : List Value} (h : w.ownsRow base e 1 (.slice (some ⟨g,0,none⟩) n C) n xs) (j : Nat) (hj : j < n) :
  w.cell? ⟨g,j,none⟩ = xs[j]? ∧ w.frozen? ⟨g,j,none⟩ = false := by
 obtain ⟨cur,_,h2,_,_,_,h6⟩ := own_row h
 have : xs[j]? = cur[j]? := by rw [← h6,List.getElem?_take,if_pos hj,Array.getElem?_toList]
 constructor
 ·rw [this]
  simp [World.cell?,h2]
 ·simp [World.frozen?,h2]
theorem own_holds {w : World} {base g C : Nat} {zs : List Int} (h : IntsO w base (.slice (some ⟨g,0,none⟩) zs.length C) zs) : Holds (Value.int .i64) w g 0 zs.toArray := by
 intro j hj
 have hj' : j < zs.length := by simpa using hj
 obtain ⟨h1,h2⟩ := own_cell h j hj'
 rw [Nat.zero_add]
 refine ⟨h1.trans ?_,h2⟩
 rw [List.getElem?_map,List.getElem?_eq_getElem hj',getElem!_pos _ j hj]
 simp
theorem put_own {w : World} {base g n C q : Nat} {zs : List Int} {d : List Int} {os : Array Obj} (h : IntsO w base (.slice (some ⟨g,0,none⟩) zs.length C) zs) (hd : d.length = zs.length) (hn : n ≤ d.length) :
  IntsO (grow (putRow (Value.int .i64) (Sort.ahead w q) g 0 d.toArray) os) base (.slice (some ⟨g,0,none⟩) n C) (d.take n) ∧ w.grownBy (grow (putRow (Value.int .i64) (Sort.ahead w q) g 0 d.toArray) os) (some g) := by
 obtain ⟨cur,h1,h2,h3,h4,h5,h6⟩ := own_row h
 have hg : g < w.heap.size := (Array.getElem?_eq_some_iff.1 h2).1
 have hl : (d.take n).length = n := by rw [List.length_take]; omega
 refine ⟨⟨by simp,.inr ⟨g,C,putCells (Value.int .i64) 0 d.toArray cur,by rw [hl],h1,?_,by omega,h4,by simp [putCells]; omega,?_⟩⟩,⟨rfl,rfl,rfl,?_,?_⟩⟩
 ·rw [heap_grow_old _ _ (by simp [putRow,mapBlock,hg])]
  simp [putRow,mapBlock,Array.getElem?_modify,h2,onCells]
 ·rw [hl]
  apply List.ext_getElem?
  intro j
  rw [List.getElem?_take]
  by_cases hj : j < n
  ·have hjd : j < d.length := by omega
   rw [if_pos (by omega),List.getElem?_map,List.getElem?_take,if_pos hj,Array.getElem?_toList]
   have hjc : j < cur.size := by omega
   simp only [putCells,Array.getElem?_mapIdx,Array.getElem?_eq_getElem hjc,Option.map_some]
   rw [if_pos ⟨Nat.zero_le _,by simpa using hjd⟩,List.getElem?_eq_getElem hjd]
   simp [getElem!_pos,hjd]
  ·rw [if_neg (by omega),List.getElem?_map,List.getElem?_take,if_neg hj]
   rfl
 ·simp [putRow,mapBlock]
 ·intro k hk hne
  rw [heap_grow_old _ _ (by simpa [putRow,mapBlock] using hk)]
  simp only [putRow,mapBlock,Array.getElem?_modify]
  rw [if_neg (fun e => hne (by rw [e]))]
  rfl
theorem ints_cases {w : World} {base : Nat} {v : Value} {zs : List Int} (h : IntsO w base v zs) : (v = .slice none 0 0 ∧ zs = []) ∨ ∃ g C,v = .slice (some ⟨g,0,none⟩) zs.length C := by
 rcases h.2 with ⟨h1,h2⟩ | ⟨g,cap,cur,rfl,_⟩
 ·exact .inl ⟨h1,List.eq_nil_of_length_eq_zero h2⟩
 ·exact .inr ⟨g,cap,rfl⟩
def sortI (zs : List Int) : List Int := zs.mergeSort fun x y => decide (x ≤ y)
theorem sortI_len (zs : List Int) : (sortI zs).length = zs.length := List.length_mergeSort _
theorem sort_own (base : Nat) (v : Value) (zs : List Int) (w : World) (h : IntsO w base v zs) (hz : zs.length ≤ 1048576) :
  Calls Tryz.prog 162 #[v] w fun e w' => e = .returned (.tuple #[]) ∧ IntsO w' base v (sortI zs) ∧ w.grownBy w' v.ownBlock := by
 rcases ints_cases h with ⟨rfl,rfl⟩ | ⟨g,C,rfl⟩
 ·refine (Tryz.slices_Sort_int_none none 0 w).mono ?_
  rintro e w' ⟨rfl,rfl⟩
  exact ⟨rfl,by simpa [sortI] using h,⟨rfl,rfl,rfl,Nat.le_refl _,fun _ _ _ => rfl⟩⟩
 ·refine (Tryz.slices_Sort_int g 0 C zs w (own_holds h) (by obtain ⟨cur,_,h2,_⟩ := own_row h; exact (Array.getElem?_eq_some_iff.1 h2).1) (by omega)).mono ?_
  rintro e w' ⟨rfl,q,os,rfl⟩
  obtain ⟨h1,h2⟩ := put_own (q := q) (os := os) (n := zs.length) h (sortI_len zs) (Nat.le_of_eq (sortI_len zs).symm)
  rw [List.take_of_length_le (Nat.le_of_eq (sortI_len zs))] at h1
  exact ⟨rfl,h1,h2⟩
theorem compact_own (base : Nat) (v : Value) (zs : List Int) (w : World) (h : IntsO w base v zs) (hz : zs.length ≤ 1048576) :
  Calls Tryz.prog 163 #[v] w fun e w' => ∃ v',e = .returned v' ∧ IntsO w' base v' (Lib.compact zs) ∧ w.grownBy w' v.ownBlock := by
 rcases ints_cases h with ⟨rfl,rfl⟩ | ⟨g,C,rfl⟩
 ·refine (Tryz.slices_Compact_int_empty none 0 w).mono ?_
  rintro e w' ⟨rfl,rfl⟩
  exact ⟨_,rfl,h,⟨rfl,rfl,rfl,Nat.le_refl _,fun _ _ _ => rfl⟩⟩
 ·have hle : (Lib.compact zs).length ≤ zs.length := Lib.compact_length_le zs
  refine (Tryz.slices_Compact_int g 0 C zs w (own_holds h) (by omega) (by obtain ⟨cur,_,_,h3,_⟩ := own_row h; exact h3)).mono ?_
  rintro e w' ⟨rfl,q,rfl⟩
  obtain ⟨h1,h2⟩ := put_own (q := q) (os := #[]) (n := (Lib.compact zs).length) (d := Lib.compact zs ++ List.replicate (zs.length - (Lib.compact zs).length) 0) h (by simp; omega) (by simp)
  rw [List.take_left,grow_empty] at h1
  rw [grow_empty] at h2
  exact ⟨_,rfl,h1,h2⟩
theorem Own3 (w : World) (o1 o2 o3 : Obj) : Below w.heap.size w (((w.alloc o1).alloc o2).alloc o3) := (((Below.refl _ w).alloc (Nat.le_refl _) _).alloc (by simp) _).alloc (by simp; omega) _
set_option maxHeartbeats 400000 in
theorem on_any (v1 v2 v3 : Value) (x : Value) (key : ByteArray) (w : World) (hx : ∃ k : Int,x = .int .i64 k) :
  Calls Tryz.prog 161 #[.agg #[v1,v2,v3],x,.string key] w fun e w' => e = .returned (.func (.func 174) #[] #[.pointer (some ⟨w.heap.size,0,none⟩),.pointer (some ⟨w.heap.size + 1,0,none⟩),.pointer (some ⟨w.heap.size + 2,0,none⟩)]) ∧
   Bk w' w.heap.size 26 #[v1,v2,v3] ∧ Bk w' (w.heap.size + 1) 3 #[x] ∧ Bk w' (w.heap.size + 2) 9 #[.string key] ∧ Below w.heap.size w w' := by
 obtain ⟨k,rfl⟩ := hx
 have hmf : ∀ (fn : Fn) (first cap : Array Value) (w : World),(Instr.makeFunc fn first cap).run Tryz.prog w = .ok (.func fn first cap) w := fun _ _ _ _ => rfl
 go_enter Tryz.func161,Tryz.ntmps161
 go_wp2
 go_ret
 exact ⟨rfl,((Bk.new w _ _).alloc _).alloc _,(Bk.new_at _ _ _ (by simp)).alloc _,Bk.new_at _ _ _ (by simp),Own3 w _ _ _⟩
theorem on_stops (n : Nat) (hn : 1 ≤ n) (p : PlanD) (k : Nat) (key : ByteArray) (a1 a2 a3 : Option Addr) (c1 c2 c3 B0 bp bq bk : Nat) (w : World)
  (hk : k < p.posts.length) (hps : PlanSmall p) (hkey : key.size ≤ 1048576) (hP : Bk w bp 26 #[.slice a1 p.posts.length c1,.slice a2 p.queues.length c2,.slice a3 p.binds.length c3]) (hQ : Bk w bq 3 #[.int .i64 (k : Int)]) (hK : Bk w bk 9 #[.string key])
  (hpl : PlanAt w 0 B0 a1 a2 a3 p) (hv : EnvB B0 w) (hB0 : B0 ≤ w.heap.size) :
  SeqStopsK Fence.wide n Tryz.prog 174 #[.pointer (some ⟨bp,0,none⟩),.pointer (some ⟨bq,0,none⟩),.pointer (some ⟨bk,0,none⟩)] (fun y : Nat × BindD => #[.int .i64 (y.1 : Int),.agg (vBind y.2).toArray]) (KpS (OnRd B0 bp bq bk)) (fun xs => xs = onL p k key) (fun pre => pre <+: onL p k key) (onL p k key).length w :=
 fun l J Jx W hW hJ _ hY h0 => by
  have hc : ∀ q : Addr,q.block < B0 → W.cell? q = w.cell? q := fun q hq => hW.cell (p := q) (by omega)
  exact on1_in n hn l p k key a1 a2 a3 c1 c2 c3 B0 bp bq bk J Jx W hk hps hkey (hP.below hW hP.lt) (hQ.below hW hQ.lt) (hK.below hW hK.lt) ⟨hpl.posts.keep hc,hpl.queues.keep hc,hpl.binds.keep hc⟩ (hv.keep hc) (Nat.le_trans hB0 hW.size) hJ (fun pre y W1 _ h => hY pre y W1 h) h0
open Go Go.RowKit Go.Shelf Go.Sort
set_option maxRecDepth 100000
attribute [local go_sem] Oper.semAt_some
def mark (D : Nat) : Deferred := { target := .collected D, args := #[] }
structure Shut (B : Nat) (W W' : World) : Prop where
  cells : ∀ (g : Nat) (o : Obj), W.heap[g]? = some o → o.isCells = true → W'.heap[g]? = some o
  below : Below B W W'
theorem Shut.refl (B : Nat) (W : World) : Shut B W W := ⟨fun _ _ h _ => h, Below.refl _ _⟩
theorem Shut.trans {B : Nat} {X Y Z : World} (h : Shut B X Y) (k : Shut B Y Z) : Shut B X Z := ⟨fun g o hg ho => k.cells g o (h.cells g o hg ho) ho, h.below.trans k.below⟩
theorem Shut.bk {B : Nat} {W W' : World} (h : Shut B W W') {g : Nat} {t : TypeId} {cs : Array Value} (hb : Bk W g t cs) : Bk W' g t cs := h.cells g _ hb rfl
theorem Shut.own {B : Nat} {W W' : World} (h : Shut B W W') {base : Nat} {e : TypeId} {size n : Nat} {v : Value} {xs : List Value} (hb : W.ownsRow base e size v n xs) : W'.ownsRow base e size v n xs := by
  refine ⟨hb.1, ?_⟩
  rcases hb.2 with h1 | ⟨g, cap, cur, h1, h2, h3, h4⟩
  · exact .inl h1
  · exact .inr ⟨g, cap, cur, h1, h2, h.cells g _ h3 rfl, h4⟩
def MarksOk (B : Nat) (W : World) (Ds : List Nat) : Prop := Ds.Nodup ∧ ∀ D ∈ Ds, B ≤ D ∧ W.heap[D]? = some (.deferred (some []))
theorem MarksOk.nil (B : Nat) (W : World) : MarksOk B W [] := ⟨List.nodup_nil, fun D h => by cases h⟩
theorem MarksOk.lt {B : Nat} {W : World} {Ds : List Nat} (h : MarksOk B W Ds) {D : Nat} (hD : D ∈ Ds) : D < W.heap.size := (Array.getElem?_eq_some_iff.1 (h.2 D hD).2).1
theorem MarksOk.kept {B : Nat} {W W' : World} {Ds : List Nat} (h : MarksOk B W Ds) (hk : ∀ D ∈ Ds, W'.heap[D]? = W.heap[D]?) : MarksOk B W' Ds := ⟨h.1, fun D hD => ⟨(h.2 D hD).1, (hk D hD).trans (h.2 D hD).2⟩⟩
theorem MarksOk.cons {B : Nat} {W : World} {Ds : List Nat} (h : MarksOk B W Ds) {D : Nat} (hB : B ≤ D) (hn : D ∉ Ds) (hD : W.heap[D]? = some (.deferred (some []))) : MarksOk B W (D :: Ds) :=
  ⟨List.nodup_cons.2 ⟨hn, h.1⟩, fun E hE => by exact (List.mem_cons.1 hE).elim (fun e => e ▸ ⟨hB, hD⟩) (h.2 E)⟩
theorem MarksOk.below {B C : Nat} {W W' : World} {Ds : List Nat} (h : MarksOk B W Ds) (hb : Below C W W') (hC : W.heap.size ≤ C) : MarksOk B W' Ds := h.kept fun D hD => hb.block D (by have := h.lt hD; omega)
theorem MarksOk.grown {B : Nat} {W W' : World} {row : Option Nat} {Ds : List Nat} (h : MarksOk B W Ds) (hg : W.grownBy W' row) (hr : ∀ D ∈ Ds, some D ≠ row) : MarksOk B W' Ds := h.kept fun D hD => hg.block D (h.lt hD) (hr D hD)
theorem leaves_marks {P : Program} {F : Fence} {n : Nat} {fn : Func} {tmps : Array Value} {R : Ending → World → Prop} {B : Nat} : ∀ (Ds : List Nat) (W : World), MarksOk B W Ds →
    (∀ W', Shut B W W' → ∃ v, (results fn tmps).run P W' = .ok v W' ∧ R (.returned v) W') → LeavesInM F n P fn tmps R (Ds.map mark) .returning W
  | [], W, _, h => h W (Shut.refl B W)
  | D :: Ds, W, hM, h => by
    have hD := hM.2 D List.mem_cons_self
    have hg := grownBy_putObj' W D (.deferred none)
    have hs : Shut B W (W.putObj D (.deferred none)) := ⟨fun g o hg' ho => (World.putObj_heap_other (fun e => by subst e; rw [hD.2] at hg'; cases hg'; cases ho)).trans hg',
      (Below.refl B W).grown hg (by have := (Array.getElem?_eq_some_iff.1 hD.2).1; omega) (fun r e => by cases e; exact hD.1)⟩
    refine ⟨by simp, .inl ⟨D, _, rfl, run_takeDeferred hD.2, ?_⟩⟩
    refine leaves_marks Ds _ ⟨(List.nodup_cons.1 hM.1).2, fun E hE => ⟨(hM.2 E (List.mem_cons_of_mem _ hE)).1, ?_⟩⟩ fun W' hW' => h W' (hs.trans hW')
    exact (World.putObj_heap_other (fun e => (List.nodup_cons.1 hM.1).1 (by rw [e] at hE; exact hE))).trans (hM.2 E (List.mem_cons_of_mem _ hE)).2
def addTo (out : List Int) (y : Nat × BindD) : List Int := if y.2.toPost = true ∧ y.2.to ∉ out then out ++ [y.2.to] else out
def gather (out : List Int) (bs : List (Nat × BindD)) : List Int := bs.foldl addTo out
theorem gather_snoc (out : List Int) (bs : List (Nat × BindD)) (y : Nat × BindD) : gather out (bs ++ [y]) = addTo (gather out bs) y := by simp [gather, List.foldl_append]
def outAt (p : PlanD) (k : Int) (key : ByteArray) : Nat → List Int
  | 0 => [k]
  | j + 1 => match (outAt p k key j)[j]? with
    | some x => gather (outAt p k key j) (onL p x key)
    | none => outAt p k key j
theorem addTo_len (out : List Int) (y : Nat × BindD) : (addTo out y).length ≤ out.length + 1 ∧ out.length ≤ (addTo out y).length := by
  unfold addTo
  split <;> simp
theorem gather_len (out : List Int) (bs : List (Nat × BindD)) : (gather out bs).length ≤ out.length + bs.length ∧ out.length ≤ (gather out bs).length := by
  induction bs generalizing out with
  | nil => simp [gather]
  | cons y bs ih =>
    have := ih (addTo out y)
    have := addTo_len out y
    simp only [gather, List.foldl_cons, List.length_cons] at *
    omega
theorem onTo_mem {p : PlanD} {x : Int} {key : ByteArray} : ∀ {j : Nat} {y : Nat × BindD}, y ∈ onTo p x key j → y.1 < j ∧ p.binds[y.1]? = some y.2 ∧ y.2.src = x ∧ byP p y.2 key = true
  | 0, y, h => by cases h
  | j + 1, y, h => by
    unfold onTo at h
    split at h
    · rename_i b hb
      split at h
      · rename_i hc
        rcases List.mem_append.1 h with h | h
        · obtain ⟨h1, h2⟩ := onTo_mem h
          exact ⟨by omega, h2⟩
        · obtain rfl : y = (j, b) := by simpa using h
          exact ⟨by simp, hb, hc⟩
      · obtain ⟨h1, h2⟩ := onTo_mem h
        exact ⟨by omega, h2⟩
    · obtain ⟨h1, h2⟩ := onTo_mem h
      exact ⟨by omega, h2⟩
def OutOk (p : PlanD) (out : List Int) : Prop := out.Nodup ∧ ∀ x ∈ out, 0 ≤ x ∧ x < (p.posts.length : Int)
theorem OutOk.add {p : PlanD} (hr : PlanRight p) {out : List Int} (h : OutOk p out) {y : Nat × BindD} (hy : y.2 ∈ p.binds) : OutOk p (addTo out y) := by
  unfold addTo
  split
  · rename_i hc
    have hb := hr.bind _ hy
    rw [if_pos hc.1] at hb
    refine ⟨List.nodup_append.2 ⟨h.1, by simp, fun a ha b hb' e => ?_⟩, fun x hx => ?_⟩
    · obtain rfl : b = y.2.to := by simpa using hb'
      exact hc.2 (e ▸ ha)
    · rcases List.mem_append.1 hx with hx | hx
      · exact h.2 x hx
      · obtain rfl : x = y.2.to := by simpa using hx
        exact ⟨hb.2.2.1, hb.2.2.2⟩
  · exact h
theorem OutOk.gather {p : PlanD} (hr : PlanRight p) {x : Int} {key : ByteArray} : ∀ (bs : List (Nat × BindD)) {out : List Int}, OutOk p out → (∀ y ∈ bs, y.2 ∈ p.binds) → OutOk p (gather out bs)
  | [], out, h, _ => h
  | y :: bs, out, h, hm => OutOk.gather (x := x) (key := key) hr bs (h.add hr (hm y List.mem_cons_self)) fun z hz => hm z (List.mem_cons_of_mem _ hz)
theorem outAt_ok {p : PlanD} (hr : PlanRight p) {k : Nat} (hk : k < p.posts.length) {key : ByteArray} : ∀ j, OutOk p (outAt p k key j)
  | 0 => ⟨by simp [outAt], fun x hx => by obtain rfl : x = k := by simpa [outAt] using hx
                                          omega⟩
  | j + 1 => by
    unfold outAt
    split
    · exact OutOk.gather (x := 0) (key := key) hr _ (outAt_ok hr hk j) fun y hy => List.mem_of_getElem? (onTo_mem hy).2.1
    · exact outAt_ok hr hk j
theorem nodup_bound : ∀ (n : Nat) {l : List Int}, l.Nodup → (∀ x ∈ l, 0 ≤ x ∧ x < (n : Int)) → l.length ≤ n
  | 0, l, _, h => by
    cases l with
    | nil => simp
    | cons x l => have := h x List.mem_cons_self; omega
  | n + 1, l, hn, h => by
    by_cases hm : (n : Int) ∈ l
    · have h1 := nodup_bound n (hn.erase (n : Int)) fun x hx => by
        have h2 := (hn.mem_erase_iff).1 hx
        have h3 := h x h2.2
        have h4 := h2.1
        omega
      rw [List.length_erase_of_mem hm] at h1
      omega
    · have h1 := nodup_bound n hn fun x hx => by
        have h3 := h x hx
        have h4 : x ≠ (n : Int) := fun e => hm (e ▸ hx)
        omega
      omega
theorem OutOk.len {p : PlanD} {out : List Int} (h : OutOk p out) : out.length ≤ p.posts.length := nodup_bound _ h.1 h.2
def outs (p : PlanD) (k : Int) (key : ByteArray) : List Int := outAt p k key p.posts.length
theorem outAt_still {p : PlanD} {k : Int} {key : ByteArray} {j : Nat} (h : (outAt p k key j).length ≤ j) : ∀ i, outAt p k key (j + i) = outAt p k key j
  | 0 => rfl
  | i + 1 => by
    have := outAt_still h i
    rw [← Nat.add_assoc, outAt, this, List.getElem?_eq_none (by omega)]
theorem outs_eq {p : PlanD} {k : Int} {key : ByteArray} {j : Nat} (h : (outAt p k key j).length ≤ j) (hj : j ≤ p.posts.length) : outs p k key = outAt p k key j := by
  have := outAt_still h (p.posts.length - j)
  rwa [show j + (p.posts.length - j) = p.posts.length by omega] at this
end Go.Proofs.YtaanpcjkflhomaaGreatDoor
