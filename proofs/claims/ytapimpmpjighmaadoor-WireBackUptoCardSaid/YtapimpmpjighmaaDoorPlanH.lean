/-
  plan.Check: plain, and walked.
-/
import Derived.Test.YtapimpmpjighmaaDoorPlanA
import Derived.Test.YtapimpmpjighmaaDoorPlanE
import Derived.Test.YtapimpmpjighmaaDoorPlanG
import Derived.Test.YtapimpmpjighmaaDoorIdxA
import Derived.Test.YtapimpmpjighmaaDoorWalkF
namespace Go.Proofs.YtapimpmpjighmaaDoor
open Go.RowKit
set_option maxRecDepth 100000

/-- Plain: which error a plan has. -/
def patErr : List BindD → Int
  | [] => 0
  | b :: r => if splitErr isWild b.pattern = 0 then patErr r else splitErr isWild b.pattern
def postNames (p : PlanD) : List ByteArray := p.posts.map (·.name)
def queueNames (p : PlanD) : List ByteArray := p.queues.map (·.name)
def checkP (p : PlanD) : Int :=
  if 4 < p.posts.length ∨ 4 < p.queues.length ∨ 10 < p.binds.length then 2
  else if (postNames p ++ queueNames p).any (fun s => !nameP s) then 4
  else if dup (postNames p) || dup (queueNames p) then 6
  else if p.posts.any kindP then 7
  else if p.queues.any (queueP p.posts.length) then 3
  else if p.binds.any (fun b => !bindP p.posts.length p.queues.length b) then 3
  else patErr p.binds

theorem eg_check1 : ∀ args w, (callFunc 79 args).run Tryd.prog w = .ok (.enter 79 args) w := enters_of Tryd.func79 (by kernel_rfl) rfl
theorem eg_check2 : ∀ args w, (callFunc 81 args).run Tryd.prog w = .ok (.enter 81 args) w := enters_of Tryd.func81 (by kernel_rfl) rfl
theorem eg_check3 : ∀ args w, (callFunc 84 args).run Tryd.prog w = .ok (.enter 84 args) w := enters_of Tryd.func84 (by kernel_rfl) rfl
theorem eg_check4 : ∀ args w, (callFunc 88 args).run Tryd.prog w = .ok (.enter 88 args) w := enters_of Tryd.func88 (by kernel_rfl) rfl
theorem eg_check5 : ∀ args w, (callFunc 90 args).run Tryd.prog w = .ok (.enter 90 args) w := enters_of Tryd.func90 (by kernel_rfl) rfl
theorem eg_check6 : ∀ args w, (callFunc 92 args).run Tryd.prog w = .ok (.enter 92 args) w := enters_of Tryd.func92 (by kernel_rfl) rfl

def PatRel (bs : List BindD) (B : Nat) (w : World) (i : Value) (wr : World) : Prop :=
  ∃ k : Nat, k ≤ bs.length ∧ i = .int .i64 k ∧ patErr (bs.drop k) = patErr bs ∧ Below B w wr

theorem patErr_drop {bs : List BindD} {k : Nat} (h : k < bs.length) : patErr (bs.drop k) = if splitErr isWild bs[k].pattern = 0 then patErr (bs.drop (k + 1)) else splitErr isWild bs[k].pattern := by
  rw [List.drop_eq_getElem_cons h]
  rfl

theorem flat_map1 (xs : List ByteArray) : xs.flatMap (fun x => [Value.string x]) = xs.map Value.string := by
  induction xs with
  | nil => rfl
  | cons x r ih => rw [List.flatMap_cons, List.map_cons, ih]; rfl

theorem Concat_two (xs ys : List ByteArray) (na qa : Option Addr) (nc qc b c : Nat) (w : World) (hn : xs.length + ys.length ≤ 4194304) (h0 : w.cell? ⟨b, 0, none⟩ = some (.slice na xs.length nc)) (h1 : w.cell? ⟨b, 1, none⟩ = some (.slice qa ys.length qc))
    (hx : Sl w 0 w.heap.size na (xs.map Value.string)) (hy : Sl w 0 w.heap.size qa (ys.map Value.string)) :
    Calls Tryd.prog 83 #[.slice (some ⟨b, 0, none⟩) 2 c] w fun e w' => ∃ a c, e = .returned (.slice a (xs ++ ys).length c) ∧ Sl w' w.heap.size w'.heap.size a ((xs ++ ys).map Value.string) ∧ Below w.heap.size w w' := by
  have hfl : [xs, ys].flatten = xs ++ ys := by simp
  refine (Concat_any [xs, ys] [(na, nc), (qa, qc)] rfl b 0 c w (by simp) (by rw [hfl, List.length_append]; exact hn) (lt_of_cell h0) (fun k h => ?_) (fun k h => ?_)).mono ?_
  · match k, h with
    | 0, _ => exact h0
    | 1, _ => exact h1
    | k + 2, h => exact absurd h (by show ¬ (k + 2 < 2); omega)
  · match k, h with
    | 0, _ => exact hx
    | 1, _ => exact hy
    | k + 2, h => exact absurd h (by show ¬ (k + 2 < 2); omega)
  · rintro e w' ⟨v, rfl, hown, hB⟩
    rw [hfl] at hown
    obtain ⟨a, c, rfl, _⟩ := own_slice hown
    exact ⟨a, c, rfl, Sl.of_own hown, hB⟩

set_option maxHeartbeats 2000000 in
theorem Check_any (p : PlanD) (a1 a2 a3 : Option Addr) (c1 c2 c3 lo : Nat) (w : World) (hv : Env w) (hp : PlanAt w lo w.heap.size a1 a2 a3 p) (hs : PlanSmall p) :
    Calls Tryd.prog 36 #[planV p a1 a2 a3 c1 c2 c3] w fun e w' => e = .returned (.int .i64 (checkP p)) ∧ Below w.heap.size w w' := by
  have HP := Lib.hid hp; clear hp
  have HS := Lib.hid hs; clear hs
  have HV := Lib.hid hv; clear hv
  have l1 := HS.out.posts
  have l2 := HS.out.queues
  have l3 := HS.out.binds
  unfold planV
  go_enter Tryd.func36, Tryd.ntmps36
  have hw0 : Below w.heap.size w (w.alloc (.cells #[Value.slice a1 p.posts.length c1, Value.slice a2 p.queues.length c2, Value.slice a3 p.binds.length c3] 26)) := (Below.refl _ _).alloc (Nat.le_refl _) _
  have hc0 := Bk.new w 26 #[Value.slice a1 p.posts.length c1, Value.slice a2 p.queues.length c2, Value.slice a3 p.binds.length c3]
  have hz0 : (w.alloc (.cells #[Value.slice a1 p.posts.length c1, Value.slice a2 p.queues.length c2, Value.slice a3 p.binds.length c3] 26)).heap.size = w.heap.size + 1 := by simp
  go_wp2_with fail
  generalize w.alloc (.cells #[Value.slice a1 p.posts.length c1, Value.slice a2 p.queues.length c2, Value.slice a3 p.binds.length c3] 26) = W0 at *
  have HC0 := Lib.hid hc0; clear hc0
  have HP0 := Lib.hid ((HP.out.below hw0 (Nat.le_refl _)).wider (lo' := 0) (hi' := W0.heap.size) (Nat.zero_le _) (by omega))
  refine (names_Post _ eg_check1 check1_any a1 c1 p.posts 0 W0 HP0.out.posts l1).mono ?_
  rintro e W1 ⟨v1, rfl, hown1, hB1⟩
  obtain ⟨na, nc, rfl, _⟩ := own_slice hown1
  have hz1 := hB1.size
  have HC1 := Lib.hid (HC0.out.below hB1 (by omega)); 
  have HP1 := Lib.hid (HP0.out.below hB1 (Nat.le_refl _))
  have HN1 := Lib.hid (Sl.of_own hown1); clear hown1
  have HB1 := Lib.hid hB1; clear hB1
  have e1 : ∀ o, (W1.alloc o).cell? ⟨w.heap.size, 1, none⟩ = some (.slice a2 p.queues.length c2) := fun o => by have := (HC1.out.alloc o).cell 1; simpa using this
  go_wp2_with fail
  clear e1
  have hC2 := HC1.out.alloc (.cells #[Value.slice na p.posts.length nc] 84)
  have hM2 := Bk.new W1 84 #[Value.slice na p.posts.length nc]
  have hB2 : Below W0.heap.size W0 (W1.alloc (.cells #[Value.slice na p.posts.length nc] 84)) := HB1.out.alloc hz1 _
  have hB2' : Below W1.heap.size W1 (W1.alloc (.cells #[Value.slice na p.posts.length nc] 84)) := (Below.refl _ _).alloc (Nat.le_refl _) _
  have hz2 : (W1.alloc (.cells #[Value.slice na p.posts.length nc] 84)).heap.size = W1.heap.size + 1 := by simp
  generalize W1.alloc (.cells #[Value.slice na p.posts.length nc] 84) = W2 at *
  have HP2 := Lib.hid ((HP1.out.below hB2' (by omega)).wider (lo' := 0) (hi' := W2.heap.size) (Nat.zero_le _) (by omega))
  have HN2 := Lib.hid ((HN1.out.below hB2' (Nat.le_refl _)).wider (lo' := 0) (hi' := W2.heap.size) (Nat.zero_le _) (by omega))
  have HC2 := Lib.hid hC2; have HM2 := Lib.hid hM2; have HB2 := Lib.hid hB2
  clear hC2 hM2 hB2 hB2' HC1 HP1 HN1 HB1
  refine (names_Queue _ eg_check2 check2_any a2 c2 p.queues 0 W2 HP2.out.queues l2).mono ?_
  rintro e W3 ⟨v2, rfl, hown2, hB3⟩
  obtain ⟨qa, qc, rfl, _⟩ := own_slice hown2
  have hz3 := hB3.size
  -- all that stays, in each later world
  have hall : ∀ W, Below W3.heap.size W3 W → PlanAt W 0 W3.heap.size a1 a2 a3 p ∧ Sl W 0 W3.heap.size na ((postNames p).map Value.string) ∧ Sl W 0 W3.heap.size qa ((queueNames p).map Value.string) ∧
      (W.cell? ⟨w.heap.size, 0, none⟩ = some (.slice a1 p.posts.length c1) ∧ W.cell? ⟨w.heap.size, 1, none⟩ = some (.slice a2 p.queues.length c2) ∧ W.cell? ⟨w.heap.size, 2, none⟩ = some (.slice a3 p.binds.length c3)) ∧ W.cell? ⟨W1.heap.size, 0, none⟩ = some (.slice na p.posts.length nc) ∧ Below w.heap.size w W := fun W hW => by
    have hbk := (HC2.out.below hB3 (by omega)).below hW (by omega)
    refine ⟨(HP2.out.below hB3 (Nat.le_refl _)).wider (Nat.le_refl _) hz3 |>.below hW (Nat.le_refl _), ((HN2.out.below hB3 (Nat.le_refl _)).wider (Nat.le_refl _) hz3).below hW (Nat.le_refl _),
      ((Sl.of_own hown2).wider (Nat.zero_le _) (Nat.le_refl _)).below hW (Nat.le_refl _), ⟨?_, ?_, ?_⟩, ?_, hw0.trans ((HB2.out.trans ((hB3.trans (hW.mono (by omega))).mono (by omega))).mono (by omega))⟩
    · have := hbk.cell 0; simpa using this
    · have := hbk.cell 1; simpa using this
    · have := hbk.cell 2; simpa using this
    · have := ((HM2.out.below hB3 (by omega)).below hW (by omega)).cell 0; simpa using this
  have HALL := Lib.hid hall; clear hall hown2 hB3 HC2 HM2 HB2 HP2 HN2 HP0
  generalize hg : W1.heap.size = g at *
  clear hz1 hg hz2 hw0
  have m1 := (HALL.out W3 (Below.refl _ _)).2.2.2.2.1
  have m2 := (HALL.out W3 (Below.refl _ _)).2.2.2.1
  obtain ⟨m20, m21, m22⟩ := m2
  by_cases hmany : 4 < p.posts.length ∨ 4 < p.queues.length ∨ 10 < p.binds.length
  · have hr : checkP p = 2 := by unfold checkP; rw [if_pos hmany]
    have HR := Lib.hid hr; clear hr
    go_wp2_with fail
    all_goals go_ret
    all_goals exact ⟨by rw [HR.out]; rfl, (HALL.out W3 (Below.refl _ _)).2.2.2.2.2⟩
  · have q1 : p.posts.length ≤ 4 := by omega
    have q2 : p.queues.length ≤ 4 := by omega
    have q3 : p.binds.length ≤ 10 := by omega
    have HMANY := Lib.hid hmany; clear hmany
    go_wp2_with fail
    have hbl : Below W3.heap.size W3 (W3.alloc (.cells #[Value.slice na p.posts.length nc, Value.slice qa p.queues.length qc] 84)) := (Below.refl _ _).alloc (Nat.le_refl _) _
    have hbk := Bk.new W3 84 #[Value.slice na p.posts.length nc, Value.slice qa p.queues.length qc]
    have hz4 : (W3.alloc (.cells #[Value.slice na p.posts.length nc, Value.slice qa p.queues.length qc] 84)).heap.size = W3.heap.size + 1 := by simp
    generalize W3.alloc (.cells #[Value.slice na p.posts.length nc, Value.slice qa p.queues.length qc] 84) = W4 at *
    have hlp : p.posts.length = (postNames p).length := by simp [postNames]
    have hlq : p.queues.length = (queueNames p).length := by simp [queueNames]
    have F4 := HALL.out W4 hbl
    have k0 : W4.cell? ⟨W3.heap.size, 0, none⟩ = some (.slice na (postNames p).length nc) := by have := hbk.cell 0; rw [← hlp]; exact this
    have k1 : W4.cell? ⟨W3.heap.size, 1, none⟩ = some (.slice qa (queueNames p).length qc) := by have := hbk.cell 1; rw [← hlq]; exact this
    refine (Concat_two (postNames p) (queueNames p) na qa nc qc _ _ W4 (by omega) k0 k1 (F4.2.1.wider (Nat.le_refl _) (by omega)) (F4.2.2.1.wider (Nat.le_refl _) (by omega))).mono ?_
    rintro e W5 ⟨ca, cc, rfl, hcs, hB5⟩
    have hB5' : Below W3.heap.size W3 W5 := hbl.trans (hB5.mono (by omega))
    clear F4 k0 k1 hbk hbl hB5
    have hcl : (postNames p ++ queueNames p).length ≤ 8 := by rw [List.length_append]; omega
    rw [← flat_map1] at hcs
    have HCS := Lib.hid (hcs.wider (Nat.zero_le _) (Nat.le_refl _)); clear hcs
    have HB5 := Lib.hid hB5'; clear hB5'
    have HLP := Lib.hid (And.intro hlp hlq); clear hlp hlq
    clear m1 m20 m21 m22 hz4
    generalize hall : postNames p ++ queueNames p = all at *
    have HA := Lib.hid hall; clear hall
    go_wp2_with fail
    refine (containsFunc_Str _ #[] eg_check3 (fun s => !nameP s) all ca cc 0 W5 (fun x _ W _ => by simpa using check3_any x W) HCS.out (by omega)).mono ?_
    rintro e W6 ⟨rfl, hB6⟩
    have HB6 := Lib.hid (HB5.out.trans (hB6.mono HB5.out.size)); clear hB6 HB5 HCS
    cases hbad : all.any (fun s => !nameP s)
    · have HBAD := Lib.hid hbad; clear hbad
      have F6 := HALL.out W6 HB6.out
      have m1 := F6.2.2.2.2.1
      obtain ⟨m20, m21, m22⟩ := F6.2.2.2.1
      have HF6 := Lib.hid F6; clear F6
      have hsz1 : ∀ s ∈ postNames p, s.size ≤ maxLen := fun s hs => by
        obtain ⟨x, hx, rfl⟩ := List.mem_map.1 hs
        have := HS.out.post x hx
        unfold maxLen
        omega
      have hsz2 : ∀ s ∈ queueNames p, s.size ≤ maxLen := fun s hs => by
        obtain ⟨x, hx, rfl⟩ := List.mem_map.1 hs
        have := HS.out.queue x hx
        unfold maxLen
        omega
      have HZ := Lib.hid (And.intro hsz1 hsz2); clear hsz1 hsz2
      go_wp2_with fail
      have hal1 := alike_any na nc (postNames p) 0 W6 (HF6.out.2.1.wider (Nat.le_refl _) HB6.out.size) (by rw [← HLP.out.1]; omega) HZ.out.1
      rw [← HLP.out.1] at hal1
      refine hal1.mono ?_
      clear hal1
      rintro e W7 ⟨rfl, hB7⟩
      have HB7 := Lib.hid (HB6.out.trans (hB7.mono HB6.out.size)); clear hB7 HB6 HF6 m1 m20 m21 m22
      cases hd1 : dup (postNames p)
      · have HD1 := Lib.hid hd1; clear hd1
        go_wp2_with fail
        have hal2 := alike_any qa qc (queueNames p) 0 W7 ((HALL.out W7 HB7.out).2.2.1.wider (Nat.le_refl _) HB7.out.size) (by rw [← HLP.out.2]; omega) HZ.out.2
        rw [← HLP.out.2] at hal2
        refine hal2.mono ?_
        clear hal2
        rintro e W8 ⟨rfl, hB8⟩
        have HB8 := Lib.hid (HB7.out.trans (hB8.mono HB7.out.size)); clear hB8 HB7
        cases hd2 : dup (queueNames p)
        · have hr0 : checkP p = if p.posts.any kindP then 7
              else if p.queues.any (queueP p.posts.length) then 3
              else if p.binds.any (fun b => !bindP p.posts.length p.queues.length b) then 3
              else patErr p.binds := by
            unfold checkP
            rw [if_neg HMANY.out, HA.out, HBAD.out, HD1.out, hd2]
            rfl
          have HR0 := Lib.hid hr0; clear hr0
          have HD2 := Lib.hid hd2; clear hd2
          have F8 := HALL.out W8 HB8.out
          have m1 := F8.2.2.2.2.1
          obtain ⟨m20, m21, m22⟩ := F8.2.2.2.1
          have HF8 := Lib.hid F8; clear F8
          go_wp2_with fail
          refine (containsFunc_Post _ #[] eg_check4 kindP p.posts a1 c1 0 W8 (fun x _ W _ => by simpa using check4_any x W) (HF8.out.1.posts.wider (Nat.le_refl _) HB8.out.size) (by omega)).mono ?_
          rintro e W9 ⟨rfl, hB9⟩
          have HB9 := Lib.hid (HB8.out.trans (hB9.mono HB8.out.size)); clear hB9 HB8 HF8 m1 m20 m21 m22
          cases hk : p.posts.any kindP
          · have HK := Lib.hid hk; clear hk
            have F9 := HALL.out W9 HB9.out
            have m1 := F9.2.2.2.2.1
            obtain ⟨m20, m21, m22⟩ := F9.2.2.2.1
            have HF9 := Lib.hid F9; clear F9
            go_wp2_with fail
            refine (containsFunc_Queue _ #[.pointer (some ⟨g, 0, none⟩)] eg_check5 (queueP p.posts.length) p.queues a2 c2 0 W9 (fun x _ W hW => by
              have := check5_any x g na p.posts.length nc W (by omega) (HALL.out W (HB9.out.trans (hW.mono HB9.out.size))).2.2.2.2.1
              simpa using this) (HF9.out.1.queues.wider (Nat.le_refl _) HB9.out.size) (by omega)).mono ?_
            rintro e W10 ⟨rfl, hB10⟩
            have HB10 := Lib.hid (HB9.out.trans (hB10.mono HB9.out.size)); clear hB10 HB9 HF9 m1 m20 m21 m22
            cases hq : p.queues.any (queueP p.posts.length)
            · have HQ := Lib.hid hq; clear hq
              have F10 := HALL.out W10 HB10.out
              obtain ⟨m20, m21, m22⟩ := F10.2.2.2.1
              have HF10 := Lib.hid F10; clear F10
              go_wp2_with fail
              refine (containsFunc_Bind _ #[.pointer (some ⟨w.heap.size, 0, none⟩)] eg_check6 (fun b => !bindP p.posts.length p.queues.length b) p.binds a3 c3 0 W10 (fun x _ W hW => by
                have F := HALL.out W (HB10.out.trans (hW.mono HB10.out.size))
                have := check6_any x w.heap.size a1 a2 a3 p.posts.length p.queues.length p.binds.length c1 c2 c3 W (by omega) (by omega) F.2.2.2.1.1 F.2.2.2.1.2.1 F.2.2.2.1.2.2
                simpa using this) (HF10.out.1.binds.wider (Nat.le_refl _) HB10.out.size) (by omega)).mono ?_
              rintro e W11 ⟨rfl, hB11⟩
              have HB11 := Lib.hid (HB10.out.trans (hB11.mono HB10.out.size)); clear hB11 HB10 HF10 m20 m21 m22
              cases hb : p.binds.any (fun b => !bindP p.posts.length p.queues.length b)
              · have hr1 : checkP p = patErr p.binds := by rw [HR0.out, HK.out, HQ.out, hb]; rfl
                have HR1 := Lib.hid hr1; clear hr1
                have HBB := Lib.hid hb; clear hb
                have F11 := HALL.out W11 HB11.out
                obtain ⟨m20, m21, m22⟩ := F11.2.2.2.1
                clear F11
                go_wp2_with fail
                go_loopw [53] (fun i wr => PatRel p.binds W3.heap.size W3 i wr) (fun i _ => p.binds.length - (intOf i).toNat)
                case atStart => exact ⟨0, by omega, rfl, rfl, HB11.out⟩
                case round =>
                  obtain ⟨k, hk, rfl, hpe, hBr⟩ := hrel
                  have HBr := Lib.hid hBr
                  have HPE := Lib.hid hpe; clear hpe
                  by_cases hlt : k < p.binds.length
                  · obtain ⟨b, o, rfl, _, hb, hc⟩ := sl_elem (size := 4) vBind_len (by decide) (HALL.out wr hBr).1.binds hlt
                    have e0 : wr.cell? ⟨b, o + k * 4, none⟩ = some (.int .i64 p.binds[k].src) := hc 0 _ rfl
                    have e1 : wr.cell? ⟨b, o + k * 4 + 1, none⟩ = some (.bool p.binds[k].toPost) := hc 1 _ rfl
                    have e2 : wr.cell? ⟨b, o + k * 4 + 2, none⟩ = some (.int .i64 p.binds[k].to) := hc 2 _ rfl
                    have e3 : wr.cell? ⟨b, o + k * 4 + 3, none⟩ = some (.string p.binds[k].pattern) := hc 3 _ rfl
                    have hpd := patErr_drop hlt
                    have hps := HS.out.bind _ (List.getElem_mem hlt)
                    have henv : Env wr := below_env (HALL.out wr hBr).2.2.2.2.2 HV.out
                    have HEN := Lib.hid henv
                    have HPD := Lib.hid hpd
                    have HPS := Lib.hid hps
                    clear hc hpd hps henv hBr m20 m21 m22
                    generalize hx : p.binds[k] = x at *
                    clear hx
                    obtain ⟨src, tp, dst, pat⟩ := x
                    go_wp2_with fail
                    refine (Pattern_env _ _ (Nat.lt_of_le_of_lt HPS.out (by omega)) (below_env ((Below.refl _ _).alloc (Nat.le_refl _) _) HEN.out)).mono ?_
                    rintro e W12 ⟨rfl, hB12⟩
                    have hB12' : Below wr.heap.size wr W12 := ((Below.refl _ _).alloc (Nat.le_refl _) _).trans (hB12.mono (by simp))
                    have HB12 := Lib.hid (HBr.out.trans (hB12'.mono HBr.out.size)); clear hB12 hB12' e0 e1 e2 e3
                    have HPD2 : Hid (patErr (p.binds.drop k) = if splitErr isWild pat = 0 then patErr (p.binds.drop (k + 1)) else splitErr isWild pat) := HPD.out
                    clear HPD
                    generalize splitErr isWild pat = se at *
                    by_cases hse : se = 0
                    · subst hse
                      have HN : Hid (patErr (p.binds.drop (k + 1)) = patErr p.binds) := by
                        have := HPD2.out
                        rw [if_pos rfl, HPE.out] at this
                        exact this.symm
                      go_wp2_with fail
                      exact ⟨⟨k + 1, hlt, by go_num, HN.out, HB12.out⟩, by simp [intOf]; omega⟩
                    · have HN : Hid (checkP p = se) := by
                        have := HPD2.out
                        rw [if_neg hse, HPE.out] at this
                        exact HR1.out.trans this
                      have hse' : (se != 0) = true := by simp [hse]
                      go_wp2_with fail
                      all_goals go_ret
                      all_goals exact ⟨by rw [HN.out]; rfl, (HALL.out W12 HB12.out).2.2.2.2.2⟩
                  · obtain rfl : k = p.binds.length := by omega
                    have HN : Hid (checkP p = 0) := by
                      have := HPE.out
                      rw [List.drop_length] at this
                      exact HR1.out.trans this.symm
                    go_wp2_with fail
                    go_ret
                    exact ⟨by rw [HN.out]; rfl, (HALL.out _ HBr.out).2.2.2.2.2⟩
              · have hr : checkP p = 3 := by rw [HR0.out, HK.out, HQ.out, hb]; rfl
                have HR := Lib.hid hr; clear hr hb
                go_wp2_with fail
                go_ret
                exact ⟨by rw [HR.out]; rfl, (HALL.out W11 HB11.out).2.2.2.2.2⟩
            · have hr : checkP p = 3 := by rw [HR0.out, HK.out, hq]; rfl
              have HR := Lib.hid hr; clear hr hq
              go_wp2_with fail
              go_ret
              exact ⟨by rw [HR.out]; rfl, (HALL.out W10 HB10.out).2.2.2.2.2⟩
          · have hr : checkP p = 7 := by rw [HR0.out, hk]; rfl
            have HR := Lib.hid hr; clear hr hk
            go_wp2_with fail
            go_ret
            exact ⟨by rw [HR.out]; rfl, (HALL.out W9 HB9.out).2.2.2.2.2⟩
        · have hr : checkP p = 6 := by
            unfold checkP
            rw [if_neg HMANY.out, HA.out, HBAD.out, HD1.out, hd2]
            rfl
          have HR := Lib.hid hr; clear hr hd2
          go_wp2_with fail
          go_ret
          exact ⟨by rw [HR.out]; rfl, (HALL.out W8 HB8.out).2.2.2.2.2⟩
      · have hr : checkP p = 6 := by
          unfold checkP
          rw [if_neg HMANY.out, HA.out, HBAD.out, hd1]
          rfl
        have HR := Lib.hid hr; clear hr hd1
        go_wp2_with fail
        go_ret
        exact ⟨by rw [HR.out]; rfl, (HALL.out W7 HB7.out).2.2.2.2.2⟩
    · have hr : checkP p = 4 := by
        unfold checkP
        rw [if_neg HMANY.out, HA.out, if_pos hbad]
      have HR := Lib.hid hr; clear hr hbad
      go_wp2_with fail
      go_ret
      exact ⟨by rw [HR.out]; rfl, (HALL.out W6 HB6.out).2.2.2.2.2⟩
end Go.Proofs.YtapimpmpjighmaaDoor
