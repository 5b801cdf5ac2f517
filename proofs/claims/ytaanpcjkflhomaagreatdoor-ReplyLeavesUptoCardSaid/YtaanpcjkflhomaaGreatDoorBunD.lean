/-
  Walk of the reference's twice. The reference's CheckPlan, walked.
  What a right plan is; a plan in its box.
  The law's plan of the office: what it is, and that it comes in new memory.
-/
import Derived.Test.YtaanpcjkflhomaaGreatDoorBunC
set_option linter.unusedSimpArgs false
set_option linter.unusedVariables false
namespace Go.Proofs.YtaanpcjkflhomaaGreatDoor
open Go.RowKit
set_option maxRecDepth 100000
def TwiceRel (l : List ByteArray) (B : Nat) (w : World) (i : Value) (wr : World) : Prop :=
 ∃ k : Nat, k ≤ l.length ∧ i = .int .i64 k ∧ (l.take k).Nodup ∧ Below B w wr
def TwiceRel2 (l : List ByteArray) (x : ByteArray) (B : Nat) (w : World) (n : Nat) (i : Value) (wr : World) : Prop :=
 ∃ k : Nat, k ≤ n ∧ i = .int .i64 k ∧ (∀ j y, j < k → l[j]? = some y → y ≠ x) ∧ Below B w wr
set_option maxHeartbeats 1000000 in
theorem twice_any (a : Option Addr) (c : Nat) (l : List ByteArray) (lo : Nat) (w : World) (hx : Sl w lo w.heap.size a (l.map Value.string)) (hl : l.length ≤ 1048576) :
  Calls Tryz.prog 87 #[.slice a l.length c] w fun e w' => e = .returned (.bool (dup l)) ∧ Below w.heap.size w w' := by
 have HX := Lib.hid hx; clear hx
 go_enter Tryz.func87, Tryz.ntmps87
 go_wp2_with fail
 go_loopw [3] (fun i wr => TwiceRel l w.heap.size w i wr) (fun i _ => l.length - (intOf i).toNat)
 case atStart => exact ⟨0, by omega, rfl, by simp, Below.refl _ _⟩
 case round =>
  obtain ⟨k, hk, rfl, hnd, hB⟩ := hrel
  have HN := Lib.hid hnd; clear hnd
  by_cases hlt : k < l.length
  ·obtain ⟨b, o, rfl, _, hb, hc⟩ := HX.out.at_ (k := k) (by simpa using hlt)
   have hcell : ∀ W, Below w.heap.size w W → ∀ j (h : j < l.length), W.cell? ⟨b, o + j, none⟩ = some (.string l[j]) := fun W hW j h => (hW.cell (p := ⟨b, _, none⟩) hb).trans (hc j _ (by simp [h]))
   have HC := Lib.hid hcell; clear hcell hc
   go_wp2_with fail
   go_loopw [4] (fun i wr => TwiceRel2 l l[k] w.heap.size w k i wr) (fun i _ => k - (intOf i).toNat)
   case atStart => exact ⟨0, by omega, rfl, fun j y hj => absurd hj (by omega), hB⟩
   case round =>
    obtain ⟨m, hm, rfl, hne, hB⟩ := hrel
    have HE := Lib.hid hne; clear hne
    by_cases hmk : m < k
    ·have hml : m < l.length := by omega
     have e0 := HC.out _ hB k hlt
     have e1 := HC.out _ hB m hml
     go_wp2
     go_quiet (fail)
     all_goals go_wp2
     ·have hq : l[k] = l[m] := toList_inj (by simp_all)
      have HD : dup l = true := by
       have : ¬ l.Nodup := fun h => (List.pairwise_iff_getElem.1 h) m k hml hlt hmk hq.symm
       simp [dup, this]
      go_ret
      exact ⟨by rw [HD]; rfl, below_draws hB _⟩
     ·have hq : ¬ l[k] = l[m] := fun e => by simp_all
      exact ⟨⟨m + 1, by omega, by go_num, fun j y hj hy => by
       rcases Nat.lt_or_ge j m with h1 | h1
       ·exact HE.out j y h1 hy
       ·obtain rfl : j = m := by omega
        rw [List.getElem?_eq_getElem hml] at hy
        cases hy
        exact fun e => hq e.symm, below_draws hB _⟩, by simp [intOf]; omega⟩
    ·obtain rfl : m = k := by omega
     have HD : Hid ((l.take (m + 1)).Nodup) := (nodup_take hlt).2 ⟨HN.out, fun h => by
      obtain ⟨j, h1, h2⟩ := mem_take_iff.1 h
      exact HE.out j _ h1 h2 rfl⟩
     go_wp2_with fail
     exact ⟨⟨m + 1, hlt, by go_num, HD.out, hB⟩, by simp [intOf]; omega⟩
  ·obtain rfl : k = l.length := by omega
   have HD : Hid (dup l = false) := by
    have := HN.out
    rw [List.take_length] at this
    exact (by simp [dup, this] : dup l = false)
   go_wp2_with fail
   go_ret
   exact ⟨by rw [HD.out]; rfl, hB⟩
end Go.Proofs.YtaanpcjkflhomaaGreatDoor
namespace Go.Proofs.YtaanpcjkflhomaaGreatDoor
open Go.RowKit
set_option maxRecDepth 100000
theorem bn1 {x : Bool} (h : true = !x) : x = false := by cases x <;> simp_all
theorem bn2 {x : Bool} (h : false = !x) : x = true := by cases x <;> simp_all
theorem any_done {α : Type} {p : α → Bool} {xs : List α} {k : Nat} (hall : ∀ j x, j < k → xs[j]? = some x → p x = false) (h : xs.length ≤ k) : xs.any p = false := by
 rw [List.any_eq_false]
 intro x hx
 obtain ⟨j, hj⟩ := List.mem_iff_getElem?.1 hx
 have : j < xs.length := (List.getElem?_eq_some_iff.1 hj).1
 rw [hall j x (by omega) hj]
 simp
theorem any_hit {α : Type} {p : α → Bool} {xs : List α} {k : Nat} (h : k < xs.length) (hp : p xs[k] = true) : xs.any p = true := List.any_eq_true.2 ⟨_, List.getElem_mem h, hp⟩
set_option maxHeartbeats 4000000 in
theorem CheckPlan_any (p : PlanD) (a1 a2 a3 : Option Addr) (c1 c2 c3 lo : Nat) (w : World) (hp : PlanAt w lo w.heap.size a1 a2 a3 p) (hs : PlanSmall p) :
  Calls Tryz.prog 43 #[planV p a1 a2 a3 c1 c2 c3] w fun e w' => e = .returned (.int .i64 (checkP p)) ∧ Below w.heap.size w w' := by
 have HP := Lib.hid hp; clear hp
 have HS := Lib.hid hs; clear hs
 have l1 := HS.out.posts
 have l2 := HS.out.queues
 have l3 := HS.out.binds
 unfold planV
 go_enter Tryz.func43, Tryz.ntmps43
 have hw0 : Below w.heap.size w (w.alloc (.cells #[Value.slice a1 p.posts.length c1, Value.slice a2 p.queues.length c2, Value.slice a3 p.binds.length c3] 26)) := (Below.refl _ _).alloc (Nat.le_refl _) _
 have hc0 := Bk.new w 26 #[Value.slice a1 p.posts.length c1, Value.slice a2 p.queues.length c2, Value.slice a3 p.binds.length c3]
 have hz0 : (w.alloc (.cells #[Value.slice a1 p.posts.length c1, Value.slice a2 p.queues.length c2, Value.slice a3 p.binds.length c3] 26)).heap.size = w.heap.size + 1 := by simp
 by_cases hmany : 4 < p.posts.length ∨ 4 < p.queues.length ∨ 10 < p.binds.length
 ·have hr : checkP p = 2 := by unfold checkP; rw [if_pos hmany]
  have HR := Lib.hid hr; clear hr
  clear hc0 hz0
  have HW0 := Lib.hid hw0; clear hw0
  go_wp2_with fail
  all_goals go_ret
  all_goals exact ⟨by rw [HR.out]; rfl, HW0.out⟩
 have q1 : p.posts.length ≤ 4 := by omega
 have q2 : p.queues.length ≤ 4 := by omega
 have q3 : p.binds.length ≤ 10 := by omega
 have HMANY := Lib.hid hmany; clear hmany
 go_wp2_with fail
 generalize w.alloc (.cells #[Value.slice a1 p.posts.length c1, Value.slice a2 p.queues.length c2, Value.slice a3 p.binds.length c3] 26) = W0 at *
 have hp0 : PlanAt W0 0 W0.heap.size a1 a2 a3 p := (HP.out.below hw0 (Nat.le_refl _)).wider (Nat.zero_le _) (by omega)
 have hall0 : ∀ W, Below W0.heap.size W0 W → PlanAt W 0 W0.heap.size a1 a2 a3 p ∧ (W.cell? ⟨w.heap.size, 0, none⟩ = some (.slice a1 p.posts.length c1) ∧ W.cell? ⟨w.heap.size, 1, none⟩ = some (.slice a2 p.queues.length c2) ∧ W.cell? ⟨w.heap.size, 2, none⟩ = some (.slice a3 p.binds.length c3)) ∧ Below w.heap.size w W := fun W hW => by
  have hbk := hc0.below hW (by omega)
  refine ⟨hp0.below hW (Nat.le_refl _), ⟨?_, ?_, ?_⟩, hw0.trans (hW.mono (by omega))⟩
  ·have := hbk.cell 0; simpa using this
  ·have := hbk.cell 1; simpa using this
  ·have := hbk.cell 2; simpa using this
 have H0 := Lib.hid hall0; clear hall0 hp0 hc0
 clear hw0
 go_loopw [3, 5] (fun v i wr => NamesRel (postNames p) W0.heap.size W0 v i wr) (fun _ i _ => p.posts.length - (intOf i).toNat)
 case atStart => exact ⟨0, by omega, rfl, World.ownsRow_nil _ _ _ _, Below.refl _ _⟩
 case round =>
  obtain ⟨k, hk, rfl, hown, hB⟩ := hrel
  have hkl : (postNames p).length = p.posts.length := by simp [postNames]
  rw [hkl] at hk
  obtain ⟨F1, ⟨m0, m1, m2⟩, _⟩ := H0.out wr hB
  by_cases hlt : k < p.posts.length
  ·obtain ⟨b, o, ha, _, hb, hc⟩ := sl_elem vPost_len (by decide) F1.posts hlt
   have e0 : wr.cell? ⟨b, o + k * 2, none⟩ = some (.string p.posts[k].name) := hc 0 _ rfl
   clear hc F1
   have HO := Lib.hid hown; clear hown
   have HB := Lib.hid hB
   have hbs := hB.size
   clear hB
   subst ha
   have hk4 : k < 4294967296 := by omega
   have hbase : W0.heap.size ≤ wr.heap.size := hbs
   go_wp2_with (at_builtin; refine append1 rfl _ _ 43 rfl W0.heap.size 9 infoStr Tryz.underlying43 rfl (by decide) (by decide) wr _ _ _ rfl HO.out _ rfl rfl rfl (by simp [Value.oneCell']) hk4 hbase ?_; intro v' w2 hown' hgrow)
   refine ⟨⟨k + 1, by simp [postNames]; omega, by go_num, ?_, below_own HO.out hgrow HB.out (Nat.le_refl _) hbase⟩, by simp [intOf]; omega⟩
   rw [List.take_add_one]
   simp only [postNames, List.getElem?_map, List.getElem?_eq_getElem hlt]
   simpa [postNames] using hown'
  ·obtain rfl : k = p.posts.length := by omega
   rw [List.take_of_length_le (by rw [hkl]; exact Nat.le_refl _)] at hown
   obtain ⟨na, nc, rfl, hnc⟩ := own_slice hown
   have hz1 := hB.size
   have H1 : Hid (∀ W, Below wr.heap.size wr W → (PlanAt W 0 W0.heap.size a1 a2 a3 p ∧ (W.cell? ⟨w.heap.size, 0, none⟩ = some (.slice a1 p.posts.length c1) ∧ W.cell? ⟨w.heap.size, 1, none⟩ = some (.slice a2 p.queues.length c2) ∧ W.cell? ⟨w.heap.size, 2, none⟩ = some (.slice a3 p.binds.length c3)) ∧ Below w.heap.size w W) ∧ Sl W 0 wr.heap.size na ((postNames p).map Value.string)) :=
    fun W hW => ⟨H0.out W (hB.trans (hW.mono hz1)), ((Sl.of_own hown).wider (Nat.zero_le _) (Nat.le_refl _)).below hW (Nat.le_refl _)⟩
   clear hown hB F1 hkl
   generalize hW1 : wr = W1 at *
   clear hW1
   go_wp2_with fail
   go_loopw [4, 6] (fun v i wr => NamesRel (queueNames p) W1.heap.size W1 v i wr) (fun _ i _ => p.queues.length - (intOf i).toNat)
   case atStart => exact ⟨0, by omega, rfl, World.ownsRow_nil _ _ _ _, Below.refl _ _⟩
   case round =>
    obtain ⟨k, hk, rfl, hown, hB⟩ := hrel
    have hkl : (queueNames p).length = p.queues.length := by simp [queueNames]
    rw [hkl] at hk
    obtain ⟨⟨F1, ⟨m0, m1, m2⟩, _⟩, _⟩ := H1.out wr hB
    by_cases hlt : k < p.queues.length
    ·obtain ⟨b, o, ha, _, hb, hc⟩ := sl_elem vQueue_len (by decide) F1.queues hlt
     have e0 : wr.cell? ⟨b, o + k * 3, none⟩ = some (.string p.queues[k].name) := hc 0 _ rfl
     clear hc F1
     have HO := Lib.hid hown; clear hown
     have HB := Lib.hid hB
     have hbs := hB.size
     clear hB
     subst ha
     have hk4 : k < 4294967296 := by omega
     have hbase : W1.heap.size ≤ wr.heap.size := hbs
     go_wp2_with (at_builtin; refine append1 rfl _ _ 43 rfl W1.heap.size 9 infoStr Tryz.underlying43 rfl (by decide) (by decide) wr _ _ _ rfl HO.out _ rfl rfl rfl (by simp [Value.oneCell']) hk4 hbase ?_; intro v' w2 hown' hgrow)
     refine ⟨⟨k + 1, by simp [queueNames]; omega, by go_num, ?_, below_own HO.out hgrow HB.out (Nat.le_refl _) hbase⟩, by simp [intOf]; omega⟩
     rw [List.take_add_one]
     simp only [queueNames, List.getElem?_map, List.getElem?_eq_getElem hlt]
     simpa [queueNames] using hown'
    ·obtain rfl : k = p.queues.length := by omega
     rw [List.take_of_length_le (by rw [hkl]; exact Nat.le_refl _)] at hown
     obtain ⟨qa, qc, rfl, hqc⟩ := own_slice hown
     have hz2 := hB.size
     have H2 : Hid (∀ W, Below wr.heap.size wr W → (PlanAt W 0 W0.heap.size a1 a2 a3 p ∧ (W.cell? ⟨w.heap.size, 0, none⟩ = some (.slice a1 p.posts.length c1) ∧ W.cell? ⟨w.heap.size, 1, none⟩ = some (.slice a2 p.queues.length c2) ∧ W.cell? ⟨w.heap.size, 2, none⟩ = some (.slice a3 p.binds.length c3)) ∧ Below w.heap.size w W) ∧ Sl W 0 W1.heap.size na ((postNames p).map Value.string) ∧ Sl W 0 wr.heap.size qa ((queueNames p).map Value.string)) :=
      fun W hW => ⟨(H1.out W (hB.trans (hW.mono hz2))).1, (H1.out W (hB.trans (hW.mono hz2))).2, ((Sl.of_own hown).wider (Nat.zero_le _) (Nat.le_refl _)).below hW (Nat.le_refl _)⟩
     clear hown hB F1 hkl
     generalize hW2 : wr = W2 at *
     clear hW2
     have hlp : p.posts.length = (postNames p).length := by simp [postNames]
     have hlq : p.queues.length = (queueNames p).length := by simp [queueNames]
     have HLP := Lib.hid (And.intro hlp hlq)
     have hal : Below W2.heap.size W2 (W2.alloc (.cells #[] 9)) := (Below.refl _ _).alloc (Nat.le_refl _) _
     have hownE : (W2.alloc (.cells #[] 9)).ownsRow W2.heap.size 9 1 (.slice (some ⟨W2.heap.size, 0, none⟩) 0 0) 0 [] := World.ownsRow_lit W2 #[] 0 (Nat.le_refl _) (by decide) rfl
     have HX := Lib.hid (H2.out _ hal).2.1
     have HE := Lib.hid hownE
     have HAL := Lib.hid hal
     clear hlp hlq hownE hal
     have hs1 : 0 + p.posts.length ≤ 4294967296 := by omega
     have hs2 : 0 + p.posts.length + p.queues.length ≤ 4294967296 := by omega
     have hbs : W2.heap.size ≤ (W2.alloc (.cells #[] 9)).heap.size := by simp
     have hn1 : ((postNames p).map Value.string).length = p.posts.length * 1 := by simp [postNames]
     have hn2 : ((queueNames p).map Value.string).length = p.queues.length * 1 := by simp [queueNames]
     go_wp2_with (first
      | (at_builtin; refine appendS rfl _ _ 43 rfl W2.heap.size 9 infoStr Tryz.underlying43 rfl (by decide) (by decide) _ _ _ rfl HE.out _ _ _ rfl 0 _ ((postNames p).map Value.string) hn1 HX.out (by simp [Value.oneCell']) hs1 hbs ?_; intro v' w2 hown' hgrow; have HB3 := Lib.hid (below_own HE.out hgrow HAL.out (Nat.le_refl _) hbs); have hown3 := Lib.hid hown'; have hbs3 := HB3.out.size; have HX3 := Lib.hid (H2.out w2 HB3.out).2.2; clear hown' hgrow)
      | (at_builtin; refine appendS rfl _ _ 43 rfl W2.heap.size 9 infoStr Tryz.underlying43 rfl (by decide) (by decide) _ _ _ rfl hown3.out _ _ _ rfl 0 _ ((queueNames p).map Value.string) hn2 HX3.out (by simp [Value.oneCell']) hs2 hbs3 ?_; intro v'' w3 hown' hgrow; have HB4 := Lib.hid (below_own hown3.out hgrow HB3.out (Nat.le_refl _) hbs3); have hown4 := Lib.hid hown'; clear hown' hgrow))
     have hn5 : 0 + p.posts.length + p.queues.length = (postNames p ++ queueNames p).length := by rw [List.length_append, ← HLP.out.1, ← HLP.out.2, Nat.zero_add]
     have hown5 := hown4.out
     rw [List.nil_append, ← List.map_append, hn5] at hown5
     have hcl : (postNames p ++ queueNames p).length ≤ 8 := by rw [← hn5]; omega
     obtain ⟨aa, ac, rfl, hac⟩ := own_slice hown5
     have hz3 := HB4.out.size
     have H3 : Hid (∀ W, Below w3.heap.size w3 W → (PlanAt W 0 W0.heap.size a1 a2 a3 p ∧ (W.cell? ⟨w.heap.size, 0, none⟩ = some (.slice a1 p.posts.length c1) ∧ W.cell? ⟨w.heap.size, 1, none⟩ = some (.slice a2 p.queues.length c2) ∧ W.cell? ⟨w.heap.size, 2, none⟩ = some (.slice a3 p.binds.length c3)) ∧ Below w.heap.size w W) ∧ Sl W 0 W1.heap.size na ((postNames p).map Value.string) ∧ Sl W 0 W2.heap.size qa ((queueNames p).map Value.string) ∧ Sl W 0 w3.heap.size aa ((postNames p ++ queueNames p).map Value.string)) :=
      fun W hW => ⟨(H2.out W (HB4.out.trans (hW.mono hz3))).1, (H2.out W (HB4.out.trans (hW.mono hz3))).2.1, (H2.out W (HB4.out.trans (hW.mono hz3))).2.2, ((Sl.of_own hown5).wider (Nat.zero_le _) (Nat.le_refl _)).below hW (Nat.le_refl _)⟩
     clear hown4 hown5 hown3 HX3 HE HAL HX HB3 HB4 hs1 hs2 hbs hbs3 hn1 hn2 hn5 H0 H1 H2
     generalize hall : postNames p ++ queueNames p = all at *
     have HA := Lib.hid hall; clear hall
     generalize hW3 : w3 = W3 at *
     clear hW3
     go_wp2_with fail
     go_loopw [8] (fun i wr => IdxRel (fun s => !nameP s) all W3.heap.size W3 i wr) (fun i _ => all.length - (intOf i).toNat)
     case atStart => exact ⟨0, by omega, rfl, Below.refl _ _, fun j x hj => absurd hj (by omega)⟩
     case round =>
      obtain ⟨k, hk, rfl, hB, hall⟩ := hrel
      have HN := Lib.hid hall; clear hall
      have HB := Lib.hid hB
      by_cases hlt : k < all.length
      ·obtain ⟨b, o, rfl, _, hb, hc⟩ := (H3.out wr hB).2.2.2.at_ (k := k) (by simpa using hlt)
       have e0 : wr.cell? ⟨b, o + k, none⟩ = some (.string all[k]) := hc k _ (by simp [hlt])
       clear hc hB
       have hsz : all[k].size < 4294967281 := by
        have hm : all[k] ∈ postNames p ++ queueNames p := by rw [HA.out]; exact List.getElem_mem hlt
        rcases List.mem_append.1 hm with h | h
        ·obtain ⟨x, hx, he⟩ := List.mem_map.1 h
         have := HS.out.post x hx
         rw [← he]
         omega
        ·obtain ⟨x, hx, he⟩ := List.mem_map.1 h
         have := HS.out.queue x hx
         rw [← he]
         omega
       have HSZ := Lib.hid hsz; clear hsz
       cases hq : nameP all[k]
       ·have hr : checkP p = 4 := by
         unfold checkP
         rw [if_neg HMANY.out, HA.out, if_pos (any_hit hlt (by rw [hq]; rfl))]
        have HR := Lib.hid hr; clear hr
        have HQ := Lib.hid hq; clear hq
        go_wp2_with fail
        refine (IsName_any _ HSZ.out _).mono ?_
        rw [HQ.out]
        rintro e w4 ⟨rfl, rfl⟩
        go_wp2_with fail
        go_ret
        exact ⟨by rw [HR.out]; rfl, (H3.out _ HB.out).1.2.2⟩
       ·have HQ := Lib.hid hq; clear hq
        go_wp2_with fail
        refine (IsName_any _ HSZ.out _).mono ?_
        rw [HQ.out]
        rintro e w4 ⟨rfl, rfl⟩
        go_wp2_with fail
        exact ⟨idxRel_step HN.out hlt (by rw [HQ.out]; rfl) HB.out, by simp [intOf]; omega⟩
      ·have HAN : Hid (¬ ((postNames p ++ queueNames p).any (fun s => !nameP s)) = true) := by
        have := any_done (p := fun s => !nameP s) HN.out (by omega)
        rw [HA.out, this]
        exact Bool.false_ne_true
       clear HN
       have t1 := fun W (hW : Below W3.heap.size W3 W) => twice_any na nc (postNames p) 0 W ((H3.out W hW).2.1.wider (Nat.le_refl _) (Nat.le_trans (by omega) hW.size)) (by rw [← HLP.out.1]; omega)
       have t2 := fun W (hW : Below W3.heap.size W3 W) => twice_any qa qc (queueNames p) 0 W ((H3.out W hW).2.2.1.wider (Nat.le_refl _) (Nat.le_trans (by omega) hW.size)) (by rw [← HLP.out.2]; omega)
       rw [← HLP.out.1] at t1
       rw [← HLP.out.2] at t2
       have T1 := Lib.hid t1; have T2 := Lib.hid t2; clear t1 t2 hB
       cases hd1 : dup (postNames p)
       ·cases hd2 : dup (queueNames p)
        ·have hr0 : checkP p = if p.posts.any kindP then 7
          else if p.queues.any (queueP p.posts.length) then 3
          else if p.binds.any (fun b => !bindP p.posts.length p.queues.length b) then 3
          else patErr p.binds := by
          unfold checkP
          rw [if_neg HMANY.out, if_neg HAN.out, hd1, hd2]
          rfl
         have HR0 := Lib.hid hr0
         have HD := Lib.hid (And.intro hd1 hd2)
         clear hr0 hd1 hd2
         go_wp2_with fail
         refine (T1.out _ HB.out).mono ?_
         rw [HD.out.1]
         rintro e w4 ⟨rfl, hb4⟩
         have HB4 := Lib.hid (HB.out.trans (hb4.mono HB.out.size)); clear hb4 HB
         go_wp2_with fail
         refine (T2.out _ HB4.out).mono ?_
         rw [HD.out.2]
         rintro e w5 ⟨rfl, hb5⟩
         have HB5 := Lib.hid (HB4.out.trans (hb5.mono HB4.out.size)); clear hb5 HB4 T1 T2
         go_wp2_with fail
         clear HAN HD
         go_loopw [9] (fun i wr => IdxRel kindP p.posts W3.heap.size W3 i wr) (fun i _ => p.posts.length - (intOf i).toNat)
         case atStart => exact ⟨0, by omega, rfl, HB5.out, fun j x hj => absurd hj (by omega)⟩
         case round =>
          obtain ⟨k, hk, rfl, hB, hall⟩ := hrel
          have HN := Lib.hid hall; clear hall
          have HB := Lib.hid hB
          obtain ⟨⟨F1, ⟨m0, m1, m2⟩, _⟩, _⟩ := H3.out wr hB
          by_cases hlt : k < p.posts.length
          ·obtain ⟨b, o, ha, _, hb, hc⟩ := sl_elem vPost_len (by decide) F1.posts hlt
           have e1 : wr.cell? ⟨b, o + k * 2 + 1, none⟩ = some (.int .i64 p.posts[k].kind) := hc 1 _ rfl
           have HKP : Hid (kindP p.posts[k] = !(decide (1 ≤ p.posts[k].kind) && decide (p.posts[k].kind ≤ 3))) := by
            refine (?_ : kindP p.posts[k] = _)
            rw [Bool.eq_iff_iff]; simp [kindP] <;> omega
           clear hc F1 hB
           subst ha
           go_wp2_with fail
           refine (within_any _ _ _ _).mono ?_
           rintro e w4 ⟨rfl, rfl⟩
           cases hq : kindP p.posts[k]
           ·have hq' : (decide (1 ≤ p.posts[k].kind) && decide (p.posts[k].kind ≤ 3)) = true := by
             have := HKP.out
             rw [hq] at this
             exact bn2 this
            have HQ := Lib.hid hq; clear hq
            go_wp2_with fail
            exact ⟨idxRel_step HN.out hlt HQ.out HB.out, by simp [intOf]; omega⟩
           ·have hr : checkP p = 7 := by rw [HR0.out, if_pos (any_hit hlt hq)]
            have HR := Lib.hid hr; clear hr
            have hq' : (decide (1 ≤ p.posts[k].kind) && decide (p.posts[k].kind ≤ 3)) = false := by
             have := HKP.out
             rw [hq] at this
             exact bn1 this
            clear hq
            go_wp2_with fail
            go_ret
            exact ⟨by rw [HR.out]; rfl, (H3.out _ HB.out).1.2.2⟩
          ·have HK : Hid (¬ p.posts.any kindP = true) := by
            have := any_done HN.out (by omega)
            rw [this]
            exact Bool.false_ne_true
           clear HN F1 hB
           go_wp2_with fail
           clear m0 m1 m2
           go_loopw [10] (fun i wr => IdxRel (queueP p.posts.length) p.queues W3.heap.size W3 i wr) (fun i _ => p.queues.length - (intOf i).toNat)
           case atStart => exact ⟨0, by omega, rfl, HB.out, fun j x hj => absurd hj (by omega)⟩
           case round =>
            obtain ⟨k, hk, rfl, hB, hall⟩ := hrel
            have HN := Lib.hid hall; clear hall
            have HB := Lib.hid hB
            obtain ⟨⟨F1, ⟨m0, m1, m2⟩, _⟩, _⟩ := H3.out wr hB
            by_cases hlt : k < p.queues.length
            ·obtain ⟨b, o, ha, _, hb, hc⟩ := sl_elem vQueue_len (by decide) F1.queues hlt
             have e1 : wr.cell? ⟨b, o + k * 3 + 1, none⟩ = some (.int .i64 p.queues[k].limit) := hc 1 _ rfl
             have e2 : wr.cell? ⟨b, o + k * 3 + 2, none⟩ = some (.int .i64 p.queues[k].dead) := hc 2 _ rfl
             have HKP : Hid (queueP p.posts.length p.queues[k] = (!(decide (1 ≤ p.queues[k].limit) && decide (p.queues[k].limit ≤ 6)) || !(decide (-1 ≤ p.queues[k].dead) && decide (p.queues[k].dead ≤ (p.posts.length : Int) - 1)))) := by
              refine (?_ : queueP _ p.queues[k] = _)
              rw [Bool.eq_iff_iff]; simp [queueP] <;> omega
             clear hc F1 hB
             subst ha
             generalize hx1 : p.queues[k].limit = lim at *
             generalize hx2 : p.queues[k].dead = dd at *
             clear hx1 hx2
             go_wp2_with fail
             refine (within_any _ _ _ _).mono ?_
             rintro e w4 ⟨rfl, rfl⟩
             cases hq1 : (decide (1 ≤ lim) && decide (lim ≤ 6))
             ·have hr : checkP p = 3 := by rw [HR0.out, if_neg HK.out, if_pos (any_hit hlt (by rw [HKP.out, hq1]; rfl))]
              have HR := Lib.hid hr; clear hr
              go_wp2_with fail
              go_ret
              exact ⟨by rw [HR.out]; rfl, (H3.out _ HB.out).1.2.2⟩
             ·go_wp2_with fail
              refine (within_any _ _ _ _).mono ?_
              rintro e w4 ⟨rfl, rfl⟩
              cases hq2 : (decide (-1 ≤ dd) && decide (dd ≤ (p.posts.length : Int) - 1))
              ·have hr : checkP p = 3 := by rw [HR0.out, if_neg HK.out, if_pos (any_hit hlt (by rw [HKP.out, hq1, hq2]; rfl))]
               have HR := Lib.hid hr; clear hr
               go_wp2_with fail
               go_ret
               exact ⟨by rw [HR.out]; rfl, (H3.out _ HB.out).1.2.2⟩
              ·have HQ : Hid (queueP p.posts.length p.queues[k] = false) := by
                refine (?_ : queueP _ p.queues[k] = _)
                rw [HKP.out, hq1, hq2]; rfl
               go_wp2_with fail
               exact ⟨idxRel_step HN.out hlt HQ.out HB.out, by simp [intOf]; omega⟩
            ·have HQU : Hid (¬ p.queues.any (queueP p.posts.length) = true) := by
              have := any_done HN.out (by omega)
              rw [this]
              exact Bool.false_ne_true
             clear HN F1 hB
             go_wp2_with fail
             clear m0 m1 m2
             go_loopw [11] (fun i wr => IdxRel (fun b => !bindP p.posts.length p.queues.length b) p.binds W3.heap.size W3 i wr) (fun i _ => p.binds.length - (intOf i).toNat)
             case atStart => exact ⟨0, by omega, rfl, HB.out, fun j x hj => absurd hj (by omega)⟩
             case round =>
              obtain ⟨k, hk, rfl, hB, hall⟩ := hrel
              have HN := Lib.hid hall; clear hall
              have HB := Lib.hid hB
              obtain ⟨⟨F1, ⟨m0, m1, m2⟩, _⟩, _⟩ := H3.out wr hB
              by_cases hlt : k < p.binds.length
              ·obtain ⟨b, o, ha, _, hb, hc⟩ := sl_elem (size := 4) vBind_len (by decide) F1.binds hlt
               have e0 : wr.cell? ⟨b, o + k * 4, none⟩ = some (.int .i64 p.binds[k].src) := hc 0 _ rfl
               have e1 : wr.cell? ⟨b, o + k * 4 + 1, none⟩ = some (.bool p.binds[k].toPost) := hc 1 _ rfl
               have e2 : wr.cell? ⟨b, o + k * 4 + 2, none⟩ = some (.int .i64 p.binds[k].to) := hc 2 _ rfl
               have e3 : wr.cell? ⟨b, o + k * 4 + 3, none⟩ = some (.string p.binds[k].pattern) := hc 3 _ rfl
               have HKP : Hid (bindP p.posts.length p.queues.length p.binds[k] = ((decide (0 ≤ p.binds[k].src) && decide (p.binds[k].src ≤ (p.posts.length : Int) - 1)) && (decide (0 ≤ p.binds[k].to) && decide (p.binds[k].to ≤ (if p.binds[k].toPost then (p.posts.length : Int) else (p.queues.length : Int)) - 1)))) := by
                refine (?_ : bindP _ _ p.binds[k] = _)
                rw [Bool.eq_iff_iff]; simp [bindP] <;> omega
               clear hc F1 hB
               subst ha
               have hbw : Below wr.heap.size wr (wr.alloc (.cells #[.int .i64 p.binds[k].src, .bool p.binds[k].toPost, .int .i64 p.binds[k].to, .string p.binds[k].pattern] 127)) := (Below.refl _ _).alloc (Nat.le_refl _) _
               have HB4 := Lib.hid (HB.out.trans (hbw.mono HB.out.size)); clear hbw
               cases htp : p.binds[k].toPost
               all_goals rw [htp] at HKP HB4 e1
               all_goals have HKP2 := HKP.out
               all_goals simp only [Bool.false_eq_true, if_false, if_true] at HKP2
               all_goals clear HKP
               all_goals have HKP := Lib.hid HKP2
               all_goals clear HKP2
               all_goals generalize p.binds[k].src = src at *
               all_goals generalize p.binds[k].to = dst at *
               all_goals generalize p.binds[k].pattern = pat at *
               all_goals go_wp2_with fail
               ·refine (within_any _ _ _ _).mono ?_
                rintro e w4 ⟨rfl, rfl⟩
                cases hq1 : (decide (0 ≤ src) && decide (src ≤ (p.posts.length : Int) - 1))
                ·have hr : checkP p = 3 := by rw [HR0.out, if_neg HK.out, if_neg HQU.out, if_pos (any_hit hlt (by rw [HKP.out, hq1]; rfl))]
                 have HR := Lib.hid hr; clear hr
                 go_wp2_with fail
                 go_ret
                 exact ⟨by rw [HR.out]; rfl, (H3.out _ HB4.out).1.2.2⟩
                ·go_wp2_with fail
                 refine (within_any _ _ _ _).mono ?_
                 rintro e w4 ⟨rfl, rfl⟩
                 cases hq2 : (decide (0 ≤ dst) && decide (dst ≤ (p.queues.length : Int) - 1))
                 ·have hr : checkP p = 3 := by rw [HR0.out, if_neg HK.out, if_neg HQU.out, if_pos (any_hit hlt (by rw [HKP.out, hq1, hq2]; rfl))]
                  have HR := Lib.hid hr; clear hr
                  go_wp2_with fail
                  go_ret
                  exact ⟨by rw [HR.out]; rfl, (H3.out _ HB4.out).1.2.2⟩
                 ·have HQ : Hid ((!bindP p.posts.length p.queues.length p.binds[k]) = false) := by
                   refine (?_ : (!bindP _ _ p.binds[k]) = _)
                   rw [HKP.out, hq1, hq2]; rfl
                  go_wp2_with fail
                  exact ⟨idxRel_step HN.out hlt HQ.out HB4.out, by simp [intOf]; omega⟩
               ·refine (within_any _ _ _ _).mono ?_
                rintro e w4 ⟨rfl, rfl⟩
                cases hq1 : (decide (0 ≤ src) && decide (src ≤ (p.posts.length : Int) - 1))
                ·have hr : checkP p = 3 := by rw [HR0.out, if_neg HK.out, if_neg HQU.out, if_pos (any_hit hlt (by rw [HKP.out, hq1]; rfl))]
                 have HR := Lib.hid hr; clear hr
                 go_wp2_with fail
                 go_ret
                 exact ⟨by rw [HR.out]; rfl, (H3.out _ HB4.out).1.2.2⟩
                ·go_wp2_with fail
                 refine (within_any _ _ _ _).mono ?_
                 rintro e w4 ⟨rfl, rfl⟩
                 cases hq2 : (decide (0 ≤ dst) && decide (dst ≤ (p.posts.length : Int) - 1))
                 ·have hr : checkP p = 3 := by rw [HR0.out, if_neg HK.out, if_neg HQU.out, if_pos (any_hit hlt (by rw [HKP.out, hq1, hq2]; rfl))]
                  have HR := Lib.hid hr; clear hr
                  go_wp2_with fail
                  go_ret
                  exact ⟨by rw [HR.out]; rfl, (H3.out _ HB4.out).1.2.2⟩
                 ·have HQ : Hid ((!bindP p.posts.length p.queues.length p.binds[k]) = false) := by
                   refine (?_ : (!bindP _ _ p.binds[k]) = _)
                   rw [HKP.out, hq1, hq2]; rfl
                  go_wp2_with fail
                  exact ⟨idxRel_step HN.out hlt HQ.out HB4.out, by simp [intOf]; omega⟩
              ·have HBI : Hid (¬ p.binds.any (fun b => !bindP p.posts.length p.queues.length b) = true) := by
                have := any_done (p := fun b => !bindP p.posts.length p.queues.length b) HN.out (by omega)
                rw [this]
                exact Bool.false_ne_true
               have hr1 : checkP p = patErr p.binds := by rw [HR0.out, if_neg HK.out, if_neg HQU.out, if_neg HBI.out]
               have HR1 := Lib.hid hr1; clear hr1
               clear HN F1 hB
               go_wp2_with fail
               clear m0 m1 m2
               go_loopw [14] (fun i wr => PatRel p.binds W3.heap.size W3 i wr) (fun i _ => p.binds.length - (intOf i).toNat)
               case atStart => exact ⟨0, by omega, rfl, rfl, HB.out⟩
               case round =>
                obtain ⟨k, hk, rfl, hpe, hB⟩ := hrel
                have HB := Lib.hid hB
                have HPE := Lib.hid hpe; clear hpe
                obtain ⟨⟨F1, ⟨m0, m1, m2⟩, _⟩, _⟩ := H3.out wr hB
                by_cases hlt : k < p.binds.length
                ·obtain ⟨b, o, ha, _, hb, hc⟩ := sl_elem (size := 4) vBind_len (by decide) F1.binds hlt
                 have e3 : wr.cell? ⟨b, o + k * 4 + 3, none⟩ = some (.string p.binds[k].pattern) := hc 3 _ rfl
                 have hpd := patErr_drop hlt
                 have hps := HS.out.bind _ (List.getElem_mem hlt)
                 have HPD := Lib.hid hpd
                 have HPS := Lib.hid hps
                 clear hc hpd hps hB F1
                 subst ha
                 generalize p.binds[k].pattern = pat at *
                 go_wp2_with fail
                 refine (PatternError_any _ _ (Nat.le_trans HPS.out (by decide))).mono ?_
                 rintro e w4 ⟨rfl, hb4⟩
                 have HB4 := Lib.hid (HB.out.trans (hb4.mono HB.out.size)); clear hb4
                 generalize splitErr isWild pat = se at *
                 by_cases hse : se = 0
                 ·subst hse
                  have HN : Hid (patErr (p.binds.drop (k + 1)) = patErr p.binds) := by
                   have := HPD.out
                   rw [if_pos rfl, HPE.out] at this
                   exact this.symm
                  go_wp2_with fail
                  exact ⟨⟨k + 1, hlt, by go_num, HN.out, HB4.out⟩, by simp [intOf]; omega⟩
                 ·have HN : Hid (checkP p = se) := by
                   have := HPD.out
                   rw [if_neg hse, HPE.out] at this
                   exact HR1.out.trans this
                  have hse' : (se != 0) = true := by simp [hse]
                  go_wp2_with fail
                  all_goals go_ret
                  all_goals exact ⟨by rw [HN.out]; rfl, (H3.out _ HB4.out).1.2.2⟩
                ·obtain rfl : k = p.binds.length := by omega
                 have HN : Hid (checkP p = 0) := by
                  have := HPE.out
                  rw [List.drop_length] at this
                  exact HR1.out.trans this.symm
                 go_wp2_with fail
                 go_ret
                 exact ⟨by rw [HN.out]; rfl, (H3.out _ HB.out).1.2.2⟩
        ·have hr : checkP p = 6 := by
          unfold checkP
          rw [if_neg HMANY.out, if_neg HAN.out, hd1, hd2]
          rfl
         have HR := Lib.hid hr
         have HD := Lib.hid (And.intro hd1 hd2)
         clear hr hd1 hd2
         go_wp2_with fail
         refine (T1.out _ HB.out).mono ?_
         rw [HD.out.1]
         rintro e w4 ⟨rfl, hb4⟩
         have HB4 := Lib.hid (HB.out.trans (hb4.mono HB.out.size)); clear hb4 HB
         go_wp2_with fail
         refine (T2.out _ HB4.out).mono ?_
         rw [HD.out.2]
         rintro e w5 ⟨rfl, hb5⟩
         have HB5 := Lib.hid (HB4.out.trans (hb5.mono HB4.out.size)); clear hb5 HB4 T1 T2
         go_wp2_with fail
         go_ret
         exact ⟨by rw [HR.out]; rfl, (H3.out _ HB5.out).1.2.2⟩
       ·have hr : checkP p = 6 := by
         unfold checkP
         rw [if_neg HMANY.out, if_neg HAN.out, hd1]
         rfl
        have HR := Lib.hid hr
        have HD := Lib.hid hd1
        clear hr hd1
        go_wp2_with fail
        refine (T1.out _ HB.out).mono ?_
        rw [HD.out]
        rintro e w4 ⟨rfl, hb4⟩
        have HB4 := Lib.hid (HB.out.trans (hb4.mono HB.out.size)); clear hb4 HB T1 T2
        go_wp2_with fail
        go_ret
        exact ⟨by rw [HR.out]; rfl, (H3.out _ HB4.out).1.2.2⟩
open Go.RowKit
set_option maxRecDepth 100000
structure PlanRight (p : PlanD) : Prop where
 posts : p.posts.length ≤ 4
 queues : p.queues.length ≤ 4
 binds : p.binds.length ≤ 10
 names : ∀ s ∈ postNames p ++ queueNames p, nameP s = true
 nodupPosts : (postNames p).Nodup
 nodupQueues : (queueNames p).Nodup
 kind : ∀ x ∈ p.posts, 1 ≤ x.kind ∧ x.kind ≤ 3
 queue : ∀ x ∈ p.queues, 1 ≤ x.limit ∧ x.limit ≤ 6 ∧ -1 ≤ x.dead ∧ x.dead < (p.posts.length : Int)
 bind : ∀ b ∈ p.binds, 0 ≤ b.src ∧ b.src < (p.posts.length : Int) ∧ 0 ≤ b.to ∧ b.to < (if b.toPost then (p.posts.length : Int) else (p.queues.length : Int))
 pat : ∀ b ∈ p.binds, splitErr isWild b.pattern = 0
theorem patErr_ok : ∀ {bs : List BindD}, patErr bs = 0 → ∀ b ∈ bs, splitErr isWild b.pattern = 0
 | [], _, b, hb => by cases hb
 | x :: r, h, b, hb => by
  unfold patErr at h
  by_cases hx : splitErr isWild x.pattern = 0
  ·rw [if_pos hx] at h
   rcases List.mem_cons.1 hb with rfl | hb
   ·exact hx
   ·exact patErr_ok h b hb
  ·rw [if_neg hx] at h
   exact absurd h hx
theorem checkP_right {p : PlanD} (h : checkP p = 0) : PlanRight p := by
 unfold checkP at h
 split at h
 ·cases h
 rename_i h1
 split at h
 ·cases h
 rename_i h2
 split at h
 ·cases h
 rename_i h3
 split at h
 ·cases h
 rename_i h4
 split at h
 ·cases h
 rename_i h5
 split at h
 ·cases h
 rename_i h6
 simp only [Bool.or_eq_true, not_or, Bool.not_eq_true, dup, Bool.not_eq_false', decide_eq_true_eq] at h3
 simp only [Bool.not_eq_true, List.any_eq_false] at h2 h4 h5 h6
 refine ⟨by omega, by omega, by omega, fun s hs => ?_, h3.1, h3.2, fun x hx => ?_, fun x hx => ?_, fun b hb => ?_, patErr_ok h⟩
 ·have := h2 s hs; simpa using this
 ·have := h4 x hx; simp [kindP] at this; omega
 ·have := h5 x hx; simp [queueP] at this; omega
 ·have h' : bindP p.posts.length p.queues.length b = true := by
   have := h6 b hb
   cases hq : bindP p.posts.length p.queues.length b
   ·rw [hq] at this; cases this
   ·rfl
  have this := h'
  simp only [bindP, Bool.and_eq_true, decide_eq_true_eq] at this
  exact ⟨this.1.1.1, this.1.1.2, this.1.2, this.2⟩
theorem splitErr_size {p : List UInt8 → Bool} {s : ByteArray} (h : splitErr p s = 0) : s.size ≤ 24 := by
 unfold splitErr at h
 split at h
 ·cases h
 ·omega
open Go.RowKit
set_option maxRecDepth 100000
theorem Sl.of_bk {w : World} {g lo hi : Nat} {t : TypeId} {cs : Array Value} (h : Bk w g t cs) (h1 : lo ≤ g) (h2 : g < hi) {us : List Value} (hu : us = cs.toList) : Sl w lo hi (some ⟨g, 0, none⟩) us :=
 .inr ⟨g, 0, rfl, h1, h2, fun j u hj => by
  rw [Nat.zero_add, h.cell]
  rw [hu, Array.getElem?_toList] at hj
  exact hj⟩
def officeP : PlanD where
 posts := [⟨⟨#[109, 97, 105, 110]⟩, 3⟩, ⟨⟨#[97, 108, 108]⟩, 2⟩, ⟨⟨#[100, 101, 97, 100]⟩, 1⟩]
 queues := [⟨⟨#[97]⟩, 2, 2⟩, ⟨⟨#[98]⟩, 3, -1⟩, ⟨⟨#[100]⟩, 2, -1⟩]
 binds := [⟨0, false, 0, ⟨#[120, 46, 35]⟩⟩, ⟨0, true, 1, ⟨#[42, 46, 121]⟩⟩, ⟨1, false, 1, ⟨#[35]⟩⟩, ⟨1, true, 0, ⟨#[35]⟩⟩, ⟨2, false, 2, ⟨#[120, 46, 121]⟩⟩]
def officePosts : Array Value := (officeP.posts.flatMap vPost).toArray
def officeQueues : Array Value := (officeP.queues.flatMap vQueue).toArray
def officeBinds : Array Value := (officeP.binds.flatMap vBind).toArray
structure OfficeAt (w : World) (b1 b2 b3 : Nat) : Prop where
 posts : Bk w b1 123 officePosts
 queues : Bk w b2 104 officeQueues
 binds : Bk w b3 127 officeBinds
def officeV (b1 b2 b3 : Nat) : Value := planV officeP (some ⟨b1, 0, none⟩) (some ⟨b2, 0, none⟩) (some ⟨b3, 0, none⟩) 3 3 5
set_option maxHeartbeats 1000000 in
theorem office_any (w : World) : Calls Tryz.prog 57 #[] w fun e w' => e = .returned (officeV (w.heap.size + 1) (w.heap.size + 2) (w.heap.size + 3)) ∧ OfficeAt w' (w.heap.size + 1) (w.heap.size + 2) (w.heap.size + 3) ∧ w'.heap.size = w.heap.size + 4 ∧ Below w.heap.size w w' := by
 go_enter Tryz.func57, Tryz.ntmps57
 go_wp2_with fail
 refine bodyPost_ret (v := officeV (w.heap.size + 1) (w.heap.size + 2) (w.heap.size + 3)) (by simp [results, Tryz.results57, go_sem, officeV, planV, officeP]) rfl ⟨rfl, ⟨?_, ?_, ?_⟩, by simp, ?_⟩
 ·exact ((Bk.new_at _ _ _ (by simp)).alloc _).alloc _
 ·exact (Bk.new_at _ _ _ (by simp)).alloc _
 ·exact Bk.new_at _ _ _ (by simp)
 ·exact ((((Below.refl _ w).alloc (Nat.le_refl _) _).alloc (by simp) _).alloc (by simp; omega) _).alloc (by simp; omega) _
theorem OfficeAt.plan {w : World} {b1 b2 b3 lo hi : Nat} (h : OfficeAt w b1 b2 b3) (h1 : lo ≤ b1 ∧ b1 < hi) (h2 : lo ≤ b2 ∧ b2 < hi) (h3 : lo ≤ b3 ∧ b3 < hi) : PlanAt w lo hi (some ⟨b1, 0, none⟩) (some ⟨b2, 0, none⟩) (some ⟨b3, 0, none⟩) officeP :=
 ⟨Sl.of_bk h.posts h1.1 h1.2 rfl, Sl.of_bk h.queues h2.1 h2.2 rfl, Sl.of_bk h.binds h3.1 h3.2 rfl⟩
theorem OfficeAt.below {w w' : World} {b1 b2 b3 B : Nat} (h : OfficeAt w b1 b2 b3) (hb : Below B w w') (h1 : b1 < B) (h2 : b2 < B) (h3 : b3 < B) : OfficeAt w' b1 b2 b3 :=
 ⟨h.posts.below hb h1, h.queues.below hb h2, h.binds.below hb h3⟩
theorem small_of {p : PlanD} (h1 : p.posts.length ≤ 1048576) (h2 : p.queues.length ≤ 1048576) (h3 : p.binds.length ≤ 1048576) (h4 : (p.posts.all fun x => decide (x.name.size ≤ 1048576)) = true) (h5 : (p.queues.all fun x => decide (x.name.size ≤ 1048576)) = true)
  (h6 : (p.binds.all fun x => decide (x.pattern.size ≤ 1048576)) = true) : PlanSmall p :=
 ⟨h1, h2, h3, fun x hx => of_decide_eq_true (List.all_eq_true.1 h4 x hx), fun x hx => of_decide_eq_true (List.all_eq_true.1 h5 x hx), fun x hx => of_decide_eq_true (List.all_eq_true.1 h6 x hx)⟩
theorem office_small : PlanSmall officeP := small_of (by decide) (by decide) (by decide) (by decide) (by decide) (by decide)
/-! For running the plain functions: over lists of bytes. -/
def nameL (l : List UInt8) : Bool := decide (0 < l.length) && decide (l.length ≤ 8) && !(l.any fun c => far (c.toNat : Int))
theorem nameP_list (s : ByteArray) : nameP s = nameL s.data.toList := by
 unfold nameP nameL
 rw [ByteArray.toList_eq, Array.length_toList]
 rfl
def patErrL : List BindD → Int
 | [] => 0
 | b :: r => if splitErrL isWild b.pattern.data.toList = 0 then patErrL r else splitErrL isWild b.pattern.data.toList
theorem patErr_list : ∀ bs : List BindD, patErr bs = patErrL bs
 | [] => rfl
 | b :: r => by rw [patErr, patErrL, splitErr_list, ByteArray.toList_eq, patErr_list r]
def dupL : List (List UInt8) → Bool
 | [] => false
 | x :: r => r.contains x || dupL r
theorem dup_list : ∀ l : List ByteArray, dup l = dupL (l.map fun s => s.data.toList)
 | [] => rfl
 | x :: r => by
  have ih := dup_list r
  unfold dup at ih ⊢
  simp only [List.map_cons, dupL, ← ih]
  rw [Bool.eq_iff_iff]
  simp only [Bool.not_eq_true', decide_eq_false_iff_not, List.nodup_cons, Bool.or_eq_true, List.contains_eq_mem, decide_eq_true_eq, List.mem_map]
  constructor
  ·intro h
   by_cases hx : x ∈ r
   ·exact .inl ⟨x, hx, rfl⟩
   ·exact .inr fun hn => h ⟨hx, hn⟩
  ·rintro (⟨y, hy, e⟩ | h) ⟨h1, h2⟩
   ·have : y = x := toList_inj (by rw [ByteArray.toList_eq, ByteArray.toList_eq]; exact e)
    exact h1 (this ▸ hy)
   ·exact h h2
def checkL (p : PlanD) : Int :=
 if 4 < p.posts.length ∨ 4 < p.queues.length ∨ 10 < p.binds.length then 2
 else if (postNames p ++ queueNames p).any (fun s => !nameL s.data.toList) then 4
 else if dupL ((postNames p).map fun s => s.data.toList) || dupL ((queueNames p).map fun s => s.data.toList) then 6
 else if p.posts.any kindP then 7
 else if p.queues.any (queueP p.posts.length) then 3
 else if p.binds.any (fun b => !bindP p.posts.length p.queues.length b) then 3
 else patErrL p.binds
theorem checkP_list (p : PlanD) : checkP p = checkL p := by
 unfold checkP checkL
 simp only [nameP_list, dup_list, patErr_list]
theorem fitP_data (p k : ByteArray) : fitP p k = laidP (dots p.data.toList) (dots k.data.toList) := by
 unfold fitP
 rw [← ByteArray.toList_eq, ← ByteArray.toList_eq, ← parts_data, ← parts_data]
theorem office_right : checkP officeP = 0 := by rw [checkP_list]; decide
structure OfficeIn (w : World) (b1 b2 b3 : Nat) : Prop where
 at_ : OfficeAt w b1 b2 b3
 lt : b1 < w.heap.size ∧ b2 < w.heap.size ∧ b3 < w.heap.size
theorem OfficeIn.plan {w : World} {b1 b2 b3 : Nat} (h : OfficeIn w b1 b2 b3) : PlanAt w 0 w.heap.size (some ⟨b1, 0, none⟩) (some ⟨b2, 0, none⟩) (some ⟨b3, 0, none⟩) officeP :=
 h.at_.plan ⟨Nat.zero_le _, h.lt.1⟩ ⟨Nat.zero_le _, h.lt.2.1⟩ ⟨Nat.zero_le _, h.lt.2.2⟩
theorem OfficeIn.below {w w' : World} {b1 b2 b3 : Nat} (h : OfficeIn w b1 b2 b3) (hb : Below w.heap.size w w') : OfficeIn w' b1 b2 b3 :=
 ⟨h.at_.below hb h.lt.1 h.lt.2.1 h.lt.2.2, by have := hb.size; have := h.lt; omega⟩
theorem office_in (w : World) : Calls Tryz.prog 57 #[] w fun e w' => ∃ b1 b2 b3, e = .returned (officeV b1 b2 b3) ∧ OfficeIn w' b1 b2 b3 ∧ Below w.heap.size w w' := by
 refine (office_any w).mono ?_
 rintro e w' ⟨rfl, h, hz, hb⟩
 exact ⟨_, _, _, rfl, ⟨h, by omega, by omega, by omega⟩, hb⟩
end Go.Proofs.YtaanpcjkflhomaaGreatDoor
