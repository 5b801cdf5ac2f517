/-
  Walk of the reference's SamePlans.
-/
import Derived.Test.YtapimpmpjighmaaDoorNames
import Derived.Test.YtapimpmpjighmaaDoorPlanFA
import Derived.Laws.StructEq
import Derived.Deep.QuietTactic
import Derived.BigQuiet
import Derived.IntWalk
import Derived.Deep.CutRange
namespace Go.Proofs.YtapimpmpjighmaaDoor
open Go.RowKit
set_option maxRecDepth 100000

def postEq (x y : PostD) : Bool := x.name.toList == y.name.toList && (x.kind == y.kind)
theorem postEq_iff {x y : PostD} : postEq x y = true ↔ x = y := by
  obtain ⟨a, b⟩ := x
  obtain ⟨a', b'⟩ := y
  simp only [postEq, Bool.and_eq_true, beq_iff_eq, PostD.mk.injEq]
  constructor
  · rintro ⟨h0, h1⟩
    exact ⟨toList_inj h0, h1⟩
  · rintro ⟨h0, h1⟩
    exact ⟨by rw [h0], h1⟩
theorem eqPost (x y : PostD) (w : World) : (Op.equalIn 10000 81 (.agg #[.string x.name, .int .i64 x.kind]) (.agg #[.string y.name, .int .i64 y.kind])).run Tryd.prog w = .ok (postEq x y) w := by
  have u1 := Tryd.underlying3
  have a1 := Tryd.isAgg3
  have z1 := Tryd.sizeOf3
  have u2 := Tryd.underlying9
  have a2 := Tryd.isAgg9
  have z2 := Tryd.sizeOf9
  have u3 := Tryd.underlying4
  have a3 := Tryd.isAgg4
  have z3 := Tryd.sizeOf4
  have hS : Tryd.prog.underlying 81 = some (.struct (Tryd.prog.fieldsOf 81)) := by kernel_rfl
  have hH : Tryd.prog.stoodInHeld 81 = false := by kernel_rfl
  rw [show (10000 : Nat) = 9999 + 1 from rfl, run_equalIn_agg w 9999 81 _ _ hS hH]
  simp only [Program.fieldsOf, Tryd.underlying81]
  unfold postEq
  go_simp
  by_cases h0 : x.name.toList = y.name.toList <;> by_cases h1 : x.kind = y.kind <;> simp [h0, h1]
@[go_sem ↓] theorem neqPost (x y : PostD) (w : World) : (binOp .neq 81 (.agg #[.string x.name, .int .i64 x.kind]) (.agg #[.string y.name, .int .i64 y.kind])).run Tryd.prog w = .ok (.bool (!postEq x y)) w := by
  rw [run_neq_struct, eqPost]; rfl
@[go_sem] theorem eqGuardPost : Tryd.prog.eqGuardType Tryd.prog.depth 81 = false := by kernel_rfl

def queueEq (x y : QueueD) : Bool := x.name.toList == y.name.toList && (x.limit == y.limit && (x.dead == y.dead))
theorem queueEq_iff {x y : QueueD} : queueEq x y = true ↔ x = y := by
  obtain ⟨a, b, c⟩ := x
  obtain ⟨a', b', c'⟩ := y
  simp only [queueEq, Bool.and_eq_true, beq_iff_eq, QueueD.mk.injEq]
  constructor
  · rintro ⟨h0, h1, h2⟩
    exact ⟨toList_inj h0, h1, h2⟩
  · rintro ⟨h0, h1, h2⟩
    exact ⟨by rw [h0], h1, h2⟩
theorem eqQueue (x y : QueueD) (w : World) : (Op.equalIn 10000 83 (.agg #[.string x.name, .int .i64 x.limit, .int .i64 x.dead]) (.agg #[.string y.name, .int .i64 y.limit, .int .i64 y.dead])).run Tryd.prog w = .ok (queueEq x y) w := by
  have u1 := Tryd.underlying3
  have a1 := Tryd.isAgg3
  have z1 := Tryd.sizeOf3
  have u2 := Tryd.underlying9
  have a2 := Tryd.isAgg9
  have z2 := Tryd.sizeOf9
  have u3 := Tryd.underlying4
  have a3 := Tryd.isAgg4
  have z3 := Tryd.sizeOf4
  have hS : Tryd.prog.underlying 83 = some (.struct (Tryd.prog.fieldsOf 83)) := by kernel_rfl
  have hH : Tryd.prog.stoodInHeld 83 = false := by kernel_rfl
  rw [show (10000 : Nat) = 9999 + 1 from rfl, run_equalIn_agg w 9999 83 _ _ hS hH]
  simp only [Program.fieldsOf, Tryd.underlying83]
  unfold queueEq
  go_simp
  by_cases h0 : x.name.toList = y.name.toList <;> by_cases h1 : x.limit = y.limit <;> by_cases h2 : x.dead = y.dead <;> simp [h0, h1, h2]
@[go_sem ↓] theorem neqQueue (x y : QueueD) (w : World) : (binOp .neq 83 (.agg #[.string x.name, .int .i64 x.limit, .int .i64 x.dead]) (.agg #[.string y.name, .int .i64 y.limit, .int .i64 y.dead])).run Tryd.prog w = .ok (.bool (!queueEq x y)) w := by
  rw [run_neq_struct, eqQueue]; rfl
@[go_sem] theorem eqGuardQueue : Tryd.prog.eqGuardType Tryd.prog.depth 83 = false := by kernel_rfl

def bindEq (x y : BindD) : Bool := x.src == y.src && (x.toPost == y.toPost && (x.to == y.to && (x.pattern.toList == y.pattern.toList)))
theorem bindEq_iff {x y : BindD} : bindEq x y = true ↔ x = y := by
  obtain ⟨a, b, c, d⟩ := x
  obtain ⟨a', b', c', d'⟩ := y
  simp only [bindEq, Bool.and_eq_true, beq_iff_eq, BindD.mk.injEq]
  constructor
  · rintro ⟨h0, h1, h2, h3⟩
    exact ⟨h0, h1, h2, toList_inj h3⟩
  · rintro ⟨h0, h1, h2, h3⟩
    exact ⟨h0, h1, h2, by rw [h3]⟩
theorem eqBind (x y : BindD) (w : World) : (Op.equalIn 10000 64 (.agg #[.int .i64 x.src, .bool x.toPost, .int .i64 x.to, .string x.pattern]) (.agg #[.int .i64 y.src, .bool y.toPost, .int .i64 y.to, .string y.pattern])).run Tryd.prog w = .ok (bindEq x y) w := by
  have u1 := Tryd.underlying3
  have a1 := Tryd.isAgg3
  have z1 := Tryd.sizeOf3
  have u2 := Tryd.underlying9
  have a2 := Tryd.isAgg9
  have z2 := Tryd.sizeOf9
  have u3 := Tryd.underlying4
  have a3 := Tryd.isAgg4
  have z3 := Tryd.sizeOf4
  have hS : Tryd.prog.underlying 64 = some (.struct (Tryd.prog.fieldsOf 64)) := by kernel_rfl
  have hH : Tryd.prog.stoodInHeld 64 = false := by kernel_rfl
  rw [show (10000 : Nat) = 9999 + 1 from rfl, run_equalIn_agg w 9999 64 _ _ hS hH]
  simp only [Program.fieldsOf, Tryd.underlying64]
  unfold bindEq
  go_simp
  by_cases h0 : x.src = y.src <;> by_cases h1 : x.toPost = y.toPost <;> by_cases h2 : x.to = y.to <;> by_cases h3 : x.pattern.toList = y.pattern.toList <;> simp [h0, h1, h2, h3]
@[go_sem ↓] theorem neqBind (x y : BindD) (w : World) : (binOp .neq 64 (.agg #[.int .i64 x.src, .bool x.toPost, .int .i64 x.to, .string x.pattern]) (.agg #[.int .i64 y.src, .bool y.toPost, .int .i64 y.to, .string y.pattern])).run Tryd.prog w = .ok (.bool (!bindEq x y)) w := by
  rw [run_neq_struct, eqBind]; rfl
@[go_sem] theorem eqGuardBind : Tryd.prog.eqGuardType Tryd.prog.depth 64 = false := by kernel_rfl

def listEqP {α : Type} (eq : α → α → Bool) : List α → List α → Bool
  | [], [] => true
  | x :: xs, y :: ys => eq x y && listEqP eq xs ys
  | _, _ => false
theorem listEqP_iff {α : Type} {eq : α → α → Bool} (h : ∀ x y, eq x y = true ↔ x = y) : ∀ {l m : List α}, listEqP eq l m = true ↔ l = m
  | [], [] => by simp [listEqP]
  | [], y :: ys => by simp [listEqP]
  | x :: xs, [] => by simp [listEqP]
  | x :: xs, y :: ys => by
    simp only [listEqP, Bool.and_eq_true, List.cons.injEq, h, listEqP_iff h]
def planEq (p q : PlanD) : Bool := listEqP postEq p.posts q.posts && (listEqP queueEq p.queues q.queues && listEqP bindEq p.binds q.binds)
theorem planEq_iff {p q : PlanD} : planEq p q = true ↔ p = q := by
  obtain ⟨a, b, c⟩ := p
  obtain ⟨a', b', c'⟩ := q
  simp only [planEq, Bool.and_eq_true, PlanD.mk.injEq, listEqP_iff (fun x y => postEq_iff), listEqP_iff (fun x y => queueEq_iff), listEqP_iff (fun x y => bindEq_iff)]
theorem planEq_refl (p : PlanD) : planEq p p = true := planEq_iff.2 rfl
theorem planEq_ne {p q : PlanD} (h : p ≠ q) : planEq p q = false := by rw [← Bool.not_eq_true, planEq_iff]; exact h

/-- Two plans that a call has boxed. -/
structure PPIn (w : World) (p q : PlanD) (a1 a2 a3 b1 b2 b3 : Option Addr) (c1 c2 c3 d1 d2 d3 : Nat) (W : World) : Prop where
  one : W.cell? ⟨w.heap.size, 0, none⟩ = some (.slice a1 p.posts.length c1) ∧ W.cell? ⟨w.heap.size, 1, none⟩ = some (.slice a2 p.queues.length c2) ∧ W.cell? ⟨w.heap.size, 2, none⟩ = some (.slice a3 p.binds.length c3)
  two : W.cell? ⟨w.heap.size + 1, 0, none⟩ = some (.slice b1 q.posts.length d1) ∧ W.cell? ⟨w.heap.size + 1, 1, none⟩ = some (.slice b2 q.queues.length d2) ∧ W.cell? ⟨w.heap.size + 1, 2, none⟩ = some (.slice b3 q.binds.length d3)
  below : Below w.heap.size w W
  oneAt : PlanAt W 0 W.heap.size a1 a2 a3 p
  twoAt : PlanAt W 0 W.heap.size b1 b2 b3 q
theorem two_plans {w : World} {p q : PlanD} {a1 a2 a3 b1 b2 b3 : Option Addr} (c1 c2 c3 d1 d2 d3 : Nat) (hp : PlanAt w 0 w.heap.size a1 a2 a3 p) (hq : PlanAt w 0 w.heap.size b1 b2 b3 q) (t1 t2 : TypeId) (W : World)
    (hW : Below ((w.alloc (.cells #[.slice a1 p.posts.length c1, .slice a2 p.queues.length c2, .slice a3 p.binds.length c3] t1)).alloc (.cells #[.slice b1 q.posts.length d1, .slice b2 q.queues.length d2, .slice b3 q.binds.length d3] t2)).heap.size ((w.alloc (.cells #[.slice a1 p.posts.length c1, .slice a2 p.queues.length c2, .slice a3 p.binds.length c3] t1)).alloc (.cells #[.slice b1 q.posts.length d1, .slice b2 q.queues.length d2, .slice b3 q.binds.length d3] t2)) W) :
    PPIn w p q a1 a2 a3 b1 b2 b3 c1 c2 c3 d1 d2 d3 W := by
  generalize hA : w.alloc (.cells #[.slice a1 p.posts.length c1, .slice a2 p.queues.length c2, .slice a3 p.binds.length c3] t1) = wA at hW
  have hsA : wA.heap.size = w.heap.size + 1 := by rw [← hA]; simp
  have kA : Bk wA w.heap.size t1 #[.slice a1 p.posts.length c1, .slice a2 p.queues.length c2, .slice a3 p.binds.length c3] := by rw [← hA]; exact Bk.new _ _ _
  have bA : Below w.heap.size w wA := by rw [← hA]; exact (Below.refl _ _).alloc (Nat.le_refl _) _
  have kB := Bk.new wA t2 #[.slice b1 q.posts.length d1, .slice b2 q.queues.length d2, .slice b3 q.binds.length d3]
  have bB : Below wA.heap.size wA (wA.alloc (.cells #[.slice b1 q.posts.length d1, .slice b2 q.queues.length d2, .slice b3 q.binds.length d3] t2)) := (Below.refl _ _).alloc (Nat.le_refl _) _
  have hsB : (wA.alloc (.cells #[.slice b1 q.posts.length d1, .slice b2 q.queues.length d2, .slice b3 q.binds.length d3] t2)).heap.size = wA.heap.size + 1 := by simp
  have bW := bB.trans (hW.mono bB.size)
  have k1 := kA.below bW (by omega)
  have k2 := kB.below hW (by omega)
  rw [hsA] at k2
  have bw : Below w.heap.size w W := bA.trans (bW.mono (by omega))
  exact ⟨⟨k1.cell 0, k1.cell 1, k1.cell 2⟩, ⟨k2.cell 0, k2.cell 1, k2.cell 2⟩, bw, (hp.below bw (Nat.le_refl _)).wider (Nat.le_refl _) bw.size, (hq.below bw (Nat.le_refl _)).wider (Nat.le_refl _) bw.size⟩

theorem takep_next {α : Type} {l m : List α} {k : Nat} (h1 : k < l.length) (h2 : k < m.length) (h : l.take k = m.take k) (he : l[k] = m[k]) : l.take (k + 1) = m.take (k + 1) := by
  rw [List.take_succ_eq_append_getElem h1, List.take_succ_eq_append_getElem h2, h, he]
theorem takep_whole {α : Type} {l m : List α} (hl : l.length = m.length) (h : l.take l.length = m.take l.length) : l = m := by
  rw [List.take_length] at h
  rw [h, hl, List.take_length]
def PPRel {α : Type} (l m : List α) (W0 : World) (i : Value) (wr : World) : Prop :=
  ∃ k : Nat, k ≤ l.length ∧ i = .int .i64 k ∧ l.take k = m.take k ∧ Below W0.heap.size W0 wr
theorem lenp_of {n m : Nat} (h : ((n : Int) != (m : Int)) = false) : n = m := by
  have h : (n : Int) = (m : Int) := by simpa using h
  omega

set_option maxHeartbeats 8000000 in
theorem SamePlans_any (p q : PlanD) (a1 a2 a3 b1 b2 b3 : Option Addr) (c1 c2 c3 d1 d2 d3 : Nat) (w : World) (hp : PlanAt w 0 w.heap.size a1 a2 a3 p) (hps : PlanSmall p) (hq : PlanAt w 0 w.heap.size b1 b2 b3 q) (hqs : PlanSmall q) :
    Calls Tryd.prog 16 #[planV p a1 a2 a3 c1 c2 c3, planV q b1 b2 b3 d1 d2 d3] w fun e w' => e = .returned (.bool (planEq p q)) ∧ Below w.heap.size w w' := by
  have hbx := two_plans c1 c2 c3 d1 d2 d3 hp hq 26 26
  unfold planV
  have HBX := Lib.hid hbx
  have hl1 := hps.posts; have hl2 := hps.queues; have hl3 := hps.binds
  have hl4 := hqs.posts; have hl5 := hqs.queues; have hl6 := hqs.binds
  clear hbx hp hq hps hqs
  go_enter Tryd.func16, Tryd.ntmps16
  obtain ⟨⟨m0, m1, m2⟩, ⟨n0, n1, n2⟩, _, _, _⟩ := HBX.out _ (Below.refl _ _)
  cases g0 : ((p.posts.length : Int) != (q.posts.length : Int))
  · cases g1 : ((p.queues.length : Int) != (q.queues.length : Int))
    · cases g2 : ((p.binds.length : Int) != (q.binds.length : Int))
      · have HG := Lib.hid (And.intro (lenp_of g0) (And.intro (lenp_of g1) (lenp_of g2)))
        go_wp2_with fail
        clear m0 m1 m2 n0 n1 n2 g0 g1 g2
        generalize ((w.alloc (.cells #[Value.slice a1 p.posts.length c1, Value.slice a2 p.queues.length c2, Value.slice a3 p.binds.length c3] 26)).alloc (.cells #[Value.slice b1 q.posts.length d1, Value.slice b2 q.queues.length d2, Value.slice b3 q.binds.length d3] 26)) = W0 at *
        go_loopw [5] (fun i wr => PPRel p.posts q.posts W0 i wr) (fun i _ => p.posts.length - (intOf i).toNat)
        case atStart => exact ⟨0, by omega, rfl, rfl, Below.refl _ _⟩
        case round =>
          obtain ⟨k, hk, rfl, hqq, hB⟩ := hrel
          have HQ := Lib.hid hqq
          have HB := Lib.hid hB
          clear hqq
          obtain ⟨⟨m0, m1, m2⟩, ⟨n0, n1, n2⟩, _, hpat, hqat⟩ := HBX.out _ hB
          by_cases hlt : k < p.posts.length
          · have hlt2 : k < q.posts.length := by have := HG.out.1; omega
            obtain ⟨b, o, ha, _, hb, hc⟩ := sl_elem vPost_len (by decide) hpat.posts hlt
            obtain ⟨b', o', ha', _, hb', hc'⟩ := sl_elem vPost_len (by decide) hqat.posts hlt2
            have e0 : wr.cell? ⟨b, o + k * 2, none⟩ = some (.string p.posts[k].name) := hc 0 _ rfl
            have f0 : wr.cell? ⟨b', o' + k * 2, none⟩ = some (.string q.posts[k].name) := hc' 0 _ rfl
            have e1 : wr.cell? ⟨b, o + k * 2 + 1, none⟩ = some (.int .i64 p.posts[k].kind) := hc 1 _ rfl
            have f1 : wr.cell? ⟨b', o' + k * 2 + 1, none⟩ = some (.int .i64 q.posts[k].kind) := hc' 1 _ rfl
            clear hc hc' hpat hqat hB
            generalize hx : p.posts[k] = x at *
            generalize hy : q.posts[k] = y at *
            have HXY := Lib.hid (And.intro hx hy)
            clear hx hy
            subst ha ha'
            cases hq : postEq x y
            · have HNE := Lib.hid (planEq_ne (p := p) (q := q) (fun e => by
                have h1 := HXY.out
                subst e
                have h2 := h1.1.symm.trans h1.2
                subst h2
                rw [postEq_iff.2 rfl] at hq
                cases hq))
              go_wp2
              go_quiet (fail)
              all_goals go_wp2
              all_goals go_ret
              all_goals exact ⟨by rw [HNE.out]; rfl, (HBX.out _ (below_draws HB.out _)).below⟩
            · have HNEXT : Hid (p.posts.take (k + 1) = q.posts.take (k + 1)) := takep_next hlt hlt2 HQ.out (by rw [HXY.out.1, HXY.out.2]; exact postEq_iff.1 hq)
              go_wp2
              go_quiet (fail)
              all_goals go_wp2
              all_goals exact ⟨⟨k + 1, hlt, by go_num, HNEXT.out, below_draws HB.out _⟩, by simp [intOf]; omega⟩
          · obtain rfl : k = p.posts.length := by omega
            have HE0 : Hid (p.posts = q.posts) := takep_whole HG.out.1 HQ.out
            clear hpat hqat hB HQ
            go_wp2_with fail
            clear m0 m1 m2 n0 n1 n2
            go_loopw [6] (fun i wr => PPRel p.queues q.queues W0 i wr) (fun i _ => p.queues.length - (intOf i).toNat)
            case atStart => exact ⟨0, by omega, rfl, rfl, HB.out⟩
            case round =>
              clear HB
              obtain ⟨k, hk, rfl, hqq, hB⟩ := hrel
              have HQ := Lib.hid hqq
              have HB := Lib.hid hB
              clear hqq
              obtain ⟨⟨m0, m1, m2⟩, ⟨n0, n1, n2⟩, _, hpat, hqat⟩ := HBX.out _ hB
              by_cases hlt : k < p.queues.length
              · have hlt2 : k < q.queues.length := by have := HG.out.2.1; omega
                obtain ⟨b, o, ha, _, hb, hc⟩ := sl_elem vQueue_len (by decide) hpat.queues hlt
                obtain ⟨b', o', ha', _, hb', hc'⟩ := sl_elem vQueue_len (by decide) hqat.queues hlt2
                have e0 : wr.cell? ⟨b, o + k * 3, none⟩ = some (.string p.queues[k].name) := hc 0 _ rfl
                have f0 : wr.cell? ⟨b', o' + k * 3, none⟩ = some (.string q.queues[k].name) := hc' 0 _ rfl
                have e1 : wr.cell? ⟨b, o + k * 3 + 1, none⟩ = some (.int .i64 p.queues[k].limit) := hc 1 _ rfl
                have f1 : wr.cell? ⟨b', o' + k * 3 + 1, none⟩ = some (.int .i64 q.queues[k].limit) := hc' 1 _ rfl
                have e2 : wr.cell? ⟨b, o + k * 3 + 2, none⟩ = some (.int .i64 p.queues[k].dead) := hc 2 _ rfl
                have f2 : wr.cell? ⟨b', o' + k * 3 + 2, none⟩ = some (.int .i64 q.queues[k].dead) := hc' 2 _ rfl
                clear hc hc' hpat hqat hB
                generalize hx : p.queues[k] = x at *
                generalize hy : q.queues[k] = y at *
                have HXY := Lib.hid (And.intro hx hy)
                clear hx hy
                subst ha ha'
                cases hq : queueEq x y
                · have HNE := Lib.hid (planEq_ne (p := p) (q := q) (fun e => by
                    have h1 := HXY.out
                    subst e
                    have h2 := h1.1.symm.trans h1.2
                    subst h2
                    rw [queueEq_iff.2 rfl] at hq
                    cases hq))
                  go_wp2
                  go_quiet (fail)
                  all_goals go_wp2
                  all_goals go_ret
                  all_goals exact ⟨by rw [HNE.out]; rfl, (HBX.out _ (below_draws HB.out _)).below⟩
                · have HNEXT : Hid (p.queues.take (k + 1) = q.queues.take (k + 1)) := takep_next hlt hlt2 HQ.out (by rw [HXY.out.1, HXY.out.2]; exact queueEq_iff.1 hq)
                  go_wp2
                  go_quiet (fail)
                  all_goals go_wp2
                  all_goals exact ⟨⟨k + 1, hlt, by go_num, HNEXT.out, below_draws HB.out _⟩, by simp [intOf]; omega⟩
              · obtain rfl : k = p.queues.length := by omega
                have HE1 : Hid (p.queues = q.queues) := takep_whole HG.out.2.1 HQ.out
                clear hpat hqat hB HQ
                go_wp2_with fail
                clear m0 m1 m2 n0 n1 n2
                go_loopw [7] (fun i wr => PPRel p.binds q.binds W0 i wr) (fun i _ => p.binds.length - (intOf i).toNat)
                case atStart => exact ⟨0, by omega, rfl, rfl, HB.out⟩
                case round =>
                  clear HB
                  obtain ⟨k, hk, rfl, hqq, hB⟩ := hrel
                  have HQ := Lib.hid hqq
                  have HB := Lib.hid hB
                  clear hqq
                  obtain ⟨⟨m0, m1, m2⟩, ⟨n0, n1, n2⟩, _, hpat, hqat⟩ := HBX.out _ hB
                  by_cases hlt : k < p.binds.length
                  · have hlt2 : k < q.binds.length := by have := HG.out.2.2; omega
                    obtain ⟨b, o, ha, _, hb, hc⟩ := sl_elem vBind_len (by decide) hpat.binds hlt
                    obtain ⟨b', o', ha', _, hb', hc'⟩ := sl_elem vBind_len (by decide) hqat.binds hlt2
                    have e0 : wr.cell? ⟨b, o + k * 4, none⟩ = some (.int .i64 p.binds[k].src) := hc 0 _ rfl
                    have f0 : wr.cell? ⟨b', o' + k * 4, none⟩ = some (.int .i64 q.binds[k].src) := hc' 0 _ rfl
                    have e1 : wr.cell? ⟨b, o + k * 4 + 1, none⟩ = some (.bool p.binds[k].toPost) := hc 1 _ rfl
                    have f1 : wr.cell? ⟨b', o' + k * 4 + 1, none⟩ = some (.bool q.binds[k].toPost) := hc' 1 _ rfl
                    have e2 : wr.cell? ⟨b, o + k * 4 + 2, none⟩ = some (.int .i64 p.binds[k].to) := hc 2 _ rfl
                    have f2 : wr.cell? ⟨b', o' + k * 4 + 2, none⟩ = some (.int .i64 q.binds[k].to) := hc' 2 _ rfl
                    have e3 : wr.cell? ⟨b, o + k * 4 + 3, none⟩ = some (.string p.binds[k].pattern) := hc 3 _ rfl
                    have f3 : wr.cell? ⟨b', o' + k * 4 + 3, none⟩ = some (.string q.binds[k].pattern) := hc' 3 _ rfl
                    clear hc hc' hpat hqat hB
                    generalize hx : p.binds[k] = x at *
                    generalize hy : q.binds[k] = y at *
                    have HXY := Lib.hid (And.intro hx hy)
                    clear hx hy
                    subst ha ha'
                    cases hq : bindEq x y
                    · have HNE := Lib.hid (planEq_ne (p := p) (q := q) (fun e => by
                        have h1 := HXY.out
                        subst e
                        have h2 := h1.1.symm.trans h1.2
                        subst h2
                        rw [bindEq_iff.2 rfl] at hq
                        cases hq))
                      go_wp2
                      go_quiet (fail)
                      all_goals go_wp2
                      all_goals go_ret
                      all_goals exact ⟨by rw [HNE.out]; rfl, (HBX.out _ (below_draws HB.out _)).below⟩
                    · have HNEXT : Hid (p.binds.take (k + 1) = q.binds.take (k + 1)) := takep_next hlt hlt2 HQ.out (by rw [HXY.out.1, HXY.out.2]; exact bindEq_iff.1 hq)
                      go_wp2
                      go_quiet (fail)
                      all_goals go_wp2
                      all_goals exact ⟨⟨k + 1, hlt, by go_num, HNEXT.out, below_draws HB.out _⟩, by simp [intOf]; omega⟩
                  · obtain rfl : k = p.binds.length := by omega
                    have HE2 : Hid (p.binds = q.binds) := takep_whole HG.out.2.2 HQ.out
                    clear hpat hqat hB HQ
                    have HEQ : Hid (planEq p q = true) := planEq_iff.2 (by
                      have h1 := HE0.out; have h2 := HE1.out; have h3 := HE2.out
                      cases p; cases q
                      simp_all)
                    go_wp2_with fail
                    go_ret
                    exact ⟨by rw [HEQ.out]; rfl, (HBX.out _ HB.out).below⟩
      · have HNE := Lib.hid (planEq_ne (p := p) (q := q) (fun e => by subst e; simp at g2))
        have HB0 := Lib.hid (HBX.out _ (Below.refl _ _)).below
        clear HBX
        go_wp2_with fail
        go_ret
        exact ⟨by rw [HNE.out]; rfl, HB0.out⟩
    · have HNE := Lib.hid (planEq_ne (p := p) (q := q) (fun e => by subst e; simp at g1))
      have HB0 := Lib.hid (HBX.out _ (Below.refl _ _)).below
      clear HBX
      go_wp2_with fail
      go_ret
      exact ⟨by rw [HNE.out]; rfl, HB0.out⟩
  · have HNE := Lib.hid (planEq_ne (p := p) (q := q) (fun e => by subst e; simp at g0))
    have HB0 := Lib.hid (HBX.out _ (Below.refl _ _)).below
    clear HBX
    go_wp2_with fail
    go_ret
    exact ⟨by rw [HNE.out]; rfl, HB0.out⟩

end Go.Proofs.YtapimpmpjighmaaDoor
