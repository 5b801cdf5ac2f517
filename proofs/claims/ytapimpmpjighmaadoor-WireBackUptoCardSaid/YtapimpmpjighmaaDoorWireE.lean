/-
  Walk of wire.Read.
-/
import Derived.Test.YtapimpmpjighmaaDoorWireD
namespace Go.Proofs.YtapimpmpjighmaaDoor
open Go.RowKit
set_option maxRecDepth 100000

theorem take_small {n : Nat} {s t r : ByteArray} (h : takeS n s = some (t, r)) : t.size ≤ n := by
  unfold takeS at h
  split at h
  · simp only [Option.some.injEq, Prod.mk.injEq] at h
    obtain ⟨rfl, _⟩ := h
    rw [ByteArray.size_extract]; omega
  · cases h
theorem textw_small {s t r : ByteArray} (h : textS s = some (t, r)) : t.size ≤ 255 := by
  unfold textS at h
  rcases ho : numS s with _ | ⟨n, q⟩
  · rw [ho] at h; cases h
  · rw [ho] at h
    have h1 := (numS_le ho).1
    have h2 := take_small (n := n) h
    omega
theorem post_small {s r : ByteArray} {x : PostD} (h : postS s = some (x, r)) : x.name.size ≤ 1048576 := by
  unfold postS at h
  rcases h1 : textS s with _ | ⟨t, q⟩
  · rw [h1] at h; cases h
  · rw [h1, Option.bind_some] at h
    rcases h2 : numS q with _ | ⟨n, q2⟩
    · rw [h2] at h; cases h
    · rw [h2] at h
      simp only [Option.bind_some, Option.some.injEq, Prod.mk.injEq] at h
      obtain ⟨rfl, _⟩ := h
      have := textw_small h1
      show t.size ≤ _; omega
theorem queue_small {s r : ByteArray} {x : QueueD} (h : queueS s = some (x, r)) : x.name.size ≤ 1048576 := by
  unfold queueS at h
  rcases h1 : textS s with _ | ⟨t, q⟩
  · rw [h1] at h; cases h
  · rw [h1, Option.bind_some] at h
    rcases h2 : numS q with _ | ⟨n, q2⟩
    · rw [h2] at h; cases h
    · rw [h2, Option.bind_some] at h
      rcases h3 : numS q2 with _ | ⟨n2, q3⟩
      · rw [h3] at h; cases h
      · rw [h3] at h
        simp only [Option.bind_some, Option.some.injEq, Prod.mk.injEq] at h
        obtain ⟨rfl, _⟩ := h
        have := textw_small h1
        show t.size ≤ _; omega
theorem bind_small {s r : ByteArray} {x : BindD} (h : bindS s = some (x, r)) : x.pattern.size ≤ 1048576 := by
  unfold bindS at h
  rcases h1 : numS s with _ | ⟨n, q⟩
  · rw [h1] at h; cases h
  · rw [h1, Option.bind_some] at h
    rcases h2 : truthS q with _ | ⟨b, q2⟩
    · rw [h2] at h; cases h
    · rw [h2, Option.bind_some] at h
      rcases h3 : numS q2 with _ | ⟨n2, q3⟩
      · rw [h3] at h; cases h
      · rw [h3, Option.bind_some] at h
        rcases h4 : textS q3 with _ | ⟨t, q4⟩
        · rw [h4] at h; cases h
        · rw [h4] at h
          simp only [Option.bind_some, Option.some.injEq, Prod.mk.injEq] at h
          obtain ⟨rfl, _⟩ := h
          have := textw_small h4
          show t.size ≤ _; omega
theorem iter_small {α : Type} {f : ByteArray → Option (α × ByteArray)} {P : α → Prop} (hf : ∀ s x r, f s = some (x, r) → P x) : ∀ (n : Nat) (s : ByteArray) (l : List α) (r : ByteArray), iterS f n s = some (l, r) → l.length = n ∧ ∀ x ∈ l, P x
  | 0, s, l, r, h => by
    simp only [iterS, Option.some.injEq, Prod.mk.injEq] at h
    obtain ⟨rfl, _⟩ := h
    exact ⟨rfl, fun x hx => by cases hx⟩
  | n + 1, s, l, r, h => by
    rcases h1 : f s with _ | ⟨x, q⟩
    · rw [iterS, h1] at h; cases h
    · rw [iterS, h1, Option.bind_some] at h
      rcases h2 : iterS f n q with _ | ⟨l2, q2⟩
      · rw [h2] at h; cases h
      · rw [h2] at h
        simp only [Option.map_some, Option.some.injEq, Prod.mk.injEq] at h
        obtain ⟨rfl, _⟩ := h
        obtain ⟨h3, h4⟩ := iter_small hf n q l2 q2 h2
        refine ⟨by rw [List.length_cons, h3], fun y hy => ?_⟩
        rcases List.mem_cons.1 hy with rfl | hy
        · exact hf _ _ _ h1
        · exact h4 y hy
theorem list_small {α : Type} {f : ByteArray → Option (α × ByteArray)} {P : α → Prop} (hf : ∀ s x r, f s = some (x, r) → P x) {s : ByteArray} {l : List α} {r : ByteArray} (h : listS f s = some (l, r)) : l.length ≤ 1048576 ∧ ∀ x ∈ l, P x := by
  unfold listS at h
  rcases h1 : numS s with _ | ⟨n, q⟩
  · rw [h1] at h; cases h
  · rw [h1] at h
    have h2 := (numS_le h1).1
    have h3 := iter_small hf n q l r h
    exact ⟨by omega, h3.2⟩

theorem slw_far {w : World} {lo hi : Nat} {a : Option Addr} {us : List Value} (h : Sl w lo hi a us) {p : Addr} (hp : p.block < lo) (v : Value) : Sl (w.setCell p v) lo hi a us := by
  rcases h with h | ⟨b, o, rfl, h1, h2, hc⟩
  · exact .inl h
  · refine .inr ⟨b, o, rfl, h1, h2, fun j u hu => ?_⟩
    have he := Below.heap_setCell w p v b (by omega)
    have := hc j u hu
    simp only [World.cell?] at this ⊢
    rw [he]
    exact this
theorem slw_grown {w w' : World} {lo hi g : Nat} {a : Option Addr} {us : List Value} (h : Sl w lo hi a us) (hg : w.grownBy w' (some g)) (hlt : g < lo) (hhi : hi ≤ w.heap.size) : Sl w' lo hi a us := by
  rcases h with h | ⟨b, o, rfl, h1, h2, hc⟩
  · exact .inl h
  · exact .inr ⟨b, o, rfl, h1, h2, fun j u hu => hg.cell (hc j u hu) (by simp; omega)⟩
theorem HoldsG.far {w : World} {c g k : Nat} (h : HoldsG w c g) (hne : c ≠ k) (i : Nat) (v : Value) : HoldsG (w.setCell ⟨k, i, none⟩ v) c g := by
  refine ⟨?_, h.2⟩
  have he := Below.heap_setCell w ⟨k, i, none⟩ v c hne
  have := h.1
  simp only [World.cell?] at this ⊢
  rw [he]
  exact this

/-- Where Read stands: its results' variables, the glass, the variable that holds it. -/
structure RdAt (w W : World) (v0 v1 v2 : Value) (s : ByteArray) : Prop where
  plan : Bk W w.heap.size 26 #[v0, v1, v2]
  err : Bk W (w.heap.size + 1) 27 #[.int .i64 0]
  glass : GlassAt W (w.heap.size + 1 + 1) s
  holds : HoldsG W (w.heap.size + 1 + 1 + 1) (w.heap.size + 1 + 1)
  below : Below w.heap.size w W
theorem RdAt.grown {w W W' : World} {v0 v1 v2 : Value} {s r : ByteArray} (h : RdAt w W v0 v1 v2 s) (hg : W.grownBy W' (some (w.heap.size + 1 + 1))) (hs : GlassAt W' (w.heap.size + 1 + 1) r) : RdAt w W' v0 v1 v2 r :=
  ⟨h.plan.grown hg (by simp; omega), h.err.grown hg (by simp), hs, h.holds.grown hg, h.below.grown hg h.below.size (fun k hk => by cases hk; omega)⟩
theorem RdAt.dead {w W W' : World} {v0 v1 v2 : Value} {s : ByteArray} (h : RdAt w W v0 v1 v2 s) (hg : W.grownBy W' (some (w.heap.size + 1 + 1))) : Bk W' w.heap.size 26 #[v0, v1, v2] ∧ Bk W' (w.heap.size + 1) 27 #[.int .i64 0] ∧ Below w.heap.size w W' :=
  ⟨h.plan.grown hg (by simp; omega), h.err.grown hg (by simp), h.below.grown hg h.below.size (fun k hk => by cases hk; omega)⟩
theorem RdAt.set0 {w W : World} {v0 v1 v2 : Value} {s : ByteArray} (h : RdAt w W v0 v1 v2 s) (u : Value) : RdAt w (W.setCell ⟨w.heap.size, 0, none⟩ u) u v1 v2 s :=
  ⟨by simpa using h.plan.set_ 0 u, h.err.far (by show w.heap.size + 1 ≠ w.heap.size; omega) u, h.glass.far (by omega) _ _, h.holds.far (by omega) _ _, h.below.setCell (p := ⟨w.heap.size, 0, none⟩) (Nat.le_refl _) u⟩
theorem RdAt.set1 {w W : World} {v0 v1 v2 : Value} {s : ByteArray} (h : RdAt w W v0 v1 v2 s) (u : Value) : RdAt w (W.setCell ⟨w.heap.size, 1, none⟩ u) v0 u v2 s :=
  ⟨by simpa using h.plan.set_ 1 u, h.err.far (by show w.heap.size + 1 ≠ w.heap.size; omega) u, h.glass.far (by omega) _ _, h.holds.far (by omega) _ _, h.below.setCell (p := ⟨w.heap.size, 1, none⟩) (Nat.le_refl _) u⟩
theorem RdAt.set2 {w W : World} {v0 v1 v2 : Value} {s : ByteArray} (h : RdAt w W v0 v1 v2 s) (u : Value) : RdAt w (W.setCell ⟨w.heap.size, 2, none⟩ u) v0 v1 u s :=
  ⟨by simpa using h.plan.set_ 2 u, h.err.far (by show w.heap.size + 1 ≠ w.heap.size; omega) u, h.glass.far (by omega) _ _, h.holds.far (by omega) _ _, h.below.setCell (p := ⟨w.heap.size, 2, none⟩) (Nat.le_refl _) u⟩
theorem RdAt.cells {w W : World} {v0 v1 v2 : Value} {s : ByteArray} (h : RdAt w W v0 v1 v2 s) : (W.cell? ⟨w.heap.size, 0, none⟩ = some v0 ∧ W.cell? ⟨w.heap.size, 1, none⟩ = some v1 ∧ W.cell? ⟨w.heap.size, 2, none⟩ = some v2) ∧
    (W.frozen? ⟨w.heap.size, 0, none⟩ = false ∧ W.frozen? ⟨w.heap.size, 1, none⟩ = false ∧ W.frozen? ⟨w.heap.size, 2, none⟩ = false) ∧ W.cell? ⟨w.heap.size + 1 + 1 + 1, 0, none⟩ = some (.pointer (some ⟨w.heap.size + 1 + 1, 0, none⟩)) ∧ W.cell? ⟨w.heap.size + 1 + 1, 0, none⟩ = some (.string s) ∧
    (W.cell? ⟨w.heap.size + 1, 0, none⟩ = some (.int .i64 0) ∧ W.frozen? ⟨w.heap.size + 1, 0, none⟩ = false) :=
  ⟨⟨h.plan.cell 0, h.plan.cell 1, h.plan.cell 2⟩, ⟨h.plan.frozen 0, h.plan.frozen 1, h.plan.frozen 2⟩, h.holds.1, h.glass.cell.1, h.err.cell 0, h.err.frozen 0⟩

theorem planS_none1 {s : ByteArray} (h : listS postS s = none) : planS s = none := by unfold planS; rw [h]; rfl
theorem planS_none2 {s r : ByteArray} {l} (h : listS postS s = some (l, r)) (h2 : listS queueS r = none) : planS s = none := by unfold planS; rw [h, Option.bind_some, h2]; rfl
theorem planS_none3 {s r r2 : ByteArray} {l l2} (h : listS postS s = some (l, r)) (h2 : listS queueS r = some (l2, r2)) (h3 : listS bindS r2 = none) : planS s = none := by unfold planS; rw [h, Option.bind_some, h2, Option.bind_some, h3]; rfl
theorem planS_some {s r r2 r3 : ByteArray} {l l2 l3} (h : listS postS s = some (l, r)) (h2 : listS queueS r = some (l2, r2)) (h3 : listS bindS r2 = some (l3, r3)) : planS s = some (⟨l, l2, l3⟩, r3) := by unfold planS; rw [h, Option.bind_some, h2, Option.bind_some, h3]; rfl
theorem read_none {s : ByteArray} (h0 : ¬ 4096 < s.size) (h : planS s = none) : readE s = 1 ∧ readP s = zeroP := by unfold readE readP; rw [if_neg h0, if_neg h0, h]; exact ⟨rfl, rfl⟩
theorem read_bad {s r : ByteArray} {p : PlanD} (h0 : ¬ 4096 < s.size) (h : planS s = some (p, r)) (hb : ¬ (r.size = 0 ∧ checkP p = 0)) : readE s = 1 ∧ readP s = zeroP := by unfold readE readP; rw [if_neg h0, if_neg h0, h]; exact ⟨if_neg hb, if_neg hb⟩
theorem read_good {s r : ByteArray} {p : PlanD} (h0 : ¬ 4096 < s.size) (h : planS s = some (p, r)) (hb : r.size = 0 ∧ checkP p = 0) : readE s = 0 ∧ readP s = p := by unfold readE readP; rw [if_neg h0, if_neg h0, h]; exact ⟨if_pos hb, if_pos hb⟩

theorem RdAt.later {w W W' : World} {v0 v1 v2 : Value} {s : ByteArray} (h : RdAt w W v0 v1 v2 s) (hb : Below W.heap.size W W') : RdAt w W' v0 v1 v2 s :=
  ⟨h.plan.below hb h.plan.lt, h.err.below hb h.err.lt, Bk.below h.glass hb (Bk.lt h.glass), ⟨(hb.cell (p := ⟨w.heap.size + 1 + 1 + 1, 0, none⟩) (World.block_lt_of_cell? W _ h.holds.1)).trans h.holds.1, h.holds.2⟩, h.below.trans (hb.mono h.below.size)⟩
theorem slw4 {W : World} {B hi : Nat} {a : Option Addr} {us : List Value} (h : Sl W (B + 2) hi a us) (v0 v1 v2 v3 : Value) : Sl ((((W.setCell ⟨B, 0, none⟩ v0).setCell ⟨B, 1, none⟩ v1).setCell ⟨B, 2, none⟩ v2).setCell ⟨B + 1, 0, none⟩ v3) (B + 2) hi a us :=
  slw_far (slw_far (slw_far (slw_far h (p := ⟨B, 0, none⟩) (by show B < B + 2; omega) _) (p := ⟨B, 1, none⟩) (by show B < B + 2; omega) _) (p := ⟨B, 2, none⟩) (by show B < B + 2; omega) _) (p := ⟨B + 1, 0, none⟩) (by show B + 1 < B + 2; omega) _
theorem toList_size (s : ByteArray) : s.toList.length = s.size := by rw [ByteArray.toList_eq]; exact Array.length_toList
theorem empty_list {s : ByteArray} (h : s.size = 0) : s.toList = [] := List.eq_nil_of_length_eq_zero (by rw [toList_size]; exact h)
theorem zeroP_small : PlanSmall zeroP := ⟨by decide, by decide, by decide, by simp [zeroP], by simp [zeroP], by simp [zeroP]⟩

set_option maxHeartbeats 4000000 in
theorem Read_any (s : ByteArray) (w : World) (hE : Env w) : Calls Tryd.prog 14 #[.string s] w (RdPost s w) := by
  have hmf : ∀ (fn : Fn) (first cap : Array Value) (w : World), (Instr.makeFunc fn first cap).run Tryd.prog w = .ok (.func fn first cap) w := fun _ _ _ _ => rfl
  have HE := Lib.hid hE; clear hE
  by_cases h4 : 4096 < s.size
  · have HR : Hid (readE s = 2 ∧ readP s = zeroP) := by
      refine (?_ : readE s = 2 ∧ readP s = zeroP)
      unfold readE readP
      exact ⟨if_pos h4, if_pos h4⟩
    go_enter_defers Tryd.func14, Tryd.ntmps14
    go_wp2_with fail
    show Leaves Tryd.prog Tryd.f14 _ (RdPost s w) [] .returning _
    refine ⟨.tuple #[planV zeroP none none none 0 0 0, .int .i64 2], by simp [results, Tryd.results14, go_sem, planV, zeroP], none, none, none, 0, 0, 0, by rw [HR.out.1, HR.out.2], by rw [HR.out.2]; exact ⟨Sl.nil _ _ _ _, Sl.nil _ _ _ _, Sl.nil _ _ _ _⟩, by rw [HR.out.2]; exact zeroP_small, ((Below.refl _ _).alloc (Nat.le_refl _) _).alloc (by simp) _⟩
  · have HS := Lib.hid h4
    go_enter_defers Tryd.func14, Tryd.ntmps14
    go_wp2_with fail
    obtain ⟨W0, hW0⟩ : ∃ W0, ((((w.alloc (.cells #[.slice none 0 0, .slice none 0 0, .slice none 0 0] 26)).alloc (.cells #[.int .i64 0] 27)).alloc (.cells #[.string s] 92)).alloc (.cells #[.pointer (some ⟨w.heap.size + 1 + 1, 0, none⟩)] 90)) = W0 := ⟨_, rfl⟩
    have h0 : RdAt w W0 (.slice none 0 0) (.slice none 0 0) (.slice none 0 0) s := by
      rw [← hW0]
      exact ⟨(((Bk.new _ _ _).alloc _).alloc _).alloc _, ((Bk.new_at _ _ _ (by simp)).alloc _).alloc _, Bk.alloc (Bk.new_at _ _ _ (by simp)) _, ⟨(Bk.new_at _ 90 #[.pointer (some ⟨w.heap.size + 1 + 1, 0, none⟩)] (g := w.heap.size + 1 + 1 + 1) (by simp)).cell 0, by omega⟩,
        ((((Below.refl _ _).alloc (Nat.le_refl _) _).alloc (by simp) _).alloc (by simp; omega) _).alloc (by simp; omega) _⟩
    have hz0 : W0.heap.size = w.heap.size + 4 := by rw [← hW0]; simp
    rw [hW0]
    clear hW0
    have HA0 := Lib.hid h0; clear h0
    have q1 := listPost_any (w.heap.size + 1 + 1 + 1) (w.heap.size + 1 + 1) s W0 HA0.out.holds HA0.out.glass
    rcases o1 : listS postS s with _ | ⟨l1, r1⟩
    · rw [o1] at q1
      have HN := Lib.hid (read_none HS.out (planS_none1 o1))
      have HQ := Lib.hid q1
      clear q1 o1
      refine HQ.out.mono ?_
      rintro e wz ⟨hgr, rfl⟩
      obtain ⟨d1, d2, d3⟩ := HA0.out.dead hgr
      go_wp2_with fail
      exact rd_dies rfl rfl rfl (Nat.le_refl _) d1 d2 d3 HN.out
    · rw [o1] at q1
      have HQ := Lib.hid q1; clear q1
      refine HQ.out.mono ?_
      clear HQ
      rintro e w1 ⟨hgr, ⟨b1, e1, rfl, hcap1, hsl⟩, hgl⟩
      have hsz1 := hgr.size
      have HB1 := Lib.hid (HA0.out.grown hgr hgl)
      have HL1 := Lib.hid (slw_far hsl (p := ⟨w.heap.size, 0, none⟩) (by show w.heap.size < W0.heap.size; omega) (.slice b1 l1.length e1))
      have h1 := HB1.out.set0 (.slice b1 l1.length e1)
      obtain ⟨⟨k0, k1, k2⟩, ⟨f0, f1, f2⟩, kc, kg, ke, fe⟩ := HB1.out.cells
      clear hgr hgl hsl
      go_wp2_with fail
      clear k0 k1 k2 f0 f1 f2 kc kg ke fe
      obtain ⟨W1, hW1⟩ : ∃ W1, w1.setCell ⟨w.heap.size, 0, none⟩ (.slice b1 l1.length e1) = W1 := ⟨_, rfl⟩
      have hz1 : W1.heap.size = w1.heap.size := by rw [← hW1]; simp [World.setCell]
      rw [hW1] at HL1 h1
      rw [hW1]
      clear hW1
      have HA1 := Lib.hid h1; clear h1
      have q2 := listQueue_any (w.heap.size + 1 + 1 + 1) (w.heap.size + 1 + 1) r1 W1 HA1.out.holds HA1.out.glass
      rcases o2 : listS queueS r1 with _ | ⟨l2, r2⟩
      · rw [o2] at q2
        have HN := Lib.hid (read_none HS.out (planS_none2 o1 o2))
        have HQ := Lib.hid q2
        clear q2 o2
        refine HQ.out.mono ?_
        rintro e wz ⟨hgr, rfl⟩
        obtain ⟨d1, d2, d3⟩ := HA1.out.dead hgr
        go_wp2_with fail
        exact rd_dies rfl rfl rfl (Nat.le_refl _) d1 d2 d3 HN.out
      · rw [o2] at q2
        have HQ := Lib.hid q2; clear q2
        refine HQ.out.mono ?_
        clear HQ
        rintro e w2 ⟨hgr, ⟨b2, e2, rfl, hcap2, hsl⟩, hgl⟩
        have hsz2 := hgr.size
        have HL1 := Lib.hid (slw_grown HL1.out hgr (by omega) (by omega))
        have HB2 := Lib.hid (HA1.out.grown hgr hgl)
        have HL2 := Lib.hid (slw_far hsl (p := ⟨w.heap.size, 1, none⟩) (by show w.heap.size < W1.heap.size; omega) (.slice b2 l2.length e2))
        have HL1 := Lib.hid (slw_far HL1.out (p := ⟨w.heap.size, 1, none⟩) (by show w.heap.size < W0.heap.size; omega) (.slice b2 l2.length e2))
        have h2 := HB2.out.set1 (.slice b2 l2.length e2)
        obtain ⟨⟨k0, k1, k2⟩, ⟨f0, f1, f2⟩, kc, kg, ke, fe⟩ := HB2.out.cells
        clear hgr hgl hsl
        go_wp2_with fail
        clear k0 k1 k2 f0 f1 f2 kc kg ke fe
        obtain ⟨W2, hW2⟩ : ∃ W2, w2.setCell ⟨w.heap.size, 1, none⟩ (.slice b2 l2.length e2) = W2 := ⟨_, rfl⟩
        have hz2 : W2.heap.size = w2.heap.size := by rw [← hW2]; simp [World.setCell]
        rw [hW2] at HL1 HL2 h2
        rw [hW2]
        clear hW2
        have HA2 := Lib.hid h2; clear h2
        have q3 := listBind_any (w.heap.size + 1 + 1 + 1) (w.heap.size + 1 + 1) r2 W2 HA2.out.holds HA2.out.glass
        rcases o3 : listS bindS r2 with _ | ⟨l3, r3⟩
        · rw [o3] at q3
          have HN := Lib.hid (read_none HS.out (planS_none3 o1 o2 o3))
          have HQ := Lib.hid q3
          clear q3 o3
          refine HQ.out.mono ?_
          rintro e wz ⟨hgr, rfl⟩
          obtain ⟨d1, d2, d3⟩ := HA2.out.dead hgr
          go_wp2_with fail
          exact rd_dies rfl rfl rfl (Nat.le_refl _) d1 d2 d3 HN.out
        · rw [o3] at q3
          have HQ := Lib.hid q3; clear q3
          refine HQ.out.mono ?_
          clear HQ
          rintro e w3 ⟨hgr, ⟨b3, e3, rfl, hcap3, hsl⟩, hgl⟩
          have hsz3 := hgr.size
          have HL1 := Lib.hid (slw_grown HL1.out hgr (by omega) (by omega))
          have HL2 := Lib.hid (slw_grown HL2.out hgr (by omega) (by omega))
          have HB3 := Lib.hid (HA2.out.grown hgr hgl)
          have HL3 := Lib.hid (slw_far hsl (p := ⟨w.heap.size, 2, none⟩) (by show w.heap.size < W2.heap.size; omega) (.slice b3 l3.length e3))
          have HL1 := Lib.hid (slw_far HL1.out (p := ⟨w.heap.size, 2, none⟩) (by show w.heap.size < W0.heap.size; omega) (.slice b3 l3.length e3))
          have HL2 := Lib.hid (slw_far HL2.out (p := ⟨w.heap.size, 2, none⟩) (by show w.heap.size < W1.heap.size; omega) (.slice b3 l3.length e3))
          have h3 := HB3.out.set2 (.slice b3 l3.length e3)
          obtain ⟨⟨k0, k1, k2⟩, ⟨f0, f1, f2⟩, kc, kg, ke, fe⟩ := HB3.out.cells
          clear hgr hgl hsl
          have HP := Lib.hid (planS_some o1 o2 o3)
          have HPL : Hid (PlanSmall ⟨l1, l2, l3⟩) := ⟨(list_small (fun _ _ _ h => post_small h) o1).1, (list_small (fun _ _ _ h => queue_small h) o2).1, (list_small (fun _ _ _ h => bind_small h) o3).1, (list_small (fun _ _ _ h => post_small h) o1).2, (list_small (fun _ _ _ h => queue_small h) o2).2, (list_small (fun _ _ _ h => bind_small h) o3).2⟩
          clear o1 o2 o3
          have HCP : Hid (r3.size = 0 ∧ checkP ⟨l1, l2, l3⟩ = 0 → readE s = 0 ∧ readP s = ⟨l1, l2, l3⟩) := fun h => read_good HS.out HP.out h
          have HCN : Hid (¬ (r3.size = 0 ∧ checkP ⟨l1, l2, l3⟩ = 0) → readE s = 1 ∧ readP s = zeroP) := fun h => read_bad HS.out HP.out h
          by_cases hr : r3.size = 0
          · have hr0 : r3.toList.isEmpty = true := by rw [empty_list hr]; rfl
            have HR3 := Lib.hid hr
            clear hr
            go_wp2_with fail
            clear k0 k1 k2 f0 f1 f2 kc kg ke fe
            obtain ⟨W3, hW3⟩ : ∃ W3, w3.setCell ⟨w.heap.size, 2, none⟩ (.slice b3 l3.length e3) = W3 := ⟨_, rfl⟩
            have hz3 : W3.heap.size = w3.heap.size := by rw [← hW3]; simp [World.setCell]
            rw [hW3] at HL1 HL2 HL3 h3
            rw [hW3]
            clear hW3
            have H3 := Lib.hid h3; clear h3
            refine (Check_any ⟨l1, l2, l3⟩ b1 b2 b3 e1 e2 e3 0 W3 (below_env H3.out.below HE.out) ⟨HL1.out.wider (Nat.zero_le _) (by omega), HL2.out.wider (Nat.zero_le _) (by omega), HL3.out.wider (Nat.zero_le _) (by omega)⟩ HPL.out).mono ?_
            rintro e W4 ⟨rfl, hb4⟩
            have H4 := Lib.hid (H3.out.later hb4)
            have HP4 : Hid (PlanAt W4 w.heap.size W4.heap.size b1 b2 b3 ⟨l1, l2, l3⟩) := (⟨(HL1.out.below hb4 (by omega)).wider (by omega) (by have := hb4.size; omega), (HL2.out.below hb4 (by omega)).wider (by omega) (by have := hb4.size; omega), (HL3.out.below hb4 (by omega)).wider (by omega) (by have := hb4.size; omega)⟩ : PlanAt W4 w.heap.size W4.heap.size b1 b2 b3 ⟨l1, l2, l3⟩)
            have HLL : Hid ((Sl W4 (w.heap.size + 2) W4.heap.size b1 (l1.flatMap vPost) ∧ Sl W4 (w.heap.size + 2) W4.heap.size b2 (l2.flatMap vQueue)) ∧ Sl W4 (w.heap.size + 2) W4.heap.size b3 (l3.flatMap vBind)) := (⟨⟨(HL1.out.below hb4 (by omega)).wider (by omega) (by have := hb4.size; omega), (HL2.out.below hb4 (by omega)).wider (by omega) (by have := hb4.size; omega)⟩, (HL3.out.below hb4 (by omega)).wider (by omega) (by have := hb4.size; omega)⟩ : (Sl W4 (w.heap.size + 2) W4.heap.size b1 (l1.flatMap vPost) ∧ Sl W4 (w.heap.size + 2) W4.heap.size b2 (l2.flatMap vQueue)) ∧ Sl W4 (w.heap.size + 2) W4.heap.size b3 (l3.flatMap vBind))
            obtain ⟨⟨k0, k1, k2⟩, ⟨f0, f1, f2⟩, kc, kg, ke, fe⟩ := H4.out.cells
            clear hb4
            by_cases hc : checkP ⟨l1, l2, l3⟩ = 0
            · have HN := Lib.hid (HCP.out ⟨HR3.out, hc⟩)
              rw [hc]
              clear hc
              go_wp2_with fail
              have h5 := ((H4.out.set0 (.slice b1 l1.length e1)).set1 (.slice b2 l2.length e2)).set2 (.slice b3 l3.length e3)
              refine rd_ends (p := ⟨l1, l2, l3⟩) rfl rfl rfl (h5.plan.far (p := ⟨w.heap.size + 1, 0, none⟩) (by show w.heap.size ≠ w.heap.size + 1; omega) _) (by simpa using h5.err.set_ 0 (.int .i64 0)) (h5.below.setCell (p := ⟨w.heap.size + 1, 0, none⟩) (by show w.heap.size ≤ w.heap.size + 1; omega) _) HN.out ⟨?_, ?_, ?_⟩ HPL.out
              · exact (slw4 HLL.out.1.1 _ _ _ _).wider (by omega) (by simp [World.setCell])
              · exact (slw4 HLL.out.1.2 _ _ _ _).wider (by omega) (by simp [World.setCell])
              · exact (slw4 HLL.out.2 _ _ _ _).wider (by omega) (by simp [World.setCell])
            · have HN := Lib.hid (HCN.out (fun h => hc h.2))
              have b1 : (checkP ⟨l1, l2, l3⟩ != 0) = true := by simp [hc]
              clear hc
              go_wp2_with fail
              exact rd_dies rfl rfl rfl (Nat.le_refl _) H4.out.plan H4.out.err H4.out.below HN.out
          · have HN := Lib.hid (HCN.out (fun h => hr h.1))
            have hr0 : r3.toList.isEmpty = false := by
              rw [List.isEmpty_eq_false_iff]
              intro e
              exact hr (by rw [← toList_size, e]; rfl)
            go_wp2_with fail
            exact rd_dies rfl rfl rfl (Nat.le_refl _) h3.plan h3.err h3.below HN.out

end Go.Proofs.YtapimpmpjighmaaDoor

