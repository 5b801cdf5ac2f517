/-
  The wire, read: a post, a queue, a bind; lists of them.
-/
import Derived.Test.YtapimpmpjighmaaDoorWireA
import Derived.Test.YtapimpmpjighmaaDoorNW
import Derived.IntWalk
namespace Go.Proofs.YtapimpmpjighmaaDoor
open Go.RowKit
set_option maxRecDepth 100000

def postS (s : ByteArray) : Option (PostD × ByteArray) := (textS s).bind fun x0 => (numS x0.2).bind fun x1 => some (⟨x0.1, (x1.1 : Int)⟩, x1.2)
def queueS (s : ByteArray) : Option (QueueD × ByteArray) := (textS s).bind fun x0 => (numS x0.2).bind fun x1 => (numS x1.2).bind fun x2 => some (⟨x0.1, (x1.1 : Int), (x2.1 : Int) - 1⟩, x2.2)
def bindS (s : ByteArray) : Option (BindD × ByteArray) := (numS s).bind fun x0 => (truthS x0.2).bind fun x1 => (numS x1.2).bind fun x2 => (textS x2.2).bind fun x3 => some (⟨(x0.1 : Int), x1.1, (x2.1 : Int), x3.1⟩, x3.2)

theorem gw_past {a b : World} {row : Option Nat} (h : a.grownBy b row) {k : Nat} (hk : a.heap.size ≤ k) (i : Nat) (v : Value) : a.grownBy (b.setCell ⟨k, i, none⟩ v) row :=
  ⟨h.os, h.tape, h.output, by simpa [World.setCell] using h.size, fun j hj hr => (Below.heap_setCell b ⟨k, i, none⟩ v j (by show j ≠ k; omega)).trans (h.block j hj hr)⟩
theorem GlassAt.far {w : World} {g : Nat} {s : ByteArray} (h : GlassAt w g s) {k : Nat} (hne : g ≠ k) (i : Nat) (v : Value) : GlassAt (w.setCell ⟨k, i, none⟩ v) g s := Bk.far h hne v
/-- The variable that holds the glass. -/
def HoldsG (w : World) (c g : Nat) : Prop := w.cell? ⟨c, 0, none⟩ = some (.pointer (some ⟨g, 0, none⟩)) ∧ c ≠ g
theorem HoldsG.grown {w w' : World} {c g : Nat} (h : HoldsG w c g) (hg : w.grownBy w' (some g)) : HoldsG w' c g := ⟨hg.cell h.1 (by simpa using h.2), h.2⟩
theorem wrap_byte {s r : ByteArray} {n : Nat} (h : numS s = some (n, r)) : IntKind.i64.wrap ((n : Int) - 1) = (n : Int) - 1 := by
  have := (numS_le h).1
  exact IntWalk.i64_in _ (by omega)
theorem GlassAt.grown {w w' : World} {g : Nat} {s : ByteArray} {k : Nat} (h : GlassAt w g s) (hg : w.grownBy w' (some k)) (hne : g ≠ k) : GlassAt w' g s := Bk.grown h hg (by simpa using hne)


set_option maxHeartbeats 2000000 in
theorem postW_any (c g : Nat) (s : ByteArray) (w : World) (hc : HoldsG w c g) (hg : GlassAt w g s) :
    Calls Tryd.prog 45 #[.pointer (some ⟨c, 0, none⟩)] w (GPost g w (fun x => .agg (vPost x).toArray) (postS s)) := by
  have HC := Lib.hid hc
  have HG := Lib.hid hg
  have hlt := Bk.lt hg
  have hcc := hc.1
  have hclt := World.block_lt_of_cell? w _ hc.1
  clear hc hg
  have h0 := fun W (h : GlassAt W g s) => text_any g s W h
  rcases o0 : textS s with _ | ⟨x0, r0⟩
  · rw [o0] at h0
    rw [show postS s = none by unfold postS; simp only [o0, Option.bind_some, Option.bind_none]]
    have H0 := Lib.hid h0
    clear h0 o0
    go_enter Tryd.func45, Tryd.ntmps45
    go_upto_region 1 with fail
    have HZ : Hid (Bk (w.alloc (.cells #[.string ⟨#[]⟩, .int .i64 0] 81)) w.heap.size 81 #[.string ⟨#[]⟩, .int .i64 0]) := Bk.new _ _ _
    have HA : Hid (w.grownBy (w.alloc (.cells #[.string ⟨#[]⟩, .int .i64 0] 81)) (some g)) := gw_alloc (gw_refl _ _) _
    have HGA : Hid (GlassAt (w.alloc (.cells #[.string ⟨#[]⟩, .int .i64 0] 81)) g s) := HG.out.alloc _
    have hza : (w.alloc (.cells #[.string ⟨#[]⟩, .int .i64 0] 81)).heap.size = w.heap.size + 1 := by simp
    generalize w.alloc (.cells #[.string ⟨#[]⟩, .int .i64 0] 81) = W0 at *
    have HGD : Hid (GlassAt W0.drew g s) := (HGA.out : GlassAt W0 g s)
    have HK : Hid (∀ W, w.grownBy W (some g) → W.cell? ⟨c, 0, none⟩ = some (.pointer (some ⟨g, 0, none⟩)) ∧ w.grownBy W (some g)) := fun W h => ⟨(HC.out.grown h).1, h⟩
    refine nw_lay [(0, false), (2, false), (1, true), (3, true), (4, false), (5, true)] (by kernel_rfl) (fun hOrd => ?_)
    refine nw_go (S := (fun W => W.cell? ⟨c, 0, none⟩ = some (.pointer (some ⟨g, 0, none⟩)) ∧ w.grownBy W (some g))) hOrd (by kernel_rfl) (by first | assumption | exact HK.out _ (gw_drew HA.out) | exact HK.out _ hgw0) (fun hHeld => ?_)
    clear hOrd
    iterate 2 (first | ((refine NW.take (v := ?_) rfl (fun _ _ _ h => h) (Or.inl ⟨by rfl, ?_⟩) ?_; rotate_left; focus (intro w hSw; (try dsimp only at hSw); go_simp; (all_goals with_reducible rfl); done)); try simp only [Act.put, List.setIfInBounds_toArray, List.set_cons_zero, List.set_cons_succ, List.getElem_toArray, List.getElem_cons_zero, List.getElem_cons_succ]) | (refine NW.leave rfl (fun _ _ _ h => h) (by rfl) (by assumption) ?_; try simp only [Act.put, List.setIfInBounds_toArray, List.set_cons_zero, List.set_cons_succ, List.getElem_toArray, List.getElem_cons_zero, List.getElem_cons_succ]) | fail "op")
    (refine NW.call rfl (fun K hK => ?_); go_simp; (first | (go_at_call 46; refine (H0.out _ HGD.out).mono ?_; rintro e w0 ⟨hgr0, rfl⟩; go_wp2_with fail; exact ⟨rfl, gw_trans (gw_drew HA.out) hgr0, rfl⟩)))
  · rw [o0] at h0
    have h1 := fun W (h : GlassAt W g r0) => num_any g r0 W h
    rcases o1 : numS r0 with _ | ⟨x1, r1⟩
    · rw [o1] at h1
      rw [show postS s = none by unfold postS; simp only [o0, o1, Option.bind_some, Option.bind_none]]
      have H0 := Lib.hid h0
      have H1 := Lib.hid h1
      clear h0 o0 h1 o1
      go_enter Tryd.func45, Tryd.ntmps45
      go_upto_region 1 with fail
      have HZ : Hid (Bk (w.alloc (.cells #[.string ⟨#[]⟩, .int .i64 0] 81)) w.heap.size 81 #[.string ⟨#[]⟩, .int .i64 0]) := Bk.new _ _ _
      have HA : Hid (w.grownBy (w.alloc (.cells #[.string ⟨#[]⟩, .int .i64 0] 81)) (some g)) := gw_alloc (gw_refl _ _) _
      have HGA : Hid (GlassAt (w.alloc (.cells #[.string ⟨#[]⟩, .int .i64 0] 81)) g s) := HG.out.alloc _
      have hza : (w.alloc (.cells #[.string ⟨#[]⟩, .int .i64 0] 81)).heap.size = w.heap.size + 1 := by simp
      generalize w.alloc (.cells #[.string ⟨#[]⟩, .int .i64 0] 81) = W0 at *
      have HGD : Hid (GlassAt W0.drew g s) := (HGA.out : GlassAt W0 g s)
      have HK : Hid (∀ W, w.grownBy W (some g) → W.cell? ⟨c, 0, none⟩ = some (.pointer (some ⟨g, 0, none⟩)) ∧ w.grownBy W (some g)) := fun W h => ⟨(HC.out.grown h).1, h⟩
      refine nw_lay [(0, false), (2, false), (1, true), (3, true), (4, false), (5, true)] (by kernel_rfl) (fun hOrd => ?_)
      refine nw_go (S := (fun W => W.cell? ⟨c, 0, none⟩ = some (.pointer (some ⟨g, 0, none⟩)) ∧ w.grownBy W (some g))) hOrd (by kernel_rfl) (by first | assumption | exact HK.out _ (gw_drew HA.out) | exact HK.out _ hgw0) (fun hHeld => ?_)
      clear hOrd
      iterate 2 (first | ((refine NW.take (v := ?_) rfl (fun _ _ _ h => h) (Or.inl ⟨by rfl, ?_⟩) ?_; rotate_left; focus (intro w hSw; (try dsimp only at hSw); go_simp; (all_goals with_reducible rfl); done)); try simp only [Act.put, List.setIfInBounds_toArray, List.set_cons_zero, List.set_cons_succ, List.getElem_toArray, List.getElem_cons_zero, List.getElem_cons_succ]) | (refine NW.leave rfl (fun _ _ _ h => h) (by rfl) (by assumption) ?_; try simp only [Act.put, List.setIfInBounds_toArray, List.set_cons_zero, List.set_cons_succ, List.getElem_toArray, List.getElem_cons_zero, List.getElem_cons_succ]) | fail "op")
      first
        | (refine NW.leave rfl (fun _ _ _ h => h) (by rfl) (by assumption) ?_; try simp only [Act.put, List.setIfInBounds_toArray, List.set_cons_zero, List.set_cons_succ, List.getElem_toArray, List.getElem_cons_zero, List.getElem_cons_succ])
        | (refine NW.call rfl (fun K hK => ?_); go_simp; (first | (go_at_call 46; refine (H0.out _ HGD.out).mono ?_; rintro e w0 ⟨hgr0, rfl, hg0⟩; have hgw0 : w.grownBy w0 (some g) := gw_trans (gw_drew HA.out) hgr0; have hgz0 : W0.grownBy w0 (some g) := gw_trans (gw_drew (gw_refl _ _)) hgr0; clear H0) | (go_at_call 47; refine (H1.out _ hg0).mono ?_; rintro e w1 ⟨hgr1, rfl⟩; go_wp2_with fail; exact ⟨rfl, gw_trans hgw0 hgr1, rfl⟩)); refine hK.out _ _ (by first | assumption | exact HK.out _ (gw_drew HA.out) | exact HK.out _ hgw0) (fun hHeld => ?_); clear hK K; try simp only [Act.put, List.setIfInBounds_toArray, List.set_cons_zero, List.set_cons_succ, List.getElem_toArray, List.getElem_cons_zero, List.getElem_cons_succ])
        | fail "call"
      (refine NW.call rfl (fun K hK => ?_); go_simp; (first | (go_at_call 46; refine (H0.out _ HGD.out).mono ?_; rintro e w0 ⟨hgr0, rfl, hg0⟩; have hgw0 : w.grownBy w0 (some g) := gw_trans (gw_drew HA.out) hgr0; have hgz0 : W0.grownBy w0 (some g) := gw_trans (gw_drew (gw_refl _ _)) hgr0; clear H0) | (go_at_call 47; refine (H1.out _ hg0).mono ?_; rintro e w1 ⟨hgr1, rfl⟩; go_wp2_with fail; exact ⟨rfl, gw_trans hgw0 hgr1, rfl⟩)))
    · rw [o1] at h1
      rw [show postS s = some (⟨x0, (x1 : Int)⟩, r1) by unfold postS; simp only [o0, o1, Option.bind_some, Option.bind_none]]
      have H0 := Lib.hid h0
      have H1 := Lib.hid h1
      clear h0 o0 h1 o1
      go_enter Tryd.func45, Tryd.ntmps45
      go_upto_region 1 with fail
      have HZ : Hid (Bk (w.alloc (.cells #[.string ⟨#[]⟩, .int .i64 0] 81)) w.heap.size 81 #[.string ⟨#[]⟩, .int .i64 0]) := Bk.new _ _ _
      have HA : Hid (w.grownBy (w.alloc (.cells #[.string ⟨#[]⟩, .int .i64 0] 81)) (some g)) := gw_alloc (gw_refl _ _) _
      have HGA : Hid (GlassAt (w.alloc (.cells #[.string ⟨#[]⟩, .int .i64 0] 81)) g s) := HG.out.alloc _
      have hza : (w.alloc (.cells #[.string ⟨#[]⟩, .int .i64 0] 81)).heap.size = w.heap.size + 1 := by simp
      generalize w.alloc (.cells #[.string ⟨#[]⟩, .int .i64 0] 81) = W0 at *
      have HGD : Hid (GlassAt W0.drew g s) := (HGA.out : GlassAt W0 g s)
      have HK : Hid (∀ W, w.grownBy W (some g) → W.cell? ⟨c, 0, none⟩ = some (.pointer (some ⟨g, 0, none⟩)) ∧ w.grownBy W (some g)) := fun W h => ⟨(HC.out.grown h).1, h⟩
      refine nw_lay [(0, false), (2, false), (1, true), (3, true), (4, false), (5, true)] (by kernel_rfl) (fun hOrd => ?_)
      have hgne : g ≠ w.heap.size := by omega
      refine nw_go (S := (fun W => W.cell? ⟨c, 0, none⟩ = some (.pointer (some ⟨g, 0, none⟩)) ∧ w.grownBy W (some g))) hOrd (by kernel_rfl) (by first | assumption | exact HK.out _ (gw_drew HA.out) | exact HK.out _ hgw1 | exact HK.out _ hgw0 | exact HK.out _ (hgw1)) (fun hHeld => ?_)
      clear hOrd
      iterate 2 (first | ((refine NW.take (v := ?_) rfl (fun _ _ _ h => h) (Or.inl ⟨by rfl, ?_⟩) ?_; rotate_left; focus (intro w hSw; (try dsimp only at hSw); go_simp; (all_goals with_reducible rfl); done)); try simp only [Act.put, List.setIfInBounds_toArray, List.set_cons_zero, List.set_cons_succ, List.getElem_toArray, List.getElem_cons_zero, List.getElem_cons_succ]) | (refine NW.leave rfl (fun _ _ _ h => h) (by rfl) (by assumption) ?_; try simp only [Act.put, List.setIfInBounds_toArray, List.set_cons_zero, List.set_cons_succ, List.getElem_toArray, List.getElem_cons_zero, List.getElem_cons_succ]) | fail "op")
      first
        | (refine NW.leave rfl (fun _ _ _ h => h) (by rfl) (by assumption) ?_; try simp only [Act.put, List.setIfInBounds_toArray, List.set_cons_zero, List.set_cons_succ, List.getElem_toArray, List.getElem_cons_zero, List.getElem_cons_succ])
        | (refine NW.call rfl (fun K hK => ?_); go_simp; (first | (go_at_call 46; refine (H0.out _ HGD.out).mono ?_; rintro e w0 ⟨hgr0, rfl, hg0⟩; have hgw0 : w.grownBy w0 (some g) := gw_trans (gw_drew HA.out) hgr0; have hgz0 : W0.grownBy w0 (some g) := gw_trans (gw_drew (gw_refl _ _)) hgr0; clear H0) | (go_at_call 47; refine (H1.out _ hg0).mono ?_; rintro e w1 ⟨hgr1, rfl, hg1⟩; have hgw1 : w.grownBy w1 (some g) := gw_trans hgw0 hgr1; have hgz1 : W0.grownBy w1 (some g) := gw_trans hgz0 hgr1; clear H1)); refine hK.out _ _ (by first | assumption | exact HK.out _ (gw_drew HA.out) | exact HK.out _ hgw1 | exact HK.out _ hgw0 | exact HK.out _ (hgw1)) (fun hHeld => ?_); clear hK K; try simp only [Act.put, List.setIfInBounds_toArray, List.set_cons_zero, List.set_cons_succ, List.getElem_toArray, List.getElem_cons_zero, List.getElem_cons_succ])
        | fail "call"
      first
        | (refine NW.leave rfl (fun _ _ _ h => h) (by rfl) (by assumption) ?_; try simp only [Act.put, List.setIfInBounds_toArray, List.set_cons_zero, List.set_cons_succ, List.getElem_toArray, List.getElem_cons_zero, List.getElem_cons_succ])
        | (refine NW.call rfl (fun K hK => ?_); go_simp; (first | (go_at_call 46; refine (H0.out _ HGD.out).mono ?_; rintro e w0 ⟨hgr0, rfl, hg0⟩; have hgw0 : w.grownBy w0 (some g) := gw_trans (gw_drew HA.out) hgr0; have hgz0 : W0.grownBy w0 (some g) := gw_trans (gw_drew (gw_refl _ _)) hgr0; clear H0) | (go_at_call 47; refine (H1.out _ hg0).mono ?_; rintro e w1 ⟨hgr1, rfl, hg1⟩; have hgw1 : w.grownBy w1 (some g) := gw_trans hgw0 hgr1; have hgz1 : W0.grownBy w1 (some g) := gw_trans hgz0 hgr1; clear H1)); refine hK.out _ _ (by first | assumption | exact HK.out _ (gw_drew HA.out) | exact HK.out _ hgw1 | exact HK.out _ hgw0 | exact HK.out _ (hgw1)) (fun hHeld => ?_); clear hK K; try simp only [Act.put, List.setIfInBounds_toArray, List.set_cons_zero, List.set_cons_succ, List.getElem_toArray, List.getElem_cons_zero, List.getElem_cons_succ])
        | fail "call"
      (first | ((refine NW.take (v := ?_) rfl (fun _ _ _ h => h) (Or.inl ⟨by rfl, ?_⟩) ?_; rotate_left; focus (intro w hSw; (try dsimp only at hSw); go_simp; (all_goals with_reducible rfl); done)); try simp only [Act.put, List.setIfInBounds_toArray, List.set_cons_zero, List.set_cons_succ, List.getElem_toArray, List.getElem_cons_zero, List.getElem_cons_succ]) | (refine NW.leave rfl (fun _ _ _ h => h) (by rfl) (by assumption) ?_; try simp only [Act.put, List.setIfInBounds_toArray, List.set_cons_zero, List.set_cons_succ, List.getElem_toArray, List.getElem_cons_zero, List.getElem_cons_succ]) | fail "op")
      have hbk := HZ.out.grown hgz1 (by simp; omega)
      have hlt2 := hbk.lt
      have k0 := hbk.cell 0; have f0 := hbk.frozen 0
      have k1 := hbk.cell 1; have f1 := hbk.frozen 1
      simp only [List.getElem?_toArray, List.getElem?_cons_zero, List.getElem?_cons_succ] at k0 k1
      clear hbk
      (refine NW.call (i := 5) rfl (fun K hK => ?_); go_simp; refine hK.out _ _ (by exact HK.out _ (gw_past (gw_past (hgw1) (Nat.le_refl _) _ _) (Nat.le_refl _) _ _)) (fun hHeld => ?_); clear hK K)
      refine NW.done ?_
      go_wp2_with fail
      refine bodyPost_ret (v := .agg #[.string x0, .int .i64 (x1 : Int)]) (by simp [results, Tryd.results45, go_sem, k0, k1, hlt2]) rfl ⟨gw_past (gw_past (hgw1) (Nat.le_refl _) _ _) (Nat.le_refl _) _ _, rfl, GlassAt.far (GlassAt.far (hg1) hgne _ _) hgne _ _⟩

set_option maxHeartbeats 2000000 in
theorem queueW_any (c g : Nat) (s : ByteArray) (w : World) (hc : HoldsG w c g) (hg : GlassAt w g s) :
    Calls Tryd.prog 49 #[.pointer (some ⟨c, 0, none⟩)] w (GPost g w (fun x => .agg (vQueue x).toArray) (queueS s)) := by
  have HC := Lib.hid hc
  have HG := Lib.hid hg
  have hlt := Bk.lt hg
  have hcc := hc.1
  have hclt := World.block_lt_of_cell? w _ hc.1
  clear hc hg
  have h0 := fun W (h : GlassAt W g s) => text_any g s W h
  rcases o0 : textS s with _ | ⟨x0, r0⟩
  · rw [o0] at h0
    rw [show queueS s = none by unfold queueS; simp only [o0, Option.bind_some, Option.bind_none]]
    have H0 := Lib.hid h0
    clear h0 o0
    go_enter Tryd.func49, Tryd.ntmps49
    go_upto_region 1 with fail
    have HZ : Hid (Bk (w.alloc (.cells #[.string ⟨#[]⟩, .int .i64 0, .int .i64 0] 83)) w.heap.size 83 #[.string ⟨#[]⟩, .int .i64 0, .int .i64 0]) := Bk.new _ _ _
    have HA : Hid (w.grownBy (w.alloc (.cells #[.string ⟨#[]⟩, .int .i64 0, .int .i64 0] 83)) (some g)) := gw_alloc (gw_refl _ _) _
    have HGA : Hid (GlassAt (w.alloc (.cells #[.string ⟨#[]⟩, .int .i64 0, .int .i64 0] 83)) g s) := HG.out.alloc _
    have hza : (w.alloc (.cells #[.string ⟨#[]⟩, .int .i64 0, .int .i64 0] 83)).heap.size = w.heap.size + 1 := by simp
    generalize w.alloc (.cells #[.string ⟨#[]⟩, .int .i64 0, .int .i64 0] 83) = W0 at *
    have HGD : Hid (GlassAt W0.drew g s) := (HGA.out : GlassAt W0 g s)
    have HK : Hid (∀ W, w.grownBy W (some g) → W.cell? ⟨c, 0, none⟩ = some (.pointer (some ⟨g, 0, none⟩)) ∧ w.grownBy W (some g)) := fun W h => ⟨(HC.out.grown h).1, h⟩
    refine nw_lay [(0, false), (2, false), (4, false), (1, true), (3, true), (5, true), (6, false), (7, false), (8, true)] (by kernel_rfl) (fun hOrd => ?_)
    refine nw_go (S := (fun W => W.cell? ⟨c, 0, none⟩ = some (.pointer (some ⟨g, 0, none⟩)) ∧ w.grownBy W (some g))) hOrd (by kernel_rfl) (by first | assumption | exact HK.out _ (gw_drew HA.out) | exact HK.out _ hgw0) (fun hHeld => ?_)
    clear hOrd
    iterate 3 (first | ((refine NW.take (v := ?_) rfl (fun _ _ _ h => h) (Or.inl ⟨by rfl, ?_⟩) ?_; rotate_left; focus (intro w hSw; (try dsimp only at hSw); go_simp; (all_goals with_reducible rfl); done)); try simp only [Act.put, List.setIfInBounds_toArray, List.set_cons_zero, List.set_cons_succ, List.getElem_toArray, List.getElem_cons_zero, List.getElem_cons_succ]) | (refine NW.leave rfl (fun _ _ _ h => h) (by rfl) (by assumption) ?_; try simp only [Act.put, List.setIfInBounds_toArray, List.set_cons_zero, List.set_cons_succ, List.getElem_toArray, List.getElem_cons_zero, List.getElem_cons_succ]) | fail "op")
    (refine NW.call rfl (fun K hK => ?_); go_simp; (first | (go_at_call 46; refine (H0.out _ HGD.out).mono ?_; rintro e w0 ⟨hgr0, rfl⟩; go_wp2_with fail; exact ⟨rfl, gw_trans (gw_drew HA.out) hgr0, rfl⟩)))
  · rw [o0] at h0
    have h1 := fun W (h : GlassAt W g r0) => num_any g r0 W h
    rcases o1 : numS r0 with _ | ⟨x1, r1⟩
    · rw [o1] at h1
      rw [show queueS s = none by unfold queueS; simp only [o0, o1, Option.bind_some, Option.bind_none]]
      have H0 := Lib.hid h0
      have H1 := Lib.hid h1
      clear h0 o0 h1 o1
      go_enter Tryd.func49, Tryd.ntmps49
      go_upto_region 1 with fail
      have HZ : Hid (Bk (w.alloc (.cells #[.string ⟨#[]⟩, .int .i64 0, .int .i64 0] 83)) w.heap.size 83 #[.string ⟨#[]⟩, .int .i64 0, .int .i64 0]) := Bk.new _ _ _
      have HA : Hid (w.grownBy (w.alloc (.cells #[.string ⟨#[]⟩, .int .i64 0, .int .i64 0] 83)) (some g)) := gw_alloc (gw_refl _ _) _
      have HGA : Hid (GlassAt (w.alloc (.cells #[.string ⟨#[]⟩, .int .i64 0, .int .i64 0] 83)) g s) := HG.out.alloc _
      have hza : (w.alloc (.cells #[.string ⟨#[]⟩, .int .i64 0, .int .i64 0] 83)).heap.size = w.heap.size + 1 := by simp
      generalize w.alloc (.cells #[.string ⟨#[]⟩, .int .i64 0, .int .i64 0] 83) = W0 at *
      have HGD : Hid (GlassAt W0.drew g s) := (HGA.out : GlassAt W0 g s)
      have HK : Hid (∀ W, w.grownBy W (some g) → W.cell? ⟨c, 0, none⟩ = some (.pointer (some ⟨g, 0, none⟩)) ∧ w.grownBy W (some g)) := fun W h => ⟨(HC.out.grown h).1, h⟩
      refine nw_lay [(0, false), (2, false), (4, false), (1, true), (3, true), (5, true), (6, false), (7, false), (8, true)] (by kernel_rfl) (fun hOrd => ?_)
      refine nw_go (S := (fun W => W.cell? ⟨c, 0, none⟩ = some (.pointer (some ⟨g, 0, none⟩)) ∧ w.grownBy W (some g))) hOrd (by kernel_rfl) (by first | assumption | exact HK.out _ (gw_drew HA.out) | exact HK.out _ hgw0) (fun hHeld => ?_)
      clear hOrd
      iterate 3 (first | ((refine NW.take (v := ?_) rfl (fun _ _ _ h => h) (Or.inl ⟨by rfl, ?_⟩) ?_; rotate_left; focus (intro w hSw; (try dsimp only at hSw); go_simp; (all_goals with_reducible rfl); done)); try simp only [Act.put, List.setIfInBounds_toArray, List.set_cons_zero, List.set_cons_succ, List.getElem_toArray, List.getElem_cons_zero, List.getElem_cons_succ]) | (refine NW.leave rfl (fun _ _ _ h => h) (by rfl) (by assumption) ?_; try simp only [Act.put, List.setIfInBounds_toArray, List.set_cons_zero, List.set_cons_succ, List.getElem_toArray, List.getElem_cons_zero, List.getElem_cons_succ]) | fail "op")
      first
        | (refine NW.leave rfl (fun _ _ _ h => h) (by rfl) (by assumption) ?_; try simp only [Act.put, List.setIfInBounds_toArray, List.set_cons_zero, List.set_cons_succ, List.getElem_toArray, List.getElem_cons_zero, List.getElem_cons_succ])
        | (refine NW.call rfl (fun K hK => ?_); go_simp; (first | (go_at_call 46; refine (H0.out _ HGD.out).mono ?_; rintro e w0 ⟨hgr0, rfl, hg0⟩; have hgw0 : w.grownBy w0 (some g) := gw_trans (gw_drew HA.out) hgr0; have hgz0 : W0.grownBy w0 (some g) := gw_trans (gw_drew (gw_refl _ _)) hgr0; clear H0) | (go_at_call 47; refine (H1.out _ hg0).mono ?_; rintro e w1 ⟨hgr1, rfl⟩; go_wp2_with fail; exact ⟨rfl, gw_trans hgw0 hgr1, rfl⟩)); refine hK.out _ _ (by first | assumption | exact HK.out _ (gw_drew HA.out) | exact HK.out _ hgw0) (fun hHeld => ?_); clear hK K; try simp only [Act.put, List.setIfInBounds_toArray, List.set_cons_zero, List.set_cons_succ, List.getElem_toArray, List.getElem_cons_zero, List.getElem_cons_succ])
        | fail "call"
      (refine NW.call rfl (fun K hK => ?_); go_simp; (first | (go_at_call 46; refine (H0.out _ HGD.out).mono ?_; rintro e w0 ⟨hgr0, rfl, hg0⟩; have hgw0 : w.grownBy w0 (some g) := gw_trans (gw_drew HA.out) hgr0; have hgz0 : W0.grownBy w0 (some g) := gw_trans (gw_drew (gw_refl _ _)) hgr0; clear H0) | (go_at_call 47; refine (H1.out _ hg0).mono ?_; rintro e w1 ⟨hgr1, rfl⟩; go_wp2_with fail; exact ⟨rfl, gw_trans hgw0 hgr1, rfl⟩)))
    · rw [o1] at h1
      have h2 := fun W (h : GlassAt W g r1) => num_any g r1 W h
      rcases o2 : numS r1 with _ | ⟨x2, r2⟩
      · rw [o2] at h2
        rw [show queueS s = none by unfold queueS; simp only [o0, o1, o2, Option.bind_some, Option.bind_none]]
        have H0 := Lib.hid h0
        have H1 := Lib.hid h1
        have H2 := Lib.hid h2
        clear h0 o0 h1 o1 h2 o2
        go_enter Tryd.func49, Tryd.ntmps49
        go_upto_region 1 with fail
        have HZ : Hid (Bk (w.alloc (.cells #[.string ⟨#[]⟩, .int .i64 0, .int .i64 0] 83)) w.heap.size 83 #[.string ⟨#[]⟩, .int .i64 0, .int .i64 0]) := Bk.new _ _ _
        have HA : Hid (w.grownBy (w.alloc (.cells #[.string ⟨#[]⟩, .int .i64 0, .int .i64 0] 83)) (some g)) := gw_alloc (gw_refl _ _) _
        have HGA : Hid (GlassAt (w.alloc (.cells #[.string ⟨#[]⟩, .int .i64 0, .int .i64 0] 83)) g s) := HG.out.alloc _
        have hza : (w.alloc (.cells #[.string ⟨#[]⟩, .int .i64 0, .int .i64 0] 83)).heap.size = w.heap.size + 1 := by simp
        generalize w.alloc (.cells #[.string ⟨#[]⟩, .int .i64 0, .int .i64 0] 83) = W0 at *
        have HGD : Hid (GlassAt W0.drew g s) := (HGA.out : GlassAt W0 g s)
        have HK : Hid (∀ W, w.grownBy W (some g) → W.cell? ⟨c, 0, none⟩ = some (.pointer (some ⟨g, 0, none⟩)) ∧ w.grownBy W (some g)) := fun W h => ⟨(HC.out.grown h).1, h⟩
        refine nw_lay [(0, false), (2, false), (4, false), (1, true), (3, true), (5, true), (6, false), (7, false), (8, true)] (by kernel_rfl) (fun hOrd => ?_)
        refine nw_go (S := (fun W => W.cell? ⟨c, 0, none⟩ = some (.pointer (some ⟨g, 0, none⟩)) ∧ w.grownBy W (some g))) hOrd (by kernel_rfl) (by first | assumption | exact HK.out _ (gw_drew HA.out) | exact HK.out _ hgw1 | exact HK.out _ hgw0) (fun hHeld => ?_)
        clear hOrd
        iterate 3 (first | ((refine NW.take (v := ?_) rfl (fun _ _ _ h => h) (Or.inl ⟨by rfl, ?_⟩) ?_; rotate_left; focus (intro w hSw; (try dsimp only at hSw); go_simp; (all_goals with_reducible rfl); done)); try simp only [Act.put, List.setIfInBounds_toArray, List.set_cons_zero, List.set_cons_succ, List.getElem_toArray, List.getElem_cons_zero, List.getElem_cons_succ]) | (refine NW.leave rfl (fun _ _ _ h => h) (by rfl) (by assumption) ?_; try simp only [Act.put, List.setIfInBounds_toArray, List.set_cons_zero, List.set_cons_succ, List.getElem_toArray, List.getElem_cons_zero, List.getElem_cons_succ]) | fail "op")
        first
          | (refine NW.leave rfl (fun _ _ _ h => h) (by rfl) (by assumption) ?_; try simp only [Act.put, List.setIfInBounds_toArray, List.set_cons_zero, List.set_cons_succ, List.getElem_toArray, List.getElem_cons_zero, List.getElem_cons_succ])
          | (refine NW.call rfl (fun K hK => ?_); go_simp; (first | (go_at_call 46; refine (H0.out _ HGD.out).mono ?_; rintro e w0 ⟨hgr0, rfl, hg0⟩; have hgw0 : w.grownBy w0 (some g) := gw_trans (gw_drew HA.out) hgr0; have hgz0 : W0.grownBy w0 (some g) := gw_trans (gw_drew (gw_refl _ _)) hgr0; clear H0) | (go_at_call 47; refine (H1.out _ hg0).mono ?_; rintro e w1 ⟨hgr1, rfl, hg1⟩; have hgw1 : w.grownBy w1 (some g) := gw_trans hgw0 hgr1; have hgz1 : W0.grownBy w1 (some g) := gw_trans hgz0 hgr1; clear H1) | (go_at_call 47; refine (H2.out _ hg1).mono ?_; rintro e w2 ⟨hgr2, rfl⟩; go_wp2_with fail; exact ⟨rfl, gw_trans hgw1 hgr2, rfl⟩)); refine hK.out _ _ (by first | assumption | exact HK.out _ (gw_drew HA.out) | exact HK.out _ hgw1 | exact HK.out _ hgw0) (fun hHeld => ?_); clear hK K; try simp only [Act.put, List.setIfInBounds_toArray, List.set_cons_zero, List.set_cons_succ, List.getElem_toArray, List.getElem_cons_zero, List.getElem_cons_succ])
          | fail "call"
        first
          | (refine NW.leave rfl (fun _ _ _ h => h) (by rfl) (by assumption) ?_; try simp only [Act.put, List.setIfInBounds_toArray, List.set_cons_zero, List.set_cons_succ, List.getElem_toArray, List.getElem_cons_zero, List.getElem_cons_succ])
          | (refine NW.call rfl (fun K hK => ?_); go_simp; (first | (go_at_call 46; refine (H0.out _ HGD.out).mono ?_; rintro e w0 ⟨hgr0, rfl, hg0⟩; have hgw0 : w.grownBy w0 (some g) := gw_trans (gw_drew HA.out) hgr0; have hgz0 : W0.grownBy w0 (some g) := gw_trans (gw_drew (gw_refl _ _)) hgr0; clear H0) | (go_at_call 47; refine (H1.out _ hg0).mono ?_; rintro e w1 ⟨hgr1, rfl, hg1⟩; have hgw1 : w.grownBy w1 (some g) := gw_trans hgw0 hgr1; have hgz1 : W0.grownBy w1 (some g) := gw_trans hgz0 hgr1; clear H1) | (go_at_call 47; refine (H2.out _ hg1).mono ?_; rintro e w2 ⟨hgr2, rfl⟩; go_wp2_with fail; exact ⟨rfl, gw_trans hgw1 hgr2, rfl⟩)); refine hK.out _ _ (by first | assumption | exact HK.out _ (gw_drew HA.out) | exact HK.out _ hgw1 | exact HK.out _ hgw0) (fun hHeld => ?_); clear hK K; try simp only [Act.put, List.setIfInBounds_toArray, List.set_cons_zero, List.set_cons_succ, List.getElem_toArray, List.getElem_cons_zero, List.getElem_cons_succ])
          | fail "call"
        (refine NW.call rfl (fun K hK => ?_); go_simp; (first | (go_at_call 46; refine (H0.out _ HGD.out).mono ?_; rintro e w0 ⟨hgr0, rfl, hg0⟩; have hgw0 : w.grownBy w0 (some g) := gw_trans (gw_drew HA.out) hgr0; have hgz0 : W0.grownBy w0 (some g) := gw_trans (gw_drew (gw_refl _ _)) hgr0; clear H0) | (go_at_call 47; refine (H1.out _ hg0).mono ?_; rintro e w1 ⟨hgr1, rfl, hg1⟩; have hgw1 : w.grownBy w1 (some g) := gw_trans hgw0 hgr1; have hgz1 : W0.grownBy w1 (some g) := gw_trans hgz0 hgr1; clear H1) | (go_at_call 47; refine (H2.out _ hg1).mono ?_; rintro e w2 ⟨hgr2, rfl⟩; go_wp2_with fail; exact ⟨rfl, gw_trans hgw1 hgr2, rfl⟩)))
      · rw [o2] at h2
        rw [show queueS s = some (⟨x0, (x1 : Int), (x2 : Int) - 1⟩, r2) by unfold queueS; simp only [o0, o1, o2, Option.bind_some, Option.bind_none]]
        have H0 := Lib.hid h0
        have H1 := Lib.hid h1
        have H2 := Lib.hid h2
        have hw := wrap_byte o2
        clear h0 o0 h1 o1 h2 o2
        go_enter Tryd.func49, Tryd.ntmps49
        go_upto_region 1 with fail
        have HZ : Hid (Bk (w.alloc (.cells #[.string ⟨#[]⟩, .int .i64 0, .int .i64 0] 83)) w.heap.size 83 #[.string ⟨#[]⟩, .int .i64 0, .int .i64 0]) := Bk.new _ _ _
        have HA : Hid (w.grownBy (w.alloc (.cells #[.string ⟨#[]⟩, .int .i64 0, .int .i64 0] 83)) (some g)) := gw_alloc (gw_refl _ _) _
        have HGA : Hid (GlassAt (w.alloc (.cells #[.string ⟨#[]⟩, .int .i64 0, .int .i64 0] 83)) g s) := HG.out.alloc _
        have hza : (w.alloc (.cells #[.string ⟨#[]⟩, .int .i64 0, .int .i64 0] 83)).heap.size = w.heap.size + 1 := by simp
        generalize w.alloc (.cells #[.string ⟨#[]⟩, .int .i64 0, .int .i64 0] 83) = W0 at *
        have HGD : Hid (GlassAt W0.drew g s) := (HGA.out : GlassAt W0 g s)
        have HK : Hid (∀ W, w.grownBy W (some g) → W.cell? ⟨c, 0, none⟩ = some (.pointer (some ⟨g, 0, none⟩)) ∧ w.grownBy W (some g)) := fun W h => ⟨(HC.out.grown h).1, h⟩
        refine nw_lay [(0, false), (2, false), (4, false), (1, true), (3, true), (5, true), (6, false), (7, false), (8, true)] (by kernel_rfl) (fun hOrd => ?_)
        have hgne : g ≠ w.heap.size := by omega
        refine nw_go (S := (fun W => W.cell? ⟨c, 0, none⟩ = some (.pointer (some ⟨g, 0, none⟩)) ∧ w.grownBy W (some g))) hOrd (by kernel_rfl) (by first | assumption | exact HK.out _ (gw_drew HA.out) | exact HK.out _ hgw2 | exact HK.out _ hgw1 | exact HK.out _ hgw0 | exact HK.out _ (hgw2)) (fun hHeld => ?_)
        clear hOrd
        iterate 3 (first | ((refine NW.take (v := ?_) rfl (fun _ _ _ h => h) (Or.inl ⟨by rfl, ?_⟩) ?_; rotate_left; focus (intro w hSw; (try dsimp only at hSw); go_simp; (all_goals with_reducible rfl); done)); try simp only [Act.put, List.setIfInBounds_toArray, List.set_cons_zero, List.set_cons_succ, List.getElem_toArray, List.getElem_cons_zero, List.getElem_cons_succ]) | (refine NW.leave rfl (fun _ _ _ h => h) (by rfl) (by assumption) ?_; try simp only [Act.put, List.setIfInBounds_toArray, List.set_cons_zero, List.set_cons_succ, List.getElem_toArray, List.getElem_cons_zero, List.getElem_cons_succ]) | fail "op")
        first
          | (refine NW.leave rfl (fun _ _ _ h => h) (by rfl) (by assumption) ?_; try simp only [Act.put, List.setIfInBounds_toArray, List.set_cons_zero, List.set_cons_succ, List.getElem_toArray, List.getElem_cons_zero, List.getElem_cons_succ])
          | (refine NW.call rfl (fun K hK => ?_); go_simp; (first | (go_at_call 46; refine (H0.out _ HGD.out).mono ?_; rintro e w0 ⟨hgr0, rfl, hg0⟩; have hgw0 : w.grownBy w0 (some g) := gw_trans (gw_drew HA.out) hgr0; have hgz0 : W0.grownBy w0 (some g) := gw_trans (gw_drew (gw_refl _ _)) hgr0; clear H0) | (go_at_call 47; refine (H1.out _ hg0).mono ?_; rintro e w1 ⟨hgr1, rfl, hg1⟩; have hgw1 : w.grownBy w1 (some g) := gw_trans hgw0 hgr1; have hgz1 : W0.grownBy w1 (some g) := gw_trans hgz0 hgr1; clear H1) | (go_at_call 47; refine (H2.out _ hg1).mono ?_; rintro e w2 ⟨hgr2, rfl, hg2⟩; have hgw2 : w.grownBy w2 (some g) := gw_trans hgw1 hgr2; have hgz2 : W0.grownBy w2 (some g) := gw_trans hgz1 hgr2; clear H2)); refine hK.out _ _ (by first | assumption | exact HK.out _ (gw_drew HA.out) | exact HK.out _ hgw2 | exact HK.out _ hgw1 | exact HK.out _ hgw0 | exact HK.out _ (hgw2)) (fun hHeld => ?_); clear hK K; try simp only [Act.put, List.setIfInBounds_toArray, List.set_cons_zero, List.set_cons_succ, List.getElem_toArray, List.getElem_cons_zero, List.getElem_cons_succ])
          | fail "call"
        first
          | (refine NW.leave rfl (fun _ _ _ h => h) (by rfl) (by assumption) ?_; try simp only [Act.put, List.setIfInBounds_toArray, List.set_cons_zero, List.set_cons_succ, List.getElem_toArray, List.getElem_cons_zero, List.getElem_cons_succ])
          | (refine NW.call rfl (fun K hK => ?_); go_simp; (first | (go_at_call 46; refine (H0.out _ HGD.out).mono ?_; rintro e w0 ⟨hgr0, rfl, hg0⟩; have hgw0 : w.grownBy w0 (some g) := gw_trans (gw_drew HA.out) hgr0; have hgz0 : W0.grownBy w0 (some g) := gw_trans (gw_drew (gw_refl _ _)) hgr0; clear H0) | (go_at_call 47; refine (H1.out _ hg0).mono ?_; rintro e w1 ⟨hgr1, rfl, hg1⟩; have hgw1 : w.grownBy w1 (some g) := gw_trans hgw0 hgr1; have hgz1 : W0.grownBy w1 (some g) := gw_trans hgz0 hgr1; clear H1) | (go_at_call 47; refine (H2.out _ hg1).mono ?_; rintro e w2 ⟨hgr2, rfl, hg2⟩; have hgw2 : w.grownBy w2 (some g) := gw_trans hgw1 hgr2; have hgz2 : W0.grownBy w2 (some g) := gw_trans hgz1 hgr2; clear H2)); refine hK.out _ _ (by first | assumption | exact HK.out _ (gw_drew HA.out) | exact HK.out _ hgw2 | exact HK.out _ hgw1 | exact HK.out _ hgw0 | exact HK.out _ (hgw2)) (fun hHeld => ?_); clear hK K; try simp only [Act.put, List.setIfInBounds_toArray, List.set_cons_zero, List.set_cons_succ, List.getElem_toArray, List.getElem_cons_zero, List.getElem_cons_succ])
          | fail "call"
        first
          | (refine NW.leave rfl (fun _ _ _ h => h) (by rfl) (by assumption) ?_; try simp only [Act.put, List.setIfInBounds_toArray, List.set_cons_zero, List.set_cons_succ, List.getElem_toArray, List.getElem_cons_zero, List.getElem_cons_succ])
          | (refine NW.call rfl (fun K hK => ?_); go_simp; (first | (go_at_call 46; refine (H0.out _ HGD.out).mono ?_; rintro e w0 ⟨hgr0, rfl, hg0⟩; have hgw0 : w.grownBy w0 (some g) := gw_trans (gw_drew HA.out) hgr0; have hgz0 : W0.grownBy w0 (some g) := gw_trans (gw_drew (gw_refl _ _)) hgr0; clear H0) | (go_at_call 47; refine (H1.out _ hg0).mono ?_; rintro e w1 ⟨hgr1, rfl, hg1⟩; have hgw1 : w.grownBy w1 (some g) := gw_trans hgw0 hgr1; have hgz1 : W0.grownBy w1 (some g) := gw_trans hgz0 hgr1; clear H1) | (go_at_call 47; refine (H2.out _ hg1).mono ?_; rintro e w2 ⟨hgr2, rfl, hg2⟩; have hgw2 : w.grownBy w2 (some g) := gw_trans hgw1 hgr2; have hgz2 : W0.grownBy w2 (some g) := gw_trans hgz1 hgr2; clear H2)); refine hK.out _ _ (by first | assumption | exact HK.out _ (gw_drew HA.out) | exact HK.out _ hgw2 | exact HK.out _ hgw1 | exact HK.out _ hgw0 | exact HK.out _ (hgw2)) (fun hHeld => ?_); clear hK K; try simp only [Act.put, List.setIfInBounds_toArray, List.set_cons_zero, List.set_cons_succ, List.getElem_toArray, List.getElem_cons_zero, List.getElem_cons_succ])
          | fail "call"
        iterate 2 (first | ((refine NW.take (v := ?_) rfl (fun _ _ _ h => h) (Or.inl ⟨by rfl, ?_⟩) ?_; rotate_left; focus (intro w hSw; (try dsimp only at hSw); go_simp; (all_goals with_reducible rfl); done)); try simp only [Act.put, List.setIfInBounds_toArray, List.set_cons_zero, List.set_cons_succ, List.getElem_toArray, List.getElem_cons_zero, List.getElem_cons_succ]) | (refine NW.leave rfl (fun _ _ _ h => h) (by rfl) (by assumption) ?_; try simp only [Act.put, List.setIfInBounds_toArray, List.set_cons_zero, List.set_cons_succ, List.getElem_toArray, List.getElem_cons_zero, List.getElem_cons_succ]) | fail "op")
        have hbk := HZ.out.grown hgz2 (by simp; omega)
        have hlt2 := hbk.lt
        have k0 := hbk.cell 0; have f0 := hbk.frozen 0
        have k1 := hbk.cell 1; have f1 := hbk.frozen 1
        have k2 := hbk.cell 2; have f2 := hbk.frozen 2
        simp only [List.getElem?_toArray, List.getElem?_cons_zero, List.getElem?_cons_succ] at k0 k1 k2
        clear hbk
        (refine NW.call (i := 8) rfl (fun K hK => ?_); go_simp; refine hK.out _ _ (by exact HK.out _ (gw_past (gw_past (gw_past (hgw2) (Nat.le_refl _) _ _) (Nat.le_refl _) _ _) (Nat.le_refl _) _ _)) (fun hHeld => ?_); clear hK K)
        refine NW.done ?_
        go_wp2_with fail
        refine bodyPost_ret (v := .agg #[.string x0, .int .i64 (x1 : Int), .int .i64 ((x2 : Int) - 1)]) (by simp [results, Tryd.results49, go_sem, k0, k1, k2, hlt2, hw]) rfl ⟨gw_past (gw_past (gw_past (hgw2) (Nat.le_refl _) _ _) (Nat.le_refl _) _ _) (Nat.le_refl _) _ _, rfl, GlassAt.far (GlassAt.far (GlassAt.far (hg2) hgne _ _) hgne _ _) hgne _ _⟩

set_option maxHeartbeats 2000000 in
theorem bindW_any (c g : Nat) (s : ByteArray) (w : World) (hc : HoldsG w c g) (hg : GlassAt w g s) :
    Calls Tryd.prog 51 #[.pointer (some ⟨c, 0, none⟩)] w (GPost g w (fun x => .agg (vBind x).toArray) (bindS s)) := by
  have HC := Lib.hid hc
  have HG := Lib.hid hg
  have hlt := Bk.lt hg
  have hcc := hc.1
  have hclt := World.block_lt_of_cell? w _ hc.1
  clear hc hg
  have h0 := fun W (h : GlassAt W g s) => num_any g s W h
  rcases o0 : numS s with _ | ⟨x0, r0⟩
  · rw [o0] at h0
    rw [show bindS s = none by unfold bindS; simp only [o0, Option.bind_some, Option.bind_none]]
    have H0 := Lib.hid h0
    clear h0 o0
    go_enter Tryd.func51, Tryd.ntmps51
    go_upto_region 1 with fail
    have HZ : Hid (Bk (w.alloc (.cells #[.int .i64 0, .bool false, .int .i64 0, .string ⟨#[]⟩] 64)) w.heap.size 64 #[.int .i64 0, .bool false, .int .i64 0, .string ⟨#[]⟩]) := Bk.new _ _ _
    have HA : Hid (w.grownBy (w.alloc (.cells #[.int .i64 0, .bool false, .int .i64 0, .string ⟨#[]⟩] 64)) (some g)) := gw_alloc (gw_refl _ _) _
    have HGA : Hid (GlassAt (w.alloc (.cells #[.int .i64 0, .bool false, .int .i64 0, .string ⟨#[]⟩] 64)) g s) := HG.out.alloc _
    have hza : (w.alloc (.cells #[.int .i64 0, .bool false, .int .i64 0, .string ⟨#[]⟩] 64)).heap.size = w.heap.size + 1 := by simp
    generalize w.alloc (.cells #[.int .i64 0, .bool false, .int .i64 0, .string ⟨#[]⟩] 64) = W0 at *
    have HGD : Hid (GlassAt W0.drew g s) := (HGA.out : GlassAt W0 g s)
    have HK : Hid (∀ W, w.grownBy W (some g) → W.cell? ⟨c, 0, none⟩ = some (.pointer (some ⟨g, 0, none⟩)) ∧ w.grownBy W (some g)) := fun W h => ⟨(HC.out.grown h).1, h⟩
    refine nw_lay [(0, false), (2, false), (4, false), (6, false), (1, true), (3, true), (5, true), (7, true), (8, false), (9, true)] (by kernel_rfl) (fun hOrd => ?_)
    refine nw_go (S := (fun W => W.cell? ⟨c, 0, none⟩ = some (.pointer (some ⟨g, 0, none⟩)) ∧ w.grownBy W (some g))) hOrd (by kernel_rfl) (by first | assumption | exact HK.out _ (gw_drew HA.out) | exact HK.out _ hgw0) (fun hHeld => ?_)
    clear hOrd
    iterate 4 (first | ((refine NW.take (v := ?_) rfl (fun _ _ _ h => h) (Or.inl ⟨by rfl, ?_⟩) ?_; rotate_left; focus (intro w hSw; (try dsimp only at hSw); go_simp; (all_goals with_reducible rfl); done)); try simp only [Act.put, List.setIfInBounds_toArray, List.set_cons_zero, List.set_cons_succ, List.getElem_toArray, List.getElem_cons_zero, List.getElem_cons_succ]) | (refine NW.leave rfl (fun _ _ _ h => h) (by rfl) (by assumption) ?_; try simp only [Act.put, List.setIfInBounds_toArray, List.set_cons_zero, List.set_cons_succ, List.getElem_toArray, List.getElem_cons_zero, List.getElem_cons_succ]) | fail "op")
    (refine NW.call rfl (fun K hK => ?_); go_simp; (first | (go_at_call 47; refine (H0.out _ HGD.out).mono ?_; rintro e w0 ⟨hgr0, rfl⟩; go_wp2_with fail; exact ⟨rfl, gw_trans (gw_drew HA.out) hgr0, rfl⟩)))
  · rw [o0] at h0
    have h1 := fun W (h : GlassAt W g r0) => truth_any g r0 W h
    rcases o1 : truthS r0 with _ | ⟨x1, r1⟩
    · rw [o1] at h1
      rw [show bindS s = none by unfold bindS; simp only [o0, o1, Option.bind_some, Option.bind_none]]
      have H0 := Lib.hid h0
      have H1 := Lib.hid h1
      clear h0 o0 h1 o1
      go_enter Tryd.func51, Tryd.ntmps51
      go_upto_region 1 with fail
      have HZ : Hid (Bk (w.alloc (.cells #[.int .i64 0, .bool false, .int .i64 0, .string ⟨#[]⟩] 64)) w.heap.size 64 #[.int .i64 0, .bool false, .int .i64 0, .string ⟨#[]⟩]) := Bk.new _ _ _
      have HA : Hid (w.grownBy (w.alloc (.cells #[.int .i64 0, .bool false, .int .i64 0, .string ⟨#[]⟩] 64)) (some g)) := gw_alloc (gw_refl _ _) _
      have HGA : Hid (GlassAt (w.alloc (.cells #[.int .i64 0, .bool false, .int .i64 0, .string ⟨#[]⟩] 64)) g s) := HG.out.alloc _
      have hza : (w.alloc (.cells #[.int .i64 0, .bool false, .int .i64 0, .string ⟨#[]⟩] 64)).heap.size = w.heap.size + 1 := by simp
      generalize w.alloc (.cells #[.int .i64 0, .bool false, .int .i64 0, .string ⟨#[]⟩] 64) = W0 at *
      have HGD : Hid (GlassAt W0.drew g s) := (HGA.out : GlassAt W0 g s)
      have HK : Hid (∀ W, w.grownBy W (some g) → W.cell? ⟨c, 0, none⟩ = some (.pointer (some ⟨g, 0, none⟩)) ∧ w.grownBy W (some g)) := fun W h => ⟨(HC.out.grown h).1, h⟩
      refine nw_lay [(0, false), (2, false), (4, false), (6, false), (1, true), (3, true), (5, true), (7, true), (8, false), (9, true)] (by kernel_rfl) (fun hOrd => ?_)
      refine nw_go (S := (fun W => W.cell? ⟨c, 0, none⟩ = some (.pointer (some ⟨g, 0, none⟩)) ∧ w.grownBy W (some g))) hOrd (by kernel_rfl) (by first | assumption | exact HK.out _ (gw_drew HA.out) | exact HK.out _ hgw0) (fun hHeld => ?_)
      clear hOrd
      iterate 4 (first | ((refine NW.take (v := ?_) rfl (fun _ _ _ h => h) (Or.inl ⟨by rfl, ?_⟩) ?_; rotate_left; focus (intro w hSw; (try dsimp only at hSw); go_simp; (all_goals with_reducible rfl); done)); try simp only [Act.put, List.setIfInBounds_toArray, List.set_cons_zero, List.set_cons_succ, List.getElem_toArray, List.getElem_cons_zero, List.getElem_cons_succ]) | (refine NW.leave rfl (fun _ _ _ h => h) (by rfl) (by assumption) ?_; try simp only [Act.put, List.setIfInBounds_toArray, List.set_cons_zero, List.set_cons_succ, List.getElem_toArray, List.getElem_cons_zero, List.getElem_cons_succ]) | fail "op")
      first
        | (refine NW.leave rfl (fun _ _ _ h => h) (by rfl) (by assumption) ?_; try simp only [Act.put, List.setIfInBounds_toArray, List.set_cons_zero, List.set_cons_succ, List.getElem_toArray, List.getElem_cons_zero, List.getElem_cons_succ])
        | (refine NW.call rfl (fun K hK => ?_); go_simp; (first | (go_at_call 47; refine (H0.out _ HGD.out).mono ?_; rintro e w0 ⟨hgr0, rfl, hg0⟩; have hgw0 : w.grownBy w0 (some g) := gw_trans (gw_drew HA.out) hgr0; have hgz0 : W0.grownBy w0 (some g) := gw_trans (gw_drew (gw_refl _ _)) hgr0; clear H0) | (go_at_call 52; refine (H1.out _ hg0).mono ?_; rintro e w1 ⟨hgr1, rfl⟩; go_wp2_with fail; exact ⟨rfl, gw_trans hgw0 hgr1, rfl⟩)); refine hK.out _ _ (by first | assumption | exact HK.out _ (gw_drew HA.out) | exact HK.out _ hgw0) (fun hHeld => ?_); clear hK K; try simp only [Act.put, List.setIfInBounds_toArray, List.set_cons_zero, List.set_cons_succ, List.getElem_toArray, List.getElem_cons_zero, List.getElem_cons_succ])
        | fail "call"
      (refine NW.call rfl (fun K hK => ?_); go_simp; (first | (go_at_call 47; refine (H0.out _ HGD.out).mono ?_; rintro e w0 ⟨hgr0, rfl, hg0⟩; have hgw0 : w.grownBy w0 (some g) := gw_trans (gw_drew HA.out) hgr0; have hgz0 : W0.grownBy w0 (some g) := gw_trans (gw_drew (gw_refl _ _)) hgr0; clear H0) | (go_at_call 52; refine (H1.out _ hg0).mono ?_; rintro e w1 ⟨hgr1, rfl⟩; go_wp2_with fail; exact ⟨rfl, gw_trans hgw0 hgr1, rfl⟩)))
    · rw [o1] at h1
      have h2 := fun W (h : GlassAt W g r1) => num_any g r1 W h
      rcases o2 : numS r1 with _ | ⟨x2, r2⟩
      · rw [o2] at h2
        rw [show bindS s = none by unfold bindS; simp only [o0, o1, o2, Option.bind_some, Option.bind_none]]
        have H0 := Lib.hid h0
        have H1 := Lib.hid h1
        have H2 := Lib.hid h2
        clear h0 o0 h1 o1 h2 o2
        go_enter Tryd.func51, Tryd.ntmps51
        go_upto_region 1 with fail
        have HZ : Hid (Bk (w.alloc (.cells #[.int .i64 0, .bool false, .int .i64 0, .string ⟨#[]⟩] 64)) w.heap.size 64 #[.int .i64 0, .bool false, .int .i64 0, .string ⟨#[]⟩]) := Bk.new _ _ _
        have HA : Hid (w.grownBy (w.alloc (.cells #[.int .i64 0, .bool false, .int .i64 0, .string ⟨#[]⟩] 64)) (some g)) := gw_alloc (gw_refl _ _) _
        have HGA : Hid (GlassAt (w.alloc (.cells #[.int .i64 0, .bool false, .int .i64 0, .string ⟨#[]⟩] 64)) g s) := HG.out.alloc _
        have hza : (w.alloc (.cells #[.int .i64 0, .bool false, .int .i64 0, .string ⟨#[]⟩] 64)).heap.size = w.heap.size + 1 := by simp
        generalize w.alloc (.cells #[.int .i64 0, .bool false, .int .i64 0, .string ⟨#[]⟩] 64) = W0 at *
        have HGD : Hid (GlassAt W0.drew g s) := (HGA.out : GlassAt W0 g s)
        have HK : Hid (∀ W, w.grownBy W (some g) → W.cell? ⟨c, 0, none⟩ = some (.pointer (some ⟨g, 0, none⟩)) ∧ w.grownBy W (some g)) := fun W h => ⟨(HC.out.grown h).1, h⟩
        refine nw_lay [(0, false), (2, false), (4, false), (6, false), (1, true), (3, true), (5, true), (7, true), (8, false), (9, true)] (by kernel_rfl) (fun hOrd => ?_)
        refine nw_go (S := (fun W => W.cell? ⟨c, 0, none⟩ = some (.pointer (some ⟨g, 0, none⟩)) ∧ w.grownBy W (some g))) hOrd (by kernel_rfl) (by first | assumption | exact HK.out _ (gw_drew HA.out) | exact HK.out _ hgw1 | exact HK.out _ hgw0) (fun hHeld => ?_)
        clear hOrd
        iterate 4 (first | ((refine NW.take (v := ?_) rfl (fun _ _ _ h => h) (Or.inl ⟨by rfl, ?_⟩) ?_; rotate_left; focus (intro w hSw; (try dsimp only at hSw); go_simp; (all_goals with_reducible rfl); done)); try simp only [Act.put, List.setIfInBounds_toArray, List.set_cons_zero, List.set_cons_succ, List.getElem_toArray, List.getElem_cons_zero, List.getElem_cons_succ]) | (refine NW.leave rfl (fun _ _ _ h => h) (by rfl) (by assumption) ?_; try simp only [Act.put, List.setIfInBounds_toArray, List.set_cons_zero, List.set_cons_succ, List.getElem_toArray, List.getElem_cons_zero, List.getElem_cons_succ]) | fail "op")
        first
          | (refine NW.leave rfl (fun _ _ _ h => h) (by rfl) (by assumption) ?_; try simp only [Act.put, List.setIfInBounds_toArray, List.set_cons_zero, List.set_cons_succ, List.getElem_toArray, List.getElem_cons_zero, List.getElem_cons_succ])
          | (refine NW.call rfl (fun K hK => ?_); go_simp; (first | (go_at_call 47; refine (H0.out _ HGD.out).mono ?_; rintro e w0 ⟨hgr0, rfl, hg0⟩; have hgw0 : w.grownBy w0 (some g) := gw_trans (gw_drew HA.out) hgr0; have hgz0 : W0.grownBy w0 (some g) := gw_trans (gw_drew (gw_refl _ _)) hgr0; clear H0) | (go_at_call 52; refine (H1.out _ hg0).mono ?_; rintro e w1 ⟨hgr1, rfl, hg1⟩; have hgw1 : w.grownBy w1 (some g) := gw_trans hgw0 hgr1; have hgz1 : W0.grownBy w1 (some g) := gw_trans hgz0 hgr1; clear H1) | (go_at_call 47; refine (H2.out _ hg1).mono ?_; rintro e w2 ⟨hgr2, rfl⟩; go_wp2_with fail; exact ⟨rfl, gw_trans hgw1 hgr2, rfl⟩)); refine hK.out _ _ (by first | assumption | exact HK.out _ (gw_drew HA.out) | exact HK.out _ hgw1 | exact HK.out _ hgw0) (fun hHeld => ?_); clear hK K; try simp only [Act.put, List.setIfInBounds_toArray, List.set_cons_zero, List.set_cons_succ, List.getElem_toArray, List.getElem_cons_zero, List.getElem_cons_succ])
          | fail "call"
        first
          | (refine NW.leave rfl (fun _ _ _ h => h) (by rfl) (by assumption) ?_; try simp only [Act.put, List.setIfInBounds_toArray, List.set_cons_zero, List.set_cons_succ, List.getElem_toArray, List.getElem_cons_zero, List.getElem_cons_succ])
          | (refine NW.call rfl (fun K hK => ?_); go_simp; (first | (go_at_call 47; refine (H0.out _ HGD.out).mono ?_; rintro e w0 ⟨hgr0, rfl, hg0⟩; have hgw0 : w.grownBy w0 (some g) := gw_trans (gw_drew HA.out) hgr0; have hgz0 : W0.grownBy w0 (some g) := gw_trans (gw_drew (gw_refl _ _)) hgr0; clear H0) | (go_at_call 52; refine (H1.out _ hg0).mono ?_; rintro e w1 ⟨hgr1, rfl, hg1⟩; have hgw1 : w.grownBy w1 (some g) := gw_trans hgw0 hgr1; have hgz1 : W0.grownBy w1 (some g) := gw_trans hgz0 hgr1; clear H1) | (go_at_call 47; refine (H2.out _ hg1).mono ?_; rintro e w2 ⟨hgr2, rfl⟩; go_wp2_with fail; exact ⟨rfl, gw_trans hgw1 hgr2, rfl⟩)); refine hK.out _ _ (by first | assumption | exact HK.out _ (gw_drew HA.out) | exact HK.out _ hgw1 | exact HK.out _ hgw0) (fun hHeld => ?_); clear hK K; try simp only [Act.put, List.setIfInBounds_toArray, List.set_cons_zero, List.set_cons_succ, List.getElem_toArray, List.getElem_cons_zero, List.getElem_cons_succ])
          | fail "call"
        (refine NW.call rfl (fun K hK => ?_); go_simp; (first | (go_at_call 47; refine (H0.out _ HGD.out).mono ?_; rintro e w0 ⟨hgr0, rfl, hg0⟩; have hgw0 : w.grownBy w0 (some g) := gw_trans (gw_drew HA.out) hgr0; have hgz0 : W0.grownBy w0 (some g) := gw_trans (gw_drew (gw_refl _ _)) hgr0; clear H0) | (go_at_call 52; refine (H1.out _ hg0).mono ?_; rintro e w1 ⟨hgr1, rfl, hg1⟩; have hgw1 : w.grownBy w1 (some g) := gw_trans hgw0 hgr1; have hgz1 : W0.grownBy w1 (some g) := gw_trans hgz0 hgr1; clear H1) | (go_at_call 47; refine (H2.out _ hg1).mono ?_; rintro e w2 ⟨hgr2, rfl⟩; go_wp2_with fail; exact ⟨rfl, gw_trans hgw1 hgr2, rfl⟩)))
      · rw [o2] at h2
        have h3 := fun W (h : GlassAt W g r2) => text_any g r2 W h
        rcases o3 : textS r2 with _ | ⟨x3, r3⟩
        · rw [o3] at h3
          rw [show bindS s = none by unfold bindS; simp only [o0, o1, o2, o3, Option.bind_some, Option.bind_none]]
          have H0 := Lib.hid h0
          have H1 := Lib.hid h1
          have H2 := Lib.hid h2
          have H3 := Lib.hid h3
          clear h0 o0 h1 o1 h2 o2 h3 o3
          go_enter Tryd.func51, Tryd.ntmps51
          go_upto_region 1 with fail
          have HZ : Hid (Bk (w.alloc (.cells #[.int .i64 0, .bool false, .int .i64 0, .string ⟨#[]⟩] 64)) w.heap.size 64 #[.int .i64 0, .bool false, .int .i64 0, .string ⟨#[]⟩]) := Bk.new _ _ _
          have HA : Hid (w.grownBy (w.alloc (.cells #[.int .i64 0, .bool false, .int .i64 0, .string ⟨#[]⟩] 64)) (some g)) := gw_alloc (gw_refl _ _) _
          have HGA : Hid (GlassAt (w.alloc (.cells #[.int .i64 0, .bool false, .int .i64 0, .string ⟨#[]⟩] 64)) g s) := HG.out.alloc _
          have hza : (w.alloc (.cells #[.int .i64 0, .bool false, .int .i64 0, .string ⟨#[]⟩] 64)).heap.size = w.heap.size + 1 := by simp
          generalize w.alloc (.cells #[.int .i64 0, .bool false, .int .i64 0, .string ⟨#[]⟩] 64) = W0 at *
          have HGD : Hid (GlassAt W0.drew g s) := (HGA.out : GlassAt W0 g s)
          have HK : Hid (∀ W, w.grownBy W (some g) → W.cell? ⟨c, 0, none⟩ = some (.pointer (some ⟨g, 0, none⟩)) ∧ w.grownBy W (some g)) := fun W h => ⟨(HC.out.grown h).1, h⟩
          refine nw_lay [(0, false), (2, false), (4, false), (6, false), (1, true), (3, true), (5, true), (7, true), (8, false), (9, true)] (by kernel_rfl) (fun hOrd => ?_)
          refine nw_go (S := (fun W => W.cell? ⟨c, 0, none⟩ = some (.pointer (some ⟨g, 0, none⟩)) ∧ w.grownBy W (some g))) hOrd (by kernel_rfl) (by first | assumption | exact HK.out _ (gw_drew HA.out) | exact HK.out _ hgw2 | exact HK.out _ hgw1 | exact HK.out _ hgw0) (fun hHeld => ?_)
          clear hOrd
          iterate 4 (first | ((refine NW.take (v := ?_) rfl (fun _ _ _ h => h) (Or.inl ⟨by rfl, ?_⟩) ?_; rotate_left; focus (intro w hSw; (try dsimp only at hSw); go_simp; (all_goals with_reducible rfl); done)); try simp only [Act.put, List.setIfInBounds_toArray, List.set_cons_zero, List.set_cons_succ, List.getElem_toArray, List.getElem_cons_zero, List.getElem_cons_succ]) | (refine NW.leave rfl (fun _ _ _ h => h) (by rfl) (by assumption) ?_; try simp only [Act.put, List.setIfInBounds_toArray, List.set_cons_zero, List.set_cons_succ, List.getElem_toArray, List.getElem_cons_zero, List.getElem_cons_succ]) | fail "op")
          first
            | (refine NW.leave rfl (fun _ _ _ h => h) (by rfl) (by assumption) ?_; try simp only [Act.put, List.setIfInBounds_toArray, List.set_cons_zero, List.set_cons_succ, List.getElem_toArray, List.getElem_cons_zero, List.getElem_cons_succ])
            | (refine NW.call rfl (fun K hK => ?_); go_simp; (first | (go_at_call 47; refine (H0.out _ HGD.out).mono ?_; rintro e w0 ⟨hgr0, rfl, hg0⟩; have hgw0 : w.grownBy w0 (some g) := gw_trans (gw_drew HA.out) hgr0; have hgz0 : W0.grownBy w0 (some g) := gw_trans (gw_drew (gw_refl _ _)) hgr0; clear H0) | (go_at_call 52; refine (H1.out _ hg0).mono ?_; rintro e w1 ⟨hgr1, rfl, hg1⟩; have hgw1 : w.grownBy w1 (some g) := gw_trans hgw0 hgr1; have hgz1 : W0.grownBy w1 (some g) := gw_trans hgz0 hgr1; clear H1) | (go_at_call 47; refine (H2.out _ hg1).mono ?_; rintro e w2 ⟨hgr2, rfl, hg2⟩; have hgw2 : w.grownBy w2 (some g) := gw_trans hgw1 hgr2; have hgz2 : W0.grownBy w2 (some g) := gw_trans hgz1 hgr2; clear H2) | (go_at_call 46; refine (H3.out _ hg2).mono ?_; rintro e w3 ⟨hgr3, rfl⟩; go_wp2_with fail; exact ⟨rfl, gw_trans hgw2 hgr3, rfl⟩)); refine hK.out _ _ (by first | assumption | exact HK.out _ (gw_drew HA.out) | exact HK.out _ hgw2 | exact HK.out _ hgw1 | exact HK.out _ hgw0) (fun hHeld => ?_); clear hK K; try simp only [Act.put, List.setIfInBounds_toArray, List.set_cons_zero, List.set_cons_succ, List.getElem_toArray, List.getElem_cons_zero, List.getElem_cons_succ])
            | fail "call"
          first
            | (refine NW.leave rfl (fun _ _ _ h => h) (by rfl) (by assumption) ?_; try simp only [Act.put, List.setIfInBounds_toArray, List.set_cons_zero, List.set_cons_succ, List.getElem_toArray, List.getElem_cons_zero, List.getElem_cons_succ])
            | (refine NW.call rfl (fun K hK => ?_); go_simp; (first | (go_at_call 47; refine (H0.out _ HGD.out).mono ?_; rintro e w0 ⟨hgr0, rfl, hg0⟩; have hgw0 : w.grownBy w0 (some g) := gw_trans (gw_drew HA.out) hgr0; have hgz0 : W0.grownBy w0 (some g) := gw_trans (gw_drew (gw_refl _ _)) hgr0; clear H0) | (go_at_call 52; refine (H1.out _ hg0).mono ?_; rintro e w1 ⟨hgr1, rfl, hg1⟩; have hgw1 : w.grownBy w1 (some g) := gw_trans hgw0 hgr1; have hgz1 : W0.grownBy w1 (some g) := gw_trans hgz0 hgr1; clear H1) | (go_at_call 47; refine (H2.out _ hg1).mono ?_; rintro e w2 ⟨hgr2, rfl, hg2⟩; have hgw2 : w.grownBy w2 (some g) := gw_trans hgw1 hgr2; have hgz2 : W0.grownBy w2 (some g) := gw_trans hgz1 hgr2; clear H2) | (go_at_call 46; refine (H3.out _ hg2).mono ?_; rintro e w3 ⟨hgr3, rfl⟩; go_wp2_with fail; exact ⟨rfl, gw_trans hgw2 hgr3, rfl⟩)); refine hK.out _ _ (by first | assumption | exact HK.out _ (gw_drew HA.out) | exact HK.out _ hgw2 | exact HK.out _ hgw1 | exact HK.out _ hgw0) (fun hHeld => ?_); clear hK K; try simp only [Act.put, List.setIfInBounds_toArray, List.set_cons_zero, List.set_cons_succ, List.getElem_toArray, List.getElem_cons_zero, List.getElem_cons_succ])
            | fail "call"
          first
            | (refine NW.leave rfl (fun _ _ _ h => h) (by rfl) (by assumption) ?_; try simp only [Act.put, List.setIfInBounds_toArray, List.set_cons_zero, List.set_cons_succ, List.getElem_toArray, List.getElem_cons_zero, List.getElem_cons_succ])
            | (refine NW.call rfl (fun K hK => ?_); go_simp; (first | (go_at_call 47; refine (H0.out _ HGD.out).mono ?_; rintro e w0 ⟨hgr0, rfl, hg0⟩; have hgw0 : w.grownBy w0 (some g) := gw_trans (gw_drew HA.out) hgr0; have hgz0 : W0.grownBy w0 (some g) := gw_trans (gw_drew (gw_refl _ _)) hgr0; clear H0) | (go_at_call 52; refine (H1.out _ hg0).mono ?_; rintro e w1 ⟨hgr1, rfl, hg1⟩; have hgw1 : w.grownBy w1 (some g) := gw_trans hgw0 hgr1; have hgz1 : W0.grownBy w1 (some g) := gw_trans hgz0 hgr1; clear H1) | (go_at_call 47; refine (H2.out _ hg1).mono ?_; rintro e w2 ⟨hgr2, rfl, hg2⟩; have hgw2 : w.grownBy w2 (some g) := gw_trans hgw1 hgr2; have hgz2 : W0.grownBy w2 (some g) := gw_trans hgz1 hgr2; clear H2) | (go_at_call 46; refine (H3.out _ hg2).mono ?_; rintro e w3 ⟨hgr3, rfl⟩; go_wp2_with fail; exact ⟨rfl, gw_trans hgw2 hgr3, rfl⟩)); refine hK.out _ _ (by first | assumption | exact HK.out _ (gw_drew HA.out) | exact HK.out _ hgw2 | exact HK.out _ hgw1 | exact HK.out _ hgw0) (fun hHeld => ?_); clear hK K; try simp only [Act.put, List.setIfInBounds_toArray, List.set_cons_zero, List.set_cons_succ, List.getElem_toArray, List.getElem_cons_zero, List.getElem_cons_succ])
            | fail "call"
          (refine NW.call rfl (fun K hK => ?_); go_simp; (first | (go_at_call 47; refine (H0.out _ HGD.out).mono ?_; rintro e w0 ⟨hgr0, rfl, hg0⟩; have hgw0 : w.grownBy w0 (some g) := gw_trans (gw_drew HA.out) hgr0; have hgz0 : W0.grownBy w0 (some g) := gw_trans (gw_drew (gw_refl _ _)) hgr0; clear H0) | (go_at_call 52; refine (H1.out _ hg0).mono ?_; rintro e w1 ⟨hgr1, rfl, hg1⟩; have hgw1 : w.grownBy w1 (some g) := gw_trans hgw0 hgr1; have hgz1 : W0.grownBy w1 (some g) := gw_trans hgz0 hgr1; clear H1) | (go_at_call 47; refine (H2.out _ hg1).mono ?_; rintro e w2 ⟨hgr2, rfl, hg2⟩; have hgw2 : w.grownBy w2 (some g) := gw_trans hgw1 hgr2; have hgz2 : W0.grownBy w2 (some g) := gw_trans hgz1 hgr2; clear H2) | (go_at_call 46; refine (H3.out _ hg2).mono ?_; rintro e w3 ⟨hgr3, rfl⟩; go_wp2_with fail; exact ⟨rfl, gw_trans hgw2 hgr3, rfl⟩)))
        · rw [o3] at h3
          rw [show bindS s = some (⟨(x0 : Int), x1, (x2 : Int), x3⟩, r3) by unfold bindS; simp only [o0, o1, o2, o3, Option.bind_some, Option.bind_none]]
          have H0 := Lib.hid h0
          have H1 := Lib.hid h1
          have H2 := Lib.hid h2
          have H3 := Lib.hid h3
          clear h0 o0 h1 o1 h2 o2 h3 o3
          go_enter Tryd.func51, Tryd.ntmps51
          go_upto_region 1 with fail
          have HZ : Hid (Bk (w.alloc (.cells #[.int .i64 0, .bool false, .int .i64 0, .string ⟨#[]⟩] 64)) w.heap.size 64 #[.int .i64 0, .bool false, .int .i64 0, .string ⟨#[]⟩]) := Bk.new _ _ _
          have HA : Hid (w.grownBy (w.alloc (.cells #[.int .i64 0, .bool false, .int .i64 0, .string ⟨#[]⟩] 64)) (some g)) := gw_alloc (gw_refl _ _) _
          have HGA : Hid (GlassAt (w.alloc (.cells #[.int .i64 0, .bool false, .int .i64 0, .string ⟨#[]⟩] 64)) g s) := HG.out.alloc _
          have hza : (w.alloc (.cells #[.int .i64 0, .bool false, .int .i64 0, .string ⟨#[]⟩] 64)).heap.size = w.heap.size + 1 := by simp
          generalize w.alloc (.cells #[.int .i64 0, .bool false, .int .i64 0, .string ⟨#[]⟩] 64) = W0 at *
          have HGD : Hid (GlassAt W0.drew g s) := (HGA.out : GlassAt W0 g s)
          have HK : Hid (∀ W, w.grownBy W (some g) → W.cell? ⟨c, 0, none⟩ = some (.pointer (some ⟨g, 0, none⟩)) ∧ w.grownBy W (some g)) := fun W h => ⟨(HC.out.grown h).1, h⟩
          refine nw_lay [(0, false), (2, false), (4, false), (6, false), (1, true), (3, true), (5, true), (7, true), (8, false), (9, true)] (by kernel_rfl) (fun hOrd => ?_)
          have hgne : g ≠ w.heap.size := by omega
          refine nw_go (S := (fun W => W.cell? ⟨c, 0, none⟩ = some (.pointer (some ⟨g, 0, none⟩)) ∧ w.grownBy W (some g))) hOrd (by kernel_rfl) (by first | assumption | exact HK.out _ (gw_drew HA.out) | exact HK.out _ hgw3 | exact HK.out _ hgw2 | exact HK.out _ hgw1 | exact HK.out _ hgw0 | exact HK.out _ (hgw3)) (fun hHeld => ?_)
          clear hOrd
          iterate 4 (first | ((refine NW.take (v := ?_) rfl (fun _ _ _ h => h) (Or.inl ⟨by rfl, ?_⟩) ?_; rotate_left; focus (intro w hSw; (try dsimp only at hSw); go_simp; (all_goals with_reducible rfl); done)); try simp only [Act.put, List.setIfInBounds_toArray, List.set_cons_zero, List.set_cons_succ, List.getElem_toArray, List.getElem_cons_zero, List.getElem_cons_succ]) | (refine NW.leave rfl (fun _ _ _ h => h) (by rfl) (by assumption) ?_; try simp only [Act.put, List.setIfInBounds_toArray, List.set_cons_zero, List.set_cons_succ, List.getElem_toArray, List.getElem_cons_zero, List.getElem_cons_succ]) | fail "op")
          first
            | (refine NW.leave rfl (fun _ _ _ h => h) (by rfl) (by assumption) ?_; try simp only [Act.put, List.setIfInBounds_toArray, List.set_cons_zero, List.set_cons_succ, List.getElem_toArray, List.getElem_cons_zero, List.getElem_cons_succ])
            | (refine NW.call rfl (fun K hK => ?_); go_simp; (first | (go_at_call 47; refine (H0.out _ HGD.out).mono ?_; rintro e w0 ⟨hgr0, rfl, hg0⟩; have hgw0 : w.grownBy w0 (some g) := gw_trans (gw_drew HA.out) hgr0; have hgz0 : W0.grownBy w0 (some g) := gw_trans (gw_drew (gw_refl _ _)) hgr0; clear H0) | (go_at_call 52; refine (H1.out _ hg0).mono ?_; rintro e w1 ⟨hgr1, rfl, hg1⟩; have hgw1 : w.grownBy w1 (some g) := gw_trans hgw0 hgr1; have hgz1 : W0.grownBy w1 (some g) := gw_trans hgz0 hgr1; clear H1) | (go_at_call 47; refine (H2.out _ hg1).mono ?_; rintro e w2 ⟨hgr2, rfl, hg2⟩; have hgw2 : w.grownBy w2 (some g) := gw_trans hgw1 hgr2; have hgz2 : W0.grownBy w2 (some g) := gw_trans hgz1 hgr2; clear H2) | (go_at_call 46; refine (H3.out _ hg2).mono ?_; rintro e w3 ⟨hgr3, rfl, hg3⟩; have hgw3 : w.grownBy w3 (some g) := gw_trans hgw2 hgr3; have hgz3 : W0.grownBy w3 (some g) := gw_trans hgz2 hgr3; clear H3)); refine hK.out _ _ (by first | assumption | exact HK.out _ (gw_drew HA.out) | exact HK.out _ hgw3 | exact HK.out _ hgw2 | exact HK.out _ hgw1 | exact HK.out _ hgw0 | exact HK.out _ (hgw3)) (fun hHeld => ?_); clear hK K; try simp only [Act.put, List.setIfInBounds_toArray, List.set_cons_zero, List.set_cons_succ, List.getElem_toArray, List.getElem_cons_zero, List.getElem_cons_succ])
            | fail "call"
          first
            | (refine NW.leave rfl (fun _ _ _ h => h) (by rfl) (by assumption) ?_; try simp only [Act.put, List.setIfInBounds_toArray, List.set_cons_zero, List.set_cons_succ, List.getElem_toArray, List.getElem_cons_zero, List.getElem_cons_succ])
            | (refine NW.call rfl (fun K hK => ?_); go_simp; (first | (go_at_call 47; refine (H0.out _ HGD.out).mono ?_; rintro e w0 ⟨hgr0, rfl, hg0⟩; have hgw0 : w.grownBy w0 (some g) := gw_trans (gw_drew HA.out) hgr0; have hgz0 : W0.grownBy w0 (some g) := gw_trans (gw_drew (gw_refl _ _)) hgr0; clear H0) | (go_at_call 52; refine (H1.out _ hg0).mono ?_; rintro e w1 ⟨hgr1, rfl, hg1⟩; have hgw1 : w.grownBy w1 (some g) := gw_trans hgw0 hgr1; have hgz1 : W0.grownBy w1 (some g) := gw_trans hgz0 hgr1; clear H1) | (go_at_call 47; refine (H2.out _ hg1).mono ?_; rintro e w2 ⟨hgr2, rfl, hg2⟩; have hgw2 : w.grownBy w2 (some g) := gw_trans hgw1 hgr2; have hgz2 : W0.grownBy w2 (some g) := gw_trans hgz1 hgr2; clear H2) | (go_at_call 46; refine (H3.out _ hg2).mono ?_; rintro e w3 ⟨hgr3, rfl, hg3⟩; have hgw3 : w.grownBy w3 (some g) := gw_trans hgw2 hgr3; have hgz3 : W0.grownBy w3 (some g) := gw_trans hgz2 hgr3; clear H3)); refine hK.out _ _ (by first | assumption | exact HK.out _ (gw_drew HA.out) | exact HK.out _ hgw3 | exact HK.out _ hgw2 | exact HK.out _ hgw1 | exact HK.out _ hgw0 | exact HK.out _ (hgw3)) (fun hHeld => ?_); clear hK K; try simp only [Act.put, List.setIfInBounds_toArray, List.set_cons_zero, List.set_cons_succ, List.getElem_toArray, List.getElem_cons_zero, List.getElem_cons_succ])
            | fail "call"
          first
            | (refine NW.leave rfl (fun _ _ _ h => h) (by rfl) (by assumption) ?_; try simp only [Act.put, List.setIfInBounds_toArray, List.set_cons_zero, List.set_cons_succ, List.getElem_toArray, List.getElem_cons_zero, List.getElem_cons_succ])
            | (refine NW.call rfl (fun K hK => ?_); go_simp; (first | (go_at_call 47; refine (H0.out _ HGD.out).mono ?_; rintro e w0 ⟨hgr0, rfl, hg0⟩; have hgw0 : w.grownBy w0 (some g) := gw_trans (gw_drew HA.out) hgr0; have hgz0 : W0.grownBy w0 (some g) := gw_trans (gw_drew (gw_refl _ _)) hgr0; clear H0) | (go_at_call 52; refine (H1.out _ hg0).mono ?_; rintro e w1 ⟨hgr1, rfl, hg1⟩; have hgw1 : w.grownBy w1 (some g) := gw_trans hgw0 hgr1; have hgz1 : W0.grownBy w1 (some g) := gw_trans hgz0 hgr1; clear H1) | (go_at_call 47; refine (H2.out _ hg1).mono ?_; rintro e w2 ⟨hgr2, rfl, hg2⟩; have hgw2 : w.grownBy w2 (some g) := gw_trans hgw1 hgr2; have hgz2 : W0.grownBy w2 (some g) := gw_trans hgz1 hgr2; clear H2) | (go_at_call 46; refine (H3.out _ hg2).mono ?_; rintro e w3 ⟨hgr3, rfl, hg3⟩; have hgw3 : w.grownBy w3 (some g) := gw_trans hgw2 hgr3; have hgz3 : W0.grownBy w3 (some g) := gw_trans hgz2 hgr3; clear H3)); refine hK.out _ _ (by first | assumption | exact HK.out _ (gw_drew HA.out) | exact HK.out _ hgw3 | exact HK.out _ hgw2 | exact HK.out _ hgw1 | exact HK.out _ hgw0 | exact HK.out _ (hgw3)) (fun hHeld => ?_); clear hK K; try simp only [Act.put, List.setIfInBounds_toArray, List.set_cons_zero, List.set_cons_succ, List.getElem_toArray, List.getElem_cons_zero, List.getElem_cons_succ])
            | fail "call"
          first
            | (refine NW.leave rfl (fun _ _ _ h => h) (by rfl) (by assumption) ?_; try simp only [Act.put, List.setIfInBounds_toArray, List.set_cons_zero, List.set_cons_succ, List.getElem_toArray, List.getElem_cons_zero, List.getElem_cons_succ])
            | (refine NW.call rfl (fun K hK => ?_); go_simp; (first | (go_at_call 47; refine (H0.out _ HGD.out).mono ?_; rintro e w0 ⟨hgr0, rfl, hg0⟩; have hgw0 : w.grownBy w0 (some g) := gw_trans (gw_drew HA.out) hgr0; have hgz0 : W0.grownBy w0 (some g) := gw_trans (gw_drew (gw_refl _ _)) hgr0; clear H0) | (go_at_call 52; refine (H1.out _ hg0).mono ?_; rintro e w1 ⟨hgr1, rfl, hg1⟩; have hgw1 : w.grownBy w1 (some g) := gw_trans hgw0 hgr1; have hgz1 : W0.grownBy w1 (some g) := gw_trans hgz0 hgr1; clear H1) | (go_at_call 47; refine (H2.out _ hg1).mono ?_; rintro e w2 ⟨hgr2, rfl, hg2⟩; have hgw2 : w.grownBy w2 (some g) := gw_trans hgw1 hgr2; have hgz2 : W0.grownBy w2 (some g) := gw_trans hgz1 hgr2; clear H2) | (go_at_call 46; refine (H3.out _ hg2).mono ?_; rintro e w3 ⟨hgr3, rfl, hg3⟩; have hgw3 : w.grownBy w3 (some g) := gw_trans hgw2 hgr3; have hgz3 : W0.grownBy w3 (some g) := gw_trans hgz2 hgr3; clear H3)); refine hK.out _ _ (by first | assumption | exact HK.out _ (gw_drew HA.out) | exact HK.out _ hgw3 | exact HK.out _ hgw2 | exact HK.out _ hgw1 | exact HK.out _ hgw0 | exact HK.out _ (hgw3)) (fun hHeld => ?_); clear hK K; try simp only [Act.put, List.setIfInBounds_toArray, List.set_cons_zero, List.set_cons_succ, List.getElem_toArray, List.getElem_cons_zero, List.getElem_cons_succ])
            | fail "call"
          (first | ((refine NW.take (v := ?_) rfl (fun _ _ _ h => h) (Or.inl ⟨by rfl, ?_⟩) ?_; rotate_left; focus (intro w hSw; (try dsimp only at hSw); go_simp; (all_goals with_reducible rfl); done)); try simp only [Act.put, List.setIfInBounds_toArray, List.set_cons_zero, List.set_cons_succ, List.getElem_toArray, List.getElem_cons_zero, List.getElem_cons_succ]) | (refine NW.leave rfl (fun _ _ _ h => h) (by rfl) (by assumption) ?_; try simp only [Act.put, List.setIfInBounds_toArray, List.set_cons_zero, List.set_cons_succ, List.getElem_toArray, List.getElem_cons_zero, List.getElem_cons_succ]) | fail "op")
          have hbk := HZ.out.grown hgz3 (by simp; omega)
          have hlt2 := hbk.lt
          have k0 := hbk.cell 0; have f0 := hbk.frozen 0
          have k1 := hbk.cell 1; have f1 := hbk.frozen 1
          have k2 := hbk.cell 2; have f2 := hbk.frozen 2
          have k3 := hbk.cell 3; have f3 := hbk.frozen 3
          simp only [List.getElem?_toArray, List.getElem?_cons_zero, List.getElem?_cons_succ] at k0 k1 k2 k3
          clear hbk
          (refine NW.call (i := 9) rfl (fun K hK => ?_); go_simp; refine hK.out _ _ (by exact HK.out _ (gw_past (gw_past (gw_past (gw_past (hgw3) (Nat.le_refl _) _ _) (Nat.le_refl _) _ _) (Nat.le_refl _) _ _) (Nat.le_refl _) _ _)) (fun hHeld => ?_); clear hK K)
          refine NW.done ?_
          go_wp2_with fail
          refine bodyPost_ret (v := .agg #[.int .i64 (x0 : Int), .bool x1, .int .i64 (x2 : Int), .string x3]) (by simp [results, Tryd.results51, go_sem, k0, k1, k2, k3, hlt2]) rfl ⟨gw_past (gw_past (gw_past (gw_past (hgw3) (Nat.le_refl _) _ _) (Nat.le_refl _) _ _) (Nat.le_refl _) _ _) (Nat.le_refl _) _ _, rfl, GlassAt.far (GlassAt.far (GlassAt.far (GlassAt.far (hg3) hgne _ _) hgne _ _) hgne _ _) hgne _ _⟩

end Go.Proofs.YtapimpmpjighmaaDoor
