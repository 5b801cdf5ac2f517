/-
  Walk of the reference's PlanBytes.
-/
import Derived.Test.YtapimpmpjighmaaDoorWireH
import Derived.Test.YtapimpmpjighmaaDoorLinesB
import Derived.Deep.RegionHeld3
import Derived.IntWalk
namespace Go.Proofs.YtapimpmpjighmaaDoor
open Go.RowKit
set_option maxRecDepth 100000

theorem bytes_wp {W : World} {B : Nat} {o : Oper} {a : Act} {K : Act → World → Prop} {Q : Exit → Act → World → Prop} (s x : Operand) (ho : o.op = .call { callee := .builtin .append, args := #[s, x], argTypes := #[76, 76] }) {v : Value} {n : Nat} {us : List Value} (hs : a.eval s = v) (hown : W.ownsRow B 5 1 v n us)
    {ad : Option Addr} {m c lo : Nat} (hx : a.eval x = .slice ad m c) (hBW : B ≤ W.heap.size) {news : List Value} (hn : news.length = m) (hm : n + m ≤ 4294967296) (hsl : Sl W lo W.heap.size ad news) (h1 : ∀ u ∈ news, u.oneCell' = true)
    (h : ∀ v' w', w'.ownsRow B 5 1 v' (n + m) (us ++ news) → W.grownBy w' v.ownBlock → K (a.put o.dst v') w') : o.wp Tryd.prog a W K Q := by
  obtain ⟨v', w', hr, ho', hg⟩ := run_appendS (P := Tryd.prog) W B 76 o.type 5 Tryd.underlying76 infoU8 rfl (by decide) (by decide) v n us hown lo W.heap.size ad m c news (by omega) hsl h1 hm hBW
  exact Lib.wp_append_run W s x _ _ ho _ _ hs hx _ _ hr (h _ w' ho' hg)
theorem byteV_one (l : List UInt8) : ∀ u ∈ l.map byteV, u.oneCell' = true := by
  intro u hu
  obtain ⟨b, _, rfl⟩ := List.mem_map.1 hu
  rfl
/-- What lies in new blocks is kept where an old block is written. -/
theorem sl_fresh {W W' : World} {lo hi : Nat} {a : Option Addr} {us : List Value} {row : Option Nat} (h : Sl W lo hi a us) (hg : W.grownBy W' row) (hr : ∀ k, row = some k → k < lo) (hhi : hi ≤ W.heap.size) : Sl W' lo hi a us := by
  rcases h with h | ⟨b, o, rfl, h1, h2, hc⟩
  · exact .inl h
  · exact .inr ⟨b, o, rfl, h1, h2, fun j u hu => hg.cell (hc j u hu) (fun e => by have := hr b e.symm; omega)⟩

theorem sl_alloc {w : World} {lo : Nat} {a : Option Addr} {us : List Value} (h : Sl w lo w.heap.size a us) (o : Obj) : Sl (w.alloc o) lo (w.alloc o).heap.size a us :=
  (h.below ((Below.refl _ w).alloc (Nat.le_refl _) o) (Nat.le_refl _)).wider (Nat.le_refl _) (by simp)
theorem below_since {C : Prop} {B : Nat} {w0 w w1 : World} {base : Nat} {e : TypeId} {size n : Nat} {v : Value} {us : List Value} (hW : C ∧ Below B w0 w) (hown : w.ownsRow base e size v n us) (hg : w.grownBy w1 v.ownBlock) (h1 : B ≤ base) (h2 : B ≤ w0.heap.size) : Below B w0 w1 :=
  below_own hown hg hW.2 h1 (Nat.le_trans h2 hW.2.size)

def BRel {α : Type} (l : List α) (f : α → List AnyD) (hd : List UInt8) (B : Nat) (W0 : World) (v i : Value) (wr : World) : Prop :=
  ∃ j : Nat, j ≤ l.length ∧ i = .int .i64 j ∧ wr.ownsRow B 5 1 v (hd ++ (l.take j).flatMap (fun x => encsB (f x))).length ((hd ++ (l.take j).flatMap (fun x => encsB (f x))).map byteV) ∧ Below B W0 wr

set_option maxHeartbeats 4000000 in
theorem PlanBytes_any (p : PlanD) (a1 a2 a3 : Option Addr) (c1 c2 c3 : Nat) (w : World) (hp : PlanAt w 0 w.heap.size a1 a2 a3 p) (hps : PlanSmall p) (hc : checkP p = 0) :
    Calls Tryd.prog 13 #[planV p a1 a2 a3 c1 c2 c3] w fun e w' => e = .returned (.string (writeS p)) ∧ Below w.heap.size w w' := by
  have hbx := boxed_new hp c1 c2 c3 26
  unfold planV
  have HS := Lib.hid hps
  have hright := checkP_right hc
  have hn1 := hright.posts; have hn2 := hright.queues; have hn3 := hright.binds
  have HR := Lib.hid hright
  clear hp hps hright hc
  go_enter Tryd.func13, Tryd.ntmps13
  obtain ⟨m20, m21, m22⟩ := (hbx _ (Below.refl _ _)).2.1
  have hlt0 := World.block_lt_of_cell? _ _ m20
  have hz0 : (w.alloc (.cells #[Value.slice a1 p.posts.length c1, Value.slice a2 p.queues.length c2, Value.slice a3 p.binds.length c3] 26)).heap.size = w.heap.size + 1 := by simp
  have HZ0 := Lib.hid hz0
  clear hz0
  have HBX := Lib.hid hbx; clear hbx
  go_wp2_with fail
  clear m20 m21 m22
  generalize w.alloc (.cells #[Value.slice a1 p.posts.length c1, Value.slice a2 p.queues.length c2, Value.slice a3 p.binds.length c3] 26) = W0 at *
  have BP1 := Lib.hid (take_flat_len (j := p.posts.length) (post_bytes HS.out))
  have BP2 := Lib.hid (take_flat_len (j := p.queues.length) (queue_bytes HS.out))
  rw [List.take_length] at BP1 BP2
  go_loopw [3, 4] (fun v i wr => BRel p.posts anyPost (encsB [.int p.posts.length]) W0.heap.size W0 v i wr) (fun _ i _ => p.posts.length - (intOf i).toNat)
  case atStart =>
    refine ⟨0, by omega, rfl, ?_, (Below.refl _ _).alloc (Nat.le_refl _) _⟩
    have := World.ownsRow_lit W0 #[.int .u8 ((p.posts.length : Int) % 256)] 1 (base := W0.heap.size) (e := 5) (size := 1) (Nat.le_refl _) (by unfold maxLen; omega) rfl
    have e4 : (p.posts.length : Int) % 256 = (p.posts.length : Int) := by omega
    rw [← HZ0.out]
    simpa [encsB, encB, byteV, byteN_toNat, e4] using this
  case round =>
    obtain ⟨j, hj, rfl, hown, hB⟩ := hrel
    have HO := Lib.hid hown
    have HB := Lib.hid hB
    obtain ⟨va, vc, rfl, _⟩ := own_slice hown
    clear hown hB
    obtain ⟨hpat, ⟨m20, m21, m22⟩, _⟩ := HBX.out _ HB.out
    by_cases hjl : j < p.posts.length
    · obtain ⟨b, o, ha, _, hb, hcl⟩ := sl_elem vPost_len (by decide) hpat.posts hjl
      have hkb : ∀ W, Below W0.heap.size W0 W → W.cell? ⟨b, o + j * 2, none⟩ = some (.string p.posts[j].name) ∧ W.cell? ⟨b, o + j * 2 + 1, none⟩ = some (.int .i64 p.posts[j].kind) := fun W hW => by
        have k0 : wr.cell? ⟨b, o + j * 2, none⟩ = _ := hcl 0 _ rfl
        have k1 : wr.cell? ⟨b, o + j * 2 + 1, none⟩ = _ := hcl 1 _ rfl
        have e1 := (HB.out.cell (p := ⟨b, o + j * 2, none⟩) hb).symm.trans k0
        have e2 := (HB.out.cell (p := ⟨b, o + j * 2 + 1, none⟩) hb).symm.trans k1
        exact ⟨(hW.cell (p := ⟨b, o + j * 2, none⟩) hb).trans e1, (hW.cell (p := ⟨b, o + j * 2 + 1, none⟩) hb).trans e2⟩
      have hnm := HS.out.post _ (List.getElem_mem hjl)
      have hby := post_bytes HS.out _ (List.getElem_mem hjl)
      have htk := take_flat_len (j := j) (post_bytes HS.out)
      have hnx := flat_next (f := anyPost) (hd := encsB [.int p.posts.length]) hjl
      have HKB := Lib.hid hkb
      clear hcl hpat hkb
      generalize p.posts[j] = x at *
      generalize hLL : encsB [.int p.posts.length] ++ (p.posts.take j).flatMap (fun x => encsB (anyPost x)) = L at *
      have hLn : L.length ≤ 20000000 := by
        rw [← hLL, List.length_append]
        have e0 : (encsB [.int (p.posts.length : Int)]).length = 1 := by simp [encsB, encB]
        omega
      have HNX := Lib.hid hnx
      subst ha
      have HK : Hid (∀ W, Below W0.heap.size W0 W → (W.cell? ⟨w.heap.size, 0, none⟩ = some (.slice (some ⟨b, o, none⟩) p.posts.length c1) ∧ W.cell? ⟨b, o + j * 2, none⟩ = some (.string x.name) ∧ W.cell? ⟨b, o + j * 2 + 1, none⟩ = some (.int .i64 x.kind)) ∧ Below W0.heap.size W0 W) := fun W hW => ⟨⟨(HBX.out _ hW).2.1.1, HKB.out W hW⟩, hW⟩
      obtain ⟨tl, htl⟩ : ∃ tl, tl = encB (.str x.name) := ⟨_, rfl⟩
      have HT : Hid (∀ W, (∃ C : Prop, C ∧ Below W0.heap.size W0 W) → Calls Tryd.prog 42 #[.string x.name] W fun e w' => ∃ ta tc, e = .returned (.slice ta tl.length tc) ∧ Sl w' W.heap.size w'.heap.size ta (tl.map byteV) ∧ Below W.heap.size W w') := fun W _ => by
        refine (texted_any x.name W hnm).mono ?_
        rintro e w' ⟨v, rfl, ho, hb⟩
        rw [← htl] at ho
        obtain ⟨ta, tc, rfl, _⟩ := own_slice ho
        exact ⟨ta, tc, rfl, Sl.of_own ho, hb⟩
      have htl2 : tl.length ≤ 1048600 := by rw [htl]; simp only [encB, List.length_append, List.length_cons, List.length_nil, Array.length_toList]; have : x.name.data.size = x.name.size := rfl; omega
      have HTL := Lib.hid htl
      clear htl
      have hown0 := HO.out
      have hw0 := HB.out.size
      clear hnx hby htk
      go_upto_region 5 with fail
      clear m20 m21 m22
      refine wp_region_held_drew (S := (fun W => (W.cell? ⟨w.heap.size, 0, none⟩ = some (.slice (some ⟨b, o, none⟩) p.posts.length c1) ∧ W.cell? ⟨b, o + j * 2, none⟩ = some (.string x.name) ∧ W.cell? ⟨b, o + j * 2 + 1, none⟩ = some (.int .i64 x.kind)) ∧ Below W0.heap.size W0 W)) (by kernel_rfl) (by first | assumption | exact HK.out _ HB.out.drew) (fun hHeld => ?_)
      first | (refine wpAnyH_take (i := 0) (v := ?_) rfl (by kernel_rfl) (by kernel_rfl) (by kernel_rfl) (fun _ _ _ h => h) (Or.inl ⟨by rfl, ?_⟩) (by assumption) ?_; rotate_left; focus (intro w hSw; (try dsimp only at hSw); go_simp; (all_goals with_reducible rfl); done)) | (refine wpAnyH_take (i := 0) rfl (by kernel_rfl) (by kernel_rfl) (by kernel_rfl) (fun _ _ _ h => h) (Or.inr ⟨by rfl, rfl⟩) (by assumption) ?_) | fail "op 0"
      try simp only [Act.put, List.setIfInBounds_toArray, List.set_cons_zero, List.set_cons_succ, List.getElem_toArray, List.getElem_cons_zero]
      first | (refine wpAnyH_take (i := 1) (v := ?_) rfl (by kernel_rfl) (by kernel_rfl) (by kernel_rfl) (fun _ _ _ h => h) (Or.inl ⟨by rfl, ?_⟩) (by assumption) ?_; rotate_left; focus (intro w hSw; (try dsimp only at hSw); go_simp; (all_goals with_reducible rfl); done)) | (refine wpAnyH_take (i := 1) rfl (by kernel_rfl) (by kernel_rfl) (by kernel_rfl) (fun _ _ _ h => h) (Or.inr ⟨by rfl, rfl⟩) (by assumption) ?_) | fail "op 1"
      try simp only [Act.put, List.setIfInBounds_toArray, List.set_cons_zero, List.set_cons_succ, List.getElem_toArray, List.getElem_cons_zero, List.getElem_cons_succ]
      first | (refine wpAnyH_take (i := 2) (v := ?_) rfl (by kernel_rfl) (by kernel_rfl) (by kernel_rfl) (fun _ _ _ h => h) (Or.inl ⟨by rfl, ?_⟩) (by assumption) ?_; rotate_left; focus (intro w hSw; (try dsimp only at hSw); go_simp; (all_goals with_reducible rfl); done)) | (refine wpAnyH_take (i := 2) rfl (by kernel_rfl) (by kernel_rfl) (by kernel_rfl) (fun _ _ _ h => h) (Or.inr ⟨by rfl, rfl⟩) (by assumption) ?_) | fail "op 2"
      try simp only [Act.put, List.setIfInBounds_toArray, List.set_cons_zero, List.set_cons_succ, List.getElem_toArray, List.getElem_cons_zero, List.getElem_cons_succ]
      first | (refine wpAnyH_take (i := 3) (v := ?_) rfl (by kernel_rfl) (by kernel_rfl) (by kernel_rfl) (fun _ _ _ h => h) (Or.inl ⟨by rfl, ?_⟩) (by assumption) ?_; rotate_left; focus (intro w hSw; (try dsimp only at hSw); go_simp; (all_goals with_reducible rfl); done)) | (refine wpAnyH_take (i := 3) rfl (by kernel_rfl) (by kernel_rfl) (by kernel_rfl) (fun _ _ _ h => h) (Or.inr ⟨by rfl, rfl⟩) (by assumption) ?_) | fail "op 3"
      try simp only [Act.put, List.setIfInBounds_toArray, List.set_cons_zero, List.set_cons_succ, List.getElem_toArray, List.getElem_cons_zero, List.getElem_cons_succ]
      first | (refine wpAnyH_take (i := 4) (v := ?_) rfl (by kernel_rfl) (by kernel_rfl) (by kernel_rfl) (fun _ _ _ h => h) (Or.inl ⟨by rfl, ?_⟩) (by assumption) ?_; rotate_left; focus (intro w hSw; (try dsimp only at hSw); go_simp; (all_goals with_reducible rfl); done)) | (refine wpAnyH_take (i := 4) rfl (by kernel_rfl) (by kernel_rfl) (by kernel_rfl) (fun _ _ _ h => h) (Or.inr ⟨by rfl, rfl⟩) (by assumption) ?_) | fail "op 4"
      try simp only [Act.put, List.setIfInBounds_toArray, List.set_cons_zero, List.set_cons_succ, List.getElem_toArray, List.getElem_cons_zero, List.getElem_cons_succ]
      first | (refine wpAnyH_take (i := 5) (v := ?_) rfl (by kernel_rfl) (by kernel_rfl) (by kernel_rfl) (fun _ _ _ h => h) (Or.inl ⟨by rfl, ?_⟩) (by assumption) ?_; rotate_left; focus (intro w hSw; (try dsimp only at hSw); go_simp; (all_goals with_reducible rfl); done)) | (refine wpAnyH_take (i := 5) rfl (by kernel_rfl) (by kernel_rfl) (by kernel_rfl) (fun _ _ _ h => h) (Or.inr ⟨by rfl, rfl⟩) (by assumption) ?_) | fail "op 5"
      try simp only [Act.put, List.setIfInBounds_toArray, List.set_cons_zero, List.set_cons_succ, List.getElem_toArray, List.getElem_cons_zero, List.getElem_cons_succ]
      first | (refine wpAnyH_take (i := 6) (v := ?_) rfl (by kernel_rfl) (by kernel_rfl) (by kernel_rfl) (fun _ _ _ h => h) (Or.inl ⟨by rfl, ?_⟩) (by assumption) ?_; rotate_left; focus (intro w hSw; (try dsimp only at hSw); go_simp; (all_goals with_reducible rfl); done)) | (refine wpAnyH_take (i := 6) rfl (by kernel_rfl) (by kernel_rfl) (by kernel_rfl) (fun _ _ _ h => h) (Or.inr ⟨by rfl, rfl⟩) (by assumption) ?_) | fail "op 6"
      try simp only [Act.put, List.setIfInBounds_toArray, List.set_cons_zero, List.set_cons_succ, List.getElem_toArray, List.getElem_cons_zero, List.getElem_cons_succ]
      first | (refine wpAnyH_take (i := 9) (v := ?_) rfl (by kernel_rfl) (by kernel_rfl) (by kernel_rfl) (fun _ _ _ h => h) (Or.inl ⟨by rfl, ?_⟩) (by assumption) ?_; rotate_left; focus (intro w hSw; (try dsimp only at hSw); go_simp; (all_goals with_reducible rfl); done)) | (refine wpAnyH_take (i := 9) rfl (by kernel_rfl) (by kernel_rfl) (by kernel_rfl) (fun _ _ _ h => h) (Or.inr ⟨by rfl, rfl⟩) (by assumption) ?_) | fail "op 9"
      try simp only [Act.put, List.setIfInBounds_toArray, List.set_cons_zero, List.set_cons_succ, List.getElem_toArray, List.getElem_cons_zero, List.getElem_cons_succ]
      first | (refine wpAnyH_take (i := 10) (v := ?_) rfl (by kernel_rfl) (by kernel_rfl) (by kernel_rfl) (fun _ _ _ h => h) (Or.inl ⟨by rfl, ?_⟩) (by assumption) ?_; rotate_left; focus (intro w hSw; (try dsimp only at hSw); go_simp; (all_goals with_reducible rfl); done)) | (refine wpAnyH_take (i := 10) rfl (by kernel_rfl) (by kernel_rfl) (by kernel_rfl) (fun _ _ _ h => h) (Or.inr ⟨by rfl, rfl⟩) (by assumption) ?_) | fail "op 10"
      try simp only [Act.put, List.setIfInBounds_toArray, List.set_cons_zero, List.set_cons_succ, List.getElem_toArray, List.getElem_cons_zero, List.getElem_cons_succ]
      first | (refine wpAnyH_take (i := 11) (v := ?_) rfl (by kernel_rfl) (by kernel_rfl) (by kernel_rfl) (fun _ _ _ h => h) (Or.inl ⟨by rfl, ?_⟩) (by assumption) ?_; rotate_left; focus (intro w hSw; (try dsimp only at hSw); go_simp; (all_goals with_reducible rfl); done)) | (refine wpAnyH_take (i := 11) rfl (by kernel_rfl) (by kernel_rfl) (by kernel_rfl) (fun _ _ _ h => h) (Or.inr ⟨by rfl, rfl⟩) (by assumption) ?_) | fail "op 11"
      try simp only [Act.put, List.setIfInBounds_toArray, List.set_cons_zero, List.set_cons_succ, List.getElem_toArray, List.getElem_cons_zero, List.getElem_cons_succ]
      first | (refine wpAnyH_take (i := 12) (v := ?_) rfl (by kernel_rfl) (by kernel_rfl) (by kernel_rfl) (fun _ _ _ h => h) (Or.inl ⟨by rfl, ?_⟩) (by assumption) ?_; rotate_left; focus (intro w hSw; (try dsimp only at hSw); go_simp; (all_goals with_reducible rfl); done)) | (refine wpAnyH_take (i := 12) rfl (by kernel_rfl) (by kernel_rfl) (by kernel_rfl) (fun _ _ _ h => h) (Or.inr ⟨by rfl, rfl⟩) (by assumption) ?_) | fail "op 12"
      try simp only [Act.put, List.setIfInBounds_toArray, List.set_cons_zero, List.set_cons_succ, List.getElem_toArray, List.getElem_cons_zero, List.getElem_cons_succ]
      first | (refine wpAnyH_take (i := 13) (v := ?_) rfl (by kernel_rfl) (by kernel_rfl) (by kernel_rfl) (fun _ _ _ h => h) (Or.inl ⟨by rfl, ?_⟩) (by assumption) ?_; rotate_left; focus (intro w hSw; (try dsimp only at hSw); go_simp; (all_goals with_reducible rfl); done)) | (refine wpAnyH_take (i := 13) rfl (by kernel_rfl) (by kernel_rfl) (by kernel_rfl) (fun _ _ _ h => h) (Or.inr ⟨by rfl, rfl⟩) (by assumption) ?_) | fail "op 13"
      try simp only [Act.put, List.setIfInBounds_toArray, List.set_cons_zero, List.set_cons_succ, List.getElem_toArray, List.getElem_cons_zero, List.getElem_cons_succ]
      first | (refine wpAnyH_take (i := 14) (v := ?_) rfl (by kernel_rfl) (by kernel_rfl) (by kernel_rfl) (fun _ _ _ h => h) (Or.inl ⟨by rfl, ?_⟩) (by assumption) ?_; rotate_left; focus (intro w hSw; (try dsimp only at hSw); go_simp; (all_goals with_reducible rfl); done)) | (refine wpAnyH_take (i := 14) rfl (by kernel_rfl) (by kernel_rfl) (by kernel_rfl) (fun _ _ _ h => h) (Or.inr ⟨by rfl, rfl⟩) (by assumption) ?_) | fail "op 14"
      try simp only [Act.put, List.setIfInBounds_toArray, List.set_cons_zero, List.set_cons_succ, List.getElem_toArray, List.getElem_cons_zero, List.getElem_cons_succ]
      first | (refine wpAnyH_take (i := 15) (v := ?_) rfl (by kernel_rfl) (by kernel_rfl) (by kernel_rfl) (fun _ _ _ h => h) (Or.inl ⟨by rfl, ?_⟩) (by assumption) ?_; rotate_left; focus (intro w hSw; (try dsimp only at hSw); go_simp; (all_goals with_reducible rfl); done)) | (refine wpAnyH_take (i := 15) rfl (by kernel_rfl) (by kernel_rfl) (by kernel_rfl) (fun _ _ _ h => h) (Or.inr ⟨by rfl, rfl⟩) (by assumption) ?_) | fail "op 15"
      try simp only [Act.put, List.setIfInBounds_toArray, List.set_cons_zero, List.set_cons_succ, List.getElem_toArray, List.getElem_cons_zero, List.getElem_cons_succ]
      have HEND : Hid (∀ (v : Value) (W : World), W.ownsRow W0.heap.size 5 1 v (L.length + tl.length + 1) (L.map byteV ++ tl.map byteV ++ [.int .u8 (x.kind % 256)]) → W.ownsRow W0.heap.size 5 1 v (encsB [.int p.posts.length] ++ (p.posts.take (j + 1)).flatMap (fun x => encsB (anyPost x))).length ((encsB [.int p.posts.length] ++ (p.posts.take (j + 1)).flatMap (fun x => encsB (anyPost x))).map byteV)) := fun v W h => by
        have e1 := HNX.out
        have e3 : encsV (anyPost x) = tl.map byteV ++ [.int .u8 (x.kind % 256)] := by rw [HTL.out, ← encV_eq]; rfl
        rw [e3] at e1
        have e2 : (encsB [.int (p.posts.length : Int)] ++ (p.posts.take (j + 1)).flatMap (fun x => encsB (anyPost x))).length = L.length + tl.length + 1 := by
          have h := congrArg List.length e1
          simpa only [List.length_map, List.length_append, List.length_cons, List.length_nil, Nat.add_assoc] using h
        rw [e1, e2, ← List.append_assoc]
        exact h
      refine wpAnyH_ready (rs := [7, 16]) (by kernel_rfl) (by simp) ?_
      refine AllReadyH.cons rfl (fun K hK => ?_) (AllReadyH.cons rfl (fun K hK => ?_) AllReadyH.nil)
      · go_simp
        go_at_call 42
        have hfn := HT.out _ ⟨_, by assumption⟩
        with_reducible refine hfn.mono ?_
        clear hfn
        rintro e wt ⟨ta, tc, rfl, hts, htb⟩
        have hbt2 := since_stepC (by assumption) htb
        have hot : wt.ownsRow W0.heap.size 5 1 (.slice va L.length vc) L.length (L.map byteV) := own_below HO.out.drew htb
        have hsz := htb.size
        have hst := hbt2.size
        refine hK.out _ _ (by first | assumption | exact HK.out _ (Below.alloc (by assumption) (by first | assumption | omega) _) | exact HK.out _ (by assumption) | exact HK.out _ (HB.out.drew.alloc (by exact hw0) _)) (fun hHeld => ?_)
        clear hK K
        try simp only [Act.put, List.setIfInBounds_toArray, List.set_cons_zero, List.set_cons_succ, List.getElem_toArray, List.getElem_cons_zero, List.getElem_cons_succ]
        refine wpAnyH_ready (rs := [8, 16]) (by kernel_rfl) (by simp) ?_
        refine AllReadyH.cons rfl (fun K hK => ?_) (AllReadyH.cons rfl (fun K hK => ?_) AllReadyH.nil)
        · rw [if_pos (by rfl)]
          refine bytes_wp (.tmp 21) (.tmp 28) rfl (v := .slice va L.length vc) (n := L.length) (us := L.map byteV) rfl hot rfl (Nat.le_trans hw0 hsz) (List.length_map ..) (by omega) hts (byteV_one _) ?_
          rintro v8 w8 ho8 hg8
          obtain ⟨a8, c8, rfl, _⟩ := own_slice ho8
          have hb8 : Below W0.heap.size W0 w8 := below_since (by assumption) hot hg8 (Nat.le_refl _) (Nat.le_refl _)
          have hs8 := hb8.size
          have hgs := hg8.size
          refine hK.out _ _ (by first | assumption | exact HK.out _ (Below.alloc (by assumption) (by first | assumption | omega) _) | exact HK.out _ (by assumption) | exact HK.out _ (HB.out.drew.alloc (by exact hw0) _)) (fun hHeld => ?_)
          clear hK K
          try simp only [Act.put, List.setIfInBounds_toArray, List.set_cons_zero, List.set_cons_succ, List.getElem_toArray, List.getElem_cons_zero, List.getElem_cons_succ]
          refine wpAnyH_ready (rs := [16]) (by kernel_rfl) (by simp) ?_
          refine AllReadyH.cons rfl (fun K hK => ?_) AllReadyH.nil
          go_simp
          refine hK.out _ _ (by first | assumption | exact HK.out _ (Below.alloc (by assumption) (by first | assumption | omega) _) | exact HK.out _ (by assumption) | exact HK.out _ (HB.out.drew.alloc (by exact hw0) _)) (fun hHeld => ?_)
          clear hK K
          try simp only [Act.put, List.setIfInBounds_toArray, List.set_cons_zero, List.set_cons_succ, List.getElem_toArray, List.getElem_cons_zero, List.getElem_cons_succ]
          refine wpAnyH_ready (rs := [17]) (by kernel_rfl) (by simp) ?_
          refine AllReadyH.cons rfl (fun K hK => ?_) AllReadyH.nil
          rw [if_pos (by rfl)]
          refine bytes_wp (.tmp 29) (.tmp 37) rfl (v := .slice a8 (L.length + tl.length) c8) (n := L.length + tl.length) (us := L.map byteV ++ tl.map byteV) rfl (ho8.alloc _) rfl (Nat.le_trans hs8 (by simp)) (news := [.int .u8 (x.kind % 256)]) rfl (by omega) (Sl.new w8 [.int .u8 (x.kind % 256)] 5 _ (by simp)) (by intro u hu; rw [List.mem_singleton.1 hu]; rfl) ?_
          rintro v9 w9 ho9 hg9
          obtain ⟨a9, c9, rfl, _⟩ := own_slice ho9
          have hb9 : Below W0.heap.size W0 w9 := below_since (by assumption) (ho8.alloc _) hg9 (Nat.le_refl _) (Nat.le_refl _)
          refine hK.out _ _ (by first | assumption | exact HK.out _ (Below.alloc (by assumption) (by first | assumption | omega) _) | exact HK.out _ (by assumption) | exact HK.out _ (HB.out.drew.alloc (by exact hw0) _)) (fun hHeld => ?_)
          clear hK K
          try simp only [Act.put, List.setIfInBounds_toArray, List.set_cons_zero, List.set_cons_succ, List.getElem_toArray, List.getElem_cons_zero, List.getElem_cons_succ]
          refine wpAnyH_take (i := 18) (v := ?_) rfl (by kernel_rfl) (by kernel_rfl) (by kernel_rfl) (fun _ _ _ h => h) (Or.inl ⟨by rfl, ?_⟩) (by assumption) ?_
          rotate_left
          focus (intro w hSw; (try dsimp only at hSw); go_simp; (all_goals with_reducible rfl); done)
          try simp only [Act.put, List.setIfInBounds_toArray, List.set_cons_zero, List.set_cons_succ, List.getElem_toArray, List.getElem_cons_zero, List.getElem_cons_succ]
          refine wpAnyH_done (by kernel_rfl) ?_ _
          have HFIN := Lib.hid (And.intro ho9 hb9)
          clear ho9 hb9
          go_wp2_with fail
          exact ⟨⟨j + 1, hjl, by go_num, HEND.out _ _ HFIN.out.1, HFIN.out.2⟩, by simp [intOf]; omega⟩
        · go_simp
          refine hK.out _ _ (by first | assumption | exact HK.out _ (Below.alloc (by assumption) (by first | assumption | omega) _) | exact HK.out _ (by assumption) | exact HK.out _ (HB.out.drew.alloc (by exact hw0) _)) (fun hHeld => ?_)
          clear hK K
          try simp only [Act.put, List.setIfInBounds_toArray, List.set_cons_zero, List.set_cons_succ, List.getElem_toArray, List.getElem_cons_zero, List.getElem_cons_succ]
          refine wpAnyH_ready (rs := [8]) (by kernel_rfl) (by simp) ?_
          refine AllReadyH.cons rfl (fun K hK => ?_) AllReadyH.nil
          rw [if_pos (by rfl)]
          refine bytes_wp (.tmp 21) (.tmp 28) rfl (v := .slice va L.length vc) (n := L.length) (us := L.map byteV) rfl (hot.alloc _) rfl (Nat.le_trans hst (by simp)) (List.length_map ..) (by omega) (sl_alloc hts _) (byteV_one _) ?_
          rintro v8 w8 ho8 hg8
          obtain ⟨a8, c8, rfl, _⟩ := own_slice ho8
          have hb8 : Below W0.heap.size W0 w8 := below_since (by assumption) (hot.alloc _) hg8 (Nat.le_refl _) (Nat.le_refl _)
          have hs8 := hb8.size
          have hgs := hg8.size
          refine hK.out _ _ (by first | assumption | exact HK.out _ (Below.alloc (by assumption) (by first | assumption | omega) _) | exact HK.out _ (by assumption) | exact HK.out _ (HB.out.drew.alloc (by exact hw0) _)) (fun hHeld => ?_)
          clear hK K
          try simp only [Act.put, List.setIfInBounds_toArray, List.set_cons_zero, List.set_cons_succ, List.getElem_toArray, List.getElem_cons_zero, List.getElem_cons_succ]
          refine wpAnyH_ready (rs := [17]) (by kernel_rfl) (by simp) ?_
          refine AllReadyH.cons rfl (fun K hK => ?_) AllReadyH.nil
          rw [if_pos (by rfl)]
          refine bytes_wp (.tmp 29) (.tmp 37) rfl (v := .slice a8 (L.length + tl.length) c8) (n := L.length + tl.length) (us := L.map byteV ++ tl.map byteV) rfl ho8 rfl hs8 (news := [.int .u8 (x.kind % 256)]) rfl (by omega) ((sl_fresh (Sl.new wt [.int .u8 (x.kind % 256)] 5 (wt.heap.size + 1) (by simp)) hg8 (fun k hk => by have := (hot.lt k hk).2; omega) (by simp)).wider (Nat.le_refl _) (by simp at hgs; omega)) (by intro u hu; rw [List.mem_singleton.1 hu]; rfl) ?_
          rintro v9 w9 ho9 hg9
          obtain ⟨a9, c9, rfl, _⟩ := own_slice ho9
          have hb9 : Below W0.heap.size W0 w9 := below_since (by assumption) ho8 hg9 (Nat.le_refl _) (Nat.le_refl _)
          refine hK.out _ _ (by first | assumption | exact HK.out _ (Below.alloc (by assumption) (by first | assumption | omega) _) | exact HK.out _ (by assumption) | exact HK.out _ (HB.out.drew.alloc (by exact hw0) _)) (fun hHeld => ?_)
          clear hK K
          try simp only [Act.put, List.setIfInBounds_toArray, List.set_cons_zero, List.set_cons_succ, List.getElem_toArray, List.getElem_cons_zero, List.getElem_cons_succ]
          refine wpAnyH_take (i := 18) (v := ?_) rfl (by kernel_rfl) (by kernel_rfl) (by kernel_rfl) (fun _ _ _ h => h) (Or.inl ⟨by rfl, ?_⟩) (by assumption) ?_
          rotate_left
          focus (intro w hSw; (try dsimp only at hSw); go_simp; (all_goals with_reducible rfl); done)
          try simp only [Act.put, List.setIfInBounds_toArray, List.set_cons_zero, List.set_cons_succ, List.getElem_toArray, List.getElem_cons_zero, List.getElem_cons_succ]
          refine wpAnyH_done (by kernel_rfl) ?_ _
          have HFIN := Lib.hid (And.intro ho9 hb9)
          clear ho9 hb9
          go_wp2_with fail
          exact ⟨⟨j + 1, hjl, by go_num, HEND.out _ _ HFIN.out.1, HFIN.out.2⟩, by simp [intOf]; omega⟩
      · go_simp
        refine hK.out _ _ (by first | assumption | exact HK.out _ (Below.alloc (by assumption) (by first | assumption | omega) _) | exact HK.out _ (by assumption) | exact HK.out _ (HB.out.drew.alloc (by exact hw0) _)) (fun hHeld => ?_)
        clear hK K
        try simp only [Act.put, List.setIfInBounds_toArray, List.set_cons_zero, List.set_cons_succ, List.getElem_toArray, List.getElem_cons_zero, List.getElem_cons_succ]
        refine wpAnyH_ready (rs := [7]) (by kernel_rfl) (by simp) ?_
        refine AllReadyH.cons rfl (fun K hK => ?_) AllReadyH.nil
        go_simp
        go_at_call 42
        have hfn := HT.out _ ⟨_, by assumption⟩
        with_reducible refine hfn.mono ?_
        clear hfn
        rintro e wt ⟨ta, tc, rfl, hts, htb⟩
        have hbt2 := since_stepC (by assumption) htb
        have hot : wt.ownsRow W0.heap.size 5 1 (.slice va L.length vc) L.length (L.map byteV) := own_below (HO.out.drew.alloc _) htb
        have hsz := htb.size
        have hst := hbt2.size
        refine hK.out _ _ (by first | assumption | exact HK.out _ (Below.alloc (by assumption) (by first | assumption | omega) _) | exact HK.out _ (by assumption) | exact HK.out _ (HB.out.drew.alloc (by exact hw0) _)) (fun hHeld => ?_)
        clear hK K
        try simp only [Act.put, List.setIfInBounds_toArray, List.set_cons_zero, List.set_cons_succ, List.getElem_toArray, List.getElem_cons_zero, List.getElem_cons_succ]
        refine wpAnyH_ready (rs := [8]) (by kernel_rfl) (by simp) ?_
        refine AllReadyH.cons rfl (fun K hK => ?_) AllReadyH.nil
        rw [if_pos (by rfl)]
        refine bytes_wp (.tmp 21) (.tmp 28) rfl (v := .slice va L.length vc) (n := L.length) (us := L.map byteV) rfl hot rfl hst (List.length_map ..) (by omega) hts (byteV_one _) ?_
        rintro v8 w8 ho8 hg8
        obtain ⟨a8, c8, rfl, _⟩ := own_slice ho8
        have hb8 : Below W0.heap.size W0 w8 := below_since (by assumption) hot hg8 (Nat.le_refl _) (Nat.le_refl _)
        have hs8 := hb8.size
        have hgs := hg8.size
        refine hK.out _ _ (by first | assumption | exact HK.out _ (Below.alloc (by assumption) (by first | assumption | omega) _) | exact HK.out _ (by assumption) | exact HK.out _ (HB.out.drew.alloc (by exact hw0) _)) (fun hHeld => ?_)
        clear hK K
        try simp only [Act.put, List.setIfInBounds_toArray, List.set_cons_zero, List.set_cons_succ, List.getElem_toArray, List.getElem_cons_zero, List.getElem_cons_succ]
        refine wpAnyH_ready (rs := [17]) (by kernel_rfl) (by simp) ?_
        refine AllReadyH.cons rfl (fun K hK => ?_) AllReadyH.nil
        rw [if_pos (by rfl)]
        refine bytes_wp (.tmp 29) (.tmp 37) rfl (v := .slice a8 (L.length + tl.length) c8) (n := L.length + tl.length) (us := L.map byteV ++ tl.map byteV) rfl ho8 rfl hs8 (news := [.int .u8 (x.kind % 256)]) rfl (by omega) ((sl_fresh ((Sl.new wr.drew [.int .u8 (x.kind % 256)] 5 (wr.heap.size + 1) (by show wr.heap.size < wr.heap.size + 1; omega)).below htb (by simp)) hg8 (fun k hk => (HO.out.lt k hk).2) (by simpa using hsz)).wider (Nat.le_refl _) (by simp at hsz; omega)) (by intro u hu; rw [List.mem_singleton.1 hu]; rfl) ?_
        rintro v9 w9 ho9 hg9
        obtain ⟨a9, c9, rfl, _⟩ := own_slice ho9
        have hb9 : Below W0.heap.size W0 w9 := below_since (by assumption) ho8 hg9 (Nat.le_refl _) (Nat.le_refl _)
        refine hK.out _ _ (by first | assumption | exact HK.out _ (Below.alloc (by assumption) (by first | assumption | omega) _) | exact HK.out _ (by assumption) | exact HK.out _ (HB.out.drew.alloc (by exact hw0) _)) (fun hHeld => ?_)
        clear hK K
        try simp only [Act.put, List.setIfInBounds_toArray, List.set_cons_zero, List.set_cons_succ, List.getElem_toArray, List.getElem_cons_zero, List.getElem_cons_succ]
        refine wpAnyH_take (i := 18) (v := ?_) rfl (by kernel_rfl) (by kernel_rfl) (by kernel_rfl) (fun _ _ _ h => h) (Or.inl ⟨by rfl, ?_⟩) (by assumption) ?_
        rotate_left
        focus (intro w hSw; (try dsimp only at hSw); go_simp; (all_goals with_reducible rfl); done)
        try simp only [Act.put, List.setIfInBounds_toArray, List.set_cons_zero, List.set_cons_succ, List.getElem_toArray, List.getElem_cons_zero, List.getElem_cons_succ]
        refine wpAnyH_done (by kernel_rfl) ?_ _
        have HFIN := Lib.hid (And.intro ho9 hb9)
        clear ho9 hb9
        go_wp2_with fail
        exact ⟨⟨j + 1, hjl, by go_num, HEND.out _ _ HFIN.out.1, HFIN.out.2⟩, by simp [intOf]; omega⟩
    · obtain rfl : j = p.posts.length := by omega
      have HOP := Lib.hid HO.out
      have HBP := Lib.hid HB.out
      clear HO HB
      generalize hLL : encsB [.int p.posts.length] ++ (p.posts.take p.posts.length).flatMap (fun x => encsB (anyPost x)) = L0 at *
      rw [flat_all] at hLL
      have hL0n : L0.length ≤ 20000000 := by
        rw [← hLL, List.length_append]
        have e0 : (encsB [.int (p.posts.length : Int)]).length = 1 := by simp [encsB, encB]
        have := BP1.out
        omega
      have hbw := HBP.out.size
      go_wp2_with (at_builtin; go_loud (refine append1 rfl _ _ 76 rfl W0.heap.size 5 infoU8 Tryd.underlying76 rfl (by decide) (by decide) wr _ _ _ rfl HOP.out [.int .u8 (p.queues.length : Int)] rfl rfl rfl (by simp [Value.oneCell']) (by omega) hbw ?_); intro v2 w2 hown2 hgrow; obtain ⟨a2', cp2, rfl, _⟩ := own_slice hown2; have HN := Lib.hid (And.intro hown2 (below_own HOP.out hgrow HBP.out (Nat.le_refl _) hbw)); clear hown2 hgrow)
      have HNQ : Hid (w2.ownsRow W0.heap.size 5 1 (.slice a2' (L0.length + 1) cp2) (L0 ++ encsB [.int p.queues.length]).length ((L0 ++ encsB [.int p.queues.length]).map byteV) ∧ Below W0.heap.size W0 w2) := by
        refine (?_ : _ ∧ _)
        have e4 : (p.queues.length : Int) % 256 = (p.queues.length : Int) := by omega
        have h := HN.out
        refine ⟨?_, h.2⟩
        have h1 := h.1
        simpa [encsB, encB, byteV, byteN_toNat, e4] using h1
      have HLL := Lib.hid hLL
      clear hLL
      go_loopw [3, 5] (fun v i wr => BRel p.queues anyQueue (((L0 ++ encsB [.int p.queues.length]))) W0.heap.size W0 v i wr) (fun _ i _ => p.queues.length - (intOf i).toNat)
      case atStart => exact ⟨0, by omega, rfl, by rw [List.take_zero, List.flatMap_nil, List.append_nil]; exact HNQ.out.1, HNQ.out.2⟩
      case round =>
        obtain ⟨j, hj, rfl, hown, hB⟩ := hrel
        have HO := Lib.hid hown
        have HB := Lib.hid hB
        obtain ⟨va, vc, rfl, _⟩ := own_slice hown
        clear hown hB
        obtain ⟨hpat, ⟨m20, m21, m22⟩, _⟩ := HBX.out _ HB.out
        by_cases hjl : j < p.queues.length
        · obtain ⟨b, o, ha, _, hb, hcl⟩ := sl_elem vQueue_len (by decide) hpat.queues hjl
          have hkb : ∀ W, Below W0.heap.size W0 W → W.cell? ⟨b, o + j * 3, none⟩ = some (.string p.queues[j].name) ∧ W.cell? ⟨b, o + j * 3 + 1, none⟩ = some (.int .i64 p.queues[j].limit) ∧ W.cell? ⟨b, o + j * 3 + 2, none⟩ = some (.int .i64 p.queues[j].dead) := fun W hW => by
            have k0 : wr.cell? ⟨b, o + j * 3, none⟩ = _ := hcl 0 _ rfl
            have k1 : wr.cell? ⟨b, o + j * 3 + 1, none⟩ = _ := hcl 1 _ rfl
            have k2 : wr.cell? ⟨b, o + j * 3 + 2, none⟩ = _ := hcl 2 _ rfl
            have e1 := (HB.out.cell (p := ⟨b, o + j * 3, none⟩) hb).symm.trans k0
            have e2 := (HB.out.cell (p := ⟨b, o + j * 3 + 1, none⟩) hb).symm.trans k1
            have e3 := (HB.out.cell (p := ⟨b, o + j * 3 + 2, none⟩) hb).symm.trans k2
            exact ⟨(hW.cell (p := ⟨b, o + j * 3, none⟩) hb).trans e1, (hW.cell (p := ⟨b, o + j * 3 + 1, none⟩) hb).trans e2, (hW.cell (p := ⟨b, o + j * 3 + 2, none⟩) hb).trans e3⟩
          have hnm := HS.out.queue _ (List.getElem_mem hjl)
          have hby := queue_bytes HS.out _ (List.getElem_mem hjl)
          have htk := take_flat_len (j := j) (queue_bytes HS.out)
          have hnx := flat_next (f := anyQueue) (hd := ((L0 ++ encsB [.int p.queues.length]))) hjl
          have HKB := Lib.hid hkb
          clear hcl hpat hkb
          have HQD := Lib.hid (HR.out.queue _ (List.getElem_mem hjl)).2.2
          generalize p.queues[j] = x at *
          generalize hLL : ((L0 ++ encsB [.int p.queues.length])) ++ (p.queues.take j).flatMap (fun x => encsB (anyQueue x)) = L at *
          have hLn : L.length ≤ 30000000 := by
            rw [← hLL, List.length_append]
            have e00 : (encsB [.int (p.queues.length : Int)]).length = 1 := by simp [encsB, encB]
            have e0 : ((L0 ++ encsB [.int p.queues.length])).length ≤ 20000001 := by rw [List.length_append]; omega
            omega
          have HNX := Lib.hid hnx
          subst ha
          have HK : Hid (∀ W, Below W0.heap.size W0 W → (W.cell? ⟨w.heap.size, 1, none⟩ = some (.slice (some ⟨b, o, none⟩) p.queues.length c2) ∧ W.cell? ⟨b, o + j * 3, none⟩ = some (.string x.name) ∧ W.cell? ⟨b, o + j * 3 + 1, none⟩ = some (.int .i64 x.limit) ∧ W.cell? ⟨b, o + j * 3 + 2, none⟩ = some (.int .i64 x.dead)) ∧ Below W0.heap.size W0 W) := fun W hW => ⟨⟨(HBX.out _ hW).2.1.2.1, HKB.out W hW⟩, hW⟩
          obtain ⟨tl, htl⟩ : ∃ tl, tl = encB (.str x.name) := ⟨_, rfl⟩
          have HT : Hid (∀ W, (∃ C : Prop, C ∧ Below W0.heap.size W0 W) → Calls Tryd.prog 42 #[.string x.name] W fun e w' => ∃ ta tc, e = .returned (.slice ta tl.length tc) ∧ Sl w' W.heap.size w'.heap.size ta (tl.map byteV) ∧ Below W.heap.size W w') := fun W _ => by
            refine (texted_any x.name W hnm).mono ?_
            rintro e w' ⟨v, rfl, ho, hb⟩
            rw [← htl] at ho
            obtain ⟨ta, tc, rfl, _⟩ := own_slice ho
            exact ⟨ta, tc, rfl, Sl.of_own ho, hb⟩
          have htl2 : tl.length ≤ 1048600 := by rw [htl]; simp only [encB, List.length_append, List.length_cons, List.length_nil, Array.length_toList]; have : x.name.data.size = x.name.size := rfl; omega
          have HTL := Lib.hid htl
          clear htl
          have hown0 := HO.out
          have hw0 := HB.out.size
          clear hnx hby htk
          have hqd := HQD.out
          have hwd : IntKind.i64.wrap (x.dead + 1) = x.dead + 1 := IntWalk.i64_in _ (by omega)
          clear hqd
          go_upto_region 10 with fail
          clear m20 m21 m22
          refine wp_region_held_drew (S := (fun W => (W.cell? ⟨w.heap.size, 1, none⟩ = some (.slice (some ⟨b, o, none⟩) p.queues.length c2) ∧ W.cell? ⟨b, o + j * 3, none⟩ = some (.string x.name) ∧ W.cell? ⟨b, o + j * 3 + 1, none⟩ = some (.int .i64 x.limit) ∧ W.cell? ⟨b, o + j * 3 + 2, none⟩ = some (.int .i64 x.dead)) ∧ Below W0.heap.size W0 W)) (by kernel_rfl) (by first | assumption | exact HK.out _ HB.out.drew) (fun hHeld => ?_)
          first | (refine wpAnyH_take (i := 0) (v := ?_) rfl (by kernel_rfl) (by kernel_rfl) (by kernel_rfl) (fun _ _ _ h => h) (Or.inl ⟨by rfl, ?_⟩) (by assumption) ?_; rotate_left; focus (intro w hSw; (try dsimp only at hSw); go_simp; (all_goals with_reducible rfl); done)) | (refine wpAnyH_take (i := 0) rfl (by kernel_rfl) (by kernel_rfl) (by kernel_rfl) (fun _ _ _ h => h) (Or.inr ⟨by rfl, rfl⟩) (by assumption) ?_) | fail "op 0"
          try simp only [Act.put, List.setIfInBounds_toArray, List.set_cons_zero, List.set_cons_succ, List.getElem_toArray, List.getElem_cons_zero]
          first | (refine wpAnyH_take (i := 1) (v := ?_) rfl (by kernel_rfl) (by kernel_rfl) (by kernel_rfl) (fun _ _ _ h => h) (Or.inl ⟨by rfl, ?_⟩) (by assumption) ?_; rotate_left; focus (intro w hSw; (try dsimp only at hSw); go_simp; (all_goals with_reducible rfl); done)) | (refine wpAnyH_take (i := 1) rfl (by kernel_rfl) (by kernel_rfl) (by kernel_rfl) (fun _ _ _ h => h) (Or.inr ⟨by rfl, rfl⟩) (by assumption) ?_) | fail "op 1"
          try simp only [Act.put, List.setIfInBounds_toArray, List.set_cons_zero, List.set_cons_succ, List.getElem_toArray, List.getElem_cons_zero, List.getElem_cons_succ]
          first | (refine wpAnyH_take (i := 2) (v := ?_) rfl (by kernel_rfl) (by kernel_rfl) (by kernel_rfl) (fun _ _ _ h => h) (Or.inl ⟨by rfl, ?_⟩) (by assumption) ?_; rotate_left; focus (intro w hSw; (try dsimp only at hSw); go_simp; (all_goals with_reducible rfl); done)) | (refine wpAnyH_take (i := 2) rfl (by kernel_rfl) (by kernel_rfl) (by kernel_rfl) (fun _ _ _ h => h) (Or.inr ⟨by rfl, rfl⟩) (by assumption) ?_) | fail "op 2"
          try simp only [Act.put, List.setIfInBounds_toArray, List.set_cons_zero, List.set_cons_succ, List.getElem_toArray, List.getElem_cons_zero, List.getElem_cons_succ]
          first | (refine wpAnyH_take (i := 3) (v := ?_) rfl (by kernel_rfl) (by kernel_rfl) (by kernel_rfl) (fun _ _ _ h => h) (Or.inl ⟨by rfl, ?_⟩) (by assumption) ?_; rotate_left; focus (intro w hSw; (try dsimp only at hSw); go_simp; (all_goals with_reducible rfl); done)) | (refine wpAnyH_take (i := 3) rfl (by kernel_rfl) (by kernel_rfl) (by kernel_rfl) (fun _ _ _ h => h) (Or.inr ⟨by rfl, rfl⟩) (by assumption) ?_) | fail "op 3"
          try simp only [Act.put, List.setIfInBounds_toArray, List.set_cons_zero, List.set_cons_succ, List.getElem_toArray, List.getElem_cons_zero, List.getElem_cons_succ]
          first | (refine wpAnyH_take (i := 4) (v := ?_) rfl (by kernel_rfl) (by kernel_rfl) (by kernel_rfl) (fun _ _ _ h => h) (Or.inl ⟨by rfl, ?_⟩) (by assumption) ?_; rotate_left; focus (intro w hSw; (try dsimp only at hSw); go_simp; (all_goals with_reducible rfl); done)) | (refine wpAnyH_take (i := 4) rfl (by kernel_rfl) (by kernel_rfl) (by kernel_rfl) (fun _ _ _ h => h) (Or.inr ⟨by rfl, rfl⟩) (by assumption) ?_) | fail "op 4"
          try simp only [Act.put, List.setIfInBounds_toArray, List.set_cons_zero, List.set_cons_succ, List.getElem_toArray, List.getElem_cons_zero, List.getElem_cons_succ]
          first | (refine wpAnyH_take (i := 5) (v := ?_) rfl (by kernel_rfl) (by kernel_rfl) (by kernel_rfl) (fun _ _ _ h => h) (Or.inl ⟨by rfl, ?_⟩) (by assumption) ?_; rotate_left; focus (intro w hSw; (try dsimp only at hSw); go_simp; (all_goals with_reducible rfl); done)) | (refine wpAnyH_take (i := 5) rfl (by kernel_rfl) (by kernel_rfl) (by kernel_rfl) (fun _ _ _ h => h) (Or.inr ⟨by rfl, rfl⟩) (by assumption) ?_) | fail "op 5"
          try simp only [Act.put, List.setIfInBounds_toArray, List.set_cons_zero, List.set_cons_succ, List.getElem_toArray, List.getElem_cons_zero, List.getElem_cons_succ]
          first | (refine wpAnyH_take (i := 6) (v := ?_) rfl (by kernel_rfl) (by kernel_rfl) (by kernel_rfl) (fun _ _ _ h => h) (Or.inl ⟨by rfl, ?_⟩) (by assumption) ?_; rotate_left; focus (intro w hSw; (try dsimp only at hSw); go_simp; (all_goals with_reducible rfl); done)) | (refine wpAnyH_take (i := 6) rfl (by kernel_rfl) (by kernel_rfl) (by kernel_rfl) (fun _ _ _ h => h) (Or.inr ⟨by rfl, rfl⟩) (by assumption) ?_) | fail "op 6"
          try simp only [Act.put, List.setIfInBounds_toArray, List.set_cons_zero, List.set_cons_succ, List.getElem_toArray, List.getElem_cons_zero, List.getElem_cons_succ]
          first | (refine wpAnyH_take (i := 9) (v := ?_) rfl (by kernel_rfl) (by kernel_rfl) (by kernel_rfl) (fun _ _ _ h => h) (Or.inl ⟨by rfl, ?_⟩) (by assumption) ?_; rotate_left; focus (intro w hSw; (try dsimp only at hSw); go_simp; (all_goals with_reducible rfl); done)) | (refine wpAnyH_take (i := 9) rfl (by kernel_rfl) (by kernel_rfl) (by kernel_rfl) (fun _ _ _ h => h) (Or.inr ⟨by rfl, rfl⟩) (by assumption) ?_) | fail "op 9"
          try simp only [Act.put, List.setIfInBounds_toArray, List.set_cons_zero, List.set_cons_succ, List.getElem_toArray, List.getElem_cons_zero, List.getElem_cons_succ]
          first | (refine wpAnyH_take (i := 10) (v := ?_) rfl (by kernel_rfl) (by kernel_rfl) (by kernel_rfl) (fun _ _ _ h => h) (Or.inl ⟨by rfl, ?_⟩) (by assumption) ?_; rotate_left; focus (intro w hSw; (try dsimp only at hSw); go_simp; (all_goals with_reducible rfl); done)) | (refine wpAnyH_take (i := 10) rfl (by kernel_rfl) (by kernel_rfl) (by kernel_rfl) (fun _ _ _ h => h) (Or.inr ⟨by rfl, rfl⟩) (by assumption) ?_) | fail "op 10"
          try simp only [Act.put, List.setIfInBounds_toArray, List.set_cons_zero, List.set_cons_succ, List.getElem_toArray, List.getElem_cons_zero, List.getElem_cons_succ]
          first | (refine wpAnyH_take (i := 11) (v := ?_) rfl (by kernel_rfl) (by kernel_rfl) (by kernel_rfl) (fun _ _ _ h => h) (Or.inl ⟨by rfl, ?_⟩) (by assumption) ?_; rotate_left; focus (intro w hSw; (try dsimp only at hSw); go_simp; (all_goals with_reducible rfl); done)) | (refine wpAnyH_take (i := 11) rfl (by kernel_rfl) (by kernel_rfl) (by kernel_rfl) (fun _ _ _ h => h) (Or.inr ⟨by rfl, rfl⟩) (by assumption) ?_) | fail "op 11"
          try simp only [Act.put, List.setIfInBounds_toArray, List.set_cons_zero, List.set_cons_succ, List.getElem_toArray, List.getElem_cons_zero, List.getElem_cons_succ]
          first | (refine wpAnyH_take (i := 12) (v := ?_) rfl (by kernel_rfl) (by kernel_rfl) (by kernel_rfl) (fun _ _ _ h => h) (Or.inl ⟨by rfl, ?_⟩) (by assumption) ?_; rotate_left; focus (intro w hSw; (try dsimp only at hSw); go_simp; (all_goals with_reducible rfl); done)) | (refine wpAnyH_take (i := 12) rfl (by kernel_rfl) (by kernel_rfl) (by kernel_rfl) (fun _ _ _ h => h) (Or.inr ⟨by rfl, rfl⟩) (by assumption) ?_) | fail "op 12"
          try simp only [Act.put, List.setIfInBounds_toArray, List.set_cons_zero, List.set_cons_succ, List.getElem_toArray, List.getElem_cons_zero, List.getElem_cons_succ]
          first | (refine wpAnyH_take (i := 13) (v := ?_) rfl (by kernel_rfl) (by kernel_rfl) (by kernel_rfl) (fun _ _ _ h => h) (Or.inl ⟨by rfl, ?_⟩) (by assumption) ?_; rotate_left; focus (intro w hSw; (try dsimp only at hSw); go_simp; (all_goals with_reducible rfl); done)) | (refine wpAnyH_take (i := 13) rfl (by kernel_rfl) (by kernel_rfl) (by kernel_rfl) (fun _ _ _ h => h) (Or.inr ⟨by rfl, rfl⟩) (by assumption) ?_) | fail "op 13"
          try simp only [Act.put, List.setIfInBounds_toArray, List.set_cons_zero, List.set_cons_succ, List.getElem_toArray, List.getElem_cons_zero, List.getElem_cons_succ]
          first | (refine wpAnyH_take (i := 14) (v := ?_) rfl (by kernel_rfl) (by kernel_rfl) (by kernel_rfl) (fun _ _ _ h => h) (Or.inl ⟨by rfl, ?_⟩) (by assumption) ?_; rotate_left; focus (intro w hSw; (try dsimp only at hSw); go_simp; (all_goals with_reducible rfl); done)) | (refine wpAnyH_take (i := 14) rfl (by kernel_rfl) (by kernel_rfl) (by kernel_rfl) (fun _ _ _ h => h) (Or.inr ⟨by rfl, rfl⟩) (by assumption) ?_) | fail "op 14"
          try simp only [Act.put, List.setIfInBounds_toArray, List.set_cons_zero, List.set_cons_succ, List.getElem_toArray, List.getElem_cons_zero, List.getElem_cons_succ]
          first | (refine wpAnyH_take (i := 15) (v := ?_) rfl (by kernel_rfl) (by kernel_rfl) (by kernel_rfl) (fun _ _ _ h => h) (Or.inl ⟨by rfl, ?_⟩) (by assumption) ?_; rotate_left; focus (intro w hSw; (try dsimp only at hSw); go_simp; (all_goals with_reducible rfl); done)) | (refine wpAnyH_take (i := 15) rfl (by kernel_rfl) (by kernel_rfl) (by kernel_rfl) (fun _ _ _ h => h) (Or.inr ⟨by rfl, rfl⟩) (by assumption) ?_) | fail "op 15"
          try simp only [Act.put, List.setIfInBounds_toArray, List.set_cons_zero, List.set_cons_succ, List.getElem_toArray, List.getElem_cons_zero, List.getElem_cons_succ]
          first | (refine wpAnyH_take (i := 16) (v := ?_) rfl (by kernel_rfl) (by kernel_rfl) (by kernel_rfl) (fun _ _ _ h => h) (Or.inl ⟨by rfl, ?_⟩) (by assumption) ?_; rotate_left; focus (intro w hSw; (try dsimp only at hSw); go_simp; (all_goals with_reducible rfl); done)) | (refine wpAnyH_take (i := 16) rfl (by kernel_rfl) (by kernel_rfl) (by kernel_rfl) (fun _ _ _ h => h) (Or.inr ⟨by rfl, rfl⟩) (by assumption) ?_) | fail "op 16"
          try simp only [Act.put, List.setIfInBounds_toArray, List.set_cons_zero, List.set_cons_succ, List.getElem_toArray, List.getElem_cons_zero, List.getElem_cons_succ]
          first | (refine wpAnyH_take (i := 17) (v := ?_) rfl (by kernel_rfl) (by kernel_rfl) (by kernel_rfl) (fun _ _ _ h => h) (Or.inl ⟨by rfl, ?_⟩) (by assumption) ?_; rotate_left; focus (intro w hSw; (try dsimp only at hSw); go_simp; (all_goals with_reducible rfl); done)) | (refine wpAnyH_take (i := 17) rfl (by kernel_rfl) (by kernel_rfl) (by kernel_rfl) (fun _ _ _ h => h) (Or.inr ⟨by rfl, rfl⟩) (by assumption) ?_) | fail "op 17"
          try simp only [Act.put, List.setIfInBounds_toArray, List.set_cons_zero, List.set_cons_succ, List.getElem_toArray, List.getElem_cons_zero, List.getElem_cons_succ]
          first | (refine wpAnyH_take (i := 18) (v := ?_) rfl (by kernel_rfl) (by kernel_rfl) (by kernel_rfl) (fun _ _ _ h => h) (Or.inl ⟨by rfl, ?_⟩) (by assumption) ?_; rotate_left; focus (intro w hSw; (try dsimp only at hSw); go_simp; (all_goals with_reducible rfl); done)) | (refine wpAnyH_take (i := 18) rfl (by kernel_rfl) (by kernel_rfl) (by kernel_rfl) (fun _ _ _ h => h) (Or.inr ⟨by rfl, rfl⟩) (by assumption) ?_) | fail "op 18"
          try simp only [Act.put, List.setIfInBounds_toArray, List.set_cons_zero, List.set_cons_succ, List.getElem_toArray, List.getElem_cons_zero, List.getElem_cons_succ]
          first | (refine wpAnyH_take (i := 19) (v := ?_) rfl (by kernel_rfl) (by kernel_rfl) (by kernel_rfl) (fun _ _ _ h => h) (Or.inl ⟨by rfl, ?_⟩) (by assumption) ?_; rotate_left; focus (intro w hSw; (try dsimp only at hSw); go_simp; (all_goals with_reducible rfl); done)) | (refine wpAnyH_take (i := 19) rfl (by kernel_rfl) (by kernel_rfl) (by kernel_rfl) (fun _ _ _ h => h) (Or.inr ⟨by rfl, rfl⟩) (by assumption) ?_) | fail "op 19"
          try simp only [Act.put, List.setIfInBounds_toArray, List.set_cons_zero, List.set_cons_succ, List.getElem_toArray, List.getElem_cons_zero, List.getElem_cons_succ]
          first | (refine wpAnyH_take (i := 20) (v := ?_) rfl (by kernel_rfl) (by kernel_rfl) (by kernel_rfl) (fun _ _ _ h => h) (Or.inl ⟨by rfl, ?_⟩) (by assumption) ?_; rotate_left; focus (intro w hSw; (try dsimp only at hSw); go_simp; (all_goals with_reducible rfl); done)) | (refine wpAnyH_take (i := 20) rfl (by kernel_rfl) (by kernel_rfl) (by kernel_rfl) (fun _ _ _ h => h) (Or.inr ⟨by rfl, rfl⟩) (by assumption) ?_) | fail "op 20"
          try simp only [Act.put, List.setIfInBounds_toArray, List.set_cons_zero, List.set_cons_succ, List.getElem_toArray, List.getElem_cons_zero, List.getElem_cons_succ]
          first | (refine wpAnyH_take (i := 21) (v := ?_) rfl (by kernel_rfl) (by kernel_rfl) (by kernel_rfl) (fun _ _ _ h => h) (Or.inl ⟨by rfl, ?_⟩) (by assumption) ?_; rotate_left; focus (intro w hSw; (try dsimp only at hSw); go_simp; (all_goals with_reducible rfl); done)) | (refine wpAnyH_take (i := 21) rfl (by kernel_rfl) (by kernel_rfl) (by kernel_rfl) (fun _ _ _ h => h) (Or.inr ⟨by rfl, rfl⟩) (by assumption) ?_) | fail "op 21"
          try simp only [Act.put, List.setIfInBounds_toArray, List.set_cons_zero, List.set_cons_succ, List.getElem_toArray, List.getElem_cons_zero, List.getElem_cons_succ]
          first | (refine wpAnyH_take (i := 22) (v := ?_) rfl (by kernel_rfl) (by kernel_rfl) (by kernel_rfl) (fun _ _ _ h => h) (Or.inl ⟨by rfl, ?_⟩) (by assumption) ?_; rotate_left; focus (intro w hSw; (try dsimp only at hSw); go_simp; (all_goals with_reducible rfl); done)) | (refine wpAnyH_take (i := 22) rfl (by kernel_rfl) (by kernel_rfl) (by kernel_rfl) (fun _ _ _ h => h) (Or.inr ⟨by rfl, rfl⟩) (by assumption) ?_) | fail "op 22"
          try simp only [Act.put, List.setIfInBounds_toArray, List.set_cons_zero, List.set_cons_succ, List.getElem_toArray, List.getElem_cons_zero, List.getElem_cons_succ]
          first | (refine wpAnyH_take (i := 23) (v := ?_) rfl (by kernel_rfl) (by kernel_rfl) (by kernel_rfl) (fun _ _ _ h => h) (Or.inl ⟨by rfl, ?_⟩) (by assumption) ?_; rotate_left; focus (intro w hSw; (try dsimp only at hSw); go_simp; (all_goals with_reducible rfl); done)) | (refine wpAnyH_take (i := 23) rfl (by kernel_rfl) (by kernel_rfl) (by kernel_rfl) (fun _ _ _ h => h) (Or.inr ⟨by rfl, rfl⟩) (by assumption) ?_) | fail "op 23"
          try simp only [Act.put, List.setIfInBounds_toArray, List.set_cons_zero, List.set_cons_succ, List.getElem_toArray, List.getElem_cons_zero, List.getElem_cons_succ]
          have HEND : Hid (∀ (v : Value) (W : World), W.ownsRow W0.heap.size 5 1 v (L.length + tl.length + 2) (L.map byteV ++ tl.map byteV ++ [.int .u8 (x.limit % 256), .int .u8 ((x.dead + 1) % 256)]) → W.ownsRow W0.heap.size 5 1 v (((L0 ++ encsB [.int p.queues.length])) ++ (p.queues.take (j + 1)).flatMap (fun x => encsB (anyQueue x))).length ((((L0 ++ encsB [.int p.queues.length])) ++ (p.queues.take (j + 1)).flatMap (fun x => encsB (anyQueue x))).map byteV)) := fun v W h => by
            have e1 := HNX.out
            have e3 : encsV (anyQueue x) = tl.map byteV ++ [.int .u8 (x.limit % 256), .int .u8 ((x.dead + 1) % 256)] := by rw [HTL.out, ← encV_eq]; rfl
            rw [e3] at e1
            have e2 : (((L0 ++ encsB [.int p.queues.length])) ++ (p.queues.take (j + 1)).flatMap (fun x => encsB (anyQueue x))).length = L.length + tl.length + 2 := by
              have h := congrArg List.length e1
              simpa only [List.length_map, List.length_append, List.length_cons, List.length_nil, Nat.add_assoc] using h
            rw [e1, e2, ← List.append_assoc]
            exact h
          refine wpAnyH_ready (rs := [7, 24]) (by kernel_rfl) (by simp) ?_
          refine AllReadyH.cons rfl (fun K hK => ?_) (AllReadyH.cons rfl (fun K hK => ?_) AllReadyH.nil)
          · go_simp
            go_at_call 42
            have hfn := HT.out _ ⟨_, by assumption⟩
            with_reducible refine hfn.mono ?_
            clear hfn
            rintro e wt ⟨ta, tc, rfl, hts, htb⟩
            have hbt2 := since_stepC (by assumption) htb
            have hot : wt.ownsRow W0.heap.size 5 1 (.slice va L.length vc) L.length (L.map byteV) := own_below HO.out.drew htb
            have hsz := htb.size
            have hst := hbt2.size
            refine hK.out _ _ (by first | assumption | exact HK.out _ (Below.alloc (by assumption) (by first | assumption | omega) _) | exact HK.out _ (by assumption) | exact HK.out _ (HB.out.drew.alloc (by exact hw0) _)) (fun hHeld => ?_)
            clear hK K
            try simp only [Act.put, List.setIfInBounds_toArray, List.set_cons_zero, List.set_cons_succ, List.getElem_toArray, List.getElem_cons_zero, List.getElem_cons_succ]
            refine wpAnyH_ready (rs := [8, 24]) (by kernel_rfl) (by simp) ?_
            refine AllReadyH.cons rfl (fun K hK => ?_) (AllReadyH.cons rfl (fun K hK => ?_) AllReadyH.nil)
            · rw [if_pos (by rfl)]
              refine bytes_wp (.tmp 53) (.tmp 60) rfl (v := .slice va L.length vc) (n := L.length) (us := L.map byteV) rfl hot rfl (Nat.le_trans hw0 hsz) (List.length_map ..) (by omega) hts (byteV_one _) ?_
              rintro v8 w8 ho8 hg8
              obtain ⟨a8, c8, rfl, _⟩ := own_slice ho8
              have hb8 : Below W0.heap.size W0 w8 := below_since (by assumption) hot hg8 (Nat.le_refl _) (Nat.le_refl _)
              have hs8 := hb8.size
              have hgs := hg8.size
              refine hK.out _ _ (by first | assumption | exact HK.out _ (Below.alloc (by assumption) (by first | assumption | omega) _) | exact HK.out _ (by assumption) | exact HK.out _ (HB.out.drew.alloc (by exact hw0) _)) (fun hHeld => ?_)
              clear hK K
              try simp only [Act.put, List.setIfInBounds_toArray, List.set_cons_zero, List.set_cons_succ, List.getElem_toArray, List.getElem_cons_zero, List.getElem_cons_succ]
              refine wpAnyH_ready (rs := [24]) (by kernel_rfl) (by simp) ?_
              refine AllReadyH.cons rfl (fun K hK => ?_) AllReadyH.nil
              go_simp
              refine hK.out _ _ (by first | assumption | exact HK.out _ (Below.alloc (by assumption) (by first | assumption | omega) _) | exact HK.out _ (by assumption) | exact HK.out _ (HB.out.drew.alloc (by exact hw0) _)) (fun hHeld => ?_)
              clear hK K
              try simp only [Act.put, List.setIfInBounds_toArray, List.set_cons_zero, List.set_cons_succ, List.getElem_toArray, List.getElem_cons_zero, List.getElem_cons_succ]
              refine wpAnyH_ready (rs := [25]) (by kernel_rfl) (by simp) ?_
              refine AllReadyH.cons rfl (fun K hK => ?_) AllReadyH.nil
              rw [if_pos (by rfl)]
              refine bytes_wp (.tmp 61) (.tmp 77) rfl (v := .slice a8 (L.length + tl.length) c8) (n := L.length + tl.length) (us := L.map byteV ++ tl.map byteV) rfl (ho8.alloc _) rfl (Nat.le_trans hs8 (by simp)) (news := [.int .u8 (x.limit % 256), .int .u8 ((x.dead + 1) % 256)]) rfl (by omega) (Sl.new w8 [.int .u8 (x.limit % 256), .int .u8 ((x.dead + 1) % 256)] 5 _ (by simp)) (by intro u hu; simp only [List.mem_cons, List.not_mem_nil, or_false] at hu; rcases hu with rfl | rfl <;> rfl) ?_
              rintro v9 w9 ho9 hg9
              obtain ⟨a9, c9, rfl, _⟩ := own_slice ho9
              have hb9 : Below W0.heap.size W0 w9 := below_since (by assumption) (ho8.alloc _) hg9 (Nat.le_refl _) (Nat.le_refl _)
              refine hK.out _ _ (by first | assumption | exact HK.out _ (Below.alloc (by assumption) (by first | assumption | omega) _) | exact HK.out _ (by assumption) | exact HK.out _ (HB.out.drew.alloc (by exact hw0) _)) (fun hHeld => ?_)
              clear hK K
              try simp only [Act.put, List.setIfInBounds_toArray, List.set_cons_zero, List.set_cons_succ, List.getElem_toArray, List.getElem_cons_zero, List.getElem_cons_succ]
              refine wpAnyH_take (i := 26) (v := ?_) rfl (by kernel_rfl) (by kernel_rfl) (by kernel_rfl) (fun _ _ _ h => h) (Or.inl ⟨by rfl, ?_⟩) (by assumption) ?_
              rotate_left
              focus (intro w hSw; (try dsimp only at hSw); go_simp; (all_goals with_reducible rfl); done)
              try simp only [Act.put, List.setIfInBounds_toArray, List.set_cons_zero, List.set_cons_succ, List.getElem_toArray, List.getElem_cons_zero, List.getElem_cons_succ]
              refine wpAnyH_done (by kernel_rfl) ?_ _
              have HFIN := Lib.hid (And.intro ho9 hb9)
              clear ho9 hb9
              go_wp2_with fail
              exact ⟨⟨j + 1, hjl, by go_num, HEND.out _ _ HFIN.out.1, HFIN.out.2⟩, by simp [intOf]; omega⟩
            · go_simp
              refine hK.out _ _ (by first | assumption | exact HK.out _ (Below.alloc (by assumption) (by first | assumption | omega) _) | exact HK.out _ (by assumption) | exact HK.out _ (HB.out.drew.alloc (by exact hw0) _)) (fun hHeld => ?_)
              clear hK K
              try simp only [Act.put, List.setIfInBounds_toArray, List.set_cons_zero, List.set_cons_succ, List.getElem_toArray, List.getElem_cons_zero, List.getElem_cons_succ]
              refine wpAnyH_ready (rs := [8]) (by kernel_rfl) (by simp) ?_
              refine AllReadyH.cons rfl (fun K hK => ?_) AllReadyH.nil
              rw [if_pos (by rfl)]
              refine bytes_wp (.tmp 53) (.tmp 60) rfl (v := .slice va L.length vc) (n := L.length) (us := L.map byteV) rfl (hot.alloc _) rfl (Nat.le_trans hst (by simp)) (List.length_map ..) (by omega) (sl_alloc hts _) (byteV_one _) ?_
              rintro v8 w8 ho8 hg8
              obtain ⟨a8, c8, rfl, _⟩ := own_slice ho8
              have hb8 : Below W0.heap.size W0 w8 := below_since (by assumption) (hot.alloc _) hg8 (Nat.le_refl _) (Nat.le_refl _)
              have hs8 := hb8.size
              have hgs := hg8.size
              refine hK.out _ _ (by first | assumption | exact HK.out _ (Below.alloc (by assumption) (by first | assumption | omega) _) | exact HK.out _ (by assumption) | exact HK.out _ (HB.out.drew.alloc (by exact hw0) _)) (fun hHeld => ?_)
              clear hK K
              try simp only [Act.put, List.setIfInBounds_toArray, List.set_cons_zero, List.set_cons_succ, List.getElem_toArray, List.getElem_cons_zero, List.getElem_cons_succ]
              refine wpAnyH_ready (rs := [25]) (by kernel_rfl) (by simp) ?_
              refine AllReadyH.cons rfl (fun K hK => ?_) AllReadyH.nil
              rw [if_pos (by rfl)]
              refine bytes_wp (.tmp 61) (.tmp 77) rfl (v := .slice a8 (L.length + tl.length) c8) (n := L.length + tl.length) (us := L.map byteV ++ tl.map byteV) rfl ho8 rfl hs8 (news := [.int .u8 (x.limit % 256), .int .u8 ((x.dead + 1) % 256)]) rfl (by omega) ((sl_fresh (Sl.new wt [.int .u8 (x.limit % 256), .int .u8 ((x.dead + 1) % 256)] 5 (wt.heap.size + 1) (by simp)) hg8 (fun k hk => by have := (hot.lt k hk).2; omega) (by simp)).wider (Nat.le_refl _) (by simp at hgs; omega)) (by intro u hu; simp only [List.mem_cons, List.not_mem_nil, or_false] at hu; rcases hu with rfl | rfl <;> rfl) ?_
              rintro v9 w9 ho9 hg9
              obtain ⟨a9, c9, rfl, _⟩ := own_slice ho9
              have hb9 : Below W0.heap.size W0 w9 := below_since (by assumption) ho8 hg9 (Nat.le_refl _) (Nat.le_refl _)
              refine hK.out _ _ (by first | assumption | exact HK.out _ (Below.alloc (by assumption) (by first | assumption | omega) _) | exact HK.out _ (by assumption) | exact HK.out _ (HB.out.drew.alloc (by exact hw0) _)) (fun hHeld => ?_)
              clear hK K
              try simp only [Act.put, List.setIfInBounds_toArray, List.set_cons_zero, List.set_cons_succ, List.getElem_toArray, List.getElem_cons_zero, List.getElem_cons_succ]
              refine wpAnyH_take (i := 26) (v := ?_) rfl (by kernel_rfl) (by kernel_rfl) (by kernel_rfl) (fun _ _ _ h => h) (Or.inl ⟨by rfl, ?_⟩) (by assumption) ?_
              rotate_left
              focus (intro w hSw; (try dsimp only at hSw); go_simp; (all_goals with_reducible rfl); done)
              try simp only [Act.put, List.setIfInBounds_toArray, List.set_cons_zero, List.set_cons_succ, List.getElem_toArray, List.getElem_cons_zero, List.getElem_cons_succ]
              refine wpAnyH_done (by kernel_rfl) ?_ _
              have HFIN := Lib.hid (And.intro ho9 hb9)
              clear ho9 hb9
              go_wp2_with fail
              exact ⟨⟨j + 1, hjl, by go_num, HEND.out _ _ HFIN.out.1, HFIN.out.2⟩, by simp [intOf]; omega⟩
          · go_simp
            refine hK.out _ _ (by first | assumption | exact HK.out _ (Below.alloc (by assumption) (by first | assumption | omega) _) | exact HK.out _ (by assumption) | exact HK.out _ (HB.out.drew.alloc (by exact hw0) _)) (fun hHeld => ?_)
            clear hK K
            try simp only [Act.put, List.setIfInBounds_toArray, List.set_cons_zero, List.set_cons_succ, List.getElem_toArray, List.getElem_cons_zero, List.getElem_cons_succ]
            refine wpAnyH_ready (rs := [7]) (by kernel_rfl) (by simp) ?_
            refine AllReadyH.cons rfl (fun K hK => ?_) AllReadyH.nil
            go_simp
            go_at_call 42
            have hfn := HT.out _ ⟨_, by assumption⟩
            with_reducible refine hfn.mono ?_
            clear hfn
            rintro e wt ⟨ta, tc, rfl, hts, htb⟩
            have hbt2 := since_stepC (by assumption) htb
            have hot : wt.ownsRow W0.heap.size 5 1 (.slice va L.length vc) L.length (L.map byteV) := own_below (HO.out.drew.alloc _) htb
            have hsz := htb.size
            have hst := hbt2.size
            refine hK.out _ _ (by first | assumption | exact HK.out _ (Below.alloc (by assumption) (by first | assumption | omega) _) | exact HK.out _ (by assumption) | exact HK.out _ (HB.out.drew.alloc (by exact hw0) _)) (fun hHeld => ?_)
            clear hK K
            try simp only [Act.put, List.setIfInBounds_toArray, List.set_cons_zero, List.set_cons_succ, List.getElem_toArray, List.getElem_cons_zero, List.getElem_cons_succ]
            refine wpAnyH_ready (rs := [8]) (by kernel_rfl) (by simp) ?_
            refine AllReadyH.cons rfl (fun K hK => ?_) AllReadyH.nil
            rw [if_pos (by rfl)]
            refine bytes_wp (.tmp 53) (.tmp 60) rfl (v := .slice va L.length vc) (n := L.length) (us := L.map byteV) rfl hot rfl hst (List.length_map ..) (by omega) hts (byteV_one _) ?_
            rintro v8 w8 ho8 hg8
            obtain ⟨a8, c8, rfl, _⟩ := own_slice ho8
            have hb8 : Below W0.heap.size W0 w8 := below_since (by assumption) hot hg8 (Nat.le_refl _) (Nat.le_refl _)
            have hs8 := hb8.size
            have hgs := hg8.size
            refine hK.out _ _ (by first | assumption | exact HK.out _ (Below.alloc (by assumption) (by first | assumption | omega) _) | exact HK.out _ (by assumption) | exact HK.out _ (HB.out.drew.alloc (by exact hw0) _)) (fun hHeld => ?_)
            clear hK K
            try simp only [Act.put, List.setIfInBounds_toArray, List.set_cons_zero, List.set_cons_succ, List.getElem_toArray, List.getElem_cons_zero, List.getElem_cons_succ]
            refine wpAnyH_ready (rs := [25]) (by kernel_rfl) (by simp) ?_
            refine AllReadyH.cons rfl (fun K hK => ?_) AllReadyH.nil
            rw [if_pos (by rfl)]
            refine bytes_wp (.tmp 61) (.tmp 77) rfl (v := .slice a8 (L.length + tl.length) c8) (n := L.length + tl.length) (us := L.map byteV ++ tl.map byteV) rfl ho8 rfl hs8 (news := [.int .u8 (x.limit % 256), .int .u8 ((x.dead + 1) % 256)]) rfl (by omega) ((sl_fresh ((Sl.new wr.drew [.int .u8 (x.limit % 256), .int .u8 ((x.dead + 1) % 256)] 5 (wr.heap.size + 1) (by show wr.heap.size < wr.heap.size + 1; omega)).below htb (by simp)) hg8 (fun k hk => (HO.out.lt k hk).2) (by simpa using hsz)).wider (Nat.le_refl _) (by simp at hsz; omega)) (by intro u hu; simp only [List.mem_cons, List.not_mem_nil, or_false] at hu; rcases hu with rfl | rfl <;> rfl) ?_
            rintro v9 w9 ho9 hg9
            obtain ⟨a9, c9, rfl, _⟩ := own_slice ho9
            have hb9 : Below W0.heap.size W0 w9 := below_since (by assumption) ho8 hg9 (Nat.le_refl _) (Nat.le_refl _)
            refine hK.out _ _ (by first | assumption | exact HK.out _ (Below.alloc (by assumption) (by first | assumption | omega) _) | exact HK.out _ (by assumption) | exact HK.out _ (HB.out.drew.alloc (by exact hw0) _)) (fun hHeld => ?_)
            clear hK K
            try simp only [Act.put, List.setIfInBounds_toArray, List.set_cons_zero, List.set_cons_succ, List.getElem_toArray, List.getElem_cons_zero, List.getElem_cons_succ]
            refine wpAnyH_take (i := 26) (v := ?_) rfl (by kernel_rfl) (by kernel_rfl) (by kernel_rfl) (fun _ _ _ h => h) (Or.inl ⟨by rfl, ?_⟩) (by assumption) ?_
            rotate_left
            focus (intro w hSw; (try dsimp only at hSw); go_simp; (all_goals with_reducible rfl); done)
            try simp only [Act.put, List.setIfInBounds_toArray, List.set_cons_zero, List.set_cons_succ, List.getElem_toArray, List.getElem_cons_zero, List.getElem_cons_succ]
            refine wpAnyH_done (by kernel_rfl) ?_ _
            have HFIN := Lib.hid (And.intro ho9 hb9)
            clear ho9 hb9
            go_wp2_with fail
            exact ⟨⟨j + 1, hjl, by go_num, HEND.out _ _ HFIN.out.1, HFIN.out.2⟩, by simp [intOf]; omega⟩
        · obtain rfl : j = p.queues.length := by omega
          have HOP := Lib.hid HO.out
          have HBP := Lib.hid HB.out
          clear HO HB
          generalize hLL : (L0 ++ encsB [.int p.queues.length]) ++ (p.queues.take p.queues.length).flatMap (fun x => encsB (anyQueue x)) = L1 at *
          rw [flat_all] at hLL
          have hL1n : L1.length ≤ 40000000 := by
            rw [← hLL, List.length_append, List.length_append]
            have e0 : (encsB [.int (p.queues.length : Int)]).length = 1 := by simp [encsB, encB]
            have := BP2.out
            omega
          have hbw := HBP.out.size
          go_wp2_with (at_builtin; refine append1 rfl _ _ 76 rfl W0.heap.size 5 infoU8 Tryd.underlying76 rfl (by decide) (by decide) wr _ _ _ rfl HOP.out [.int .u8 (p.binds.length : Int)] rfl rfl rfl (by simp [Value.oneCell']) (by omega) hbw ?_; intro v2 w2 hown2 hgrow; obtain ⟨a2', cp2, rfl, _⟩ := own_slice hown2; have HN := Lib.hid (And.intro hown2 (below_own HOP.out hgrow HBP.out (Nat.le_refl _) hbw)); clear hown2 hgrow)
          have HNQ : Hid (w2.ownsRow W0.heap.size 5 1 (.slice a2' (L1.length + 1) cp2) (L1 ++ encsB [.int p.binds.length]).length ((L1 ++ encsB [.int p.binds.length]).map byteV) ∧ Below W0.heap.size W0 w2) := by
            refine (?_ : _ ∧ _)
            have e4 : (p.binds.length : Int) % 256 = (p.binds.length : Int) := by omega
            have h := HN.out
            refine ⟨?_, h.2⟩
            have h1 := h.1
            simpa [encsB, encB, byteV, byteN_toNat, e4] using h1
          have HLL2 := Lib.hid hLL
          clear hLL
          go_loopw [3, 6, 7, 8] (fun v i _ _ wr => BRel p.binds anyBind (L1 ++ encsB [.int p.binds.length]) W0.heap.size W0 v i wr) (fun _ i _ _ _ => p.binds.length - (intOf i).toNat)
          case atStart => exact ⟨0, by omega, rfl, by rw [List.take_zero, List.flatMap_nil, List.append_nil]; exact HNQ.out.1, HNQ.out.2⟩
          case round =>
            obtain ⟨j, hj, rfl, hown, hB⟩ := hrel
            have HO := Lib.hid hown
            have HB := Lib.hid hB
            obtain ⟨va, vc, rfl, _⟩ := own_slice hown
            clear hown hB
            obtain ⟨hpat, ⟨m20, m21, m22⟩, _⟩ := HBX.out _ HB.out
            by_cases hjl : j < p.binds.length
            · obtain ⟨b, o, ha, _, hb, hcl⟩ := sl_elem vBind_len (by decide) hpat.binds hjl
              have d0 : wr.cell? ⟨b, o + j * 4, none⟩ = some (.int .i64 p.binds[j].src) := hcl 0 _ rfl
              have d1 : wr.cell? ⟨b, o + j * 4 + 1, none⟩ = some (.bool p.binds[j].toPost) := hcl 1 _ rfl
              have d2 : wr.cell? ⟨b, o + j * 4 + 2, none⟩ = some (.int .i64 p.binds[j].to) := hcl 2 _ rfl
              have d3 : wr.cell? ⟨b, o + j * 4 + 3, none⟩ = some (.string p.binds[j].pattern) := hcl 3 _ rfl
              have hnm := HS.out.bind _ (List.getElem_mem hjl)
              have htk := take_flat_len (j := j) (bind_bytes HS.out)
              have hnx := flat_next (f := anyBind) (hd := L1 ++ encsB [.int p.binds.length]) hjl
              clear hcl hpat
              generalize p.binds[j] = x at *
              generalize hLL : (L1 ++ encsB [.int p.binds.length]) ++ (p.binds.take j).flatMap (fun x => encsB (anyBind x)) = L at *
              have hLn : L.length ≤ 60000000 := by
                rw [← hLL, List.length_append, List.length_append]
                have e00 : (encsB [.int (p.binds.length : Int)]).length = 1 := by simp [encsB, encB]
                omega
              have HNX := Lib.hid hnx
              subst ha
              obtain ⟨tp, htp⟩ : ∃ tp, x.toPost = tp := ⟨_, rfl⟩
              rw [htp] at d1
              have HTP := Lib.hid htp
              clear htp
              have hX : Bk (wr.alloc (.cells #[.int .i64 x.src, .bool tp, .int .i64 x.to, .string x.pattern] 64)) wr.heap.size 64 #[.int .i64 x.src, .bool tp, .int .i64 x.to, .string x.pattern] := Bk.new _ _ _
              have HOX := Lib.hid (HO.out.alloc (.cells #[.int .i64 x.src, .bool tp, .int .i64 x.to, .string x.pattern] 64))
              have HBX2 := Lib.hid (HB.out.alloc HB.out.size (.cells #[.int .i64 x.src, .bool tp, .int .i64 x.to, .string x.pattern] 64))
              have HKX := Lib.hid hX
              obtain ⟨tl, htl⟩ : ∃ tl, tl = encB (.str x.pattern) := ⟨_, rfl⟩
              have HT : Hid (∀ W, Calls Tryd.prog 42 #[.string x.pattern] W fun e w' => ∃ ta tc, e = .returned (.slice ta tl.length tc) ∧ Sl w' W.heap.size w'.heap.size ta (tl.map byteV) ∧ Below W.heap.size W w') := fun W => by
                refine (texted_any x.pattern W hnm).mono ?_
                rintro e w' ⟨v, rfl, ho, hb⟩
                rw [← htl] at ho
                obtain ⟨ta, tc, rfl, _⟩ := own_slice ho
                exact ⟨ta, tc, rfl, Sl.of_own ho, hb⟩
              have htl2 : tl.length ≤ 1048600 := by rw [htl]; simp only [encB, List.length_append, List.length_cons, List.length_nil, Array.length_toList]; have : x.pattern.data.size = x.pattern.size := rfl; omega
              have HTL := Lib.hid htl
              clear htl hnx htk hX
              have hw0 := HB.out.size
              have HK : Hid (∀ W, Bk W wr.heap.size 64 #[.int .i64 x.src, .bool tp, .int .i64 x.to, .string x.pattern] → Below W0.heap.size W0 W → (W.cell? ⟨wr.heap.size, 0, none⟩ = some (.int .i64 x.src) ∧ W.cell? ⟨wr.heap.size, 2, none⟩ = some (.int .i64 x.to) ∧ W.cell? ⟨wr.heap.size, 3, none⟩ = some (.string x.pattern)) ∧ Below W0.heap.size W0 W) := fun W h1 h2 => ⟨⟨h1.cell 0, h1.cell 2, h1.cell 3⟩, h2⟩
              cases tp
              · have HEND : Hid (∀ (v : Value) (W : World), W.ownsRow W0.heap.size 5 1 v (L.length + 3 + tl.length) (L.map byteV ++ [.int .u8 (x.src % 256), .int .u8 0, .int .u8 (x.to % 256)] ++ tl.map byteV) → W.ownsRow W0.heap.size 5 1 v ((L1 ++ encsB [.int p.binds.length]) ++ (p.binds.take (j + 1)).flatMap (fun x => encsB (anyBind x))).length (((L1 ++ encsB [.int p.binds.length]) ++ (p.binds.take (j + 1)).flatMap (fun x => encsB (anyBind x))).map byteV)) := fun v W h => by
                  have e1 := HNX.out
                  have e3 : encsV (anyBind x) = [.int .u8 (x.src % 256), .int .u8 0, .int .u8 (x.to % 256)] ++ tl.map byteV := by rw [HTL.out, ← encV_eq]; simp [encsV, anyBind, encV, HTP.out]
                  rw [e3] at e1
                  have e2 : ((L1 ++ encsB [.int (p.binds.length : Int)]) ++ (p.binds.take (j + 1)).flatMap (fun x => encsB (anyBind x))).length = L.length + 3 + tl.length := by
                    have h := congrArg List.length e1
                    simp only [List.length_map, List.length_append, List.length_cons, List.length_nil] at h ⊢; omega
                  rw [e1, e2, ← List.append_assoc]
                  exact h
                go_upto_region 19 with fail
                clear m20 m21 m22 d0 d1 d2 d3
                obtain ⟨X, hXX⟩ : ∃ X, (wr.alloc (.cells #[.int .i64 x.src, .bool false, .int .i64 x.to, .string x.pattern] 64)) = X := ⟨_, rfl⟩
                have hzX : X.heap.size = wr.heap.size + 1 := by rw [← hXX]; simp
                rw [hXX] at HOX HBX2 HKX
                rw [hXX]
                clear hXX
                have HZX := Lib.hid hzX
                clear hzX
                have hwX := HBX2.out.size
                refine wp_region_held_drew (S := (fun W => (W.cell? ⟨wr.heap.size, 0, none⟩ = some (.int .i64 x.src) ∧ W.cell? ⟨wr.heap.size, 2, none⟩ = some (.int .i64 x.to) ∧ W.cell? ⟨wr.heap.size, 3, none⟩ = some (.string x.pattern)) ∧ Below W0.heap.size W0 W)) (by kernel_rfl) (by first | assumption | exact HK.out _ HKX.out HBX2.out.drew) (fun hHeld => ?_)
                first | (refine wpAnyH_take (i := 0) (v := ?_) rfl (by kernel_rfl) (by kernel_rfl) (by kernel_rfl) (fun _ _ _ h => h) (Or.inl ⟨by rfl, ?_⟩) (by assumption) ?_; rotate_left; focus (intro w hSw; (try dsimp only at hSw); go_simp; (all_goals with_reducible rfl); done)) | (refine wpAnyH_take (i := 0) rfl (by kernel_rfl) (by kernel_rfl) (by kernel_rfl) (fun _ _ _ h => h) (Or.inr ⟨by rfl, rfl⟩) (by assumption) ?_) | fail "op 0"
                try simp only [Act.put, List.setIfInBounds_toArray, List.set_cons_zero, List.set_cons_succ, List.getElem_toArray, List.getElem_cons_zero]
                first | (refine wpAnyH_take (i := 1) (v := ?_) rfl (by kernel_rfl) (by kernel_rfl) (by kernel_rfl) (fun _ _ _ h => h) (Or.inl ⟨by rfl, ?_⟩) (by assumption) ?_; rotate_left; focus (intro w hSw; (try dsimp only at hSw); go_simp; (all_goals with_reducible rfl); done)) | (refine wpAnyH_take (i := 1) rfl (by kernel_rfl) (by kernel_rfl) (by kernel_rfl) (fun _ _ _ h => h) (Or.inr ⟨by rfl, rfl⟩) (by assumption) ?_) | fail "op 1"
                try simp only [Act.put, List.setIfInBounds_toArray, List.set_cons_zero, List.set_cons_succ, List.getElem_toArray, List.getElem_cons_zero, List.getElem_cons_succ]
                first | (refine wpAnyH_take (i := 2) (v := ?_) rfl (by kernel_rfl) (by kernel_rfl) (by kernel_rfl) (fun _ _ _ h => h) (Or.inl ⟨by rfl, ?_⟩) (by assumption) ?_; rotate_left; focus (intro w hSw; (try dsimp only at hSw); go_simp; (all_goals with_reducible rfl); done)) | (refine wpAnyH_take (i := 2) rfl (by kernel_rfl) (by kernel_rfl) (by kernel_rfl) (fun _ _ _ h => h) (Or.inr ⟨by rfl, rfl⟩) (by assumption) ?_) | fail "op 2"
                try simp only [Act.put, List.setIfInBounds_toArray, List.set_cons_zero, List.set_cons_succ, List.getElem_toArray, List.getElem_cons_zero, List.getElem_cons_succ]
                first | (refine wpAnyH_take (i := 3) (v := ?_) rfl (by kernel_rfl) (by kernel_rfl) (by kernel_rfl) (fun _ _ _ h => h) (Or.inl ⟨by rfl, ?_⟩) (by assumption) ?_; rotate_left; focus (intro w hSw; (try dsimp only at hSw); go_simp; (all_goals with_reducible rfl); done)) | (refine wpAnyH_take (i := 3) rfl (by kernel_rfl) (by kernel_rfl) (by kernel_rfl) (fun _ _ _ h => h) (Or.inr ⟨by rfl, rfl⟩) (by assumption) ?_) | fail "op 3"
                try simp only [Act.put, List.setIfInBounds_toArray, List.set_cons_zero, List.set_cons_succ, List.getElem_toArray, List.getElem_cons_zero, List.getElem_cons_succ]
                first | (refine wpAnyH_take (i := 4) (v := ?_) rfl (by kernel_rfl) (by kernel_rfl) (by kernel_rfl) (fun _ _ _ h => h) (Or.inl ⟨by rfl, ?_⟩) (by assumption) ?_; rotate_left; focus (intro w hSw; (try dsimp only at hSw); go_simp; (all_goals with_reducible rfl); done)) | (refine wpAnyH_take (i := 4) rfl (by kernel_rfl) (by kernel_rfl) (by kernel_rfl) (fun _ _ _ h => h) (Or.inr ⟨by rfl, rfl⟩) (by assumption) ?_) | fail "op 4"
                try simp only [Act.put, List.setIfInBounds_toArray, List.set_cons_zero, List.set_cons_succ, List.getElem_toArray, List.getElem_cons_zero, List.getElem_cons_succ]
                first | (refine wpAnyH_take (i := 5) (v := ?_) rfl (by kernel_rfl) (by kernel_rfl) (by kernel_rfl) (fun _ _ _ h => h) (Or.inl ⟨by rfl, ?_⟩) (by assumption) ?_; rotate_left; focus (intro w hSw; (try dsimp only at hSw); go_simp; (all_goals with_reducible rfl); done)) | (refine wpAnyH_take (i := 5) rfl (by kernel_rfl) (by kernel_rfl) (by kernel_rfl) (fun _ _ _ h => h) (Or.inr ⟨by rfl, rfl⟩) (by assumption) ?_) | fail "op 5"
                try simp only [Act.put, List.setIfInBounds_toArray, List.set_cons_zero, List.set_cons_succ, List.getElem_toArray, List.getElem_cons_zero, List.getElem_cons_succ]
                first | (refine wpAnyH_take (i := 6) (v := ?_) rfl (by kernel_rfl) (by kernel_rfl) (by kernel_rfl) (fun _ _ _ h => h) (Or.inl ⟨by rfl, ?_⟩) (by assumption) ?_; rotate_left; focus (intro w hSw; (try dsimp only at hSw); go_simp; (all_goals with_reducible rfl); done)) | (refine wpAnyH_take (i := 6) rfl (by kernel_rfl) (by kernel_rfl) (by kernel_rfl) (fun _ _ _ h => h) (Or.inr ⟨by rfl, rfl⟩) (by assumption) ?_) | fail "op 6"
                try simp only [Act.put, List.setIfInBounds_toArray, List.set_cons_zero, List.set_cons_succ, List.getElem_toArray, List.getElem_cons_zero, List.getElem_cons_succ]
                first | (refine wpAnyH_take (i := 7) (v := ?_) rfl (by kernel_rfl) (by kernel_rfl) (by kernel_rfl) (fun _ _ _ h => h) (Or.inl ⟨by rfl, ?_⟩) (by assumption) ?_; rotate_left; focus (intro w hSw; (try dsimp only at hSw); go_simp; (all_goals with_reducible rfl); done)) | (refine wpAnyH_take (i := 7) rfl (by kernel_rfl) (by kernel_rfl) (by kernel_rfl) (fun _ _ _ h => h) (Or.inr ⟨by rfl, rfl⟩) (by assumption) ?_) | fail "op 7"
                try simp only [Act.put, List.setIfInBounds_toArray, List.set_cons_zero, List.set_cons_succ, List.getElem_toArray, List.getElem_cons_zero, List.getElem_cons_succ]
                first | (refine wpAnyH_take (i := 10) (v := ?_) rfl (by kernel_rfl) (by kernel_rfl) (by kernel_rfl) (fun _ _ _ h => h) (Or.inl ⟨by rfl, ?_⟩) (by assumption) ?_; rotate_left; focus (intro w hSw; (try dsimp only at hSw); go_simp; (all_goals with_reducible rfl); done)) | (refine wpAnyH_take (i := 10) rfl (by kernel_rfl) (by kernel_rfl) (by kernel_rfl) (fun _ _ _ h => h) (Or.inr ⟨by rfl, rfl⟩) (by assumption) ?_) | fail "op 10"
                try simp only [Act.put, List.setIfInBounds_toArray, List.set_cons_zero, List.set_cons_succ, List.getElem_toArray, List.getElem_cons_zero, List.getElem_cons_succ]
                first | (refine wpAnyH_take (i := 11) (v := ?_) rfl (by kernel_rfl) (by kernel_rfl) (by kernel_rfl) (fun _ _ _ h => h) (Or.inl ⟨by rfl, ?_⟩) (by assumption) ?_; rotate_left; focus (intro w hSw; (try dsimp only at hSw); go_simp; (all_goals with_reducible rfl); done)) | (refine wpAnyH_take (i := 11) rfl (by kernel_rfl) (by kernel_rfl) (by kernel_rfl) (fun _ _ _ h => h) (Or.inr ⟨by rfl, rfl⟩) (by assumption) ?_) | fail "op 11"
                try simp only [Act.put, List.setIfInBounds_toArray, List.set_cons_zero, List.set_cons_succ, List.getElem_toArray, List.getElem_cons_zero, List.getElem_cons_succ]
                refine wpAnyH_ready (rs := [8]) (by kernel_rfl) (by simp) ?_
                refine AllReadyH.cons rfl (fun K hK => ?_) (AllReadyH.nil)
                go_simp
                refine hK.out _ _ (HK.out _ ((HKX.out : Bk X.drew _ _ _).alloc _) (Below.alloc HBX2.out.drew (by first | assumption | exact hwX) _)) (fun hHeld => ?_)
                clear hK K
                try simp only [Act.put, List.setIfInBounds_toArray, List.set_cons_zero, List.set_cons_succ, List.getElem_toArray, List.getElem_cons_zero, List.getElem_cons_succ]
                refine wpAnyH_ready (rs := [9]) (by kernel_rfl) (by simp) ?_
                refine AllReadyH.cons rfl (fun K hK => ?_) (AllReadyH.nil)
                rw [if_pos (by rfl)]
                refine bytes_wp (.tmp 100) (.tmp 108) rfl (v := .slice va L.length vc) (n := L.length) (us := L.map byteV) rfl (HOX.out.drew.alloc _) rfl (Nat.le_trans hwX (by simp)) (news := [.int .u8 (x.src % 256), .int .u8 0, .int .u8 (x.to % 256)]) rfl (by omega) (Sl.new X.drew [.int .u8 (x.src % 256), .int .u8 0, .int .u8 (x.to % 256)] 5 _ (by simp)) (by intro u hu; simp only [List.mem_cons, List.not_mem_nil, or_false] at hu; rcases hu with rfl | rfl | rfl <;> rfl) ?_
                rintro v8 w8 ho8 hg8
                obtain ⟨a8, c8, rfl, _⟩ := own_slice ho8
                have hb8 : Below W0.heap.size W0 w8 := below_own (HOX.out.drew.alloc _) hg8 (Below.alloc HBX2.out.drew (by exact hwX) _) (Nat.le_refl _) (Nat.le_trans hwX (by simp))
                have hk8 := Bk.grown (Bk.alloc (w := X.drew) HKX.out _) hg8 (own_bk (HOX.out.drew.alloc (.cells #[.int .u8 (x.src % 256), .int .u8 0, .int .u8 (x.to % 256)] 5)) (Bk.alloc (w := X.drew) HKX.out _) (by decide))
                have hs8 := hb8.size
                have hgs := hg8.size
                refine hK.out _ _ (HK.out _ hk8 hb8) (fun hHeld => ?_)
                clear hK K
                try simp only [Act.put, List.setIfInBounds_toArray, List.set_cons_zero, List.set_cons_succ, List.getElem_toArray, List.getElem_cons_zero, List.getElem_cons_succ]
                refine wpAnyH_ready (rs := [12]) (by kernel_rfl) (by simp) ?_
                refine AllReadyH.cons rfl (fun K hK => ?_) (AllReadyH.nil)
                go_simp
                go_at_call 42
                with_reducible refine (HT.out _).mono ?_
                rintro e wt ⟨ta, tc, rfl, hts, htb⟩
                have hkt := Bk.below (w := _) hk8 htb hk8.lt
                have hbt := Below.trans hb8 (htb.mono (by exact hs8))
                have hst := hbt.size
                have hsz := htb.size
                refine hK.out _ _ (HK.out _ hkt hbt) (fun hHeld => ?_)
                clear hK K
                try simp only [Act.put, List.setIfInBounds_toArray, List.set_cons_zero, List.set_cons_succ, List.getElem_toArray, List.getElem_cons_zero, List.getElem_cons_succ]
                refine wpAnyH_ready (rs := [13]) (by kernel_rfl) (by simp) ?_
                refine AllReadyH.cons rfl (fun K hK => ?_) (AllReadyH.nil)
                rw [if_pos (by rfl)]
                refine bytes_wp (.tmp 109) (.tmp 112) rfl (v := .slice a8 (L.length + 3) c8) (n := L.length + 3) (us := L.map byteV ++ [.int .u8 (x.src % 256), .int .u8 0, .int .u8 (x.to % 256)]) rfl (own_below ho8 htb) rfl hst (List.length_map ..) (by omega) hts (byteV_one _) ?_
                rintro v9 w9 ho9 hg9
                obtain ⟨a9, c9, rfl, _⟩ := own_slice ho9
                have hb9 : Below W0.heap.size W0 w9 := below_own (own_below ho8 htb) hg9 hbt (Nat.le_refl _) hst
                have hk9 := Bk.grown hkt hg9 (own_bk (own_below ho8 htb) hkt (by decide))
                refine hK.out _ _ (HK.out _ hk9 hb9) (fun hHeld => ?_)
                clear hK K
                try simp only [Act.put, List.setIfInBounds_toArray, List.set_cons_zero, List.set_cons_succ, List.getElem_toArray, List.getElem_cons_zero, List.getElem_cons_succ]
                refine wpAnyH_take (i := 14) (v := ?_) rfl (by kernel_rfl) (by kernel_rfl) (by kernel_rfl) (fun _ _ _ h => h) (Or.inl ⟨by rfl, ?_⟩) (by assumption) ?_
                rotate_left
                focus (intro w hSw; (try dsimp only at hSw); go_simp; (all_goals with_reducible rfl); done)
                try simp only [Act.put, List.setIfInBounds_toArray, List.set_cons_zero, List.set_cons_succ, List.getElem_toArray, List.getElem_cons_zero, List.getElem_cons_succ]
                refine wpAnyH_done (by kernel_rfl) ?_ _
                have HFIN := Lib.hid (And.intro ho9 hb9)
                clear ho9 hb9
                go_wp2_with fail
                exact ⟨⟨j + 1, hjl, by go_num, HEND.out _ _ HFIN.out.1, HFIN.out.2⟩, by simp [intOf]; omega⟩
              · have HEND : Hid (∀ (v : Value) (W : World), W.ownsRow W0.heap.size 5 1 v (L.length + 3 + tl.length) (L.map byteV ++ [.int .u8 (x.src % 256), .int .u8 1, .int .u8 (x.to % 256)] ++ tl.map byteV) → W.ownsRow W0.heap.size 5 1 v ((L1 ++ encsB [.int p.binds.length]) ++ (p.binds.take (j + 1)).flatMap (fun x => encsB (anyBind x))).length (((L1 ++ encsB [.int p.binds.length]) ++ (p.binds.take (j + 1)).flatMap (fun x => encsB (anyBind x))).map byteV)) := fun v W h => by
                  have e1 := HNX.out
                  have e3 : encsV (anyBind x) = [.int .u8 (x.src % 256), .int .u8 1, .int .u8 (x.to % 256)] ++ tl.map byteV := by rw [HTL.out, ← encV_eq]; simp [encsV, anyBind, encV, HTP.out]
                  rw [e3] at e1
                  have e2 : ((L1 ++ encsB [.int (p.binds.length : Int)]) ++ (p.binds.take (j + 1)).flatMap (fun x => encsB (anyBind x))).length = L.length + 3 + tl.length := by
                    have h := congrArg List.length e1
                    simp only [List.length_map, List.length_append, List.length_cons, List.length_nil] at h ⊢; omega
                  rw [e1, e2, ← List.append_assoc]
                  exact h
                go_upto_region 19 with fail
                clear m20 m21 m22 d0 d1 d2 d3
                obtain ⟨X, hXX⟩ : ∃ X, (wr.alloc (.cells #[.int .i64 x.src, .bool true, .int .i64 x.to, .string x.pattern] 64)) = X := ⟨_, rfl⟩
                have hzX : X.heap.size = wr.heap.size + 1 := by rw [← hXX]; simp
                rw [hXX] at HOX HBX2 HKX
                rw [hXX]
                clear hXX
                have HZX := Lib.hid hzX
                clear hzX
                have hwX := HBX2.out.size
                refine wp_region_held_drew (S := (fun W => (W.cell? ⟨wr.heap.size, 0, none⟩ = some (.int .i64 x.src) ∧ W.cell? ⟨wr.heap.size, 2, none⟩ = some (.int .i64 x.to) ∧ W.cell? ⟨wr.heap.size, 3, none⟩ = some (.string x.pattern)) ∧ Below W0.heap.size W0 W)) (by kernel_rfl) (by first | assumption | exact HK.out _ HKX.out HBX2.out.drew) (fun hHeld => ?_)
                first | (refine wpAnyH_take (i := 0) (v := ?_) rfl (by kernel_rfl) (by kernel_rfl) (by kernel_rfl) (fun _ _ _ h => h) (Or.inl ⟨by rfl, ?_⟩) (by assumption) ?_; rotate_left; focus (intro w hSw; (try dsimp only at hSw); go_simp; (all_goals with_reducible rfl); done)) | (refine wpAnyH_take (i := 0) rfl (by kernel_rfl) (by kernel_rfl) (by kernel_rfl) (fun _ _ _ h => h) (Or.inr ⟨by rfl, rfl⟩) (by assumption) ?_) | fail "op 0"
                try simp only [Act.put, List.setIfInBounds_toArray, List.set_cons_zero, List.set_cons_succ, List.getElem_toArray, List.getElem_cons_zero]
                first | (refine wpAnyH_take (i := 1) (v := ?_) rfl (by kernel_rfl) (by kernel_rfl) (by kernel_rfl) (fun _ _ _ h => h) (Or.inl ⟨by rfl, ?_⟩) (by assumption) ?_; rotate_left; focus (intro w hSw; (try dsimp only at hSw); go_simp; (all_goals with_reducible rfl); done)) | (refine wpAnyH_take (i := 1) rfl (by kernel_rfl) (by kernel_rfl) (by kernel_rfl) (fun _ _ _ h => h) (Or.inr ⟨by rfl, rfl⟩) (by assumption) ?_) | fail "op 1"
                try simp only [Act.put, List.setIfInBounds_toArray, List.set_cons_zero, List.set_cons_succ, List.getElem_toArray, List.getElem_cons_zero, List.getElem_cons_succ]
                first | (refine wpAnyH_take (i := 2) (v := ?_) rfl (by kernel_rfl) (by kernel_rfl) (by kernel_rfl) (fun _ _ _ h => h) (Or.inl ⟨by rfl, ?_⟩) (by assumption) ?_; rotate_left; focus (intro w hSw; (try dsimp only at hSw); go_simp; (all_goals with_reducible rfl); done)) | (refine wpAnyH_take (i := 2) rfl (by kernel_rfl) (by kernel_rfl) (by kernel_rfl) (fun _ _ _ h => h) (Or.inr ⟨by rfl, rfl⟩) (by assumption) ?_) | fail "op 2"
                try simp only [Act.put, List.setIfInBounds_toArray, List.set_cons_zero, List.set_cons_succ, List.getElem_toArray, List.getElem_cons_zero, List.getElem_cons_succ]
                first | (refine wpAnyH_take (i := 3) (v := ?_) rfl (by kernel_rfl) (by kernel_rfl) (by kernel_rfl) (fun _ _ _ h => h) (Or.inl ⟨by rfl, ?_⟩) (by assumption) ?_; rotate_left; focus (intro w hSw; (try dsimp only at hSw); go_simp; (all_goals with_reducible rfl); done)) | (refine wpAnyH_take (i := 3) rfl (by kernel_rfl) (by kernel_rfl) (by kernel_rfl) (fun _ _ _ h => h) (Or.inr ⟨by rfl, rfl⟩) (by assumption) ?_) | fail "op 3"
                try simp only [Act.put, List.setIfInBounds_toArray, List.set_cons_zero, List.set_cons_succ, List.getElem_toArray, List.getElem_cons_zero, List.getElem_cons_succ]
                first | (refine wpAnyH_take (i := 4) (v := ?_) rfl (by kernel_rfl) (by kernel_rfl) (by kernel_rfl) (fun _ _ _ h => h) (Or.inl ⟨by rfl, ?_⟩) (by assumption) ?_; rotate_left; focus (intro w hSw; (try dsimp only at hSw); go_simp; (all_goals with_reducible rfl); done)) | (refine wpAnyH_take (i := 4) rfl (by kernel_rfl) (by kernel_rfl) (by kernel_rfl) (fun _ _ _ h => h) (Or.inr ⟨by rfl, rfl⟩) (by assumption) ?_) | fail "op 4"
                try simp only [Act.put, List.setIfInBounds_toArray, List.set_cons_zero, List.set_cons_succ, List.getElem_toArray, List.getElem_cons_zero, List.getElem_cons_succ]
                first | (refine wpAnyH_take (i := 5) (v := ?_) rfl (by kernel_rfl) (by kernel_rfl) (by kernel_rfl) (fun _ _ _ h => h) (Or.inl ⟨by rfl, ?_⟩) (by assumption) ?_; rotate_left; focus (intro w hSw; (try dsimp only at hSw); go_simp; (all_goals with_reducible rfl); done)) | (refine wpAnyH_take (i := 5) rfl (by kernel_rfl) (by kernel_rfl) (by kernel_rfl) (fun _ _ _ h => h) (Or.inr ⟨by rfl, rfl⟩) (by assumption) ?_) | fail "op 5"
                try simp only [Act.put, List.setIfInBounds_toArray, List.set_cons_zero, List.set_cons_succ, List.getElem_toArray, List.getElem_cons_zero, List.getElem_cons_succ]
                first | (refine wpAnyH_take (i := 6) (v := ?_) rfl (by kernel_rfl) (by kernel_rfl) (by kernel_rfl) (fun _ _ _ h => h) (Or.inl ⟨by rfl, ?_⟩) (by assumption) ?_; rotate_left; focus (intro w hSw; (try dsimp only at hSw); go_simp; (all_goals with_reducible rfl); done)) | (refine wpAnyH_take (i := 6) rfl (by kernel_rfl) (by kernel_rfl) (by kernel_rfl) (fun _ _ _ h => h) (Or.inr ⟨by rfl, rfl⟩) (by assumption) ?_) | fail "op 6"
                try simp only [Act.put, List.setIfInBounds_toArray, List.set_cons_zero, List.set_cons_succ, List.getElem_toArray, List.getElem_cons_zero, List.getElem_cons_succ]
                first | (refine wpAnyH_take (i := 7) (v := ?_) rfl (by kernel_rfl) (by kernel_rfl) (by kernel_rfl) (fun _ _ _ h => h) (Or.inl ⟨by rfl, ?_⟩) (by assumption) ?_; rotate_left; focus (intro w hSw; (try dsimp only at hSw); go_simp; (all_goals with_reducible rfl); done)) | (refine wpAnyH_take (i := 7) rfl (by kernel_rfl) (by kernel_rfl) (by kernel_rfl) (fun _ _ _ h => h) (Or.inr ⟨by rfl, rfl⟩) (by assumption) ?_) | fail "op 7"
                try simp only [Act.put, List.setIfInBounds_toArray, List.set_cons_zero, List.set_cons_succ, List.getElem_toArray, List.getElem_cons_zero, List.getElem_cons_succ]
                first | (refine wpAnyH_take (i := 10) (v := ?_) rfl (by kernel_rfl) (by kernel_rfl) (by kernel_rfl) (fun _ _ _ h => h) (Or.inl ⟨by rfl, ?_⟩) (by assumption) ?_; rotate_left; focus (intro w hSw; (try dsimp only at hSw); go_simp; (all_goals with_reducible rfl); done)) | (refine wpAnyH_take (i := 10) rfl (by kernel_rfl) (by kernel_rfl) (by kernel_rfl) (fun _ _ _ h => h) (Or.inr ⟨by rfl, rfl⟩) (by assumption) ?_) | fail "op 10"
                try simp only [Act.put, List.setIfInBounds_toArray, List.set_cons_zero, List.set_cons_succ, List.getElem_toArray, List.getElem_cons_zero, List.getElem_cons_succ]
                first | (refine wpAnyH_take (i := 11) (v := ?_) rfl (by kernel_rfl) (by kernel_rfl) (by kernel_rfl) (fun _ _ _ h => h) (Or.inl ⟨by rfl, ?_⟩) (by assumption) ?_; rotate_left; focus (intro w hSw; (try dsimp only at hSw); go_simp; (all_goals with_reducible rfl); done)) | (refine wpAnyH_take (i := 11) rfl (by kernel_rfl) (by kernel_rfl) (by kernel_rfl) (fun _ _ _ h => h) (Or.inr ⟨by rfl, rfl⟩) (by assumption) ?_) | fail "op 11"
                try simp only [Act.put, List.setIfInBounds_toArray, List.set_cons_zero, List.set_cons_succ, List.getElem_toArray, List.getElem_cons_zero, List.getElem_cons_succ]
                refine wpAnyH_ready (rs := [8]) (by kernel_rfl) (by simp) ?_
                refine AllReadyH.cons rfl (fun K hK => ?_) (AllReadyH.nil)
                go_simp
                refine hK.out _ _ (HK.out _ ((HKX.out : Bk X.drew _ _ _).alloc _) (Below.alloc HBX2.out.drew (by first | assumption | exact hwX) _)) (fun hHeld => ?_)
                clear hK K
                try simp only [Act.put, List.setIfInBounds_toArray, List.set_cons_zero, List.set_cons_succ, List.getElem_toArray, List.getElem_cons_zero, List.getElem_cons_succ]
                refine wpAnyH_ready (rs := [9]) (by kernel_rfl) (by simp) ?_
                refine AllReadyH.cons rfl (fun K hK => ?_) (AllReadyH.nil)
                rw [if_pos (by rfl)]
                refine bytes_wp (.tmp 100) (.tmp 108) rfl (v := .slice va L.length vc) (n := L.length) (us := L.map byteV) rfl (HOX.out.drew.alloc _) rfl (Nat.le_trans hwX (by simp)) (news := [.int .u8 (x.src % 256), .int .u8 1, .int .u8 (x.to % 256)]) rfl (by omega) (Sl.new X.drew [.int .u8 (x.src % 256), .int .u8 1, .int .u8 (x.to % 256)] 5 _ (by simp)) (by intro u hu; simp only [List.mem_cons, List.not_mem_nil, or_false] at hu; rcases hu with rfl | rfl | rfl <;> rfl) ?_
                rintro v8 w8 ho8 hg8
                obtain ⟨a8, c8, rfl, _⟩ := own_slice ho8
                have hb8 : Below W0.heap.size W0 w8 := below_own (HOX.out.drew.alloc _) hg8 (Below.alloc HBX2.out.drew (by exact hwX) _) (Nat.le_refl _) (Nat.le_trans hwX (by simp))
                have hk8 := Bk.grown (Bk.alloc (w := X.drew) HKX.out _) hg8 (own_bk (HOX.out.drew.alloc (.cells #[.int .u8 (x.src % 256), .int .u8 1, .int .u8 (x.to % 256)] 5)) (Bk.alloc (w := X.drew) HKX.out _) (by decide))
                have hs8 := hb8.size
                have hgs := hg8.size
                refine hK.out _ _ (HK.out _ hk8 hb8) (fun hHeld => ?_)
                clear hK K
                try simp only [Act.put, List.setIfInBounds_toArray, List.set_cons_zero, List.set_cons_succ, List.getElem_toArray, List.getElem_cons_zero, List.getElem_cons_succ]
                refine wpAnyH_ready (rs := [12]) (by kernel_rfl) (by simp) ?_
                refine AllReadyH.cons rfl (fun K hK => ?_) (AllReadyH.nil)
                go_simp
                go_at_call 42
                with_reducible refine (HT.out _).mono ?_
                rintro e wt ⟨ta, tc, rfl, hts, htb⟩
                have hkt := Bk.below (w := _) hk8 htb hk8.lt
                have hbt := Below.trans hb8 (htb.mono (by exact hs8))
                have hst := hbt.size
                have hsz := htb.size
                refine hK.out _ _ (HK.out _ hkt hbt) (fun hHeld => ?_)
                clear hK K
                try simp only [Act.put, List.setIfInBounds_toArray, List.set_cons_zero, List.set_cons_succ, List.getElem_toArray, List.getElem_cons_zero, List.getElem_cons_succ]
                refine wpAnyH_ready (rs := [13]) (by kernel_rfl) (by simp) ?_
                refine AllReadyH.cons rfl (fun K hK => ?_) (AllReadyH.nil)
                rw [if_pos (by rfl)]
                refine bytes_wp (.tmp 109) (.tmp 112) rfl (v := .slice a8 (L.length + 3) c8) (n := L.length + 3) (us := L.map byteV ++ [.int .u8 (x.src % 256), .int .u8 1, .int .u8 (x.to % 256)]) rfl (own_below ho8 htb) rfl hst (List.length_map ..) (by omega) hts (byteV_one _) ?_
                rintro v9 w9 ho9 hg9
                obtain ⟨a9, c9, rfl, _⟩ := own_slice ho9
                have hb9 : Below W0.heap.size W0 w9 := below_own (own_below ho8 htb) hg9 hbt (Nat.le_refl _) hst
                have hk9 := Bk.grown hkt hg9 (own_bk (own_below ho8 htb) hkt (by decide))
                refine hK.out _ _ (HK.out _ hk9 hb9) (fun hHeld => ?_)
                clear hK K
                try simp only [Act.put, List.setIfInBounds_toArray, List.set_cons_zero, List.set_cons_succ, List.getElem_toArray, List.getElem_cons_zero, List.getElem_cons_succ]
                refine wpAnyH_take (i := 14) (v := ?_) rfl (by kernel_rfl) (by kernel_rfl) (by kernel_rfl) (fun _ _ _ h => h) (Or.inl ⟨by rfl, ?_⟩) (by assumption) ?_
                rotate_left
                focus (intro w hSw; (try dsimp only at hSw); go_simp; (all_goals with_reducible rfl); done)
                try simp only [Act.put, List.setIfInBounds_toArray, List.set_cons_zero, List.set_cons_succ, List.getElem_toArray, List.getElem_cons_zero, List.getElem_cons_succ]
                refine wpAnyH_done (by kernel_rfl) ?_ _
                have HFIN := Lib.hid (And.intro ho9 hb9)
                clear ho9 hb9
                go_wp2_with fail
                exact ⟨⟨j + 1, hjl, by go_num, HEND.out _ _ HFIN.out.1, HFIN.out.2⟩, by simp [intOf]; omega⟩
            · obtain rfl : j = p.binds.length := by omega
              have hpl := HO.out
              have hfin : (L1 ++ encsB [.int p.binds.length]) ++ (p.binds.take p.binds.length).flatMap (fun x => encsB (anyBind x)) = writeB p := by
                rw [flat_all, ← HLL2.out, ← HLL.out]
                unfold writeB
                simp only [List.append_assoc]
              have hpos : 0 < (writeB p).length := by unfold writeB encsB encB; simp
              generalize hWB : (L1 ++ encsB [.int p.binds.length]) ++ (p.binds.take p.binds.length).flatMap (fun x => encsB (anyBind x)) = lb at *
              have hcv := run_text lb hpl (by rw [hfin]; exact hpos)
              have HFIN := Lib.hid hfin
              clear hfin hpos hpl hWB
              go_wp2_with fail
              go_ret
              exact ⟨by rw [show writeS p = ⟨lb.toArray⟩ by unfold writeS; rw [HFIN.out]]; rfl, (HBX.out _ HB.out).2.2⟩

end Go.Proofs.YtapimpmpjighmaaDoor
