/-
  Walks of package plan: names.
-/
import Derived.Test.YtapimpmpjighmaaDoorData
import Derived.Test.YtapimpmpjighmaaDoorWalkB
namespace Go.Proofs.YtapimpmpjighmaaDoor
open Go.RowKit
set_option maxRecDepth 100000


def NamesRel (names : List ByteArray) (B : Nat) (w : World) (v i : Value) (wr : World) : Prop :=
  ∃ k : Nat, k ≤ names.length ∧ i = .int .i64 k ∧ wr.ownsRow B 9 1 v k ((names.take k).map Value.string) ∧ Below B w wr

set_option maxHeartbeats 1000000 in
theorem names_Post (g : Nat) (eg : ∀ args w, (callFunc g args).run Tryd.prog w = .ok (.enter g args) w)
    (hof : ∀ (x : PostD) W, Calls Tryd.prog g #[.agg (vPost x).toArray] W fun e W' => e = .returned (.string x.name) ∧ Below W.heap.size W W')
    (a : Option Addr) (c : Nat) (xs : List PostD) (lo : Nat) (w : World) (hx : Sl w lo w.heap.size a (xs.flatMap vPost)) (hl : xs.length ≤ 1048576) :
    Calls Tryd.prog 78 #[.slice a xs.length c, .func (.func g) #[] #[]] w fun e w' =>
      ∃ v, e = .returned v ∧ w'.ownsRow w.heap.size 9 1 v xs.length ((xs.map (·.name)).map Value.string) ∧ Below w.heap.size w w' := by
  have HX := Lib.hid hx; clear hx
  have HOF := Lib.hid hof; clear hof
  go_enter Tryd.func78, Tryd.ntmps78
  go_wp2
  go_loopw [5, 10] (fun v i wr => NamesRel (xs.map (·.name)) w.heap.size w v i wr) (fun _ i _ => xs.length - (intOf i).toNat)
  case atStart => exact ⟨0, by omega, rfl, World.ownsRow_nil _ _ _ _, Below.refl _ _⟩
  case round =>
    obtain ⟨k, hk, rfl, hown, hB⟩ := hrel
    rw [List.length_map] at hk
    by_cases hlt : k < xs.length
    · obtain ⟨b, o, rfl, _, hb, hc⟩ := sl_elem vPost_len (by decide) HX.out hlt
      have e0 : wr.cell? ⟨b, o + k * 2, none⟩ = some (.string xs[k].name) := (hB.cell (p := ⟨b, _, none⟩) hb).trans (hc 0 _ rfl)
      have e1 : wr.cell? ⟨b, o + k * 2 + 1, none⟩ = some (.int .i64 xs[k].kind) := (hB.cell (p := ⟨b, _, none⟩) hb).trans (hc 1 _ rfl)
      clear hc
      have hown2 := fun W (h : Below wr.heap.size wr W) => own_below hown h
      have HO := Lib.hid hown2; clear hown2 hown
      have HB := Lib.hid hB
      have hlk : k < 4294967296 := by omega
      go_wp2_with fail
      refine (HOF.out xs[k] _).mono ?_
      rintro e w1 ⟨rfl, hb1⟩
      have hw1 : Below wr.heap.size wr w1 := ((Below.refl _ wr).alloc (Nat.le_refl _) _).trans (hb1.mono (by simp))
      have hown1 := HO.out w1 hw1
      have HW1 := Lib.hid hw1; clear hw1 hb1
      have hbase : w.heap.size ≤ w1.heap.size := Nat.le_trans HB.out.size HW1.out.size
      go_wp2_with (at_builtin; refine append1 rfl _ _ 84 rfl w.heap.size 9 infoStr Tryd.underlying84 rfl (by decide) (by decide) w1 _ _ _ rfl hown1 _ rfl rfl rfl (by simp [Value.oneCell']) hlk hbase ?_; intro v' w2 hown' hgrow)
      refine ⟨⟨k + 1, by simp; omega, by go_num, ?_, below_own hown1 hgrow (HB.out.trans (HW1.out.mono HB.out.size)) (Nat.le_refl _) hbase⟩, by simp [intOf]; omega⟩
      rw [List.take_add_one, List.getElem?_map, List.getElem?_eq_getElem hlt]
      simpa using hown'
    · obtain rfl : k = xs.length := by omega
      go_wp2
      go_ret
      refine ⟨_, rfl, ?_, hB⟩
      rw [List.take_of_length_le (by simp)] at hown
      exact hown
set_option maxHeartbeats 1000000 in
theorem names_Queue (g : Nat) (eg : ∀ args w, (callFunc g args).run Tryd.prog w = .ok (.enter g args) w)
    (hof : ∀ (x : QueueD) W, Calls Tryd.prog g #[.agg (vQueue x).toArray] W fun e W' => e = .returned (.string x.name) ∧ Below W.heap.size W W')
    (a : Option Addr) (c : Nat) (xs : List QueueD) (lo : Nat) (w : World) (hx : Sl w lo w.heap.size a (xs.flatMap vQueue)) (hl : xs.length ≤ 1048576) :
    Calls Tryd.prog 80 #[.slice a xs.length c, .func (.func g) #[] #[]] w fun e w' =>
      ∃ v, e = .returned v ∧ w'.ownsRow w.heap.size 9 1 v xs.length ((xs.map (·.name)).map Value.string) ∧ Below w.heap.size w w' := by
  have HX := Lib.hid hx; clear hx
  have HOF := Lib.hid hof; clear hof
  go_enter Tryd.func80, Tryd.ntmps80
  go_wp2
  go_loopw [5, 10] (fun v i wr => NamesRel (xs.map (·.name)) w.heap.size w v i wr) (fun _ i _ => xs.length - (intOf i).toNat)
  case atStart => exact ⟨0, by omega, rfl, World.ownsRow_nil _ _ _ _, Below.refl _ _⟩
  case round =>
    obtain ⟨k, hk, rfl, hown, hB⟩ := hrel
    rw [List.length_map] at hk
    by_cases hlt : k < xs.length
    · obtain ⟨b, o, rfl, _, hb, hc⟩ := sl_elem vQueue_len (by decide) HX.out hlt
      have e0 : wr.cell? ⟨b, o + k * 3, none⟩ = some (.string xs[k].name) := (hB.cell (p := ⟨b, _, none⟩) hb).trans (hc 0 _ rfl)
      have e1 : wr.cell? ⟨b, o + k * 3 + 1, none⟩ = some (.int .i64 xs[k].limit) := (hB.cell (p := ⟨b, _, none⟩) hb).trans (hc 1 _ rfl)
      have e2 : wr.cell? ⟨b, o + k * 3 + 2, none⟩ = some (.int .i64 xs[k].dead) := (hB.cell (p := ⟨b, _, none⟩) hb).trans (hc 2 _ rfl)
      clear hc
      have hown2 := fun W (h : Below wr.heap.size wr W) => own_below hown h
      have HO := Lib.hid hown2; clear hown2 hown
      have HB := Lib.hid hB
      have hlk : k < 4294967296 := by omega
      go_wp2_with fail
      refine (HOF.out xs[k] _).mono ?_
      rintro e w1 ⟨rfl, hb1⟩
      have hw1 : Below wr.heap.size wr w1 := ((Below.refl _ wr).alloc (Nat.le_refl _) _).trans (hb1.mono (by simp))
      have hown1 := HO.out w1 hw1
      have HW1 := Lib.hid hw1; clear hw1 hb1
      have hbase : w.heap.size ≤ w1.heap.size := Nat.le_trans HB.out.size HW1.out.size
      go_wp2_with (at_builtin; refine append1 rfl _ _ 84 rfl w.heap.size 9 infoStr Tryd.underlying84 rfl (by decide) (by decide) w1 _ _ _ rfl hown1 _ rfl rfl rfl (by simp [Value.oneCell']) hlk hbase ?_; intro v' w2 hown' hgrow)
      refine ⟨⟨k + 1, by simp; omega, by go_num, ?_, below_own hown1 hgrow (HB.out.trans (HW1.out.mono HB.out.size)) (Nat.le_refl _) hbase⟩, by simp [intOf]; omega⟩
      rw [List.take_add_one, List.getElem?_map, List.getElem?_eq_getElem hlt]
      simpa using hown'
    · obtain rfl : k = xs.length := by omega
      go_wp2
      go_ret
      refine ⟨_, rfl, ?_, hB⟩
      rw [List.take_of_length_le (by simp)] at hown
      exact hown
end Go.Proofs.YtapimpmpjighmaaDoor
