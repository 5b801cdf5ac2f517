/-
  Where the first element stands of which a test says yes; -1: nowhere. Plain.
  The library's IndexFunc and ContainsFunc at the program's slices: where the first element stands of which the function says yes.
-/
import Derived.Test.YtapimpmpjighmaaDoorData
import Derived.Test.YtapimpmpjighmaaDoorWalkA
namespace Go.Proofs.YtapimpmpjighmaaDoor
open Go.RowKit

def idxOf {α : Type} (p : α → Bool) : List α → Int
  | [] => -1
  | x :: xs => if p x then 0 else if idxOf p xs < 0 then -1 else idxOf p xs + 1

theorem idxOf_ge {α : Type} (p : α → Bool) : ∀ xs : List α, -1 ≤ idxOf p xs
  | [] => by simp [idxOf]
  | x :: xs => by
    have := idxOf_ge p xs
    unfold idxOf
    split
    · omega
    · split <;> omega
theorem idxOf_lt {α : Type} (p : α → Bool) : ∀ xs : List α, idxOf p xs < xs.length
  | [] => by simp [idxOf]
  | x :: xs => by
    have := idxOf_lt p xs
    unfold idxOf
    rw [List.length_cons]
    split
    · omega
    · split <;> omega
theorem idxOf_any {α : Type} (p : α → Bool) : ∀ xs : List α, decide (0 ≤ idxOf p xs) = xs.any p
  | [] => rfl
  | x :: xs => by
    have := idxOf_any p xs
    unfold idxOf
    rw [List.any_cons, ← this]
    by_cases h : p x = true
    · simp [h]
    · have h' : p x = false := by simpa using h
      rw [if_neg h, h', Bool.false_or, Bool.eq_iff_iff]
      split <;> simp <;> omega
theorem idxOf_hit {α : Type} {p : α → Bool} : ∀ {xs : List α} {k : Nat}, (∀ j x, j < k → xs[j]? = some x → p x = false) → (h : k < xs.length) → p xs[k] = true → idxOf p xs = k
  | x :: xs, 0, _, _, hp => by simp only [List.getElem_cons_zero] at hp; simp [idxOf, hp]
  | x :: xs, k + 1, hall, h, hp => by
    have h0 : p x = false := hall 0 x (by omega) rfl
    have ih := idxOf_hit (p := p) (xs := xs) (k := k) (fun j y hj hy => hall (j + 1) y (by omega) hy) (by simpa using h) (by simpa using hp)
    unfold idxOf
    rw [h0, ih]
    simp only [Bool.false_eq_true, if_false]
    rw [if_neg (by omega)]
    omega
theorem idxOf_miss {α : Type} {p : α → Bool} : ∀ {xs : List α} {k : Nat}, (∀ j x, j < k → xs[j]? = some x → p x = false) → xs.length ≤ k → idxOf p xs = -1
  | [], _, _, _ => rfl
  | x :: xs, k, hall, h => by
    rw [List.length_cons] at h
    have h0 : p x = false := hall 0 x (by omega) rfl
    have ih := idxOf_miss (p := p) (xs := xs) (k := k - 1) (fun j y hj hy => hall (j + 1) y (by omega) hy) (by omega)
    unfold idxOf
    rw [h0, ih]
    rfl

def IdxRel {α : Type} (p : α → Bool) (xs : List α) (B : Nat) (w : World) (i : Value) (wr : World) : Prop :=
  ∃ k : Nat, k ≤ xs.length ∧ i = .int .i64 k ∧ Below B w wr ∧ ∀ j x, j < k → xs[j]? = some x → p x = false

theorem idxRel_step {α : Type} {p : α → Bool} {xs : List α} {B : Nat} {w : World} {k : Nat} {w1 : World} (hall : ∀ j x, j < k → xs[j]? = some x → p x = false) (h : k < xs.length) (hp : p xs[k] = false) (hb : Below B w w1) :
    IdxRel p xs B w (.int .i64 ((k : Int) + 1)) w1 :=
  ⟨k + 1, h, by go_num, hb, fun j x hj hx => by
    rcases Nat.lt_or_ge j k with h1 | h1
    · exact hall j x h1 hx
    · obtain rfl : j = k := by omega
      rw [List.getElem?_eq_getElem h] at hx
      cases hx
      exact hp⟩

end Go.Proofs.YtapimpmpjighmaaDoor

namespace Go.Proofs.YtapimpmpjighmaaDoor
open Go.RowKit
set_option maxRecDepth 100000

set_option maxHeartbeats 1000000 in
theorem indexFunc_Str (g : Nat) (lb : Array Value) (eg : ∀ args w, (callFunc g args).run Tryd.prog w = .ok (.enter g args) w) (p : ByteArray → Bool) (xs : List ByteArray) (a : Option Addr) (c lo : Nat) (w : World)
    (hp : ∀ x ∈ xs, ∀ W, Below w.heap.size w W → Calls Tryd.prog g (#[.string x] ++ lb) W fun e W' => e = .returned (.bool (p x)) ∧ Below W.heap.size W W')
    (hx : Sl w lo w.heap.size a (xs.flatMap (fun x : ByteArray => [Value.string x]))) (hl : xs.length ≤ 4294967296) :
    Calls Tryd.prog 111 #[.slice a xs.length c, .func (.func g) #[] lb] w fun e w' => e = .returned (.int .i64 (idxOf p xs)) ∧ Below w.heap.size w w' := by
  have HX := Lib.hid hx; clear hx
  have HP := Lib.hid hp; clear hp
  go_enter Tryd.func111, Tryd.ntmps111
  go_wp2_with fail
  go_loopw [8] (fun i wr => IdxRel p xs w.heap.size w i wr) (fun i _ => xs.length - (intOf i).toNat)
  case atStart => exact ⟨0, by omega, rfl, Below.refl _ _, fun j x hj => absurd hj (by omega)⟩
  case round =>
    obtain ⟨k, hk, rfl, hB, hall⟩ := hrel
    have HA := Lib.hid hall; clear hall
    by_cases hlt : k < xs.length
    · obtain ⟨b, o, rfl, _, hb, hc⟩ := sl_elem (enc := fun x : ByteArray => [Value.string x]) (size := 1) (fun _ => rfl) (by decide) HX.out hlt
      have e0 : wr.cell? ⟨b, o + k, none⟩ = some (.string xs[k]) := by
        have := (hB.cell (p := ⟨b, _, none⟩) hb).trans (hc 0 _ rfl)
        simpa using this
      have HPk := Lib.hid (HP.out xs[k] (List.getElem_mem hlt) wr hB)
      have HB := Lib.hid hB
      clear hc hB
      cases hq : p xs[k]
      · have HQ := Lib.hid hq; clear hq
        go_wp2_with fail
        refine HPk.out.mono ?_
        rw [HQ.out]
        rintro e w1 ⟨rfl, hb1⟩
        have H1 := Lib.hid (HB.out.trans (hb1.mono HB.out.size)); clear hb1
        go_wp2_with fail
        exact ⟨idxRel_step HA.out hlt HQ.out H1.out, by simp [intOf]; omega⟩
      · have HQ := Lib.hid (idxOf_hit HA.out hlt hq)
        have HQ2 := Lib.hid hq; clear hq
        go_wp2_with fail
        refine HPk.out.mono ?_
        rw [HQ2.out]
        rintro e w1 ⟨rfl, hb1⟩
        have H1 := Lib.hid (HB.out.trans (hb1.mono HB.out.size)); clear hb1
        go_wp2_with fail
        go_ret
        exact ⟨by rw [HQ.out]; rfl, H1.out⟩
    · have HQ := Lib.hid (idxOf_miss HA.out (by omega))
      go_wp2_with fail
      go_ret
      exact ⟨by rw [HQ.out]; rfl, hB⟩

set_option maxHeartbeats 400000 in
theorem containsFunc_Str (g : Nat) (lb : Array Value) (eg : ∀ args w, (callFunc g args).run Tryd.prog w = .ok (.enter g args) w) (p : ByteArray → Bool) (xs : List ByteArray) (a : Option Addr) (c lo : Nat) (w : World)
    (hp : ∀ x ∈ xs, ∀ W, Below w.heap.size w W → Calls Tryd.prog g (#[.string x] ++ lb) W fun e W' => e = .returned (.bool (p x)) ∧ Below W.heap.size W W')
    (hx : Sl w lo w.heap.size a (xs.flatMap (fun x : ByteArray => [Value.string x]))) (hl : xs.length ≤ 4294967296) :
    Calls Tryd.prog 82 #[.slice a xs.length c, .func (.func g) #[] lb] w fun e w' => e = .returned (.bool (xs.any p)) ∧ Below w.heap.size w w' := by
  have HI := Lib.hid (indexFunc_Str g lb eg p xs a c lo w hp hx hl); clear hp hx
  have hany := idxOf_any p xs
  have HY := Lib.hid hany; clear hany
  generalize hI : idxOf p xs = I at HI HY
  clear hI
  go_enter Tryd.func82, Tryd.ntmps82
  go_wp2_with fail
  refine HI.out.mono ?_
  rintro e w1 ⟨rfl, hb1⟩
  go_wp2_with fail
  go_ret
  exact ⟨by rw [HY.out]; rfl, hb1⟩

set_option maxHeartbeats 1000000 in
theorem indexFunc_Post (g : Nat) (lb : Array Value) (eg : ∀ args w, (callFunc g args).run Tryd.prog w = .ok (.enter g args) w) (p : PostD → Bool) (xs : List PostD) (a : Option Addr) (c lo : Nat) (w : World)
    (hp : ∀ x ∈ xs, ∀ W, Below w.heap.size w W → Calls Tryd.prog g (#[.agg (vPost x).toArray] ++ lb) W fun e W' => e = .returned (.bool (p x)) ∧ Below W.heap.size W W')
    (hx : Sl w lo w.heap.size a (xs.flatMap (vPost))) (hl : xs.length ≤ 4294967296) :
    Calls Tryd.prog 115 #[.slice a xs.length c, .func (.func g) #[] lb] w fun e w' => e = .returned (.int .i64 (idxOf p xs)) ∧ Below w.heap.size w w' := by
  have HX := Lib.hid hx; clear hx
  have HP := Lib.hid hp; clear hp
  go_enter Tryd.func115, Tryd.ntmps115
  go_wp2_with fail
  go_loopw [8] (fun i wr => IdxRel p xs w.heap.size w i wr) (fun i _ => xs.length - (intOf i).toNat)
  case atStart => exact ⟨0, by omega, rfl, Below.refl _ _, fun j x hj => absurd hj (by omega)⟩
  case round =>
    obtain ⟨k, hk, rfl, hB, hall⟩ := hrel
    have HA := Lib.hid hall; clear hall
    by_cases hlt : k < xs.length
    · obtain ⟨b, o, rfl, _, hb, hc⟩ := sl_elem (enc := vPost) (size := 2) (fun _ => rfl) (by decide) HX.out hlt
      have e0 : wr.cell? ⟨b, o + k * 2, none⟩ = some (.string xs[k].name) := by
        have := (hB.cell (p := ⟨b, _, none⟩) hb).trans (hc 0 _ rfl)
        simpa using this
      have e1 : wr.cell? ⟨b, o + k * 2 + 1, none⟩ = some (.int .i64 xs[k].kind) := by
        have := (hB.cell (p := ⟨b, _, none⟩) hb).trans (hc 1 _ rfl)
        simpa using this
      have HPk := Lib.hid (HP.out xs[k] (List.getElem_mem hlt) wr hB)
      have HB := Lib.hid hB
      clear hc hB
      cases hq : p xs[k]
      · have HQ := Lib.hid hq; clear hq
        go_wp2_with fail
        refine HPk.out.mono ?_
        rw [HQ.out]
        rintro e w1 ⟨rfl, hb1⟩
        have H1 := Lib.hid (HB.out.trans (hb1.mono HB.out.size)); clear hb1
        go_wp2_with fail
        exact ⟨idxRel_step HA.out hlt HQ.out H1.out, by simp [intOf]; omega⟩
      · have HQ := Lib.hid (idxOf_hit HA.out hlt hq)
        have HQ2 := Lib.hid hq; clear hq
        go_wp2_with fail
        refine HPk.out.mono ?_
        rw [HQ2.out]
        rintro e w1 ⟨rfl, hb1⟩
        have H1 := Lib.hid (HB.out.trans (hb1.mono HB.out.size)); clear hb1
        go_wp2_with fail
        go_ret
        exact ⟨by rw [HQ.out]; rfl, H1.out⟩
    · have HQ := Lib.hid (idxOf_miss HA.out (by omega))
      go_wp2_with fail
      go_ret
      exact ⟨by rw [HQ.out]; rfl, hB⟩

set_option maxHeartbeats 400000 in
theorem containsFunc_Post (g : Nat) (lb : Array Value) (eg : ∀ args w, (callFunc g args).run Tryd.prog w = .ok (.enter g args) w) (p : PostD → Bool) (xs : List PostD) (a : Option Addr) (c lo : Nat) (w : World)
    (hp : ∀ x ∈ xs, ∀ W, Below w.heap.size w W → Calls Tryd.prog g (#[.agg (vPost x).toArray] ++ lb) W fun e W' => e = .returned (.bool (p x)) ∧ Below W.heap.size W W')
    (hx : Sl w lo w.heap.size a (xs.flatMap (vPost))) (hl : xs.length ≤ 4294967296) :
    Calls Tryd.prog 87 #[.slice a xs.length c, .func (.func g) #[] lb] w fun e w' => e = .returned (.bool (xs.any p)) ∧ Below w.heap.size w w' := by
  have HI := Lib.hid (indexFunc_Post g lb eg p xs a c lo w hp hx hl); clear hp hx
  have hany := idxOf_any p xs
  have HY := Lib.hid hany; clear hany
  generalize hI : idxOf p xs = I at HI HY
  clear hI
  go_enter Tryd.func87, Tryd.ntmps87
  go_wp2_with fail
  refine HI.out.mono ?_
  rintro e w1 ⟨rfl, hb1⟩
  go_wp2_with fail
  go_ret
  exact ⟨by rw [HY.out]; rfl, hb1⟩

set_option maxHeartbeats 1000000 in
theorem indexFunc_Queue (g : Nat) (lb : Array Value) (eg : ∀ args w, (callFunc g args).run Tryd.prog w = .ok (.enter g args) w) (p : QueueD → Bool) (xs : List QueueD) (a : Option Addr) (c lo : Nat) (w : World)
    (hp : ∀ x ∈ xs, ∀ W, Below w.heap.size w W → Calls Tryd.prog g (#[.agg (vQueue x).toArray] ++ lb) W fun e W' => e = .returned (.bool (p x)) ∧ Below W.heap.size W W')
    (hx : Sl w lo w.heap.size a (xs.flatMap (vQueue))) (hl : xs.length ≤ 4294967296) :
    Calls Tryd.prog 116 #[.slice a xs.length c, .func (.func g) #[] lb] w fun e w' => e = .returned (.int .i64 (idxOf p xs)) ∧ Below w.heap.size w w' := by
  have HX := Lib.hid hx; clear hx
  have HP := Lib.hid hp; clear hp
  go_enter Tryd.func116, Tryd.ntmps116
  go_wp2_with fail
  go_loopw [8] (fun i wr => IdxRel p xs w.heap.size w i wr) (fun i _ => xs.length - (intOf i).toNat)
  case atStart => exact ⟨0, by omega, rfl, Below.refl _ _, fun j x hj => absurd hj (by omega)⟩
  case round =>
    obtain ⟨k, hk, rfl, hB, hall⟩ := hrel
    have HA := Lib.hid hall; clear hall
    by_cases hlt : k < xs.length
    · obtain ⟨b, o, rfl, _, hb, hc⟩ := sl_elem (enc := vQueue) (size := 3) (fun _ => rfl) (by decide) HX.out hlt
      have e0 : wr.cell? ⟨b, o + k * 3, none⟩ = some (.string xs[k].name) := by
        have := (hB.cell (p := ⟨b, _, none⟩) hb).trans (hc 0 _ rfl)
        simpa using this
      have e1 : wr.cell? ⟨b, o + k * 3 + 1, none⟩ = some (.int .i64 xs[k].limit) := by
        have := (hB.cell (p := ⟨b, _, none⟩) hb).trans (hc 1 _ rfl)
        simpa using this
      have e2 : wr.cell? ⟨b, o + k * 3 + 2, none⟩ = some (.int .i64 xs[k].dead) := by
        have := (hB.cell (p := ⟨b, _, none⟩) hb).trans (hc 2 _ rfl)
        simpa using this
      have HPk := Lib.hid (HP.out xs[k] (List.getElem_mem hlt) wr hB)
      have HB := Lib.hid hB
      clear hc hB
      cases hq : p xs[k]
      · have HQ := Lib.hid hq; clear hq
        go_wp2_with fail
        refine HPk.out.mono ?_
        rw [HQ.out]
        rintro e w1 ⟨rfl, hb1⟩
        have H1 := Lib.hid (HB.out.trans (hb1.mono HB.out.size)); clear hb1
        go_wp2_with fail
        exact ⟨idxRel_step HA.out hlt HQ.out H1.out, by simp [intOf]; omega⟩
      · have HQ := Lib.hid (idxOf_hit HA.out hlt hq)
        have HQ2 := Lib.hid hq; clear hq
        go_wp2_with fail
        refine HPk.out.mono ?_
        rw [HQ2.out]
        rintro e w1 ⟨rfl, hb1⟩
        have H1 := Lib.hid (HB.out.trans (hb1.mono HB.out.size)); clear hb1
        go_wp2_with fail
        go_ret
        exact ⟨by rw [HQ.out]; rfl, H1.out⟩
    · have HQ := Lib.hid (idxOf_miss HA.out (by omega))
      go_wp2_with fail
      go_ret
      exact ⟨by rw [HQ.out]; rfl, hB⟩

set_option maxHeartbeats 400000 in
theorem containsFunc_Queue (g : Nat) (lb : Array Value) (eg : ∀ args w, (callFunc g args).run Tryd.prog w = .ok (.enter g args) w) (p : QueueD → Bool) (xs : List QueueD) (a : Option Addr) (c lo : Nat) (w : World)
    (hp : ∀ x ∈ xs, ∀ W, Below w.heap.size w W → Calls Tryd.prog g (#[.agg (vQueue x).toArray] ++ lb) W fun e W' => e = .returned (.bool (p x)) ∧ Below W.heap.size W W')
    (hx : Sl w lo w.heap.size a (xs.flatMap (vQueue))) (hl : xs.length ≤ 4294967296) :
    Calls Tryd.prog 89 #[.slice a xs.length c, .func (.func g) #[] lb] w fun e w' => e = .returned (.bool (xs.any p)) ∧ Below w.heap.size w w' := by
  have HI := Lib.hid (indexFunc_Queue g lb eg p xs a c lo w hp hx hl); clear hp hx
  have hany := idxOf_any p xs
  have HY := Lib.hid hany; clear hany
  generalize hI : idxOf p xs = I at HI HY
  clear hI
  go_enter Tryd.func89, Tryd.ntmps89
  go_wp2_with fail
  refine HI.out.mono ?_
  rintro e w1 ⟨rfl, hb1⟩
  go_wp2_with fail
  go_ret
  exact ⟨by rw [HY.out]; rfl, hb1⟩

set_option maxHeartbeats 1000000 in
theorem indexFunc_Bind (g : Nat) (lb : Array Value) (eg : ∀ args w, (callFunc g args).run Tryd.prog w = .ok (.enter g args) w) (p : BindD → Bool) (xs : List BindD) (a : Option Addr) (c lo : Nat) (w : World)
    (hp : ∀ x ∈ xs, ∀ W, Below w.heap.size w W → Calls Tryd.prog g (#[.agg (vBind x).toArray] ++ lb) W fun e W' => e = .returned (.bool (p x)) ∧ Below W.heap.size W W')
    (hx : Sl w lo w.heap.size a (xs.flatMap (vBind))) (hl : xs.length ≤ 4294967296) :
    Calls Tryd.prog 117 #[.slice a xs.length c, .func (.func g) #[] lb] w fun e w' => e = .returned (.int .i64 (idxOf p xs)) ∧ Below w.heap.size w w' := by
  have HX := Lib.hid hx; clear hx
  have HP := Lib.hid hp; clear hp
  go_enter Tryd.func117, Tryd.ntmps117
  go_wp2_with fail
  go_loopw [8] (fun i wr => IdxRel p xs w.heap.size w i wr) (fun i _ => xs.length - (intOf i).toNat)
  case atStart => exact ⟨0, by omega, rfl, Below.refl _ _, fun j x hj => absurd hj (by omega)⟩
  case round =>
    obtain ⟨k, hk, rfl, hB, hall⟩ := hrel
    have HA := Lib.hid hall; clear hall
    by_cases hlt : k < xs.length
    · obtain ⟨b, o, rfl, _, hb, hc⟩ := sl_elem (enc := vBind) (size := 4) (fun _ => rfl) (by decide) HX.out hlt
      have e0 : wr.cell? ⟨b, o + k * 4, none⟩ = some (.int .i64 xs[k].src) := by
        have := (hB.cell (p := ⟨b, _, none⟩) hb).trans (hc 0 _ rfl)
        simpa using this
      have e1 : wr.cell? ⟨b, o + k * 4 + 1, none⟩ = some (.bool xs[k].toPost) := by
        have := (hB.cell (p := ⟨b, _, none⟩) hb).trans (hc 1 _ rfl)
        simpa using this
      have e2 : wr.cell? ⟨b, o + k * 4 + 2, none⟩ = some (.int .i64 xs[k].to) := by
        have := (hB.cell (p := ⟨b, _, none⟩) hb).trans (hc 2 _ rfl)
        simpa using this
      have e3 : wr.cell? ⟨b, o + k * 4 + 3, none⟩ = some (.string xs[k].pattern) := by
        have := (hB.cell (p := ⟨b, _, none⟩) hb).trans (hc 3 _ rfl)
        simpa using this
      have HPk := Lib.hid (HP.out xs[k] (List.getElem_mem hlt) wr hB)
      have HB := Lib.hid hB
      clear hc hB
      cases hq : p xs[k]
      · have HQ := Lib.hid hq; clear hq
        go_wp2_with fail
        refine HPk.out.mono ?_
        rw [HQ.out]
        rintro e w1 ⟨rfl, hb1⟩
        have H1 := Lib.hid (HB.out.trans (hb1.mono HB.out.size)); clear hb1
        go_wp2_with fail
        exact ⟨idxRel_step HA.out hlt HQ.out H1.out, by simp [intOf]; omega⟩
      · have HQ := Lib.hid (idxOf_hit HA.out hlt hq)
        have HQ2 := Lib.hid hq; clear hq
        go_wp2_with fail
        refine HPk.out.mono ?_
        rw [HQ2.out]
        rintro e w1 ⟨rfl, hb1⟩
        have H1 := Lib.hid (HB.out.trans (hb1.mono HB.out.size)); clear hb1
        go_wp2_with fail
        go_ret
        exact ⟨by rw [HQ.out]; rfl, H1.out⟩
    · have HQ := Lib.hid (idxOf_miss HA.out (by omega))
      go_wp2_with fail
      go_ret
      exact ⟨by rw [HQ.out]; rfl, hB⟩

set_option maxHeartbeats 400000 in
theorem containsFunc_Bind (g : Nat) (lb : Array Value) (eg : ∀ args w, (callFunc g args).run Tryd.prog w = .ok (.enter g args) w) (p : BindD → Bool) (xs : List BindD) (a : Option Addr) (c lo : Nat) (w : World)
    (hp : ∀ x ∈ xs, ∀ W, Below w.heap.size w W → Calls Tryd.prog g (#[.agg (vBind x).toArray] ++ lb) W fun e W' => e = .returned (.bool (p x)) ∧ Below W.heap.size W W')
    (hx : Sl w lo w.heap.size a (xs.flatMap (vBind))) (hl : xs.length ≤ 4294967296) :
    Calls Tryd.prog 91 #[.slice a xs.length c, .func (.func g) #[] lb] w fun e w' => e = .returned (.bool (xs.any p)) ∧ Below w.heap.size w w' := by
  have HI := Lib.hid (indexFunc_Bind g lb eg p xs a c lo w hp hx hl); clear hp hx
  have hany := idxOf_any p xs
  have HY := Lib.hid hany; clear hany
  generalize hI : idxOf p xs = I at HI HY
  clear hI
  go_enter Tryd.func91, Tryd.ntmps91
  go_wp2_with fail
  refine HI.out.mono ?_
  rintro e w1 ⟨rfl, hb1⟩
  go_wp2_with fail
  go_ret
  exact ⟨by rw [HY.out]; rfl, hb1⟩

end Go.Proofs.YtapimpmpjighmaaDoor
