/-
  The wire, plain: what is written is read as it was, and nothing else is.
-/
import Derived.Test.YtapimpmpjighmaaDoorWireJ
namespace Go.Proofs.YtapimpmpjighmaaDoor
open Go.RowKit
set_option maxRecDepth 100000

/-- A string of these bytes. -/
def bsL (l : List UInt8) : ByteArray := ⟨l.toArray⟩
theorem bsL_list (s : ByteArray) : bsL s.data.toList = s := by
  obtain ⟨d⟩ := s
  unfold bsL
  simp
theorem bsL_size (l : List UInt8) : (bsL l).size = l.length := by
  unfold bsL
  simp [ByteArray.size]
theorem bsL_data (l : List UInt8) : (bsL l).data.toList = l := by
  unfold bsL
  simp
theorem bsL_inj {a b : List UInt8} (h : bsL a = bsL b) : a = b := by
  rw [← bsL_data a, h, bsL_data]
theorem bsL_extract (l : List UInt8) (i j : Nat) : (bsL l).extract i j = bsL ((l.drop i).take (j - i)) := by
  unfold bsL
  apply ByteArray.ext
  rw [ByteArray.data_extract]
  simp
theorem writeS_eq (p : PlanD) : writeS p = bsL (writeB p) := rfl

theorem numS_cons (b : UInt8) (l : List UInt8) : numS (bsL (b :: l)) = some (b.toNat, bsL l) := by
  have h : 0 < (bsL (b :: l)).size := by rw [bsL_size]; simp
  unfold numS
  rw [dif_pos h, bsL_extract, bsL_size]
  have e : (bsL (b :: l))[0] = b := rfl
  rw [e]
  simp
theorem numS_none : numS (bsL []) = none := by
  unfold numS
  rw [dif_neg (by rw [bsL_size]; simp)]
theorem numS_back {l : List UInt8} {n : Nat} {r : ByteArray} (h : numS (bsL l) = some (n, r)) : ∃ b l', l = b :: l' ∧ n = b.toNat ∧ r = bsL l' := by
  cases l with
  | nil => rw [numS_none] at h; cases h
  | cons b l' =>
    rw [numS_cons] at h
    simp only [Option.some.injEq, Prod.mk.injEq] at h
    exact ⟨b, l', rfl, h.1.symm, h.2.symm⟩
theorem byteN_of (b : UInt8) : byteN (b.toNat : Int) = b := by
  unfold byteN
  have h := b.toNat_lt
  rw [show ((b.toNat : Int) % 256).toNat = b.toNat by omega]
  simp
theorem byteN_small {n : Int} (h0 : 0 ≤ n) (h1 : n < 256) : (byteN n).toNat = n.toNat := by
  have := byteN_toNat n
  omega
theorem encB_int (n : Int) : encB (.int n) = [byteN n] := rfl
theorem encB_str (s : ByteArray) : encB (.str s) = byteN (s.size : Int) :: s.data.toList := rfl
theorem encB_bool (b : Bool) : encB (.bool b) = [if b then 1 else 0] := rfl
theorem takeS_list (n : Nat) (l : List UInt8) : takeS n (bsL l) = if n ≤ l.length then some (bsL (l.take n), bsL (l.drop n)) else none := by
  unfold takeS
  rw [bsL_size]
  split
  · rw [bsL_extract, bsL_extract]
    rw [List.drop_zero, Nat.sub_zero, List.take_of_length_le (l := l.drop n) (by rw [List.length_drop]; exact Nat.le_refl _)]
  · rfl
theorem textS_back {l : List UInt8} {t r : ByteArray} (h : textS (bsL l) = some (t, r)) : ∃ l', r = bsL l' ∧ l = encB (.str t) ++ l' ∧ t.size < 256 := by
  unfold textS at h
  rcases o : numS (bsL l) with _ | ⟨n, r0⟩
  · rw [o] at h; cases h
  · rw [o, Option.bind_some] at h
    obtain ⟨b, l', rfl, rfl, rfl⟩ := numS_back o
    simp only [takeS_list] at h
    split at h
    · rename_i hn
      simp only [Option.some.injEq, Prod.mk.injEq] at h
      obtain ⟨rfl, rfl⟩ := h
      refine ⟨_, rfl, ?_, ?_⟩
      · rw [encB_str, bsL_size, bsL_data, List.length_take, Nat.min_eq_left hn, byteN_of, List.cons_append, List.take_append_drop]
      · rw [bsL_size, List.length_take, Nat.min_eq_left hn]
        exact b.toNat_lt
    · cases h
theorem textS_forth {t : ByteArray} (ht : t.size < 256) (l : List UInt8) : textS (bsL (encB (.str t) ++ l)) = some (t, bsL l) := by
  unfold textS
  rw [encB_str, List.cons_append, numS_cons, Option.bind_some, takeS_list]
  have e : (byteN (t.size : Int)).toNat = t.size := by rw [byteN_small (by omega) (by omega)]; simp
  have el : t.data.toList.length = t.size := Array.length_toList
  simp only [e]
  rw [if_pos (by rw [List.length_append, el]; omega), ← el, List.take_left', List.drop_left', bsL_list]
  · rfl
  · rfl
theorem truthS_back {l : List UInt8} {t : Bool} {r : ByteArray} (h : truthS (bsL l) = some (t, r)) : ∃ l', r = bsL l' ∧ l = encB (.bool t) ++ l' := by
  unfold truthS at h
  rcases o : numS (bsL l) with _ | ⟨n, r0⟩
  · rw [o] at h; cases h
  · rw [o, Option.bind_some] at h
    obtain ⟨b, l', rfl, rfl, rfl⟩ := numS_back o
    simp only at h
    split at h
    · cases h
    · rename_i hn
      simp only [Option.some.injEq, Prod.mk.injEq] at h
      obtain ⟨rfl, rfl⟩ := h
      refine ⟨_, rfl, ?_⟩
      rw [encB_bool]
      by_cases h1 : b.toNat = 1
      · rw [show b = 1 from UInt8.toNat_inj.1 h1]; simp
      · rw [show b = 0 from UInt8.toNat_inj.1 (show b.toNat = 0 by omega)]; simp
theorem truthS_forth (t : Bool) (l : List UInt8) : truthS (bsL (encB (.bool t) ++ l)) = some (t, bsL l) := by
  unfold truthS
  rw [encB_bool, List.singleton_append, numS_cons, Option.bind_some]
  cases t <;> simp
theorem numS_back' {l : List UInt8} {n : Nat} {r : ByteArray} (h : numS (bsL l) = some (n, r)) : ∃ l', r = bsL l' ∧ l = encB (.int n) ++ l' ∧ n < 256 := by
  obtain ⟨b, l', rfl, rfl, rfl⟩ := numS_back h
  refine ⟨l', rfl, ?_, b.toNat_lt⟩
  rw [encB_int, byteN_of]
  rfl
theorem numS_forth {n : Int} (h0 : 0 ≤ n) (h1 : n < 256) (l : List UInt8) : numS (bsL (encB (.int n) ++ l)) = some (n.toNat, bsL l) := by
  rw [encB_int, List.singleton_append, numS_cons, byteN_small h0 h1]

theorem encs2 (a b : AnyD) : encsB [a, b] = encB a ++ encB b := by simp [encsB]
theorem encs3 (a b c : AnyD) : encsB [a, b, c] = encB a ++ (encB b ++ encB c) := by simp [encsB]
theorem encs4 (a b c d : AnyD) : encsB [a, b, c, d] = encB a ++ (encB b ++ (encB c ++ encB d)) := by simp [encsB]
theorem encs1 (a : AnyD) : encsB [a] = encB a := by simp [encsB]

theorem postS_back {l : List UInt8} {x : PostD} {r : ByteArray} (h : postS (bsL l) = some (x, r)) : ∃ l', r = bsL l' ∧ l = encsB (anyPost x) ++ l' := by
  unfold postS at h
  rcases o0 : textS (bsL l) with _ | ⟨t, r0⟩
  · rw [o0] at h; cases h
  rw [o0, Option.bind_some] at h
  obtain ⟨l0, rfl, rfl, _⟩ := textS_back o0
  simp only at h
  rcases o1 : numS (bsL l0) with _ | ⟨n, r1⟩
  · rw [o1] at h; cases h
  rw [o1, Option.bind_some] at h
  obtain ⟨l1, rfl, rfl, _⟩ := numS_back' o1
  simp only [Option.some.injEq, Prod.mk.injEq] at h
  obtain ⟨rfl, rfl⟩ := h
  exact ⟨l1, rfl, by unfold anyPost; rw [encs2, List.append_assoc]⟩
theorem postS_forth {x : PostD} (h1 : x.name.size < 256) (h2 : 0 ≤ x.kind ∧ x.kind < 256) (l : List UInt8) : postS (bsL (encsB (anyPost x) ++ l)) = some (x, bsL l) := by
  unfold postS anyPost
  rw [encs2, List.append_assoc, textS_forth h1, Option.bind_some]
  simp only
  rw [numS_forth h2.1 h2.2, Option.bind_some]
  simp only [Int.toNat_of_nonneg h2.1]
theorem queueS_back {l : List UInt8} {x : QueueD} {r : ByteArray} (h : queueS (bsL l) = some (x, r)) : ∃ l', r = bsL l' ∧ l = encsB (anyQueue x) ++ l' := by
  unfold queueS at h
  rcases o0 : textS (bsL l) with _ | ⟨t, r0⟩
  · rw [o0] at h; cases h
  rw [o0, Option.bind_some] at h
  obtain ⟨l0, rfl, rfl, _⟩ := textS_back o0
  simp only at h
  rcases o1 : numS (bsL l0) with _ | ⟨n, r1⟩
  · rw [o1] at h; cases h
  rw [o1, Option.bind_some] at h
  obtain ⟨l1, rfl, rfl, _⟩ := numS_back' o1
  simp only at h
  rcases o2 : numS (bsL l1) with _ | ⟨m, r2⟩
  · rw [o2] at h; cases h
  rw [o2, Option.bind_some] at h
  obtain ⟨l2, rfl, rfl, _⟩ := numS_back' o2
  simp only [Option.some.injEq, Prod.mk.injEq] at h
  obtain ⟨rfl, rfl⟩ := h
  exact ⟨l2, rfl, by unfold anyQueue; rw [encs3, List.append_assoc, List.append_assoc, Int.sub_add_cancel]⟩
theorem queueS_forth {x : QueueD} (h1 : x.name.size < 256) (h2 : 0 ≤ x.limit ∧ x.limit < 256) (h3 : -1 ≤ x.dead ∧ x.dead < 255) (l : List UInt8) : queueS (bsL (encsB (anyQueue x) ++ l)) = some (x, bsL l) := by
  unfold queueS anyQueue
  rw [encs3, List.append_assoc, List.append_assoc, textS_forth h1, Option.bind_some]
  simp only
  rw [numS_forth h2.1 h2.2, Option.bind_some]
  simp only
  rw [numS_forth (by omega) (by omega), Option.bind_some]
  simp only [Int.toNat_of_nonneg h2.1, Int.toNat_of_nonneg (show 0 ≤ x.dead + 1 by omega), Int.add_sub_cancel]
theorem bindS_back {l : List UInt8} {x : BindD} {r : ByteArray} (h : bindS (bsL l) = some (x, r)) : ∃ l', r = bsL l' ∧ l = encsB (anyBind x) ++ l' := by
  unfold bindS at h
  rcases o0 : numS (bsL l) with _ | ⟨n, r0⟩
  · rw [o0] at h; cases h
  rw [o0, Option.bind_some] at h
  obtain ⟨l0, rfl, rfl, _⟩ := numS_back' o0
  simp only at h
  rcases o1 : truthS (bsL l0) with _ | ⟨b, r1⟩
  · rw [o1] at h; cases h
  rw [o1, Option.bind_some] at h
  obtain ⟨l1, rfl, rfl⟩ := truthS_back o1
  simp only at h
  rcases o2 : numS (bsL l1) with _ | ⟨m, r2⟩
  · rw [o2] at h; cases h
  rw [o2, Option.bind_some] at h
  obtain ⟨l2, rfl, rfl, _⟩ := numS_back' o2
  simp only at h
  rcases o3 : textS (bsL l2) with _ | ⟨t, r3⟩
  · rw [o3] at h; cases h
  rw [o3, Option.bind_some] at h
  obtain ⟨l3, rfl, rfl, _⟩ := textS_back o3
  simp only [Option.some.injEq, Prod.mk.injEq] at h
  obtain ⟨rfl, rfl⟩ := h
  exact ⟨l3, rfl, by unfold anyBind; rw [encs4, List.append_assoc, List.append_assoc, List.append_assoc]⟩
theorem bindS_forth {x : BindD} (h1 : x.pattern.size < 256) (h2 : 0 ≤ x.src ∧ x.src < 256) (h3 : 0 ≤ x.to ∧ x.to < 256) (l : List UInt8) : bindS (bsL (encsB (anyBind x) ++ l)) = some (x, bsL l) := by
  unfold bindS anyBind
  rw [encs4, List.append_assoc, List.append_assoc, List.append_assoc, numS_forth h2.1 h2.2, Option.bind_some]
  simp only
  rw [truthS_forth, Option.bind_some]
  simp only
  rw [numS_forth h3.1 h3.2, Option.bind_some]
  simp only
  rw [textS_forth h1, Option.bind_some]
  simp only [Int.toNat_of_nonneg h2.1, Int.toNat_of_nonneg h3.1]

theorem iterS_back {α : Type} {f : ByteArray → Option (α × ByteArray)} {enc : α → List UInt8} (hf : ∀ l x r, f (bsL l) = some (x, r) → ∃ l', r = bsL l' ∧ l = enc x ++ l') : ∀ (n : Nat) (l : List UInt8) (xs : List α) (r : ByteArray), iterS f n (bsL l) = some (xs, r) → xs.length = n ∧ ∃ l', r = bsL l' ∧ l = xs.flatMap enc ++ l'
  | 0, l, xs, r, h => by
    unfold iterS at h
    simp only [Option.some.injEq, Prod.mk.injEq] at h
    obtain ⟨rfl, rfl⟩ := h
    exact ⟨rfl, l, rfl, rfl⟩
  | n + 1, l, xs, r, h => by
    unfold iterS at h
    rcases o : f (bsL l) with _ | ⟨x, r0⟩
    · rw [o] at h; cases h
    rw [o, Option.bind_some] at h
    obtain ⟨l0, rfl, rfl⟩ := hf _ _ _ o
    simp only at h
    rcases o1 : iterS f n (bsL l0) with _ | ⟨ys, r1⟩
    · rw [o1] at h; cases h
    rw [o1, Option.map_some] at h
    simp only [Option.some.injEq, Prod.mk.injEq] at h
    obtain ⟨rfl, rfl⟩ := h
    obtain ⟨e, l', rfl, rfl⟩ := iterS_back hf n l0 ys r1 o1
    exact ⟨by rw [List.length_cons, e], l', rfl, by rw [List.flatMap_cons, List.append_assoc]⟩
theorem iterS_forth {α : Type} {f : ByteArray → Option (α × ByteArray)} {enc : α → List UInt8} : ∀ (xs : List α) (_ : ∀ x ∈ xs, ∀ l, f (bsL (enc x ++ l)) = some (x, bsL l)) (l : List UInt8), iterS f xs.length (bsL (xs.flatMap enc ++ l)) = some (xs, bsL l)
  | [], _, l => rfl
  | x :: xs, h, l => by
    rw [List.length_cons, iterS, List.flatMap_cons, List.append_assoc, h x List.mem_cons_self, Option.bind_some]
    simp only
    rw [iterS_forth xs (fun y hy => h y (List.mem_cons_of_mem _ hy)) l]
    rfl
theorem listS_back {α : Type} {f : ByteArray → Option (α × ByteArray)} {enc : α → List UInt8} (hf : ∀ l x r, f (bsL l) = some (x, r) → ∃ l', r = bsL l' ∧ l = enc x ++ l') {l : List UInt8} {xs : List α} {r : ByteArray} (h : listS f (bsL l) = some (xs, r)) : ∃ l', r = bsL l' ∧ l = encsB [.int xs.length] ++ (xs.flatMap enc ++ l') := by
  unfold listS at h
  rcases o : numS (bsL l) with _ | ⟨n, r0⟩
  · rw [o] at h; cases h
  rw [o, Option.bind_some] at h
  obtain ⟨l0, rfl, rfl, _⟩ := numS_back' o
  obtain ⟨rfl, l', rfl, rfl⟩ := iterS_back hf _ _ _ _ h
  exact ⟨l', rfl, by rw [encs1]⟩
theorem listS_forth {α : Type} {f : ByteArray → Option (α × ByteArray)} {enc : α → List UInt8} {xs : List α} (hn : xs.length < 256) (hf : ∀ x ∈ xs, ∀ l, f (bsL (enc x ++ l)) = some (x, bsL l)) (l : List UInt8) : listS f (bsL (encsB [.int xs.length] ++ (xs.flatMap enc ++ l))) = some (xs, bsL l) := by
  unfold listS
  rw [encs1, numS_forth (by omega) (by omega), Option.bind_some]
  simp only [Int.toNat_natCast]
  exact iterS_forth xs hf l

theorem plan_back {s : ByteArray} {p : PlanD} {r : ByteArray} (h : planS s = some (p, r)) : ∃ l', r = bsL l' ∧ s = bsL (writeB p ++ l') := by
  obtain ⟨l, rfl⟩ : ∃ l, s = bsL l := ⟨_, (bsL_list s).symm⟩
  unfold planS at h
  rcases o0 : listS postS (bsL l) with _ | ⟨ps, r0⟩
  · rw [o0] at h; cases h
  rw [o0, Option.bind_some] at h
  obtain ⟨l0, rfl, rfl⟩ := listS_back (enc := fun x => encsB (anyPost x)) (fun _ _ _ => postS_back) o0
  simp only at h
  rcases o1 : listS queueS (bsL l0) with _ | ⟨qs, r1⟩
  · rw [o1] at h; cases h
  rw [o1, Option.bind_some] at h
  obtain ⟨l1, rfl, rfl⟩ := listS_back (enc := fun x => encsB (anyQueue x)) (fun _ _ _ => queueS_back) o1
  simp only at h
  rcases o2 : listS bindS (bsL l1) with _ | ⟨bs, r2⟩
  · rw [o2] at h; cases h
  rw [o2, Option.bind_some] at h
  obtain ⟨l2, rfl, rfl⟩ := listS_back (enc := fun x => encsB (anyBind x)) (fun _ _ _ => bindS_back) o2
  simp only [Option.some.injEq, Prod.mk.injEq] at h
  obtain ⟨rfl, rfl⟩ := h
  exact ⟨l2, rfl, by unfold writeB; simp only [List.append_assoc]⟩
theorem nameP_size {s : ByteArray} (h : nameP s = true) : s.size ≤ 8 := by
  unfold nameP at h
  simp only [Bool.and_eq_true, decide_eq_true_eq] at h
  exact h.1.2
theorem right_post {p : PlanD} (h : PlanRight p) {x : PostD} (hx : x ∈ p.posts) : x.name.size ≤ 8 ∧ 1 ≤ x.kind ∧ x.kind ≤ 3 :=
  ⟨nameP_size (h.names _ (List.mem_append_left _ (List.mem_map_of_mem hx))), h.kind x hx⟩
theorem right_queue {p : PlanD} (h : PlanRight p) {x : QueueD} (hx : x ∈ p.queues) : x.name.size ≤ 8 ∧ 1 ≤ x.limit ∧ x.limit ≤ 6 ∧ -1 ≤ x.dead ∧ x.dead < 4 := by
  have h1 := h.queue x hx
  have h2 := h.posts
  exact ⟨nameP_size (h.names _ (List.mem_append_right _ (List.mem_map_of_mem hx))), h1.1, h1.2.1, h1.2.2.1, by omega⟩
theorem right_bind {p : PlanD} (h : PlanRight p) {x : BindD} (hx : x ∈ p.binds) : x.pattern.size ≤ 24 ∧ 0 ≤ x.src ∧ x.src < 4 ∧ 0 ≤ x.to ∧ x.to < 4 := by
  have h1 := h.bind x hx
  have h2 := h.posts
  have h3 := h.queues
  have h4 := h1.2.2.2
  refine ⟨splitErr_size (h.pat x hx), h1.1, by omega, h1.2.2.1, ?_⟩
  split at h4 <;> omega
theorem plan_forth {p : PlanD} (hp : checkP p = 0) (l : List UInt8) : planS (bsL (writeB p ++ l)) = some (p, bsL l) := by
  have h := checkP_right hp
  have h1 := h.posts
  have h2 := h.queues
  have h3 := h.binds
  have f1 : ∀ x ∈ p.posts, ∀ l, postS (bsL (encsB (anyPost x) ++ l)) = some (x, bsL l) := fun x hx l => by
    have := right_post h hx
    exact postS_forth (by omega) (by omega) l
  have f2 : ∀ x ∈ p.queues, ∀ l, queueS (bsL (encsB (anyQueue x) ++ l)) = some (x, bsL l) := fun x hx l => by
    have := right_queue h hx
    exact queueS_forth (by omega) (by omega) (by omega) l
  have f3 : ∀ x ∈ p.binds, ∀ l, bindS (bsL (encsB (anyBind x) ++ l)) = some (x, bsL l) := fun x hx l => by
    have := right_bind h hx
    exact bindS_forth (by omega) (by omega) (by omega) l
  unfold planS writeB
  simp only [List.append_assoc]
  rw [listS_forth (by omega) f1, Option.bind_some]
  simp only
  rw [listS_forth (by omega) f2, Option.bind_some]
  simp only
  rw [listS_forth (by omega) f3, Option.bind_some]

theorem flat_cap {α : Type} {f : α → List UInt8} {c : Nat} : ∀ {xs : List α}, (∀ x ∈ xs, (f x).length ≤ c) → (xs.flatMap f).length ≤ xs.length * c
  | [], _ => by simp
  | x :: xs, h => by
    have h1 := h x List.mem_cons_self
    have h2 := flat_cap (xs := xs) fun y hy => h y (List.mem_cons_of_mem _ hy)
    rw [List.flatMap_cons, List.length_append, List.length_cons, Nat.add_mul]
    omega
theorem enc_str (s : ByteArray) : (encB (.str s)).length = s.size + 1 := by
  have el : s.data.toList.length = s.size := Array.length_toList
  rw [encB_str, List.length_cons, el]
theorem enc_int (n : Int) : (encB (.int n)).length = 1 := rfl
theorem enc_bool (b : Bool) : (encB (.bool b)).length = 1 := rfl
theorem write_size {p : PlanD} (hp : checkP p = 0) : (writeS p).size ≤ 4096 := by
  have h := checkP_right hp
  have h1 := h.posts
  have h2 := h.queues
  have h3 := h.binds
  have f1 : (p.posts.flatMap fun x => encsB (anyPost x)).length ≤ p.posts.length * 10 := flat_cap fun x hx => by
    have := right_post h hx
    unfold anyPost
    rw [encs2, List.length_append, enc_str, enc_int]; omega
  have f2 : (p.queues.flatMap fun x => encsB (anyQueue x)).length ≤ p.queues.length * 11 := flat_cap fun x hx => by
    have := right_queue h hx
    unfold anyQueue
    rw [encs3, List.length_append, List.length_append, enc_str, enc_int, enc_int]; omega
  have f3 : (p.binds.flatMap fun x => encsB (anyBind x)).length ≤ p.binds.length * 28 := flat_cap fun x hx => by
    have := right_bind h hx
    unfold anyBind
    rw [encs4, List.length_append, List.length_append, List.length_append, enc_str, enc_int, enc_int, enc_bool]; omega
  rw [writeS_eq, bsL_size]
  unfold writeB
  simp only [List.length_append, encs1, enc_int]
  omega

theorem lean_num {s r : ByteArray} {n : Nat} (h : numS s = some (n, r)) : byteE s = (n, r) := by
  unfold numS at h
  unfold byteE
  split at h
  · rename_i hs
    rw [dif_pos hs]
    simpa using h
  · cases h
theorem lean_text {s r t : ByteArray} (h : textS s = some (t, r)) : textE s = (t, r) := by
  unfold textS at h
  rcases o : numS s with _ | ⟨n, r0⟩
  · rw [o] at h; cases h
  rw [o, Option.bind_some] at h
  unfold textE
  rw [lean_num o]
  simp only at h ⊢
  unfold takeS at h
  split at h
  · rename_i hn
    rw [Nat.min_eq_left hn]
    simpa using h
  · cases h
theorem lean_post {s r : ByteArray} {x : PostD} (h : postS s = some (x, r)) : postE s = (x, r) := by
  unfold postS at h
  rcases o0 : textS s with _ | ⟨t, r0⟩
  · rw [o0] at h; cases h
  rw [o0, Option.bind_some] at h
  simp only at h
  rcases o1 : numS r0 with _ | ⟨n, r1⟩
  · rw [o1] at h; cases h
  rw [o1, Option.bind_some] at h
  unfold postE
  rw [lean_text o0]
  simp only
  rw [lean_num o1]
  simpa using h
theorem lean_queue {s r : ByteArray} {x : QueueD} (h : queueS s = some (x, r)) : queueE s = (x, r) := by
  unfold queueS at h
  rcases o0 : textS s with _ | ⟨t, r0⟩
  · rw [o0] at h; cases h
  rw [o0, Option.bind_some] at h
  simp only at h
  rcases o1 : numS r0 with _ | ⟨n, r1⟩
  · rw [o1] at h; cases h
  rw [o1, Option.bind_some] at h
  simp only at h
  rcases o2 : numS r1 with _ | ⟨m, r2⟩
  · rw [o2] at h; cases h
  rw [o2, Option.bind_some] at h
  unfold queueE
  rw [lean_text o0]
  simp only
  rw [lean_num o1]
  simp only
  rw [lean_num o2]
  simpa using h
theorem lean_truth {s r : ByteArray} {t : Bool} (h : truthS s = some (t, r)) : (byteE s).2 = r ∧ decide ((byteE s).1 = 1) = t := by
  unfold truthS at h
  rcases o : numS s with _ | ⟨n, r0⟩
  · rw [o] at h; cases h
  rw [o, Option.bind_some] at h
  rw [lean_num o]
  simp only at h ⊢
  split at h
  · cases h
  · simp only [Option.some.injEq, Prod.mk.injEq] at h
    exact ⟨h.2, h.1⟩
theorem lean_bind {s r : ByteArray} {x : BindD} (h : bindS s = some (x, r)) : bindE s = (x, r) := by
  unfold bindS at h
  rcases o0 : numS s with _ | ⟨n, r0⟩
  · rw [o0] at h; cases h
  rw [o0, Option.bind_some] at h
  simp only at h
  rcases o1 : truthS r0 with _ | ⟨b, r1⟩
  · rw [o1] at h; cases h
  rw [o1, Option.bind_some] at h
  simp only at h
  rcases o2 : numS r1 with _ | ⟨m, r2⟩
  · rw [o2] at h; cases h
  rw [o2, Option.bind_some] at h
  simp only at h
  rcases o3 : textS r2 with _ | ⟨t, r3⟩
  · rw [o3] at h; cases h
  rw [o3, Option.bind_some] at h
  unfold bindE
  rw [lean_num o0]
  simp only
  rw [(lean_truth o1).1, (lean_truth o1).2, lean_num o2]
  simp only
  rw [lean_text o3]
  simpa using h
theorem lean_iter {α : Type} {f : ByteArray → Option (α × ByteArray)} {g : ByteArray → α × ByteArray} (hf : ∀ s x r, f s = some (x, r) → g s = (x, r)) : ∀ (n : Nat) (s : ByteArray) (xs : List α) (r : ByteArray), iterS f n s = some (xs, r) → iterE g n s = (xs, r)
  | 0, s, xs, r, h => by
    unfold iterS at h
    unfold iterE
    simpa using h
  | n + 1, s, xs, r, h => by
    unfold iterS at h
    rcases o : f s with _ | ⟨x, r0⟩
    · rw [o] at h; cases h
    rw [o, Option.bind_some] at h
    simp only at h
    rcases o1 : iterS f n r0 with _ | ⟨ys, r1⟩
    · rw [o1] at h; cases h
    rw [o1, Option.map_some] at h
    unfold iterE
    rw [hf _ _ _ o]
    simp only
    rw [lean_iter hf n _ _ _ o1]
    simpa using h
theorem lean_list {α : Type} {f : ByteArray → Option (α × ByteArray)} {g : ByteArray → α × ByteArray} (hf : ∀ s x r, f s = some (x, r) → g s = (x, r)) {s r : ByteArray} {xs : List α} (h : listS f s = some (xs, r)) : listE g s = (xs, r) := by
  unfold listS at h
  rcases o : numS s with _ | ⟨n, r0⟩
  · rw [o] at h; cases h
  rw [o, Option.bind_some] at h
  unfold listE
  rw [lean_num o]
  exact lean_iter hf _ _ _ _ h
theorem lean_plan {s r : ByteArray} {p : PlanD} (h : planS s = some (p, r)) : planE s = p := by
  unfold planS at h
  rcases o0 : listS postS s with _ | ⟨ps, r0⟩
  · rw [o0] at h; cases h
  rw [o0, Option.bind_some] at h
  simp only at h
  rcases o1 : listS queueS r0 with _ | ⟨qs, r1⟩
  · rw [o1] at h; cases h
  rw [o1, Option.bind_some] at h
  simp only at h
  rcases o2 : listS bindS r1 with _ | ⟨bs, r2⟩
  · rw [o2] at h; cases h
  rw [o2, Option.bind_some] at h
  simp only [Option.some.injEq, Prod.mk.injEq] at h
  unfold planE
  rw [lean_list (fun _ _ _ => lean_post) o0]
  simp only
  rw [lean_list (fun _ _ _ => lean_queue) o1]
  simp only
  rw [lean_list (fun _ _ _ => lean_bind) o2]
  exact h.1

theorem from_read (s : ByteArray) : (checkP (planE s) = 0 ∧ writeS (planE s) = s) ↔ ∃ p r, planS s = some (p, r) ∧ r.size = 0 ∧ checkP p = 0 := by
  constructor
  · rintro ⟨h1, h2⟩
    have h3 := plan_forth h1 []
    rw [List.append_nil, ← writeS_eq, h2] at h3
    exact ⟨_, _, h3, rfl, h1⟩
  · rintro ⟨p, r, h1, h2, h3⟩
    have e := lean_plan h1
    obtain ⟨l', rfl, hs⟩ := plan_back h1
    rw [bsL_size] at h2
    have hl := List.eq_nil_of_length_eq_zero h2
    subst hl
    rw [List.append_nil, ← writeS_eq] at hs
    rw [e]
    exact ⟨h3, hs.symm⟩
theorem readE_eq (s : ByteArray) : readE s = if 4096 < s.size then 2 else if checkP (planE s) = 0 ∧ writeS (planE s) = s then 0 else 1 := by
  unfold readE
  split
  · rfl
  · by_cases h : checkP (planE s) = 0 ∧ writeS (planE s) = s
    · rw [if_pos h]
      obtain ⟨p, r, h1, h2, h3⟩ := (from_read s).1 h
      rw [h1]
      exact if_pos ⟨h2, h3⟩
    · rw [if_neg h]
      rcases o : planS s with _ | ⟨p, r⟩
      · rfl
      · exact if_neg fun hc => h ((from_read s).2 ⟨p, r, o, hc.1, hc.2⟩)
theorem readP_eq (s : ByteArray) : readP s = if 4096 < s.size then zeroP else if checkP (planE s) = 0 ∧ writeS (planE s) = s then planE s else zeroP := by
  unfold readP
  split
  · rfl
  · by_cases h : checkP (planE s) = 0 ∧ writeS (planE s) = s
    · rw [if_pos h]
      obtain ⟨p, r, h1, h2, h3⟩ := (from_read s).1 h
      rw [lean_plan h1, h1]
      exact if_pos ⟨h2, h3⟩
    · rw [if_neg h]
      rcases o : planS s with _ | ⟨p, r⟩
      · rfl
      · exact if_neg fun hc => h ((from_read s).2 ⟨p, r, o, hc.1, hc.2⟩)
/-- What is written is read as it was. -/
theorem read_write {p : PlanD} (hp : checkP p = 0) : readE (writeS p) = 0 ∧ readP (writeS p) = p := by
  have h1 := write_size hp
  have h2 : planS (writeS p) = some (p, bsL []) := by
    have := plan_forth hp []
    rwa [List.append_nil, ← writeS_eq] at this
  have e := lean_plan h2
  have h4 : ¬ 4096 < (writeS p).size := by omega
  refine ⟨?_, ?_⟩
  · rw [readE_eq, if_neg h4, e, if_pos ⟨hp, rfl⟩]
  · rw [readP_eq, if_neg h4, e, if_pos ⟨hp, rfl⟩]
/-- And nothing else is. -/
theorem write_read {s : ByteArray} (h : readE s = 0) : checkP (readP s) = 0 ∧ writeS (readP s) = s := by
  rw [readE_eq] at h
  rw [readP_eq]
  split at h
  · cases h
  · rename_i h1
    split at h
    · rename_i h2
      rw [if_neg h1, if_pos h2]
      exact h2
    · cases h

end Go.Proofs.YtapimpmpjighmaaDoor
