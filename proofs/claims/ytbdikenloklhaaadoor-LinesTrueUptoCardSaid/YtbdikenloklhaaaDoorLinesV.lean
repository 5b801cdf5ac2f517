/-
  The plain law of LinesTrue: shed parts are all there was; what is pushed is there, in its place; two are pushed alike.
-/
import Derived.Test.YtbdikenloklhaaaDoorLinesM
namespace Go.Proofs.YtbdikenloklhaaaDoor

theorem shed_all {l : List ItemD} {n : Int} (h : shedErr l n = 0) : shedOff l n ++ shedStay l n = l ∧ ((shedStay l n).length : Int) ≤ n ∧ (0 < (shedOff l n).length → ((shedStay l n).length : Int) = n) := by
  have hn : 0 ≤ n := by
    unfold shedErr at h
    split at h
    · cases h
    · split at h
      · cases h
      · omega
  unfold shedOff shedStay
  rw [if_pos h, if_pos h]
  refine ⟨List.take_append_drop _ _, ?_, ?_⟩
  · rw [List.length_drop]; unfold shedN; omega
  · rw [List.length_drop, List.length_take]; unfold shedN; omega

theorem push_fine {l : List ItemD} {x : ItemD} (h : pushErr l x = 0) : lineFine l = true ∧ itemFine x = true ∧ l.any (fun y => decide (y.seq = x.seq)) = false := by
  unfold pushErr at h
  split at h
  · cases h
  · rename_i h1
    split at h
    · cases h
    · rename_i h2
      have h3 : lineFine l = true := by cases hq : lineFine l <;> simp_all
      have h4 : itemFine x = true := by cases hq : itemFine x <;> simp_all
      exact ⟨h3, h4, by rw [← Bool.not_eq_true]; exact h2⟩

theorem pushL_mem {x z : ItemD} : ∀ {l : List ItemD}, z ∈ pushL l x ↔ z = x ∨ z ∈ l
  | [] => by simp [pushL]
  | y :: r => by
    unfold pushL
    split
    · simp
    · rw [List.mem_cons, pushL_mem, List.mem_cons]
      constructor
      · rintro (h | h | h)
        · exact .inr (.inl h)
        · exact .inl h
        · exact .inr (.inr h)
      · rintro (h | h | h)
        · exact .inr (.inl h)
        · exact .inl h
        · exact .inr (.inr h)
theorem pushL_sorted {x : ItemD} : ∀ {l : List ItemD}, (l.Pairwise fun x y => x.seq < y.seq) → (∀ y ∈ l, y.seq ≠ x.seq) → (pushL l x).Pairwise fun x y => x.seq < y.seq
  | [], _, _ => by simp [pushL]
  | y :: r, hp, hn => by
    obtain ⟨hp1, hp2⟩ := List.pairwise_cons.1 hp
    unfold pushL
    split
    · rename_i h
      refine List.pairwise_cons.2 ⟨fun z hz => ?_, hp⟩
      rcases List.mem_cons.1 hz with rfl | hz
      · exact h
      · have := hp1 z hz; omega
    · rename_i h
      refine List.pairwise_cons.2 ⟨fun z hz => ?_, pushL_sorted hp2 fun z hz => hn z (List.mem_cons_of_mem _ hz)⟩
      have hy := hn y (List.mem_cons_self ..)
      rcases pushL_mem.1 hz with rfl | hz
      · omega
      · exact hp1 z hz
theorem any_seq {l : List ItemD} {s : Int} (h : l.any (fun y => decide (y.seq = s)) = false) : ∀ y ∈ l, y.seq ≠ s := fun y hy e => by
  have : l.any (fun y => decide (y.seq = s)) = true := List.any_eq_true.2 ⟨y, hy, by simp [e]⟩
  rw [this] at h
  cases h
theorem pushL_fine {l : List ItemD} {x : ItemD} (h : pushErr l x = 0) : lineFine (pushL l x) = true := by
  obtain ⟨h1, h2, h3⟩ := push_fine h
  obtain ⟨h4, h5⟩ := lineFine_iff.1 h1
  refine lineFine_iff.2 ⟨fun z hz => ?_, pushL_sorted h5 (any_seq h3)⟩
  rcases pushL_mem.1 hz with rfl | hz
  · exact h2
  · exact h4 z hz

/-- Where what is pushed stands. -/
theorem pushL_at {l : List ItemD} {x : ItemD} (h : pushErr l x = 0) : ∃ p, p < (pushL l x).length ∧ (pushL l x)[p]? = some x ∧ (∀ j z, j < p → (pushL l x)[j]? = some z → itemEq z x = false) ∧ (pushL l x).take p ++ (pushL l x).drop (p + 1) = l := by
  obtain ⟨h1, h2, h3⟩ := push_fine h
  obtain ⟨h4, h5⟩ := lineFine_iff.1 h1
  have he := pushL_eq h5 h3
  have hle := lowB_le l x.seq
  have hlt : (l.take (lowB l x.seq)).length = lowB l x.seq := by rw [List.length_take]; omega
  have hx : (pushL l x)[lowB l x.seq]? = some x := by
    rw [he, List.append_assoc, List.getElem?_append_right (by omega), hlt]
    simp
  refine ⟨lowB l x.seq, (List.getElem?_eq_some_iff.1 hx).1, hx, fun j z hj hz => ?_, ?_⟩
  · have := sorted_get (pushL_sorted h5 (any_seq h3)) hj hz hx
    rw [← Bool.not_eq_true, itemEq_iff]
    rintro rfl
    omega
  · rw [he]
    have e1 : (l.take (lowB l x.seq) ++ [x] ++ l.drop (lowB l x.seq)).take (lowB l x.seq) = l.take (lowB l x.seq) := by
      rw [List.append_assoc, List.take_append_of_le_length (by omega), List.take_take, Nat.min_self]
    have e2 : (l.take (lowB l x.seq) ++ [x] ++ l.drop (lowB l x.seq)).drop (lowB l x.seq + 1) = l.drop (lowB l x.seq) := by
      rw [List.drop_append, List.drop_eq_nil_of_le (by simp; omega)]
      simp [hlt, hle]
    rw [e1, e2, List.take_append_drop]

theorem pushL_comm {x y : ItemD} (hxy : x.seq ≠ y.seq) : ∀ l : List ItemD, pushL (pushL l x) y = pushL (pushL l y) x
  | [] => by
    rcases Int.lt_or_gt_of_ne hxy with h | h
    · have h' : ¬ y.seq < x.seq := by omega
      simp [pushL, h, h']
    · have h' : ¬ x.seq < y.seq := by omega
      have h'' : y.seq < x.seq := h
      simp [pushL, h', h'']
  | z :: r => by
    have ih := pushL_comm hxy r
    by_cases hx : x.seq < z.seq <;> by_cases hy : y.seq < z.seq
    · rcases Int.lt_or_gt_of_ne hxy with h | h
      · have h' : ¬ y.seq < x.seq := by omega
        simp [pushL, hx, hy, h, h']
      · have h' : ¬ x.seq < y.seq := by omega
        have h'' : y.seq < x.seq := h
        simp [pushL, hx, hy, h', h'']
    · have h' : ¬ y.seq < x.seq := by omega
      simp [pushL, hx, hy, h']
    · have h' : ¬ x.seq < y.seq := by omega
      simp [pushL, hx, hy, h']
    · simp [pushL, hx, hy, ih]

theorem push_twice {l : List ItemD} {x y : ItemD} (hx : pushErr l x = 0) (hy : pushErr l y = 0) : pushErr (pushL l x) y = pushErr (pushL l y) x ∧ pushOut (pushL l x) y = pushOut (pushL l y) x := by
  obtain ⟨_, fx, nx⟩ := push_fine hx
  obtain ⟨_, fy, ny⟩ := push_fine hy
  have gx := pushL_fine hx
  have gy := pushL_fine hy
  have ax : (pushL l x).any (fun z => decide (z.seq = y.seq)) = decide (x.seq = y.seq) := by
    rw [Bool.eq_iff_iff, List.any_eq_true, decide_eq_true_eq]
    constructor
    · rintro ⟨z, hz, e⟩
      rcases pushL_mem.1 hz with rfl | hz
      · simpa using e
      · exact absurd (by simpa using e) (any_seq ny z hz)
    · intro e
      exact ⟨x, pushL_mem.2 (.inl rfl), by simp [e]⟩
  have ay : (pushL l y).any (fun z => decide (z.seq = x.seq)) = decide (x.seq = y.seq) := by
    rw [Bool.eq_iff_iff, List.any_eq_true, decide_eq_true_eq]
    constructor
    · rintro ⟨z, hz, e⟩
      rcases pushL_mem.1 hz with rfl | hz
      · exact (by simpa using e : z.seq = x.seq).symm
      · exact absurd (by simpa using e) (any_seq nx z hz)
    · intro e
      exact ⟨y, pushL_mem.2 (.inl rfl), by simp [e]⟩
  by_cases hxy : x.seq = y.seq
  · have k1 := push_there gx fy (by rw [ax]; simp [hxy])
    have k2 := push_there gy fx (by rw [ay]; simp [hxy])
    exact ⟨k1.1.trans k2.1.symm, k1.2.trans k2.2.symm⟩
  · have k1 := push_ok gx fy (by rw [ax]; simp [hxy])
    have k2 := push_ok gy fx (by rw [ay]; simp [hxy])
    exact ⟨k1.1.trans k2.1.symm, by rw [k1.2, k2.2, pushL_comm hxy]⟩

theorem pushL_small {l : List ItemD} {x : ItemD} (hs : LineSmall l) (hx : ItemSmall x) (h : l.length ≤ 1048575) : LineSmall (pushL l x) :=
  ⟨by rw [pushL_len]; omega, fun z hz => by
    rcases pushL_mem.1 hz with rfl | hz
    · exact hx
    · exact hs.item z hz⟩

end Go.Proofs.YtbdikenloklhaaaDoor
