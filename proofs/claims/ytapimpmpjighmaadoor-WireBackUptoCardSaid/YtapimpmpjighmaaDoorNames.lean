/-
  Names, plain: what a name is; whether two are one; append of a slice that came in to a row of the call's own.
-/
import Derived.Test.YtapimpmpjighmaaDoorBase
import Derived.Test.YtapimpmpjighmaaDoorWordsPure
import Derived.Lib.Walk
import Derived.Lib.SliceRun
import Derived.Lib.AppendZerosOnto
import Derived.Laws.OwnMore
namespace Go.Proofs.YtapimpmpjighmaaDoor
open Go.RowKit

/-- Not a small letter. -/
def far (r : Int) : Bool := !(decide (97 ≤ r) && decide (r ≤ 122))
theorem far_big (n : Nat) (h : 128 ≤ n) : far (n : Int) = true := by simp [far]; omega

theorem far_idx_any (s : ByteArray) : ∀ (f pos : Nat), s.size ≤ f + pos →
    decide (0 ≤ Lib.idxFuncFrom (fun n => far (n : Int)) true s f pos) = (s.data.toList.drop pos).any fun c => far (c.toNat : Int)
  | 0, pos, h => by
    rw [List.drop_eq_nil_of_le (by simpa using h)]
    simp [Lib.idxFuncFrom]
  | f + 1, pos, h => by
    unfold Lib.idxFuncFrom
    by_cases hp : pos < s.size
    · have hl : pos < s.data.toList.length := by simpa using hp
      rw [if_pos hp, List.drop_eq_getElem_cons hl, List.any_cons]
      rcases Nat.lt_or_ge (s.get! pos).toNat 128 with hb | hb
      · rw [decode_small s pos hb]
        simp only [get!_eq s pos hp]
        by_cases ho : far ((s.data.toList[pos]).toNat : Int) = true
        · rw [if_pos ho, ho]; simp
        · rw [if_neg ho, far_idx_any s f (pos + 1) (by omega)]
          simp only [Bool.not_eq_true] at ho
          rw [ho, Bool.false_or]
      · have h1 := far_big _ (decode_big s pos hb)
        have h2 := far_big _ hb
        rw [get!_eq s pos hp] at h2
        rw [if_pos h1, h2]; simp
    · rw [if_neg hp, List.drop_eq_nil_of_le (by simp; omega)]
      simp
theorem far_idx (s : ByteArray) : decide (0 ≤ Lib.idxFunc (fun n => far (n : Int)) true s) = s.toList.any fun c => far (c.toNat : Int) := by
  rw [ByteArray.toList_eq]
  have := far_idx_any s s.size 0 (by omega)
  rw [List.drop_zero] at this
  exact this

/-- A name. -/
def nameP (s : ByteArray) : Bool := decide (0 < s.size) && decide (s.size ≤ 8) && !(s.toList.any fun c => far (c.toNat : Int))
/-- Two are one. -/
def dup (l : List ByteArray) : Bool := !decide l.Nodup

theorem nodup_take {α : Type} {l : List α} {k : Nat} (h : k < l.length) : (l.take (k + 1)).Nodup ↔ (l.take k).Nodup ∧ l[k] ∉ l.take k := by
  rw [List.take_succ_eq_append_getElem h, List.nodup_append]
  simp only [List.nodup_cons, List.not_mem_nil, not_false_eq_true, List.nodup_nil, and_true, true_and, List.mem_singleton]
  constructor
  · rintro ⟨h1, h2⟩
    exact ⟨h1, fun hm => h2 _ hm _ rfl rfl⟩
  · rintro ⟨h1, h2⟩
    exact ⟨h1, fun a ha b hb hab => h2 (by rw [← hb, ← hab]; exact ha)⟩

theorem mem_take_iff {α : Type} {l : List α} {k : Nat} {x : α} : x ∈ l.take k ↔ ∃ j, j < k ∧ l[j]? = some x := by
  rw [List.mem_iff_getElem?]
  constructor
  · rintro ⟨j, hj⟩
    rw [List.getElem?_take] at hj
    split at hj
    · exact ⟨j, by assumption, hj⟩
    · cases hj
  · rintro ⟨j, h1, h2⟩
    exact ⟨j, by rw [List.getElem?_take, if_pos h1]; exact h2⟩

/-- append of a slice of which no address may be known, where it is empty. -/
theorem run_appendS {P : Program} (w : World) (base : Nat) (t ty e : TypeId) {z : Value} {size bytes : Nat} (ht : P.underlying t = some (.slice e)) (hinfo : (P.info? e).map (fun i => (i.zero, i.size, i.bytes)) = some (some z, size, bytes))
    (hzs : z.cells.size = size) (hsz : 0 < size) (hb : bytes ≤ 4096) (v : Value) (n : Nat) (xs : List Value) (hown : w.ownsRow base e size v n xs) (lo hi : Nat) (a : Option Addr) (m c : Nat) (news : List Value) (hl : news.length = m * size)
    (hs : Sl w lo hi a news) (h1 : ∀ u ∈ news, u.oneCell' = true) (hn : n + m ≤ 4294967296) (hbase : base ≤ w.heap.size) :
    ∃ v' w', (Builtin.append_ #[t, t] ty #[v, .slice a m c]).run P w = .ok v' w' ∧ w'.ownsRow base e size v' (n + m) (xs ++ news) ∧ w.grownBy w' v.ownBlock := by
  obtain ⟨i, hi, hz0, hz1, hz2⟩ := info_parts hinfo
  have hby : (n + m) * bytes ≤ 140737488355328 := by
    have : (n + m) * bytes ≤ 4294967296 * 4096 := Nat.mul_le_mul (by omega) hb
    omega
  have key : ∀ ad : Addr, (∀ j u, news[j]? = some u → w.cell? (ad.add j) = some u) →
      ∃ v' w', (Builtin.append_ #[t, t] ty #[v, .slice (some ad) m c]).run P w = .ok v' w' ∧ w'.ownsRow base e size v' (n + m) (xs ++ news) ∧ w.grownBy w' v.ownBlock := fun ad hc => by
    obtain ⟨v', w', r1, r2, r3, _⟩ := run_append_own w base t ty e i z size bytes ht hi hz0 hz1 hz2 hzs hsz v n xs hown ad m c news hl hc h1 (by unfold maxLen; omega) hby hbase
    exact ⟨v', w', r1, r2, r3⟩
  rcases hs with rfl | ⟨b, o, rfl, _, _, hc⟩
  · have hm0 : m = 0 := by
      rcases Nat.mul_eq_zero.1 hl.symm with h | h
      · exact h
      · omega
    subst hm0
    cases a with
    | some ad => exact key ad (fun j u hu => by simp at hu)
    | none =>
      refine ⟨v, w, ?_, by simpa using hown, World.grownBy.refl _ _⟩
      rcases hown.2 with ⟨rfl, rfl⟩ | ⟨g, cap, cur, rfl, _, _, hnc, _⟩
      · simp [Builtin.append_, run_underlying ht, sizeOf, typeInfo, hi, Builtin.lenOf, Builtin.firstCells]
      · simp [Builtin.append_, run_underlying ht, sizeOf, typeInfo, hi, Builtin.lenOf, Builtin.firstCells, hnc, storeCells]
  · refine key _ (fun j u hu => ?_)
    have : ((⟨b, o, none⟩ : Addr).add j) = ⟨b, o + j, none⟩ := by
      unfold Addr.add
      split
      · simp_all
      · simp
    rw [this]
    exact hc j u hu

theorem appendS {P : Program} {ops : Array Oper} {rest : List Oper} {o : Oper} {a : Act} {w : World} {Q : Exit → Act → World → Prop} (hgd : o.guard = none) (s x : Operand) (t : TypeId)
    (ho : o.op = .call { callee := .builtin .append, args := #[s, x], argTypes := #[t, t] })
    (base : Nat) (e : TypeId) {z : Value} {size bytes : Nat} (hinfo : (P.info? e).map (fun i => (i.zero, i.size, i.bytes)) = some (some z, size, bytes)) (ht : P.underlying t = some (.slice e)) (hzs : z.cells.size = size) (hsz : 0 < size) (hb : bytes ≤ 4096)
    (v : Value) (n : Nat) (us : List Value) (hs : a.eval s = v) (hown : w.ownsRow base e size v n us) (ad : Option Addr) (m c : Nat) (hx : a.eval x = .slice ad m c)
    (lo hi : Nat) (news : List Value) (hl : news.length = m * size) (hsl : Sl w lo hi ad news) (h1 : ∀ u ∈ news, u.oneCell' = true) (hn : n + m ≤ 4294967296) (hbase : base ≤ w.heap.size)
    (h : ∀ v' w', w'.ownsRow base e size v' (n + m) (us ++ news) → w.grownBy w' v.ownBlock → wpList P ops Q rest (a.put o.dst v') w') : wpList P ops Q (o :: rest) a w := by
  obtain ⟨v', w', r1, r2, r3⟩ := run_appendS (P := P) w base t o.type e ht hinfo hzs hsz hb v n us hown lo hi ad m c news hl hsl h1 hn hbase
  exact Lib.wpList_append_run _ hgd s x t t ho v (.slice ad m c) hs hx v' w' r1 (h v' w' r2 r3)

end Go.Proofs.YtapimpmpjighmaaDoor
