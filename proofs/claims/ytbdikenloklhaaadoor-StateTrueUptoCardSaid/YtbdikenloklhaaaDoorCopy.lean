/-
  append without room, plain: a new row, and nothing that was there has turned.
  copy into a block of the call's own, at elements of any size; a slice of letters cloned.
-/
import Derived.Test.YtbdikenloklhaaaDoorBase
import Derived.Test.YtbdikenloklhaaaDoorNames
import Derived.Lib.AppendZeros
import Derived.Test.YtbdikenloklhaaaDoorLinesD
import Derived.Laws.CopyRow
import Derived.Lib.SliceRun
namespace Go.Proofs.YtbdikenloklhaaaDoor
open Go.RowKit

theorem addr_add' (b o j : Nat) : (⟨b, o, none⟩ : Addr).add j = ⟨b, o + j, none⟩ := by
  unfold Addr.add
  split
  · simp_all
  · simp

theorem own_new {w : World} {e : TypeId} {size k : Nat} (n cap : Nat) (us : List Value) (rest : Array Value) (hl : us.length = n * size) (hc : n ≤ cap) (hm : cap ≤ maxLen) (hr : rest.size = (cap - n) * size) (hk : k ≤ w.heap.size) :
    (w.drew.alloc (.cells (us.toArray ++ rest) e)).ownsRow k e size (.slice (some ⟨w.heap.size, 0, none⟩) n cap) n us := by
  refine ⟨hl, .inr ⟨w.heap.size, _, _, rfl, hk, heap_alloc_new w.drew _, hc, hm, ?_, ?_⟩⟩
  · simp only [Array.size_append, List.size_toArray, hl, hr, ← Nat.add_mul]
    congr 1
    omega
  · simp only [Array.toList_append]
    rw [← hl]
    exact List.take_left

theorem run_append_new {P : Program} (w : World) (t ty e : TypeId) {z : Value} {size bytes : Nat} (ht : P.underlying t = some (.slice e)) (hinfo : (P.info? e).map (fun i => (i.zero, i.size, i.bytes)) = some (some z, size, bytes))
    (hzs : z.cells.size = size) (hsz : 0 < size) (hb : bytes ≤ 4096) (b0 : Addr) (n cap : Nat) (olds : List Value) (lo hi : Nat) (hol : olds.length = n * size) (ho : Sl w lo hi (some b0) olds)
    (lo' hi' : Nat) (a : Option Addr) (m c : Nat) (news : List Value) (hl : news.length = m * size) (hs : Sl w lo' hi' a news) (hnc : n ≤ cap) (hg : cap < n + m) (hn : n + m ≤ 4294967296) :
    ∃ v' w', (Builtin.append_ #[t, t] ty #[.slice (some b0) n cap, .slice a m c]).run P w = .ok v' w' ∧ w'.ownsRow w.heap.size e size v' (n + m) (olds ++ news) ∧ Below w.heap.size w w' := by
  obtain ⟨i, hi, hz0, hz1, hz2⟩ := info_parts hinfo
  have hnil : news ≠ [] := by
    rintro rfl
    have : m * size = 0 := hl.symm
    rcases Nat.mul_eq_zero.1 this with h | h <;> omega
  rcases hs with h | ⟨b, o, rfl, _, _, hc⟩
  · exact absurd h hnil
  have hby : (n + m) * bytes ≤ 140737488355328 := by
    have : (n + m) * bytes ≤ 4294967296 * 4096 := Nat.mul_le_mul hn hb
    omega
  have hr := run_append_grow (P := P) w t ty e i z ht hi hz0 b0 n cap olds (by rw [hz1]; exact hol) (fun j v hj => by
      rcases ho with h | ⟨b', o', e', _, _, hc'⟩
      · rw [h] at hj; simp at hj
      · simp only [Option.some.injEq] at e'
        rw [e', addr_add']
        exact hc' j v hj) ⟨b, o, none⟩ m c news (by rw [hz1]; exact hl) (fun j v hj => by rw [addr_add']; exact hc j v hj) hg (by omega) (growslice_fits hg (by rw [hz2]; exact hby))
  have hge := grownCap_ge w (n + m) cap e
  have hcm : grownCap w (n + m) cap e ≤ maxLen := grownCap_le_maxLen w (n + m) cap e (by unfold maxLen; omega)
  refine ⟨_, _, hr, ?_, (Below.refl _ w).drew.alloc (Nat.le_refl _) _⟩
  rw [List.append_toArray olds news]
  exact own_new (n + m) _ (olds ++ news) _ (by rw [List.length_append, hol, hl, Nat.add_mul]) hge hcm (by rw [size_zeroCells, hzs]) (Nat.le_refl _)

/-- append to a slice of no element and no room. -/
theorem run_append_zero {P : Program} (w : World) (t ty e : TypeId) {z : Value} {size bytes : Nat} (ht : P.underlying t = some (.slice e)) (hinfo : (P.info? e).map (fun i => (i.zero, i.size, i.bytes)) = some (some z, size, bytes))
    (hzs : z.cells.size = size) (hsz : 0 < size) (hb : bytes ≤ 4096) (b0 : Addr) (lo hi : Nat) (a : Option Addr) (m c : Nat) (news : List Value) (hl : news.length = m * size) (hs : Sl w lo hi a news) (hn : m ≤ 4294967296) :
    ∃ v' w', (Builtin.append_ #[t, t] ty #[.slice (some b0) 0 0, .slice a m c]).run P w = .ok v' w' ∧ Below w.heap.size w w' ∧ (0 < m ∧ w'.ownsRow w.heap.size e size v' m news ∨ m = 0 ∧ v' = .slice (some b0) 0 0 ∧ w' = w) := by
  by_cases hm : m = 0
  · subst hm
    obtain ⟨i, hi, hz0, hz1, hz2⟩ := info_parts hinfo
    refine ⟨.slice (some b0) 0 0, w, ?_, Below.refl _ _, .inr ⟨rfl, rfl, rfl⟩⟩
    cases a with
    | none => simp [Builtin.append_, run_underlying ht, sizeOf, typeInfo, hi, Builtin.lenOf, Builtin.firstCells, storeCells]
    | some ad =>
      have hf := run_firstCells_some (P := P) w i.size 0 ad 0 c [] (by simp) (by intro j v hj; simp at hj)
      simp [Builtin.append_, run_underlying ht, sizeOf, typeInfo, hi, Builtin.lenOf, hf, storeCells]
  · obtain ⟨v', w', h1, h2, h3⟩ := run_append_new (P := P) w t ty e ht hinfo hzs hsz hb b0 0 0 [] 0 0 (by simp) (Sl.nil _ _ _ _) lo hi a m c news hl hs (Nat.le_refl _) (by omega) (by omega)
    rw [Nat.zero_add, List.nil_append] at h2
    exact ⟨v', w', h1, h3, .inl ⟨by omega, h2⟩⟩

/-- The same, as the slice reads. -/
theorem zero_reads {w w' : World} {e : TypeId} {size m : Nat} {v' : Value} {b0 : Addr} {news : List Value} (hl : news.length = m * size) (h : 0 < m ∧ w'.ownsRow w.heap.size e size v' m news ∨ m = 0 ∧ v' = .slice (some b0) 0 0 ∧ w' = w) :
    ∃ a c, v' = .slice a m c ∧ m ≤ c ∧ Sl w' w.heap.size w'.heap.size a news := by
  rcases h with ⟨_, h⟩ | ⟨rfl, rfl, rfl⟩
  · obtain ⟨a, c, rfl, hc⟩ := own_slice h
    exact ⟨a, c, rfl, hc, Sl.of_own h⟩
  · exact ⟨_, 0, rfl, Nat.le_refl _, .inl (List.eq_nil_of_length_eq_zero (by simpa using hl))⟩

end Go.Proofs.YtbdikenloklhaaaDoor

namespace Go.Proofs.YtbdikenloklhaaaDoor
open Go.RowKit
set_option maxRecDepth 100000

theorem run_copy_rowN {P : Program} (w : World) (dT sT ty elem : TypeId) {z : Value} {size bytes : Nat} (hu : P.underlying dT = some (.slice elem)) (hinfo : (P.info? elem).map (fun i => (i.zero, i.size, i.bytes)) = some (some z, size, bytes))
    (g o dLen dCap : Nat) (a : Addr) (sLen sCap k : Nat) (cur : Array Value) (t : TypeId) (cs : List Value) (hg : w.heap[g]? = some (.cells cur t (0, 0))) (hk : Nat.min sLen dLen = k) (hn : cs.length = k * size)
    (hsrc : ∀ j v, cs[j]? = some v → w.cell? (a.add j) = some v) (hfit : o + cs.length ≤ cur.size) (h1 : ∀ v ∈ cs, v.oneCell' = true) :
    (Builtin.copy_ #[dT, sT] ty #[.slice (some ⟨g, o, none⟩) dLen dCap, .slice (some a) sLen sCap]).run P w = .ok (goInt k) (w.setRow g (cur.toList.take o ++ cs ++ cur.toList.drop (o + cs.length)).toArray) := by
  obtain ⟨i, hi, hz0, hz1, hz2⟩ := info_parts hinfo
  have hl := run_loadCells_list (P := P) w a cs hsrc
  have hst := run_storeCells_at P g o t cs 0 cur w hg (by simpa using hfit) h1
  rw [hn] at hl
  simp [Builtin.copy_, run_underlying hu, Builtin.lenOf, Builtin.firstCells, sizeOf, typeInfo, hi, hz1, hk, hl, hst]

theorem wpList_copyR {P : Program} (w : World) {ops : Array Oper} {rest : List Oper} {o : Oper} {a : Act} {Q : Exit → Act → World → Prop} (hgd : o.guard = none) (d s : Operand) (t t' : TypeId)
    (ho : o.op = .call { callee := .builtin .copy, args := #[d, s], argTypes := #[t, t'] }) (v u : Value) (hd : a.eval d = v) (hs : a.eval s = u) {v' : Value} {w' : World}
    (hr : (Builtin.copy_ #[t, t'] o.type #[v, u]).run P w = .ok v' w') (h : wpList P ops Q rest (a.put o.dst v') w') : wpList P ops Q (o :: rest) a w :=
  wpList_plain hgd fun _ hK => by
    unfold Oper.wp execOp
    simp only [ho, resolve, invoke, builtin, Sem.run_bind, Sem.run_pure, Result.andThen_ok, List.map_toArray, List.map_cons, List.map_nil, hd, hs, hr]
    exact hK _ _ h

theorem bk_setRow {w : World} {g : Nat} {t : TypeId} {cs : Array Value} (h : Bk w g t cs) (cs' : Array Value) : Bk (w.setRow g cs') g t cs' := setRow_heap w g cs cs' t (0, 0) h
theorem bk_setRow_far {w : World} {g g' : Nat} {t : TypeId} {cs : Array Value} (h : Bk w g' t cs) (hne : g' ≠ g) (cs' : Array Value) : Bk (w.setRow g cs') g' t cs := (setRow_other w g g' cs' hne).trans h
theorem grown_setRow (w : World) (g : Nat) (cs : Array Value) : w.grownBy (w.setRow g cs) (some g) := ⟨rfl, rfl, rfl, by simp, fun k _ hne => setRow_other w g k cs (fun e => hne (by rw [e]))⟩
theorem grown_trans {w w1 w2 : World} {row : Option Nat} (h1 : w.grownBy w1 row) (h2 : w1.grownBy w2 row) : w.grownBy w2 row :=
  ⟨h2.os.trans h1.os, h2.tape.trans h1.tape, h2.output.trans h1.output, Nat.le_trans h1.size h2.size, fun k hk hne => (h2.block k (Nat.lt_of_lt_of_le hk h1.size) hne).trans (h1.block k hk hne)⟩
theorem grown_drew (w : World) (row : Option Nat) : w.grownBy w.drew row := ⟨rfl, rfl, rfl, Nat.le_refl _, fun _ _ _ => rfl⟩
theorem grown_below {w w' : World} (h : Below w.heap.size w w') (row : Option Nat) : w.grownBy w' row := ⟨h.os, h.tape, h.output, h.size, fun k hk _ => h.block k hk⟩

theorem eg_sizeItem : ∀ w, (sizeOf (Tryd.prog.elem 43)).run Tryd.prog w = .ok 5 w := fun _ => by kernel_rfl
theorem sl_of_bk {w : World} {g lo hi : Nat} {t : TypeId} {cs : Array Value} (h : Bk w g t cs) (h1 : lo ≤ g) (h2 : g < hi) {us : List Value} (hu : us = cs.toList) : Sl w lo hi (some ⟨g, 0, none⟩) us :=
  .inr ⟨g, 0, rfl, h1, h2, fun j u hj => by
    rw [Nat.zero_add, h.cell]
    rw [hu, Array.getElem?_toList] at hj
    exact hj⟩

set_option maxHeartbeats 1000000 in
theorem Clone_any (a : Option Addr) (c : Nat) (l : List ItemD) (lo : Nat) (w : World) (hl : Sl w lo w.heap.size a (l.flatMap vItem)) (hll : l.length ≤ 1048576) :
    Calls Tryd.prog 88 #[.slice a l.length c] w fun e w' => ∃ v, e = .returned v ∧ w'.ownsRow w.heap.size 45 5 v l.length (l.flatMap vItem) ∧ Below w.heap.size w w' := by
  have heq := fun W => Lib.run_eql_slice_nil (P := Tryd.prog) W 43 45 a l.length c 0 0 Tryd.underlying43
  have hlen : (l.flatMap vItem).length = l.length * 5 := flat_len vItem_len l
  have HLEN := Lib.hid hlen; clear hlen
  have HL := Lib.hid hl; clear hl
  cases a with
  | none =>
    have h0 : l.length = 0 := by
      rcases HL.out with h | ⟨b, o, e, _⟩
      · have := HLEN.out; rw [h] at this; simp at this; omega
      · cases e
    have HR : Hid (∀ W : World, W.ownsRow w.heap.size 45 5 (.slice none 0 0) l.length (l.flatMap vItem)) := fun W => by
      rw [h0, List.eq_nil_of_length_eq_zero h0]
      exact World.ownsRow_nil _ _ _ _
    clear h0
    go_enter Tryd.func88, Tryd.ntmps88
    go_wp2_with fail
    go_ret
    exact ⟨_, rfl, HR.out _, Below.refl _ _⟩
  | some ad =>
    have hal : Below w.heap.size w (w.alloc (.cells #[] 45)) := (Below.refl _ _).alloc (Nat.le_refl _) _
    obtain ⟨v', w', hr, hb, hx⟩ := run_append_zero (P := Tryd.prog) (w.alloc (.cells #[] 45)) 43 43 45 Tryd.underlying43 infoItem rfl (by decide) (by decide) ⟨w.heap.size, 0, none⟩ lo w.heap.size (some ad) l.length c (l.flatMap vItem) HLEN.out (HL.out.below hal (Nat.le_refl _)) (by omega)
    have HO : Hid (w'.ownsRow w.heap.size 45 5 v' l.length (l.flatMap vItem)) := by
      rcases hx with ⟨_, h⟩ | ⟨h0, rfl, rfl⟩
      · exact own_mono h (by simp)
      · rw [h0, List.eq_nil_of_length_eq_zero h0]
        exact World.ownsRow_lit w #[] 0 (Nat.le_refl _) (by decide) rfl
    have HB := Lib.hid (hal.trans (hb.mono hal.size)); clear hx hb hal
    go_enter Tryd.func88, Tryd.ntmps88
    go_wp2_with (at_builtin; refine Lib.wpList_append_run _ rfl _ _ _ _ rfl _ _ rfl rfl _ _ hr ?_)
    go_ret
    exact ⟨_, rfl, HO.out, HB.out⟩

end Go.Proofs.YtbdikenloklhaaaDoor
