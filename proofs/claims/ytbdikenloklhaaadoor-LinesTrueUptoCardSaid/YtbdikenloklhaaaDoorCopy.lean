/-
  copy into a block of the call's own, at elements of any size; a slice of letters cloned. 
-/
import Derived.Test.YtbdikenloklhaaaDoorGrow
import Derived.Test.YtbdikenloklhaaaDoorLinesD
import Derived.Laws.CopyRow
import Derived.Lib.SliceRun
namespace Go.Proofs.YtbdikenloklhaaaDoor
open Go.RowKit
set_option maxRecDepth 100000

theorem run_copy_rowN {P : Program} (w : World) (dT sT ty elem : TypeId) {z : Value} {size bytes : Nat} (hu : P.underlying dT = some (.slice elem)) (hinfo : (P.info? elem).map (fun i => (i.zero, i.size, i.bytes)) = some (some z, size, bytes))
    (g o dLen dCap : Nat) (a : Addr) (sLen sCap k : Nat) (cur : Array Value) (t : TypeId) (cs : List Value) (hg : w.heap[g]? = some (.cells cur t (0, 0))) (hk : Nat.min sLen dLen = k) (hn : cs.length = k * size)
    (hsrc : ∀ j v, cs[j]? = some v → w.cell? (a.add j) = some v) (hfit : o + cs.length ≤ cur.size) (h1 : ∀ v ∈ cs, v.oneCell' = true) :
    (Builtin.copy_ #[dT, sT] ty #[.slice (some ⟨g, o, none⟩) dLen dCap, .slice (some a) sLen sCap]).run P w = .ok (goInt k) (w.setRow g (cur.toList.take o ++ cs ++ cur.toList.drop (o + cs.length)).toArray) := by
  obtain ⟨i, hi, hz0, hz1, hz2⟩ := info_parts hinfo
  have hl := run_loadCells_list (P := P) w a cs hsrc
  have hst := run_storeCells_at P g o t cs 0 cur w hg (by simpa using hfit) h1
  rw [hn] at hl
  simp [Builtin.copy_, run_underlying hu, Builtin.lenOf, Builtin.firstCells, sizeOf, typeInfo, hi, hz1, hk, hl, hst]

theorem wpList_copyR {P : Program} (w : World) {ops : Array Oper} {rest : List Oper} {o : Oper} {a : Act} {Q : Exit → Act → World → Prop} (hgd : o.guard = none) (d s : Operand) (t t' : TypeId)
    (ho : o.op = .call { callee := .builtin .copy, args := #[d, s], argTypes := #[t, t'] }) (v u : Value) (hd : a.eval d = v) (hs : a.eval s = u) {v' : Value} {w' : World}
    (hr : (Builtin.copy_ #[t, t'] o.type #[v, u]).run P w = .ok v' w') (h : wpList P ops Q rest (a.put o.dst v') w') : wpList P ops Q (o :: rest) a w :=
  wpList_plain hgd fun _ hK => by
    unfold Oper.wp execOp
    simp only [ho, resolve, invoke, builtin, Sem.run_bind, Sem.run_pure, Result.andThen_ok, List.map_toArray, List.map_cons, List.map_nil, hd, hs, hr]
    exact hK _ _ h

theorem bk_setRow {w : World} {g : Nat} {t : TypeId} {cs : Array Value} (h : Bk w g t cs) (cs' : Array Value) : Bk (w.setRow g cs') g t cs' := setRow_heap w g cs cs' t (0, 0) h
theorem bk_setRow_far {w : World} {g g' : Nat} {t : TypeId} {cs : Array Value} (h : Bk w g' t cs) (hne : g' ≠ g) (cs' : Array Value) : Bk (w.setRow g cs') g' t cs := (setRow_other w g g' cs' hne).trans h
theorem grown_setRow (w : World) (g : Nat) (cs : Array Value) : w.grownBy (w.setRow g cs) (some g) := ⟨rfl, rfl, rfl, by simp, fun k _ hne => setRow_other w g k cs (fun e => hne (by rw [e]))⟩
theorem grown_trans {w w1 w2 : World} {row : Option Nat} (h1 : w.grownBy w1 row) (h2 : w1.grownBy w2 row) : w.grownBy w2 row :=
  ⟨h2.os.trans h1.os, h2.tape.trans h1.tape, h2.output.trans h1.output, Nat.le_trans h1.size h2.size, fun k hk hne => (h2.block k (Nat.lt_of_lt_of_le hk h1.size) hne).trans (h1.block k hk hne)⟩
theorem grown_drew (w : World) (row : Option Nat) : w.grownBy w.drew row := ⟨rfl, rfl, rfl, Nat.le_refl _, fun _ _ _ => rfl⟩
theorem grown_below {w w' : World} (h : Below w.heap.size w w') (row : Option Nat) : w.grownBy w' row := ⟨h.os, h.tape, h.output, h.size, fun k hk _ => h.block k hk⟩

theorem eg_sizeItem : ∀ w, (sizeOf (Tryd.prog.elem 43)).run Tryd.prog w = .ok 5 w := fun _ => by kernel_rfl
theorem sl_of_bk {w : World} {g lo hi : Nat} {t : TypeId} {cs : Array Value} (h : Bk w g t cs) (h1 : lo ≤ g) (h2 : g < hi) {us : List Value} (hu : us = cs.toList) : Sl w lo hi (some ⟨g, 0, none⟩) us :=
  .inr ⟨g, 0, rfl, h1, h2, fun j u hj => by
    rw [Nat.zero_add, h.cell]
    rw [hu, Array.getElem?_toList] at hj
    exact hj⟩

set_option maxHeartbeats 1000000 in
theorem Clone_any (a : Option Addr) (c : Nat) (l : List ItemD) (lo : Nat) (w : World) (hl : Sl w lo w.heap.size a (l.flatMap vItem)) (hll : l.length ≤ 1048576) :
    Calls Tryd.prog 88 #[.slice a l.length c] w fun e w' => ∃ v, e = .returned v ∧ w'.ownsRow w.heap.size 45 5 v l.length (l.flatMap vItem) ∧ Below w.heap.size w w' := by
  have heq := fun W => Lib.run_eql_slice_nil (P := Tryd.prog) W 43 45 a l.length c 0 0 Tryd.underlying43
  have hlen : (l.flatMap vItem).length = l.length * 5 := flat_len vItem_len l
  have HLEN := Lib.hid hlen; clear hlen
  have HL := Lib.hid hl; clear hl
  cases a with
  | none =>
    have h0 : l.length = 0 := by
      rcases HL.out with h | ⟨b, o, e, _⟩
      · have := HLEN.out; rw [h] at this; simp at this; omega
      · cases e
    have HR : Hid (∀ W : World, W.ownsRow w.heap.size 45 5 (.slice none 0 0) l.length (l.flatMap vItem)) := fun W => by
      rw [h0, List.eq_nil_of_length_eq_zero h0]
      exact World.ownsRow_nil _ _ _ _
    clear h0
    go_enter Tryd.func88, Tryd.ntmps88
    go_wp2_with fail
    go_ret
    exact ⟨_, rfl, HR.out _, Below.refl _ _⟩
  | some ad =>
    have hal : Below w.heap.size w (w.alloc (.cells #[] 45)) := (Below.refl _ _).alloc (Nat.le_refl _) _
    obtain ⟨v', w', hr, hb, hx⟩ := run_append_zero (P := Tryd.prog) (w.alloc (.cells #[] 45)) 43 43 45 Tryd.underlying43 infoItem rfl (by decide) (by decide) ⟨w.heap.size, 0, none⟩ lo w.heap.size (some ad) l.length c (l.flatMap vItem) HLEN.out (HL.out.below hal (Nat.le_refl _)) (by omega)
    have HO : Hid (w'.ownsRow w.heap.size 45 5 v' l.length (l.flatMap vItem)) := by
      rcases hx with ⟨_, h⟩ | ⟨h0, rfl, rfl⟩
      · exact own_mono h (by simp)
      · rw [h0, List.eq_nil_of_length_eq_zero h0]
        exact World.ownsRow_lit w #[] 0 (Nat.le_refl _) (by decide) rfl
    have HB := Lib.hid (hal.trans (hb.mono hal.size)); clear hx hb hal
    go_enter Tryd.func88, Tryd.ntmps88
    go_wp2_with (at_builtin; refine Lib.wpList_append_run _ rfl _ _ _ _ rfl _ _ rfl rfl _ _ hr ?_)
    go_ret
    exact ⟨_, rfl, HO.out, HB.out⟩

end Go.Proofs.YtbdikenloklhaaaDoor
