/-
  The wire, written: the pen's put.
-/
import Derived.Test.YtapimpmpjighmaaDoorWireA
import Derived.Test.YtapimpmpjighmaaDoorNW
import Derived.IntWalk
import Derived.Lib.AppendStr
import Derived.Laws.OwnMore
namespace Go.Proofs.YtapimpmpjighmaaDoor
open Go.RowKit
set_option maxRecDepth 100000

/-- What may be put. -/
inductive AnyD where
  | int (n : Int)
  | str (s : ByteArray)
  | bool (b : Bool)
def anyV : AnyD → Value
  | .int n => .iface 3 (.int .i64 n)
  | .str s => .iface 9 (.string s)
  | .bool b => .iface 4 (.bool b)
/-- The bytes of it, as cells. -/
def encV : AnyD → List Value
  | .int n => [.int .u8 (n % 256)]
  | .str s => [.int .u8 ((s.size : Int) % 256)] ++ Lib.strCells s
  | .bool b => [.int .u8 (if b then 1 else 0)]
def encsV (xs : List AnyD) : List Value := xs.flatMap encV

/-- A pen: one block that holds a row of bytes of the writer's own. -/
structure PenAt (B : Nat) (w : World) (g : Nat) (us : List Value) (v : Value) : Prop where
  pen : Bk w g 78 #[v]
  row : w.ownsRow B 5 1 v us.length us
  low : B ≤ g
/-- Blocks that are no bytes, and not the pen, are kept. -/
def Keeps (g : Nat) (w w' : World) : Prop := ∀ k t cs, Bk w k t cs → t ≠ 5 → k ≠ g → Bk w' k t cs
theorem Keeps.refl (g : Nat) (w : World) : Keeps g w w := fun _ _ _ h _ _ => h
theorem Keeps.trans {g : Nat} {a b c : World} (h : Keeps g a b) (k : Keeps g b c) : Keeps g a c := fun i t cs hi ht hg => k i t cs (h i t cs hi ht hg) ht hg
theorem own_bk {w : World} {B k : Nat} {e t : TypeId} {size n : Nat} {v : Value} {us : List Value} {cs : Array Value} (hown : w.ownsRow B e size v n us) (h : Bk w k t cs) (ht : t ≠ e) : some k ≠ v.ownBlock := by
  intro he
  rcases hown.2 with ⟨rfl, _⟩ | ⟨g, cap, cur, rfl, _, hh, _⟩
  · cases he
  · simp only [Value.ownBlock, Option.some.injEq] at he
    subst he
    unfold Bk at h
    rw [h] at hh
    simp only [Option.some.injEq, Obj.cells.injEq] at hh
    exact ht hh.2.1
theorem Keeps.own {g B : Nat} {w w' : World} {size n : Nat} {v : Value} {us : List Value} (hown : w.ownsRow B 5 size v n us) (hg : w.grownBy w' v.ownBlock) : Keeps g w w' := fun _ _ _ h ht _ => h.grown hg (own_bk hown h ht)
theorem Keeps.alloc (g : Nat) (w : World) (o : Obj) : Keeps g w (w.alloc o) := fun _ _ _ h _ _ => h.alloc o
theorem Keeps.set (g : Nat) (w : World) (i : Nat) (u : Value) : Keeps g w (w.setCell ⟨g, i, none⟩ u) := fun _ _ _ h _ hg => h.far hg u

/-- What put promises. -/
def PutPost (B g : Nat) (us new : List Value) (w : World) (e : Ending) (w' : World) : Prop := e = .returned (.tuple #[]) ∧ (∃ v', PenAt B w' g (us ++ new) v') ∧ Keeps g w w' ∧ Below B w w'
def PutSays (xs : List AnyD) : Prop := ∀ (B g k : Nat) (us : List Value) (v : Value) (w : World), PenAt B w g us v → Bk w k 20 (xs.map anyV).toArray → us.length + (encsV xs).length < 4294967296 → B ≤ k →
  Calls Tryd.prog 37 #[.pointer (some ⟨g, 0, none⟩), .slice (some ⟨k, 0, none⟩) xs.length xs.length] w (PutPost B g us (encsV xs) w)

theorem infoU8 : (Tryd.prog.info? 5).map (fun i => (i.zero, i.size, i.bytes)) = some (some (.int .u8 0), 1, 1) := by kernel_rfl

theorem ta_int_int (n : Int) (W : World) : (Instr.typeAssert (.iface 3 (.int .i64 n)) 20 3 true).run Tryd.prog W = .ok (.tuple #[.int .i64 n, .bool true]) W := by simp [Instr.typeAssert, run_underlying Tryd.underlying3]
theorem ta_str_str (s : ByteArray) (W : World) : (Instr.typeAssert (.iface 9 (.string s)) 20 9 true).run Tryd.prog W = .ok (.tuple #[.string s, .bool true]) W := by simp [Instr.typeAssert, run_underlying Tryd.underlying9]
theorem ta_bool_bool (b : Bool) (W : World) : (Instr.typeAssert (.iface 4 (.bool b)) 20 4 true).run Tryd.prog W = .ok (.tuple #[.bool b, .bool true]) W := by simp [Instr.typeAssert, run_underlying Tryd.underlying4]
theorem ta_str_int (s : ByteArray) (W : World) : (Instr.typeAssert (.iface 9 (.string s)) 20 3 true).run Tryd.prog W = .ok (.tuple #[.int .i64 0, .bool false]) W := by
  have hz : (zeroValue 3).run Tryd.prog W = .ok (.int .i64 0) W := by kernel_rfl
  simp [Instr.typeAssert, run_underlying Tryd.underlying3, hz]
theorem ta_bool_int (b : Bool) (W : World) : (Instr.typeAssert (.iface 4 (.bool b)) 20 3 true).run Tryd.prog W = .ok (.tuple #[.int .i64 0, .bool false]) W := by
  have hz : (zeroValue 3).run Tryd.prog W = .ok (.int .i64 0) W := by kernel_rfl
  simp [Instr.typeAssert, run_underlying Tryd.underlying3, hz]
theorem ta_bool_str (b : Bool) (W : World) : (Instr.typeAssert (.iface 4 (.bool b)) 20 9 true).run Tryd.prog W = .ok (.tuple #[.string ⟨#[]⟩, .bool false]) W := by
  have hz : (zeroValue 9).run Tryd.prog W = .ok (.string ⟨#[]⟩) W := by kernel_rfl
  simp [Instr.typeAssert, run_underlying Tryd.underlying9, hz]

theorem PenAt.alloc {B : Nat} {w : World} {g : Nat} {us : List Value} {v : Value} (h : PenAt B w g us v) (o : Obj) : PenAt B (w.alloc o) g us v := ⟨h.pen.alloc o, h.row.alloc o, h.low⟩
/-- The pen's new row is stored. -/
theorem PenAt.put {B : Nat} {w w2 : World} {g : Nat} {us us2 : List Value} {v v2 : Value} {n : Nat} (h : PenAt B w g us v) (hown : w2.ownsRow B 5 1 v2 n us2) (hn : n = us2.length) (hg : w.grownBy w2 v.ownBlock) (hb : B ≤ w.heap.size) :
    PenAt B (w2.setCell ⟨g, 0, none⟩ v2) g us2 v2 ∧ Keeps g w (w2.setCell ⟨g, 0, none⟩ v2) ∧ Below B w (w2.setCell ⟨g, 0, none⟩ v2) := by
  subst hn
  have hp2 : Bk w2 g 78 #[v] := h.pen.grown hg (own_bk h.row h.pen (by decide))
  refine ⟨⟨by simpa using hp2.set_ 0 v2, hown.kept (gw_set w2 g 0 v2) (.inr fun e => own_bk hown hp2 (by decide) e.symm), h.low⟩, (Keeps.own h.row hg).trans (Keeps.set g w2 0 v2), ?_⟩
  exact (below_own h.row hg (Below.refl B w) (Nat.le_refl _) hb).setCell (p := ⟨g, 0, none⟩) h.low v2
theorem PenAt.facts {B : Nat} {w w2 : World} {g : Nat} {us : List Value} {v : Value} (h : PenAt B w g us v) (hg : w.grownBy w2 v.ownBlock) : w2.cell? ⟨g, 0, none⟩ = some v ∧ w2.frozen? ⟨g, 0, none⟩ = false := by
  have hp2 : Bk w2 g 78 #[v] := h.pen.grown hg (own_bk h.row h.pen (by decide))
  exact ⟨hp2.cell 0, hp2.frozen 0⟩

theorem own_at {w : World} {B : Nat} {e : TypeId} {size n m c : Nat} {a : Option Addr} {us : List Value} (h : w.ownsRow B e size (.slice a n c) m us) (hm : 0 < m) : ∃ rb, a = some ⟨rb, 0, none⟩ := by
  rcases h.2 with ⟨_, rfl⟩ | ⟨g, cap, cur, hv, _⟩
  · omega
  · simp only [Value.slice.injEq] at hv
    exact ⟨g, hv.1⟩
theorem set_last (L : List Value) (u v : Value) : (L ++ [u]).set L.length v = L ++ [v] := by
  induction L with
  | nil => rfl
  | cons x r ih => rw [List.cons_append, List.length_cons, List.set_cons_succ, ih, List.cons_append]

def PRel (B g k : Nat) (us : List Value) (xs : List AnyD) (w : World) (i : Value) (wr : World) : Prop :=
  ∃ j : Nat, j ≤ xs.length ∧ i = .int .i64 j ∧ (∃ v, PenAt B wr g (us ++ encsV (xs.take j)) v) ∧ Bk wr k 20 (xs.map anyV).toArray ∧ Keeps g w wr ∧ Below B w wr
theorem encs_next {xs : List AnyD} {j : Nat} (h : j < xs.length) : encsV (xs.take (j + 1)) = encsV (xs.take j) ++ encV xs[j] := by
  unfold encsV
  rw [List.take_succ_eq_append_getElem h, List.flatMap_append]
  simp
theorem encs_le {xs : List AnyD} {j : Nat} (h : j < xs.length) : (encsV (xs.take j)).length + (encV xs[j]).length ≤ (encsV xs).length := by
  have h1 : encsV xs = encsV (xs.take (j + 1)) ++ encsV (xs.drop (j + 1)) := by
    unfold encsV
    rw [← List.flatMap_append, List.take_append_drop]
  have := congrArg List.length h1
  rw [encs_next h, List.length_append, List.length_append] at this
  omega

theorem encs_count : ∀ xs : List AnyD, xs.length ≤ (encsV xs).length
  | [] => Nat.le_refl _
  | x :: r => by
    have := encs_count r
    have h1 : 1 ≤ (encV x).length := by cases x <;> simp [encV]
    unfold encsV at this ⊢
    rw [List.flatMap_cons, List.length_append, List.length_cons]
    omega

set_option maxHeartbeats 4000000 in
theorem put_step (xs : List AnyD) (hrec : (∃ s, AnyD.str s ∈ xs) → ∀ n, PutSays [.int n]) : PutSays xs := by
  intro B g k us v w hpen hargs hlen hbk
  have hxl : xs.length < 4294967296 := by have := encs_count xs; omega
  have HREC := Lib.hid hrec
  have HP := Lib.hid hpen
  have HA := Lib.hid hargs
  clear hrec hpen hargs
  go_enter Tryd.func37, Tryd.ntmps37
  go_wp2_with fail
  go_loopw [5, 6, 7, 8, 11] (fun _ _ _ _ i wr => PRel B g k us xs w i wr) (fun _ _ _ _ i _ => xs.length - (intOf i).toNat)
  case atStart => exact ⟨0, by omega, rfl, ⟨v, by simpa [encsV] using HP.out⟩, HA.out, Keeps.refl _ _, Below.refl _ _⟩
  case round =>
    obtain ⟨j, hj, rfl, ⟨v, hpen⟩, hargs, hkeep, hB⟩ := hrel
    have HP := Lib.hid hpen
    have HA := Lib.hid hargs
    have HK := Lib.hid hkeep
    have HB := Lib.hid hB
    clear hkeep hB
    by_cases hjl : j < xs.length
    · have e0 : wr.cell? ⟨k, j, none⟩ = some (anyV xs[j]) := by
        rw [hargs.cell]
        simp [hjl]
      have hnx := encs_next hjl
      have hle := encs_le hjl
      have HNX := Lib.hid hnx
      have hmem := List.getElem_mem hjl
      have HM := Lib.hid hmem
      have hpc : wr.cell? ⟨g, 0, none⟩ = some v := hpen.pen.cell 0
      have hpf := hpen.pen.frozen 0
      have hglt := hpen.pen.lt
      have hbase : B ≤ wr.heap.size := by have := hpen.low; omega
      have hkg : k ≠ g := fun e => by
        have h1 := hargs; have h2 := hpen.pen
        unfold Bk at h1 h2
        subst e
        rw [h1] at h2
        simp at h2
      clear hpen hargs hnx hmem
      generalize xs[j] = x at *
      have hL : (us ++ encsV (xs.take j)).length + (encV x).length < 4294967296 := by rw [List.length_append]; omega
      generalize hLL : us ++ encsV (xs.take j) = L at *
      cases x with
      | int n =>
        have ha := fun W => ta_int_int n W
        unfold anyV at e0
        go_wp2_with (at_builtin; refine append1 rfl _ _ 76 rfl B 5 infoU8 Tryd.underlying76 rfl (by decide) (by decide) wr _ _ _ rfl HP.out.row [.int .u8 (n % 256)] rfl rfl rfl (by simp [Value.oneCell']) (by have := hL; simp only [encV, List.length_cons, List.length_nil] at this; omega) hbase ?_; intro v2 w2 hown2 hgrow; obtain ⟨a2, cp2, rfl, _⟩ := own_slice hown2; have HPP := Lib.hid (HP.out.put hown2 (by rw [List.length_append]; rfl) hgrow hbase); obtain ⟨c2, f2⟩ := HP.out.facts hgrow; have hlt2 := World.block_lt_of_cell? w2 _ c2; clear hown2 hgrow)
        exact ⟨⟨j + 1, hjl, by go_num, ⟨_, by rw [HNX.out, ← List.append_assoc, hLL]; exact HPP.out.1⟩, HPP.out.2.1 _ _ _ HA.out (by decide) hkg, HK.out.trans HPP.out.2.1, HB.out.trans HPP.out.2.2⟩, by simp [intOf]; omega⟩
      | str s =>
        have ha := fun W => ta_str_int s W
        have ha2 := fun W => ta_str_str s W
        have hs : L.length + (1 + s.size) < 4294967296 := by
          have := hL
          simp only [encV, List.length_append, List.length_cons, List.length_nil, Lib.strCells_length] at this
          omega
        have hs1 : L.length + (encsV [.int (s.size : Int)]).length < 4294967296 := by
          have : (encsV [.int (s.size : Int)]).length = 1 := by simp [encsV, encV]
          omega
        unfold anyV at e0
        go_wp2_with fail
        have hp1 := HP.out.alloc (.cells #[.iface 3 (.int .i64 (s.size : Int))] 20)
        refine (HREC.out ⟨s, HM.out⟩ (s.size : Int) B g wr.heap.size L v _ hp1 (Bk.new _ _ _) hs1 hbase).mono ?_
        clear hp1
        rintro e w2 ⟨rfl, ⟨v2, hp2⟩, hk2, hb2⟩
        have HP2 := Lib.hid hp2
        have HK2 := Lib.hid ((Keeps.alloc g wr _).trans hk2)
        have HB2 := Lib.hid (((Below.refl B wr).alloc hbase _).trans hb2)
        have hpc2 : w2.cell? ⟨g, 0, none⟩ = some v2 := hp2.pen.cell 0
        have hpf2 := hp2.pen.frozen 0
        have hglt2 := hp2.pen.lt
        have hbase2 : B ≤ w2.heap.size := by have := hp2.low; omega
        obtain ⟨iu, hiu, hz0, hz1, hz2⟩ := info_parts infoU8
        have hlen2 : (L ++ encsV [.int (s.size : Int)]).length = L.length + 1 := by simp [encsV, encV]
        have h63 : (L ++ encsV [.int (s.size : Int)]).length + s.size ≤ maxLen := by rw [hlen2]; unfold maxLen; omega
        have h64 : (L ++ encsV [.int (s.size : Int)]).length + s.size ≤ 140737488355328 := by rw [hlen2]; omega
        clear hk2 hb2 hp2 hpc hpf hglt
        go_wp2_with (at_builtin; refine Lib.wpList_append_own_string w2 rfl _ _ 76 9 rfl B 5 iu Tryd.underlying76 Tryd.underlying9 hiu hz0 hz1 hz2 _ _ _ rfl HP2.out.row s rfl h63 h64 hbase2 ?_; intro v3 w3 hown3 hgrow _; obtain ⟨a3, cp3, rfl, _⟩ := own_slice hown3; have hpp := HP2.out.put hown3 (by simp only [List.length_append, Lib.strCells_length]) hgrow hbase2; rw [hlen2] at hpp; have HPP := Lib.hid hpp; clear hpp; obtain ⟨c3, f3⟩ := HP2.out.facts hgrow; have hlt3 := World.block_lt_of_cell? w3 _ c3; clear hown3 hgrow)
        exact ⟨⟨j + 1, hjl, by go_num, ⟨_, by rw [HNX.out, ← List.append_assoc, hLL]; have := HPP.out.1; simpa [encsV, encV] using this⟩, HPP.out.2.1 _ _ _ (HK2.out _ _ _ HA.out (by decide) hkg) (by decide) hkg, HK.out.trans (HK2.out.trans HPP.out.2.1), HB.out.trans (HB2.out.trans HPP.out.2.2)⟩, by simp [intOf]; omega⟩
      | bool b =>
        have ha := fun W => ta_bool_int b W
        have ha2 := fun W => ta_bool_str b W
        have ha3 := fun W => ta_bool_bool b W
        unfold anyV at e0
        cases b
        · go_wp2_with (at_builtin; refine append1 rfl _ _ 76 rfl B 5 infoU8 Tryd.underlying76 rfl (by decide) (by decide) wr _ _ _ rfl HP.out.row [.int .u8 0] rfl rfl rfl (by simp [Value.oneCell']) (by have := hL; simp only [encV, List.length_cons, List.length_nil] at this; omega) hbase ?_; intro v2 w2 hown2 hgrow; obtain ⟨a2, cp2, rfl, _⟩ := own_slice hown2; have HPP := Lib.hid (HP.out.put hown2 (by rw [List.length_append]; rfl) hgrow hbase); obtain ⟨c2, f2⟩ := HP.out.facts hgrow; have hlt2 := World.block_lt_of_cell? w2 _ c2; clear hown2 hgrow)
          exact ⟨⟨j + 1, hjl, by go_num, ⟨_, by rw [HNX.out, ← List.append_assoc, hLL]; exact HPP.out.1⟩, HPP.out.2.1 _ _ _ HA.out (by decide) hkg, HK.out.trans HPP.out.2.1, HB.out.trans HPP.out.2.2⟩, by simp [intOf]; omega⟩
        · go_upto_region 15 with (at_builtin; refine append1 rfl _ _ 76 rfl B 5 infoU8 Tryd.underlying76 rfl (by decide) (by decide) wr _ _ _ rfl HP.out.row [.int .u8 0] rfl rfl rfl (by simp [Value.oneCell']) (by have := hL; simp only [encV, List.length_cons, List.length_nil] at this; omega) hbase ?_; intro v2 w2 hown2 hgrow; obtain ⟨a2, cp2, rfl, _⟩ := own_slice hown2; have HPP := Lib.hid (HP.out.put hown2 (by rw [List.length_append]; rfl) hgrow hbase); obtain ⟨c2, f2⟩ := HP.out.facts hgrow; have hlt2 := World.block_lt_of_cell? w2 _ c2; clear hown2 hgrow)
          obtain ⟨rb, rfl⟩ := own_at HPP.out.1.row (by simp)
          obtain ⟨W4, hW4⟩ : ∃ W4, w2.setCell ⟨g, 0, none⟩ (.slice (some ⟨rb, 0, none⟩) (L.length + 1) cp2) = W4 := ⟨_, rfl⟩
          rw [hW4] at HPP
          rw [hW4]
          clear hW4 c2 f2 hlt2
          have hrow : W4.ownsRow B 5 1 (.slice (some ⟨rb, 0, none⟩) (L.length + 1) cp2) (L.length + 1) (L ++ [.int .u8 0]) := by
            have := HPP.out.1.row
            rw [List.length_append] at this
            exact this
          have hgr : g ≠ rb := fun e => own_bk hrow HPP.out.1.pen (by decide) (by rw [e]; rfl)
          have hst := hrow.stored L.length (.int .u8 1)
          rw [set_last] at hst
          have c4 : W4.drew.cell? ⟨g, 0, none⟩ = some (.slice (some ⟨rb, 0, none⟩) (L.length + 1) cp2) := HPP.out.1.pen.cell 0
          have c5 : W4.drew.cell? ⟨rb, L.length, none⟩ = some (.int .u8 0) := by
            have := hrow.cellAt L.length (by omega)
            rw [List.getElem?_append_right (Nat.le_refl _), Nat.sub_self] at this
            exact this
          have f5 : W4.drew.frozen? ⟨rb, L.length, none⟩ = false := hrow.frozenAt L.length
          have hl5 := World.block_lt_of_cell? W4 _ c5
          have c6 : (W4.drew.setCell ⟨rb, L.length, none⟩ (.int .u8 1)).cell? ⟨g, 0, none⟩ = some (.slice (some ⟨rb, 0, none⟩) (L.length + 1) cp2) := (Bk.far (w := W4) HPP.out.1.pen (p := ⟨rb, L.length, none⟩) hgr (.int .u8 1)).cell 0
          have hw1 : IntKind.i64.wrap (L.length : Int) = (L.length : Int) := IntWalk.i64_in _ (by omega)
          have hw2 : IntKind.i64.wrap ((L.length : Int) + 1 - 1) = (L.length : Int) := by rw [Int.add_sub_cancel]; exact hw1
          have HEND : Hid ((∃ v, PenAt B (W4.setCell ⟨rb, L.length, none⟩ (.int .u8 1)) g (L ++ [.int .u8 1]) v) ∧ Keeps g wr (W4.setCell ⟨rb, L.length, none⟩ (.int .u8 1)) ∧ Below B wr (W4.setCell ⟨rb, L.length, none⟩ (.int .u8 1))) := by
            refine (?_ : (∃ v, PenAt B (W4.setCell ⟨rb, L.length, none⟩ (.int .u8 1)) g (L ++ [.int .u8 1]) v) ∧ Keeps g wr (W4.setCell ⟨rb, L.length, none⟩ (.int .u8 1)) ∧ Below B wr (W4.setCell ⟨rb, L.length, none⟩ (.int .u8 1)))
            refine ⟨⟨_, HPP.out.1.pen.far (p := ⟨rb, L.length, none⟩) hgr _, by rw [List.length_append]; exact hst.1, HPP.out.1.low⟩, HPP.out.2.1.trans (Keeps.own hrow hst.2), HPP.out.2.2.setCell (p := ⟨rb, L.length, none⟩) (hrow.lt rb rfl).1 _⟩
          have hi0 : (0 : Int) ≤ (L.length : Int) := by omega
          have hi1 : (L.length : Int) < (L.length : Int) + 1 := by omega
          have hi2 : (L.length : Int) < ((L.length + 1 : Nat) : Int) := by omega
          clear hst hrow
          refine nw_lay [(0, false), (1, false), (2, false), (3, false), (4, false), (5, false), (6, false), (7, false), (8, false), (9, false), (10, false), (11, true)] (by kernel_rfl) (fun hOrd => ?_)
          refine nw_go (S := (fun W => W.cell? ⟨g, 0, none⟩ = some (.slice (some ⟨rb, 0, none⟩) (L.length + 1) cp2))) hOrd (by kernel_rfl) (by first | assumption | exact c4 | exact c6) (fun hHeld => ?_)
          clear hOrd
          iterate 11 (first | ((refine NW.take (v := ?_) rfl (fun _ _ _ h => h) (Or.inl ⟨by rfl, ?_⟩) ?_; rotate_left; focus (intro w hSw; (try dsimp only at hSw); go_simp; (all_goals with_reducible rfl); done)); try simp only [Act.put, List.setIfInBounds_toArray, List.set_cons_zero, List.set_cons_succ, List.getElem_toArray, List.getElem_cons_zero, List.getElem_cons_succ]) | (refine NW.leave rfl (fun _ _ _ h => h) (by rfl) (by assumption) ?_; try simp only [Act.put, List.setIfInBounds_toArray, List.set_cons_zero, List.set_cons_succ, List.getElem_toArray, List.getElem_cons_zero, List.getElem_cons_succ]) | fail "op")
          (refine NW.call rfl (fun K hK => ?_); go_simp; refine hK.out _ _ (by first | assumption | exact c4 | exact c6) (fun hHeld => ?_); clear hK K; try simp only [Act.put, List.setIfInBounds_toArray, List.set_cons_zero, List.set_cons_succ, List.getElem_toArray, List.getElem_cons_zero, List.getElem_cons_succ])
          refine NW.done ?_
          go_wp2_with fail
          exact ⟨⟨j + 1, hjl, by go_num, by rw [HNX.out, ← List.append_assoc, hLL]; obtain ⟨vv, hv⟩ := HEND.out.1; exact ⟨vv, hv.pen, hv.row.drew, hv.low⟩, HEND.out.2.1 _ _ _ HA.out (by decide) hkg, HK.out.trans HEND.out.2.1, (HB.out.trans HEND.out.2.2).drew⟩, by simp [intOf]; omega⟩
    · obtain rfl : j = xs.length := by omega
      clear hpen hargs
      have hp := HP.out
      rw [List.take_length] at hp
      have HPE := Lib.hid hp
      clear hp
      go_wp2_with fail
      exact bodyPost_ret (v := .tuple #[]) (by simp [results, Tryd.results37]) rfl ⟨rfl, ⟨v, HPE.out⟩, HK.out, HB.out⟩


theorem put_int (n : Int) : PutSays [.int n] := put_step _ fun ⟨s, h⟩ => by simp at h
theorem put_any (xs : List AnyD) : PutSays xs := put_step xs fun _ n => put_int n

end Go.Proofs.YtapimpmpjighmaaDoor
