/-
  The reference's arrive.
-/
import Derived.Test.YtaanpcjkflhomaaGreatDoorBunA
import Derived.Test.YtaanpcjkflhomaaGreatDoorBunS
set_option linter.unusedSimpArgs false
set_option linter.unusedVariables false
namespace Go.Proofs.YtaanpcjkflhomaaGreatDoor
open Go Go.RowKit
set_option maxRecDepth 100000
def ra1_T (g Pb m cl n : Nat) (al : Option Addr) (t : Array Value) : Array Value := #[t.getD 0 undef, .pointer (some ⟨g, 0, none⟩), .slice al m cl, .pointer (some ⟨Pb, 0, none⟩), t.getD 4 undef, t.getD 5 undef, .int .i64 0, .int .i64 (n : Int), t.getD 8 undef, t.getD 9 undef, t.getD 10 undef, t.getD 11 undef, t.getD 12 undef, t.getD 13 undef, t.getD 14 undef, t.getD 15 undef, t.getD 16 undef, t.getD 17 undef, t.getD 18 undef, t.getD 19 undef, t.getD 20 undef, t.getD 21 undef, t.getD 22 undef, t.getD 23 undef, t.getD 24 undef, t.getD 25 undef, t.getD 26 undef, t.getD 27 undef, t.getD 28 undef, t.getD 29 undef, t.getD 30 undef, t.getD 31 undef, t.getD 32 undef, t.getD 33 undef, t.getD 34 undef, t.getD 35 undef, t.getD 36 undef, t.getD 37 undef, t.getD 38 undef, t.getD 39 undef, t.getD 40 undef, t.getD 41 undef, t.getD 42 undef, t.getD 43 undef, t.getD 44 undef, t.getD 45 undef, t.getD 46 undef, t.getD 47 undef, t.getD 48 undef, t.getD 49 undef, t.getD 50 undef, t.getD 51 undef, t.getD 52 undef, t.getD 53 undef, t.getD 54 undef, t.getD 55 undef, t.getD 56 undef, t.getD 57 undef, t.getD 58 undef, t.getD 59 undef, t.getD 60 undef, t.getD 61 undef, t.getD 62 undef, t.getD 63 undef, t.getD 64 undef, t.getD 65 undef, t.getD 66 undef, t.getD 67 undef, t.getD 68 undef, t.getD 69 undef]
theorem ra1_open {g Pb m cl n : Nat} {al : Option Addr} {t : Array Value} (h : t = (ra1_T g Pb m cl n al t)) : ∃ u : Nat → Value, t = #[u 0, .pointer (some ⟨g, 0, none⟩), .slice al m cl, .pointer (some ⟨Pb, 0, none⟩), u 4, u 5, .int .i64 0, .int .i64 (n : Int), u 8, u 9, u 10, u 11, u 12, u 13, u 14, u 15, u 16, u 17, u 18, u 19, u 20, u 21, u 22, u 23, u 24, u 25, u 26, u 27, u 28, u 29, u 30, u 31, u 32, u 33, u 34, u 35, u 36, u 37, u 38, u 39, u 40, u 41, u 42, u 43, u 44, u 45, u 46, u 47, u 48, u 49, u 50, u 51, u 52, u 53, u 54, u 55, u 56, u 57, u 58, u 59, u 60, u 61, u 62, u 63, u 64, u 65, u 66, u 67, u 68, u 69] := ⟨fun i => t.getD i undef, h⟩
noncomputable def raLoop : Code := loopAt Tryz.f56 0
def ArR (lo g Pb : Nat) (p : PlanD) (p1 p2 p3 : Option Addr) (q1 q2 q3 : Nat) (v1 v2 v3 : Value) (s : StateD) (l : List ArrivalD) (w : World) (n : Nat) (al : Option Addr) (cl : Nat) (L : List ArrivalD) (W : World) : Prop :=
 ∃ (rows : List RowD) (s1 : StateD), RefAt W lo g v1 v2 v3 rows s1 ∧ WaitAt W lo al L ∧ L.length ≤ cl ∧ RunOk p s l n (s1, L) ∧ Bk W Pb 26 #[.slice p1 p.posts.length q1, .slice p2 p.queues.length q2, .slice p3 p.binds.length q3] ∧ PlanAt W 0 lo p1 p2 p3 p ∧ Below lo w W
def ra1_inv (lo g Pb : Nat) (p : PlanD) (p1 p2 p3 : Option Addr) (q1 q2 q3 : Nat) (v1 v2 v3 : Value) (s : StateD) (l : List ArrivalD) (w : World) (a : Act) (wr : World) : Prop :=
 ∃ (t : Array Value) (n m cl : Nat) (al : Option Addr) (L : List ArrivalD), t = (ra1_T g Pb m cl n al t) ∧ m = L.length ∧ ArR lo g Pb p p1 p2 p3 q1 q2 q3 v1 v2 v3 s l w n al cl L wr ∧ a = ⟨t, []⟩
set_option maxHeartbeats 8000000 in
theorem ra_loop (lo g Pb : Nat) (p : PlanD) (p1 p2 p3 : Option Addr) (q1 q2 q3 : Nat) (hr : PlanRight p) (hs : PlanSmall p) (v1 v2 v3 : Value) (s : StateD) (l : List ArrivalD) (w : World) (hsq : s.nextSeq ≤ 524288) (hw : wC (s, l) ≤ 700) (Q0 : Exit → Act → World → Prop)
  (hend : ∀ (t : Array Value) (n m cl : Nat) (al : Option Addr) (W : World), t = (ra1_T g Pb m cl n al t) → (∃ rows s1, RefAt W lo g v1 v2 v3 rows s1 ∧ RunOk p s l n (s1, []) ∧ Below lo w W) → Q0 (.exit 0) ⟨t, []⟩ W) (t : Array Value) (n m cl : Nat) (al : Option Addr) (L : List ArrivalD) (W : World) (ht : t = (ra1_T g Pb m cl n al t)) (hm : m = L.length) (hW : ArR lo g Pb p p1 p2 p3 q1 q2 q3 v1 v2 v3 s l w n al cl L W) :
  (Code.loop raLoop).wp Tryz.prog Q0 ⟨t, []⟩ W := by
 refine wp_loop (ra1_inv lo g Pb p p1 p2 p3 q1 q2 q3 v1 v2 v3 s l w) (fun a _ => 701 - (intOf (a.tmps.getD 7 undef)).toNat) ⟨t, n, m, cl, al, L, ht, hm, hW, rfl⟩ ?_
 clear ht hm hW t n m cl al L W
 rintro a' wr ⟨t, n, m, cl, al, L, ht, rfl, ⟨rows, s1, hS, hWt, hcl, hR, hPb, hpa, hB⟩, rfl⟩
 obtain ⟨u, rfl⟩ := ra1_open ht
 clear ht
 have HEND := Lib.hid hend
 clear hend
 have hn7 : n ≤ 700 := by have := hR.less; omega
 conv => arg 2; whnf
 cases L with
 | nil =>
  have HF : Hid (∃ rows s1, RefAt wr lo g v1 v2 v3 rows s1 ∧ RunOk p s l n (s1, []) ∧ Below lo w wr) := Lib.hid ⟨rows, s1, hS, hR, hB⟩
  clear hS hWt hR hPb hpa hB
  go_wp2
  exact HEND.out _ n 0 cl al _ rfl HF.out
 | cons a L =>
  have hsq1 : s1.nextSeq < 1048576 := by have h := hR.seq; simp only at h; omega
  have hwa := hR.ok.wait a List.mem_cons_self
  obtain ⟨k, hpre⟩ : ∃ k, LayPre p s1 a k := lay_pre hR.ok.right hsq1 hwa
  have HNX : Hid (RunOk p s l (n + 1) (stepA p (s1, a :: L))) := Lib.hid (hR.next hsq hw)
  have hkq := hpre.kq
  have hle : lo ≤ wr.heap.size := hS.size
  have hkl := hpre.kl
  have hslen := hpre.len
  obtain ⟨A1, C1, hv1, _⟩ := own_slice hS.held.ready
  subst hv1
  obtain ⟨gr, rfl⟩ := own_addr hS.held.ready (by omega)
  have hrow : s1.ready[k]? = some (lineAt s1 k) := by
   have h1 : k < s1.ready.length := by omega
   rw [lineAt_get (show ((k : Int)).toNat < s1.ready.length by omega), List.getElem?_eq_getElem h1]
   rfl
  obtain ⟨gb, ob, rfl, _, _, hx⟩ := sl_elem vArrival_len (by decide) (hWt.sl hle) (show 0 < (a :: L).length by simp)
  have x0 : wr.cell? ⟨gb, ob, none⟩ = some (.int .i64 a.queue) := by simpa using hx 0 _ rfl
  have x1 : wr.cell? ⟨gb, ob + 1, none⟩ = some (.string a.key) := by simpa using hx 1 _ rfl
  have x2 : wr.cell? ⟨gb, ob + 2, none⟩ = some (.string a.body) := by simpa using hx 2 _ rfl
  have x3 : wr.cell? ⟨gb, ob + 3, none⟩ = some (.int .i64 a.deaths) := by simpa using hx 3 _ rfl
  rw [hkq] at x0
  have HKQ := Lib.hid hkq
  clear hkq
  obtain ⟨X1, hX1⟩ : ∃ X1, wr.alloc (.cells #[.int .i64 (k : Int), .string a.key, .string a.body, .int .i64 a.deaths] 140) = X1 := ⟨_, rfl⟩
  have kb1 : Bk X1 wr.heap.size 140 #[.int .i64 (k : Int), .string a.key, .string a.body, .int .i64 a.deaths] := by rw [← hX1]; exact Bk.new _ _ _
  have hb1 : Below wr.heap.size wr X1 := by rw [← hX1]; exact (Below.refl _ _).alloc (Nat.le_refl _) _
  obtain ⟨X2, hX2⟩ : ∃ X2, X1.alloc (.cells #[] 140) = X2 := ⟨_, rfl⟩
  have hb2 : Below X1.heap.size X1 X2 := by rw [← hX2]; exact (Below.refl _ _).alloc (Nat.le_refl _) _
  have hbb : Below wr.heap.size wr X2 := hb1.trans (hb2.mono hb1.size)
  have hz0 : X2.ownsRow lo 140 4 (.slice (some ⟨X1.heap.size, 0, none⟩) 0 0) 0 [] := by
   rw [← hX2]
   exact World.ownsRow_lit _ #[] 0 (Nat.le_trans hle hb1.size) (by decide) rfl
  have hcut := cut_arr (some ⟨gb, ob, none⟩) (L.length + 1) cl (by omega)
  have hsl2 : Sl X2 0 X2.heap.size (cutA (some ⟨gb, ob, none⟩) cl 1 4) (L.flatMap vArrival) := by
   have h := (((hWt.sl hle).below hbb (Nat.le_refl _)).wider (lo' := 0) (hi' := X2.heap.size) (Nat.le_refl _) hbb.size).cut (n := L.length + 1) (cap := cl) (k := 1) (size := 4) (by rw [flat_len vArrival_len, List.length_cons]) (by omega) (by simpa using hcl)
   have hd : ((a :: L).flatMap vArrival).drop (1 * 4) = L.flatMap vArrival := by rw [List.flatMap_cons]; rfl
   rwa [hd] at h
  obtain ⟨v3', X3, hr3, hb3, ho3'⟩ := run_append_zero (P := Tryz.prog) X2 88 88 140 Tryz.underlying88 infoArrival rfl (by decide) (by decide) ⟨X1.heap.size, 0, none⟩ 0 X2.heap.size (cutA (some ⟨gb, ob, none⟩) cl 1 4) L.length (cl - 1) (L.flatMap vArrival) (flat_len vArrival_len _) hsl2 (by have h := hR.less; have h2 := wC_ge s1 (a :: L); simp at h2; omega)
  have ho3 : X3.ownsRow lo 140 4 v3' L.length (L.flatMap vArrival) := by
   rcases ho3' with ⟨_, h1⟩ | ⟨h0, rfl, rfl⟩
   ·exact own_mono h1 (Nat.le_trans hle hbb.size)
   ·have : L = [] := List.eq_nil_of_length_eq_zero h0
    subst this
    exact hz0
  obtain ⟨A3, C3, rfl, _⟩ := own_slice ho3
  have hb13 : Below wr.heap.size wr X3 := hbb.trans (hb3.mono hbb.size)
  have HR3 := Lib.hid hr3
  have HO3 := Lib.hid ho3
  have HB3 := Lib.hid hb13
  have hll1 : (L.length : Int) + 1 - 1 = (L.length : Int) := by omega
  clear hz0 hsl2 ho3' ho3 hr3 hx
  have hS3 := hS.since hb13
  have hle3 : lo ≤ X3.heap.size := hS3.size
  obtain ⟨ra, rc, hrc, hrsl, hcell⟩ := hS3.held.rowAt rfl hrow
  have HOKN := Lib.hid hpre.ok
  have HSTEP : Hid (∀ nl, pushL (lineAt s1 k) (itemOf s1 a) = nl → stepA p (s1, a :: L) = ((shedP p ⟨s1.ready.set k nl, s1.outs, s1.takers, s1.nextSeq + 1, s1.nextTag, s1.came + 1, s1.acked, s1.dropped⟩ k).1, L ++ (shedP p ⟨s1.ready.set k nl, s1.outs, s1.takers, s1.nextSeq + 1, s1.nextTag, s1.came + 1, s1.acked, s1.dropped⟩ k).2)) := Lib.hid fun nl hnl => by
   have h1 : layP p (seqd s1) (k : Int) (itemOf s1 a) = shedP p ⟨s1.ready.set k nl, s1.outs, s1.takers, s1.nextSeq + 1, s1.nextTag, s1.came + 1, s1.acked, s1.dropped⟩ (k : Int) := by
    rw [lay_shed (show ((k : Int)).toNat < (seqd s1).ready.length from by show k < s1.ready.length; omega)]
    rw [show pushL (lineAt (seqd s1) (k : Int)) (itemOf s1 a) = nl from hnl]
    rfl
   show ((layP p (seqd s1) a.queue (itemOf s1 a)).1, L ++ (layP p (seqd s1) a.queue (itemOf s1 a)).2) = _
   rw [HKQ.out, h1]
  have HPUSH0 := refpush_any ra rc (lineAt s1 k) (itemOf s1 a) lo X3.drew (hrsl.keep (KeepsT.of_below (ts := []) (Below.refl _ _).drew) (by simp)).sl (by have := hpre.short; omega)
  generalize hline : lineAt s1 k = line at *
  obtain ⟨nl, hnl⟩ : ∃ nl, pushL line (itemOf s1 a) = nl := ⟨_, rfl⟩
  rw [hnl] at HPUSH0 HOKN
  have HST := Lib.hid (HSTEP.out nl hnl)
  have HPUSH : Hid (Calls Tryz.prog 53 #[.slice ra line.length rc, .agg #[.int .i64 s1.nextSeq, .string a.key, .string a.body, .bool false, .int .i64 a.deaths]] X3.drew fun e w' => ∃ v, e = .returned v ∧ w'.ownsRow X3.heap.size 52 5 v nl.length (nl.flatMap vItem) ∧ Below X3.heap.size X3 w') := Lib.hid (HPUSH0.mono fun e w' ⟨v, h1, h2, h3⟩ => ⟨v, h1, h2, ((Below.refl _ _).drew : Below X3.heap.size X3 X3.drew).trans h3⟩)
  have hbx3 : Bk X3 wr.heap.size 140 #[.int .i64 (k : Int), .string a.key, .string a.body, .int .i64 a.deaths] := kb1.below (hb2.trans (hb3.mono hb2.size)) kb1.lt
  have HAFTER : Hid (∀ (w5 : World) (Ar : Option Addr) (Cr : Nat), w5.ownsRow X3.heap.size 52 5 (.slice Ar nl.length Cr) nl.length (nl.flatMap vItem) → nl.length ≤ Cr → Below X3.heap.size X3 w5 → (w5.cell? ⟨g, 0, none⟩ = some (.slice (some ⟨gr, 0, none⟩) s1.ready.length C1) ∧ w5.cell? ⟨g, 3, none⟩ = some (.int .i64 s1.nextSeq) ∧ w5.cell? ⟨wr.heap.size, 0, none⟩ = some (.int .i64 (k : Int)) ∧ w5.cell? ⟨wr.heap.size, 1, none⟩ = some (.string a.key) ∧ w5.cell? ⟨wr.heap.size, 2, none⟩ = some (.string a.body) ∧ w5.cell? ⟨wr.heap.size, 3, none⟩ = some (.int .i64 a.deaths)) ∧ ((w5.setCell ⟨gr, k, none⟩ (.slice Ar nl.length Cr)).cell? ⟨g, 0, none⟩ = some (.slice (some ⟨gr, 0, none⟩) s1.ready.length C1) ∧ (w5.setCell ⟨gr, k, none⟩ (.slice Ar nl.length Cr)).cell? ⟨g, 3, none⟩ = some (.int .i64 s1.nextSeq) ∧ (w5.setCell ⟨gr, k, none⟩ (.slice Ar nl.length Cr)).cell? ⟨wr.heap.size, 0, none⟩ = some (.int .i64 (k : Int)) ∧ (w5.setCell ⟨gr, k, none⟩ (.slice Ar nl.length Cr)).cell? ⟨wr.heap.size, 1, none⟩ = some (.string a.key) ∧ (w5.setCell ⟨gr, k, none⟩ (.slice Ar nl.length Cr)).cell? ⟨wr.heap.size, 2, none⟩ = some (.string a.body) ∧ (w5.setCell ⟨gr, k, none⟩ (.slice Ar nl.length Cr)).cell? ⟨wr.heap.size, 3, none⟩ = some (.int .i64 a.deaths)) ∧ (w5.cell? ⟨gr, k, none⟩ = some (.slice ra line.length rc) ∧ w5.frozen? ⟨gr, k, none⟩ = false ∧ gr < w5.heap.size) ∧ RefAt (w5.setCell ⟨gr, k, none⟩ (.slice Ar nl.length Cr)) lo g (.slice (some ⟨gr, 0, none⟩) s1.ready.length C1) v2 v3 (rows.set k ⟨Ar, Cr, nl⟩) { s1 with ready := s1.ready.set k nl } ∧ Bk (w5.setCell ⟨gr, k, none⟩ (.slice Ar nl.length Cr)) wr.heap.size 140 #[.int .i64 (k : Int), .string a.key, .string a.body, .int .i64 a.deaths] ∧ KeepsT [50] X3 (w5.setCell ⟨gr, k, none⟩ (.slice Ar nl.length Cr)) ∧ Below lo X3 (w5.setCell ⟨gr, k, none⟩ (.slice Ar nl.length Cr))) := Lib.hid fun w5 Ar Cr n1 hcr n2 => by
   have h5 := hS3.since n2
   have hset := h5.rowSet (k := k) rfl Ar Cr nl ((SlT.of_own n1).wider hle3) hcr
   have hb5 := hbx3.below n2 hbx3.lt
   have hb6 := hset.2.1 _ _ _ (by decide) hb5
   exact ⟨⟨h5.box.cell 0, h5.box.cell 3, hb5.cell 0, hb5.cell 1, hb5.cell 2, hb5.cell 3⟩, ⟨hset.1.box.cell 0, hset.1.box.cell 3, hb6.cell 0, hb6.cell 1, hb6.cell 2, hb6.cell 3⟩, hcell [] w5 (by simp) (KeepsT.of_below n2), hset.1, hb6, (KeepsT.of_below n2).trans hset.2.1, (n2.mono hle3).trans hset.2.2⟩
  have e0 : (X3.drew.cell? ⟨g, 0, none⟩ = some (.slice (some ⟨gr, 0, none⟩) s1.ready.length C1) ∧ X3.drew.cell? ⟨g, 3, none⟩ = some (.int .i64 s1.nextSeq) ∧ X3.drew.cell? ⟨wr.heap.size, 0, none⟩ = some (.int .i64 (k : Int)) ∧ X3.drew.cell? ⟨wr.heap.size, 1, none⟩ = some (.string a.key) ∧ X3.drew.cell? ⟨wr.heap.size, 2, none⟩ = some (.string a.body) ∧ X3.drew.cell? ⟨wr.heap.size, 3, none⟩ = some (.int .i64 a.deaths)) := ⟨hS3.box.cell 0, hS3.box.cell 3, hbx3.cell 0, hbx3.cell 1, hbx3.cell 2, hbx3.cell 3⟩
  have z0 : X3.drew.cell? ⟨gr, k, none⟩ = some (.slice ra line.length rc) := (hcell [] X3 (by simp) (KeepsT.refl _ _)).1
  have HP3 : Hid (Bk X3 Pb 26 #[.slice p1 p.posts.length q1, .slice p2 p.queues.length q2, .slice p3 p.binds.length q3]) := Lib.hid (hPb.below hb13 hPb.lt)
  have HPA := Lib.hid (hpa.below (hb13.mono hle) (Nat.le_refl _))
  have hj2 : (k : Int) < (s1.ready.length : Int) := by omega
  have HSS := Lib.hid (And.intro hslen hpre.dropped)
  have hw1 : IntKind.i64.wrap (s1.nextSeq + 1) = s1.nextSeq + 1 := IntWalk.i64_in _ (by have := hpre.nextSeq; omega)
  have hw2 : IntKind.i64.wrap (s1.came + 1) = s1.came + 1 := IntWalk.i64_in _ (by have := hpre.came; omega)
  have HBW := Lib.hid (hB.trans (hb13.mono hle))
  have HLL := Lib.hid (show L.length ≤ 1400 from by have h := hR.less; have h2 := wC_ge s1 (a :: L); simp at h2; omega)
  have HR : Hid (∀ (t : Array Value) (n' m' cl' : Nat) (al' : Option Addr) (L' : List ArrivalD) (W : World), n' = n + 1 → t = #[t.getD 0 undef, .pointer (some ⟨g, 0, none⟩), .slice al' m' cl', .pointer (some ⟨Pb, 0, none⟩), t.getD 4 undef, t.getD 5 undef, .int .i64 0, .int .i64 (n' : Int), t.getD 8 undef, t.getD 9 undef, t.getD 10 undef, t.getD 11 undef, t.getD 12 undef, t.getD 13 undef, t.getD 14 undef, t.getD 15 undef, t.getD 16 undef, t.getD 17 undef, t.getD 18 undef, t.getD 19 undef, t.getD 20 undef, t.getD 21 undef, t.getD 22 undef, t.getD 23 undef, t.getD 24 undef, t.getD 25 undef, t.getD 26 undef, t.getD 27 undef, t.getD 28 undef, t.getD 29 undef, t.getD 30 undef, t.getD 31 undef, t.getD 32 undef, t.getD 33 undef, t.getD 34 undef, t.getD 35 undef, t.getD 36 undef, t.getD 37 undef, t.getD 38 undef, t.getD 39 undef, t.getD 40 undef, t.getD 41 undef, t.getD 42 undef, t.getD 43 undef, t.getD 44 undef, t.getD 45 undef, t.getD 46 undef, t.getD 47 undef, t.getD 48 undef, t.getD 49 undef, t.getD 50 undef, t.getD 51 undef, t.getD 52 undef, t.getD 53 undef, t.getD 54 undef, t.getD 55 undef, t.getD 56 undef, t.getD 57 undef, t.getD 58 undef, t.getD 59 undef, t.getD 60 undef, t.getD 61 undef, t.getD 62 undef, t.getD 63 undef, t.getD 64 undef, t.getD 65 undef, t.getD 66 undef, t.getD 67 undef, t.getD 68 undef, t.getD 69 undef] → m' = L'.length → ArR lo g Pb p p1 p2 p3 q1 q2 q3 (.slice (some ⟨gr, 0, none⟩) s1.ready.length C1) v2 v3 s l w (n + 1) al' cl' L' W → ra1_inv lo g Pb p p1 p2 p3 q1 q2 q3 (.slice (some ⟨gr, 0, none⟩) s1.ready.length C1) v2 v3 s l w ⟨t, []⟩ W) :=
   Lib.hid fun t n' m' cl' al' L' W hn' ht hm' hW => ⟨t, n', m', cl', al', L', ht, hm', by rw [hn']; exact hW, rfl⟩
  clear HSTEP HPUSH0 hbx3 hcell hrsl hrc hrow hS hWt hcl hR hPb hpa hB hS3 hwa hpre kb1 hb1 hb2 hb3 hbb hb13 hnl hline HEND hslen hkl hle3 hsq1
  go_wp2_with (first | (at_builtin; refine Lib.wpList_append_run _ rfl _ _ _ _ rfl _ _ rfl rfl _ _ HR3.out ?_) | fail)
  clear x0 x1 x2 x3 hcut hX1 hX2
  refine region_calm ?_
  refine nw_lay [(0, false), (1, false), (2, false), (3, false), (4, false), (5, false), (6, false), (7, false), (8, false), (9, false), (10, false), (11, false), (12, false), (14, false), (15, false), (16, false), (17, false), (18, false), (19, false), (20, false), (21, false), (22, false), (23, false), (24, false), (13, true), (25, true), (26, false), (27, true)] (by kernel_rfl) (fun hOrd => ?_)
  refine nw_go (S := (fun W => (W.cell? ⟨g, 0, none⟩ = some (.slice (some ⟨gr, 0, none⟩) s1.ready.length C1) ∧ W.cell? ⟨g, 3, none⟩ = some (.int .i64 s1.nextSeq) ∧ W.cell? ⟨wr.heap.size, 0, none⟩ = some (.int .i64 (k : Int)) ∧ W.cell? ⟨wr.heap.size, 1, none⟩ = some (.string a.key) ∧ W.cell? ⟨wr.heap.size, 2, none⟩ = some (.string a.body) ∧ W.cell? ⟨wr.heap.size, 3, none⟩ = some (.int .i64 a.deaths)))) hOrd (by kernel_rfl) (by first | assumption | exact e0 | exact e6 | exact e5) (fun hHeld => ?_)
  clear hOrd
  iterate 28 ((first | (refine NW.take (v := ?_) rfl (fun _ _ _ h => h) (Or.inl ⟨by rfl, ?_⟩) ?_; rotate_left; focus (intro w hSw; (try dsimp only at hSw); go_simp; (all_goals with_reducible rfl); done)) | (refine NW.leave rfl (fun _ _ _ h => h) (by rfl) (by assumption) ?_) | (refine NW.call rfl (fun K hK => ?_); go_simp; ((go_at_call 53; (with_reducible refine HPUSH.out.mono ?_); rintro e w5 ⟨v5, rfl, n1, n2⟩; obtain ⟨Ar, Cr, rfl, hcr⟩ := own_slice n1; have hA := HAFTER.out w5 Ar Cr n1 hcr n2; have e5 := hA.1; have e6 := hA.2.1; obtain ⟨z5, f5, l5⟩ := hA.2.2.1; have HA5 := Lib.hid hA.2.2.2; clear hA n1 n2 hcr)); refine hK.out _ _ (by first | assumption | exact e0 | exact e6 | exact e5) (fun hHeld => ?_); clear hK K) | (refine NW.call rfl (fun K hK => ?_); go_simp; refine hK.out _ _ (by first | assumption | exact e0 | exact e6 | exact e5) (fun hHeld => ?_); clear hK K)); try simp only [Act.put, zA, zB, zC, zD, zE, zF])
  refine NW.done ?_
  refine RQ0.normal ?_
  obtain ⟨Y, hYY⟩ : ∃ Y, w5.setCell ⟨gr, k, none⟩ (.slice Ar nl.length Cr) = Y := ⟨_, rfl⟩
  rw [hYY] at HA5
  rw [hYY]
  clear e0 e5 e6 z0 z5 f5 l5 hHeld hYY
  obtain ⟨Z1, hZ1⟩ : ∃ Z1, Y.setCell ⟨g, 3, none⟩ (.int .i64 (s1.nextSeq + 1)) = Z1 := ⟨_, rfl⟩
  obtain ⟨r1, k1, b1⟩ := HA5.out.1.num 3 (.int .i64 (s1.nextSeq + 1)) (s1.nextSeq + 1) s1.nextTag s1.came s1.acked s1.dropped rfl
  rw [hZ1] at r1 k1 b1
  obtain ⟨Z2, hZ2⟩ : ∃ Z2, Z1.setCell ⟨g, 5, none⟩ (.int .i64 (s1.came + 1)) = Z2 := ⟨_, rfl⟩
  obtain ⟨r2, k2, b2⟩ := r1.num 5 (.int .i64 (s1.came + 1)) (s1.nextSeq + 1) s1.nextTag (s1.came + 1) s1.acked s1.dropped rfl
  rw [hZ2] at r2 k2 b2
  have y3 := HA5.out.1.box.cell 3
  have fy := HA5.out.1.box.frozen 3
  have ly := HA5.out.1.box.lt
  have y5 := r1.box.cell 5
  have f5 := r1.box.frozen 5
  have l5 := r1.box.lt
  simp only [ownV, List.getElem?_toArray, List.getElem?_cons_zero, List.getElem?_cons_succ] at y3 y5
  have kY2 : KeepsT [50, 31] Y Z2 := (k1.trans k2).more (by simp)
  have k32 : KeepsT [50, 31] X3 Z2 := (HA5.out.2.2.1.more (by simp)).trans kY2
  have b32 : Below lo X3 Z2 := HA5.out.2.2.2.trans (b1.trans b2)
  have hx2 := kY2 _ _ _ (by decide) HA5.out.2.1
  have x0 := hx2.cell 0
  have hp2 := k32 _ _ _ (by decide) HP3.out
  have j0 := hp2.cell 0
  have j1 := hp2.cell 1
  have j2 := hp2.cell 2
  simp only [List.getElem?_toArray, List.getElem?_cons_zero, List.getElem?_cons_succ] at x0 j0 j1 j2
  have hlS : lineAt ⟨s1.ready.set k nl, s1.outs, s1.takers, s1.nextSeq + 1, s1.nextTag, s1.came + 1, s1.acked, s1.dropped⟩ (k : Int) = nl := by
   rw [lineAt_get (by show ((k : Int)).toNat < (s1.ready.set k nl).length; rw [List.length_set]; omega)]
   simp
  have HSHED := Lib.hid (shedAt_any lo g p p1 p2 p3 q1 q2 q3 hr hs _ v2 v3 _ ⟨s1.ready.set k nl, s1.outs, s1.takers, s1.nextSeq + 1, s1.nextTag, s1.came + 1, s1.acked, s1.dropped⟩ k Z2 (HPA.out.below b32 (Nat.le_refl _)) r2 (by have := HSS.out.1; omega) (by show (s1.ready.set k nl).length = _; rw [List.length_set]; exact HSS.out.1) (by rw [hlS]; exact HOKN.out) HSS.out.2 (dead_in hr (by have := HSS.out.1; omega)).1)
  have HO2 := Lib.hid (own_keepT HO3.out k32 (by decide))
  have HK2 := Lib.hid (And.intro k32 (And.intro b32 hp2))
  clear r1 k1 b1 r2 k2 b2 kY2 k32 b32 hx2 hp2 hlS
  go_wp2_with fail
  refine HSHED.out.mono ?_
  rintro e w6 ⟨v6, rows6, rfl, r6, o6, k6, b6⟩
  have hst := HST.out
  have hnx := HNX.out
  obtain ⟨⟨s3, new⟩, hc2⟩ : ∃ c2, shedP p ⟨s1.ready.set k nl, s1.outs, s1.takers, s1.nextSeq + 1, s1.nextTag, s1.came + 1, s1.acked, s1.dropped⟩ (k : Int) = c2 := ⟨_, rfl⟩
  rw [hc2] at r6 o6 hst
  simp only at r6 o6 hst
  rw [hst] at hnx
  have hlen7 : (L ++ new).length ≤ 1400 := by
   have h := hnx.less
   have h2 := wC_ge s3 (L ++ new)
   omega
  obtain ⟨A6, C6, rfl, _⟩ := own_slice o6
  have ho6 := own_keepT HO2.out k6 (by decide)
  obtain ⟨v7, w7, hr7, ho7, hg7⟩ := run_appArr w6 lo _ L new A6 C6 _ _ ho6 (SlT.of_own o6).sl (by rw [List.length_append] at hlen7; omega) r6.size 88
  obtain ⟨A7, C7, rfl, hc7⟩ := own_slice ho7
  have k7 : KeepsT [140] w6 w7 := KeepsT.grown ho6 hg7 (by simp)
  have b7 : Below lo w6 w7 := below_own ho6 hg7 (Below.refl _ _) (Nat.le_refl _) r6.size
  have b67 := HK2.out.2.1.trans (b6.trans b7)
  have HN : Hid (ArR lo g Pb p p1 p2 p3 q1 q2 q3 (.slice (some ⟨gr, 0, none⟩) s1.ready.length C1) v2 v3 s l w (n + 1) A7 C7 (L ++ new) w7) := Lib.hid
   ⟨rows6, s3, r6.kept k7 b7 (by decide) (by decide) (by decide) (by decide) (by decide), WaitAt.own ho7, hc7, hnx, k7 _ _ _ (by decide) (k6 _ _ _ (by decide) HK2.out.2.2), HPA.out.below b67 (Nat.le_refl _), HBW.out.trans b67⟩
  have HR7 := Lib.hid hr7
  clear r6 o6 k6 b6 ho6 ho7 hg7 k7 b7 b67 hr7 hst hnx hc2 hlen7 x0 j0 j1 j2 y3 fy ly y5 f5 l5
  go_wp2_with (first | (at_builtin; refine Lib.wpList_append_run _ rfl _ _ _ _ rfl _ _ rfl rfl _ _ HR7.out ?_) | fail)
  exact ⟨HR.out _ _ _ _ _ _ _ rfl rfl (by simp) HN.out, by simp [intOf]; omega⟩
set_option maxHeartbeats 4000000 in
theorem arrive_any (lo g : Nat) (p : PlanD) (p1 p2 p3 : Option Addr) (q1 q2 q3 : Nat) (hr : PlanRight p) (hs : PlanSmall p) (v1 v2 v3 : Value) (rows : List RowD) (s : StateD) (l : List ArrivalD) (al : Option Addr) (cl : Nat) (w : World) (H : RefAt w lo g v1 v2 v3 rows s) (hp : PlanAt w 0 lo p1 p2 p3 p) (hwt : WaitAt w lo al l) (hcl : l.length ≤ cl) (hok : HallOk p (s, l)) (hsq : s.nextSeq ≤ 524288) (hw : wC (s, l) ≤ 700) :
  Calls Tryz.prog 56 #[.agg #[.slice p1 p.posts.length q1, .slice p2 p.queues.length q2, .slice p3 p.binds.length q3], .pointer (some ⟨g, 0, none⟩), .slice al l.length cl] w fun e W => e = .returned (.int .i64 ((settleP p s l).nextSeq - s.nextSeq)) ∧ ∃ rows', RefAt W lo g v1 v2 v3 rows' (settleP p s l) ∧ Below lo w W := by
 obtain ⟨W0, hW0⟩ : ∃ W0, w.alloc (.cells #[.slice p1 p.posts.length q1, .slice p2 p.queues.length q2, .slice p3 p.binds.length q3] 26) = W0 := ⟨_, rfl⟩
 have hX : Bk W0 w.heap.size 26 #[.slice p1 p.posts.length q1, .slice p2 p.queues.length q2, .slice p3 p.binds.length q3] := by rw [← hW0]; exact Bk.new _ _ _
 have hb0 : Below w.heap.size w W0 := by rw [← hW0]; exact (Below.refl _ _).alloc (Nat.le_refl _) _
 have hbl := hb0.mono H.size
 have HIN : Hid (ArR lo g w.heap.size p p1 p2 p3 q1 q2 q3 v1 v2 v3 s l w 0 al cl l W0) := Lib.hid
  ⟨rows, s, H.since hb0, hwt.kept (KeepsT.of_below (ts := []) hb0) hbl (by simp), hcl, .start hok, hX, hp.below hbl (Nat.le_refl _), hbl⟩
 clear hX hb0 hbl H hp hwt
 go_enter Tryz.func56, Tryz.ntmps56
 go_wp2_with fail
 refine ra_loop lo g w.heap.size p p1 p2 p3 q1 q2 q3 hr hs v1 v2 v3 s l w hsq hw _ ?_ _ 0 l.length cl al l W0 rfl rfl HIN.out
 rintro t n m cl al W ht ⟨rows1, s1, h1, h2, h3⟩
 obtain ⟨u, rfl⟩ := ra1_open ht
 have HE := Lib.hid (h2.end_ hw)
 have H1 := Lib.hid (And.intro h1 h3)
 clear ht h1 h2 h3
 go_wp2
 go_ret
 refine ⟨?_, rows1, ?_, H1.out.2⟩
 ·rw [HE.out.1, HE.out.2]
  rfl
 ·rw [HE.out.1]
  exact H1.out.1
end Go.Proofs.YtaanpcjkflhomaaGreatDoor
