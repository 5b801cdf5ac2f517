/-
  The wire, read: a glass over bytes: take, num, text, truth; the plain reading.
-/
import Derived.Test.YtapimpmpjighmaaDoorWalkA
import Derived.Test.YtapimpmpjighmaaDoorData
import Derived.Deep.RegionHeld3
namespace Go.Proofs.YtapimpmpjighmaaDoor
open Go.RowKit
set_option maxRecDepth 100000

/-! What is read, plain. -/
def numS (s : ByteArray) : Option (Nat × ByteArray) := if h : 0 < s.size then some (s[0].toNat, s.extract 1 s.size) else none
def takeS (n : Nat) (s : ByteArray) : Option (ByteArray × ByteArray) := if n ≤ s.size then some (s.extract 0 n, s.extract n s.size) else none
def textS (s : ByteArray) : Option (ByteArray × ByteArray) := (numS s).bind fun x => takeS x.1 x.2
def truthS (s : ByteArray) : Option (Bool × ByteArray) := (numS s).bind fun x => if 1 < x.1 then none else some (decide (x.1 = 1), x.2)

theorem numS_le {s r : ByteArray} {n : Nat} (h : numS s = some (n, r)) : n ≤ 255 ∧ r.size + 1 = s.size := by
  unfold numS at h
  split at h
  · simp only [Option.some.injEq, Prod.mk.injEq] at h
    obtain ⟨rfl, rfl⟩ := h
    have := (s[0]).toNat_lt
    refine ⟨by omega, ?_⟩
    rw [ByteArray.size_extract]; omega
  · cases h

def brokenE : PanicEntry := { v := .iface 102 (.agg #[]), recovered := false }
/-- A glass: one block that holds what is left. -/
def GlassAt (w : World) (g : Nat) (s : ByteArray) : Prop := Bk w g 92 #[.string s]
theorem GlassAt.cell {w : World} {g : Nat} {s : ByteArray} (h : GlassAt w g s) : w.cell? ⟨g, 0, none⟩ = some (.string s) ∧ w.frozen? ⟨g, 0, none⟩ = false := ⟨Bk.cell h 0, Bk.frozen h 0⟩
theorem GlassAt.set {w : World} {g : Nat} {s : ByteArray} (h : GlassAt w g s) (r : ByteArray) : GlassAt (w.setCell ⟨g, 0, none⟩ (.string r)) g r := by
  have := Bk.set_ h 0 (.string r)
  simpa [GlassAt] using this

theorem gw_refl (w : World) (row : Option Nat) : w.grownBy w row := ⟨rfl, rfl, rfl, Nat.le_refl _, fun _ _ _ => rfl⟩
theorem gw_trans {a b c : World} {row : Option Nat} (h : a.grownBy b row) (k : b.grownBy c row) : a.grownBy c row :=
  ⟨k.os.trans h.os, k.tape.trans h.tape, k.output.trans h.output, Nat.le_trans h.size k.size, fun i hi hr => (k.block i (Nat.lt_of_lt_of_le hi h.size) hr).trans (h.block i hi hr)⟩
theorem gw_set (w : World) (g i : Nat) (v : Value) : w.grownBy (w.setCell ⟨g, i, none⟩ v) (some g) :=
  ⟨rfl, rfl, rfl, by simp [World.setCell], fun k _ hne => Below.heap_setCell w ⟨g, i, none⟩ v k (fun e => hne (by rw [e]))⟩
theorem gw_alloc {a b : World} {row : Option Nat} (h : a.grownBy b row) (o : Obj) : a.grownBy (b.alloc o) row := gw_trans h (World.grownBy_alloc b o row)
theorem gw_drew {a b : World} {row : Option Nat} (h : a.grownBy b row) : a.grownBy b.drew row := ⟨h.os, h.tape, h.output, h.size, h.block⟩
theorem GlassAt.alloc {w : World} {g : Nat} {s : ByteArray} (h : GlassAt w g s) (o : Obj) : GlassAt (w.alloc o) g s := Bk.alloc h o

/-- What a reading of the glass promises. -/
def GPost {α : Type} (g : Nat) (w : World) (v : α → Value) (o : Option (α × ByteArray)) (e : Ending) (w' : World) : Prop :=
  w.grownBy w' (some g) ∧ match o with
    | some (x, r) => e = .returned (v x) ∧ GlassAt w' g r
    | none => e = .panicked [brokenE]

set_option maxHeartbeats 400000 in
theorem take_any (g : Nat) (s : ByteArray) (n : Nat) (w : World) (hg : GlassAt w g s) :
    Calls Tryd.prog 96 #[.pointer (some ⟨g, 0, none⟩), .int .i64 n] w (GPost g w Value.string (takeS n s)) := by
  obtain ⟨hc, hf⟩ := hg.cell
  have hlt := Bk.lt hg
  by_cases h : n ≤ s.size
  · have hb : decide ((s.size : Int) < (n : Int)) = false := by simp; omega
    have ht : takeS n s = some (s.extract 0 n, s.extract n s.size) := by unfold takeS; rw [if_pos h]
    have HT := Lib.hid ht
    have HG := Lib.hid hg
    have hn0 : (0 : Int) ≤ (n : Int) := by omega
    have hn1 : (n : Int) ≤ (s.size : Int) := by omega
    clear ht hg h
    go_enter Tryd.func96, Tryd.ntmps96
    go_wp2_with fail
    go_ret
    unfold GPost
    rw [HT.out]
    exact ⟨gw_set _ _ _ _, rfl, HG.out.set _⟩
  · have hb : s.size < n := by omega
    have ht : takeS n s = none := by unfold takeS; rw [if_neg h]
    have HT := Lib.hid ht
    clear ht hg h
    go_enter Tryd.func96, Tryd.ntmps96
    go_wp2_with fail
    refine ⟨rfl, ?_⟩
    rw [HT.out]
    exact ⟨gw_refl _ _, rfl⟩

theorem first_byte (s : ByteArray) (h : 0 < s.size) (h' : 0 < (s.extract 0 1).size) : (s.extract 0 1)[0] = s[0] := by
  simp [ByteArray.getElem_extract]
theorem byte_wrap (b : UInt8) : wrap64 (b.toNat : Int) = (b.toNat : Int) := by
  have := b.toNat_lt
  unfold wrap64; omega

set_option maxHeartbeats 400000 in
theorem num_any (g : Nat) (s : ByteArray) (w : World) (hg : GlassAt w g s) :
    Calls Tryd.prog 47 #[.pointer (some ⟨g, 0, none⟩)] w (GPost g w (fun n => .int .i64 (n : Nat)) (numS s)) := by
  have htk := take_any g s 1 w hg
  by_cases h : 0 < s.size
  · have hn : numS s = some (s[0].toNat, s.extract 1 s.size) := by unfold numS; rw [dif_pos h]
    have ht : takeS 1 s = some (s.extract 0 1, s.extract 1 s.size) := by unfold takeS; rw [if_pos (by omega)]
    rw [ht] at htk
    rw [hn]
    have HTK := Lib.hid htk
    clear htk hn ht
    go_enter Tryd.func47, Tryd.ntmps47
    go_wp2_with fail
    refine HTK.out.mono ?_
    rintro e w1 ⟨hgr, rfl, hg1⟩
    go_wp2_with fail
    go_ret
    refine ⟨hgr, ?_, hg1⟩
    simp only [byte_wrap, first_byte s h]
    rfl
  · have hn : numS s = none := by unfold numS; rw [dif_neg h]
    have ht : takeS 1 s = none := by unfold takeS; rw [if_neg (by omega)]
    rw [ht] at htk
    rw [hn]
    have HTK := Lib.hid htk
    clear htk hn ht
    go_enter Tryd.func47, Tryd.ntmps47
    go_wp2_with fail
    refine HTK.out.mono ?_
    rintro e w1 ⟨hgr, rfl⟩
    go_wp2_with fail
    exact ⟨rfl, hgr, rfl⟩

theorem GPost.some {α : Type} {g : Nat} {w w' : World} {v : α → Value} {x : α} {r : ByteArray} {e : Ending} (h : GPost g w v (some (x, r)) e w') : w.grownBy w' (some g) ∧ e = .returned (v x) ∧ GlassAt w' g r := h
theorem GPost.none {α : Type} {g : Nat} {w w' : World} {v : α → Value} {e : Ending} (h : GPost (α := α) g w v none e w') : w.grownBy w' (.some g) ∧ e = .panicked [brokenE] := h

set_option maxHeartbeats 400000 in
theorem text_any (g : Nat) (s : ByteArray) (w : World) (hg : GlassAt w g s) :
    Calls Tryd.prog 46 #[.pointer (some ⟨g, 0, none⟩)] w (GPost g w Value.string (textS s)) := by
  have h1 := num_any g s w hg
  rcases ho : numS s with _ | ⟨n, r⟩
  · rw [show textS s = none by unfold textS; rw [ho]; rfl]
    rw [ho] at h1
    have H1 := Lib.hid h1; clear h1 ho
    go_enter Tryd.func46, Tryd.ntmps46
    go_wp2_with fail
    refine H1.out.mono ?_
    rintro e w1 ⟨hgr, rfl⟩
    go_wp2_with fail
    exact ⟨rfl, hgr, rfl⟩
  · have h2 := fun w1 (hg1 : GlassAt w1 g r) => take_any g r n w1 hg1
    rw [ho] at h1
    rcases hk : takeS n r with _ | ⟨t, r2⟩
    · rw [show textS s = none by unfold textS; rw [ho]; exact hk]
      rw [hk] at h2
      have H1 := Lib.hid h1; have H2 := Lib.hid h2; clear h1 h2 ho hk
      go_enter Tryd.func46, Tryd.ntmps46
      go_wp2_with fail
      refine H1.out.mono ?_
      rintro e w1 ⟨hgr, rfl, hg1⟩
      have HG := Lib.hid hgr; clear hgr
      go_wp2_with fail
      refine (H2.out w1 hg1).mono ?_
      rintro e w2 ⟨hgr, rfl⟩
      go_wp2_with fail
      exact ⟨rfl, gw_trans HG.out hgr, rfl⟩
    · rw [show textS s = some (t, r2) by unfold textS; rw [ho]; exact hk]
      rw [hk] at h2
      have H1 := Lib.hid h1; have H2 := Lib.hid h2; clear h1 h2 ho hk
      go_enter Tryd.func46, Tryd.ntmps46
      go_wp2_with fail
      refine H1.out.mono ?_
      rintro e w1 ⟨hgr, rfl, hg1⟩
      have HG := Lib.hid hgr; clear hgr
      go_wp2_with fail
      refine (H2.out w1 hg1).mono ?_
      rintro e w2 ⟨hgr, rfl, hg2⟩
      have HGG := Lib.hid (gw_trans HG.out hgr)
      go_wp2_with fail
      go_ret
      exact ⟨HGG.out, rfl, hg2⟩

set_option maxHeartbeats 400000 in
theorem truth_any (g : Nat) (s : ByteArray) (w : World) (hg : GlassAt w g s) :
    Calls Tryd.prog 52 #[.pointer (some ⟨g, 0, none⟩)] w (GPost g w Value.bool (truthS s)) := by
  have h1 := num_any g s w hg
  rcases ho : numS s with _ | ⟨n, r⟩
  · rw [show truthS s = none by unfold truthS; rw [ho]; rfl]
    rw [ho] at h1
    have H1 := Lib.hid h1; clear h1 ho
    go_enter Tryd.func52, Tryd.ntmps52
    go_wp2_with fail
    refine H1.out.mono ?_
    rintro e w1 ⟨hgr, rfl⟩
    go_wp2_with fail
    exact ⟨rfl, hgr, rfl⟩
  · rw [ho] at h1
    by_cases h : 1 < n
    · rw [show truthS s = none by unfold truthS; rw [ho]; exact if_pos h]
      have H1 := Lib.hid h1; clear h1 ho
      go_enter Tryd.func52, Tryd.ntmps52
      go_wp2_with fail
      refine H1.out.mono ?_
      rintro e w1 ⟨hgr, rfl, hg1⟩
      have HG := Lib.hid hgr; clear hgr
      go_wp2_with fail
      exact ⟨rfl, HG.out, rfl⟩
    · rw [show truthS s = some (decide (n = 1), r) by unfold truthS; rw [ho]; exact if_neg h]
      have H1 := Lib.hid h1; clear h1 ho
      go_enter Tryd.func52, Tryd.ntmps52
      go_wp2_with fail
      refine H1.out.mono ?_
      rintro e w1 ⟨hgr, rfl, hg1⟩
      have HG := Lib.hid hgr; clear hgr
      go_wp2_with fail
      go_ret
      refine ⟨HG.out, ?_, hg1⟩
      have : (((n : Int) == 1) : Bool) = decide (n = 1) := by rw [Bool.eq_iff_iff]; simp; omega
      simp [this]

end Go.Proofs.YtapimpmpjighmaaDoor
