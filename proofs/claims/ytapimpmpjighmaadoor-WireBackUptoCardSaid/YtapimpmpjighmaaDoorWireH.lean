/-
  The reference's ear: byte, text; texted.
-/
import Derived.Test.YtapimpmpjighmaaDoorWireG
namespace Go.Proofs.YtapimpmpjighmaaDoor
open Go.RowKit
set_option maxRecDepth 100000

def EarAt (w : World) (g : Nat) (s : ByteArray) : Prop := Bk w g 106 #[.string s]
theorem EarAt.set {w : World} {g : Nat} {s : ByteArray} (h : EarAt w g s) (r : ByteArray) : EarAt (w.setCell ⟨g, 0, none⟩ (.string r)) g r := by
  have := Bk.set_ h 0 (.string r)
  simpa [EarAt] using this
def byteE (s : ByteArray) : Nat × ByteArray := if h : 0 < s.size then (s[0].toNat, s.extract 1 s.size) else (0, s)
def textE (s : ByteArray) : ByteArray × ByteArray := ((byteE s).2.extract 0 (min (byteE s).1 (byteE s).2.size), (byteE s).2.extract (min (byteE s).1 (byteE s).2.size) (byteE s).2.size)
theorem size_toList (s : ByteArray) : s.toList.length = s.size := by rw [ByteArray.toList_eq]; exact Array.length_toList
theorem isEmpty_size (s : ByteArray) : s.toList.isEmpty = decide (s.size = 0) := by
  rw [Bool.eq_iff_iff, List.isEmpty_iff, decide_eq_true_eq, ← size_toList]
  exact ⟨fun h => by rw [h]; rfl, List.eq_nil_of_length_eq_zero⟩

/-- What an ear's reading promises. -/
def EPost (g : Nat) (w : World) (v : Value) (r : ByteArray) (e : Ending) (w' : World) : Prop := e = .returned v ∧ w.grownBy w' (some g) ∧ EarAt w' g r

set_option maxHeartbeats 400000 in
theorem earByte_any (g : Nat) (s : ByteArray) (w : World) (hg : EarAt w g s) :
    Calls Tryd.prog 54 #[.pointer (some ⟨g, 0, none⟩)] w (EPost g w (.int .i64 ((byteE s).1 : Nat)) (byteE s).2) := by
  have hc : w.cell? ⟨g, 0, none⟩ = some (.string s) := Bk.cell hg 0
  have hf : w.frozen? ⟨g, 0, none⟩ = false := Bk.frozen hg 0
  have hlt := Bk.lt hg
  have HG := Lib.hid hg; clear hg
  by_cases h : 0 < s.size
  · have he : s.toList.isEmpty = false := by rw [isEmpty_size]; exact decide_eq_false (by omega)
    have HB : Hid (byteE s = (s[0].toNat, s.extract 1 s.size)) := (by unfold byteE; rw [dif_pos h] : byteE s = (s[0].toNat, s.extract 1 s.size))
    have h1 : (1 : Int) ≤ (s.size : Int) := by omega
    go_enter Tryd.func54, Tryd.ntmps54
    go_wp2_with fail
    go_ret
    unfold EPost
    rw [HB.out]
    refine ⟨?_, gw_set _ _ _ _, HG.out.set _⟩
    simp only [byte_wrap]
    rfl
  · have he : s.toList.isEmpty = true := by rw [isEmpty_size]; exact decide_eq_true (by omega)
    have HB : Hid (byteE s = (0, s)) := (by unfold byteE; rw [dif_neg h] : byteE s = (0, s))
    go_enter Tryd.func54, Tryd.ntmps54
    go_wp2_with fail
    go_ret
    unfold EPost
    rw [HB.out]
    exact ⟨rfl, gw_refl _ _, HG.out⟩

set_option maxHeartbeats 400000 in
theorem earText_any (g : Nat) (s : ByteArray) (w : World) (hg : EarAt w g s) :
    Calls Tryd.prog 55 #[.pointer (some ⟨g, 0, none⟩)] w (EPost g w (.string (textE s).1) (textE s).2) := by
  have h1 := earByte_any g s w hg
  have HT : Hid (textE s = ((byteE s).2.extract 0 (min (byteE s).1 (byteE s).2.size), (byteE s).2.extract (min (byteE s).1 (byteE s).2.size) (byteE s).2.size)) := (rfl : textE s = _)
  generalize byteE s = x at *
  obtain ⟨n, r⟩ := x
  have H1 := Lib.hid h1; clear h1
  dsimp only at H1 HT
  go_enter Tryd.func55, Tryd.ntmps55
  go_wp2_with fail
  refine H1.out.mono ?_
  rintro e w1 ⟨rfl, hgr, hg1⟩
  have hc : w1.cell? ⟨g, 0, none⟩ = some (.string r) := Bk.cell hg1 0
  have hf : w1.frozen? ⟨g, 0, none⟩ = false := Bk.frozen hg1 0
  have hlt := Bk.lt hg1
  have HG1 := Lib.hid hg1
  have HGR := Lib.hid hgr
  clear hg hgr hg1
  by_cases h : r.size < n
  · have hm : min n r.size = r.size := by omega
    rw [hm] at HT
    have h0 : (0 : Int) ≤ (r.size : Int) := by omega
    clear hm
    go_wp2_with fail
    go_ret
    unfold EPost
    rw [HT.out]
    have hx : r.extract r.size r.size = ByteArray.empty := by simp
    have hy : r.extract 0 r.size = r := by simp
    simp only [hx, hy]
    exact ⟨rfl, gw_trans HGR.out (gw_set _ _ _ _), HG1.out.set _⟩
  · have hm : min n r.size = n := by omega
    rw [hm] at HT
    have h0 : (0 : Int) ≤ (n : Int) := by omega
    have h2 : (n : Int) ≤ (r.size : Int) := by omega
    clear hm
    go_wp2_with fail
    go_ret
    unfold EPost
    rw [HT.out]
    exact ⟨rfl, gw_trans HGR.out (gw_set _ _ _ _), HG1.out.set _⟩

set_option maxHeartbeats 400000 in
theorem texted_any (s : ByteArray) (w : World) (hs : s.size ≤ 1048576) :
    Calls Tryd.prog 42 #[.string s] w fun e w' => ∃ v, e = .returned v ∧ w'.ownsRow w.heap.size 5 1 v (encB (.str s)).length ((encB (.str s)).map byteV) ∧ Below w.heap.size w w' := by
  obtain ⟨iu, hiu, hz0, hz1, hz2⟩ := info_parts infoU8
  have hlit := World.ownsRow_lit w #[.int .u8 ((s.size : Int) % 256)] 1 (base := w.heap.size) (e := 5) (size := 1) (Nat.le_refl _) (by unfold maxLen; omega) rfl
  have HL := Lib.hid hlit; clear hlit
  have h63 : 1 + s.size ≤ maxLen := by unfold maxLen; omega
  have h64 : 1 + s.size ≤ 140737488355328 := by omega
  go_enter Tryd.func42, Tryd.ntmps42
  go_wp2_with (at_builtin; refine Lib.wpList_append_own_string _ rfl _ _ 76 9 rfl w.heap.size 5 iu Tryd.underlying76 Tryd.underlying9 hiu hz0 hz1 hz2 _ _ _ rfl HL.out s rfl h63 h64 (by simp) ?_; intro v3 w3 hown3 hgrow _; have H3 := Lib.hid hown3; have HG3 := Lib.hid (below_own HL.out hgrow ((Below.refl _ w).alloc (Nat.le_refl _) _) (Nat.le_refl _) (by simp)); clear hown3 hgrow)
  go_ret
  refine ⟨_, rfl, ?_, HG3.out⟩
  have e1 : (encB (.str s)).length = 1 + s.size := by simp only [encB, List.length_append, List.length_cons, List.length_nil, Array.length_toList]; rfl
  have e2 : (encB (.str s)).map byteV = [.int .u8 ((s.size : Int) % 256)] ++ Lib.strCells s := by rw [← encV_eq]; rfl
  rw [e1, e2]
  exact H3.out

end Go.Proofs.YtapimpmpjighmaaDoor
