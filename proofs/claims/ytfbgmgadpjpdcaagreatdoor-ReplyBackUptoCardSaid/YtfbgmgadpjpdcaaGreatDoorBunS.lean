/-
  arrive.Room, Open; the loops of Letters.
  arrive.Letters, walked.
  The reference's dying.
  The reference's shedAt.
  What waits in the reference's arrive.
-/
import Derived.Test.YtfbgmgadpjpdcaaGreatDoorBunR
import Derived.Test.YtfbgmgadpjpdcaaGreatDoorBunE
import Derived.Test.YtfbgmgadpjpdcaaGreatDoorBunF
import Derived.Test.YtfbgmgadpjpdcaaGreatDoorStateD
import Derived.Test.YtfbgmgadpjpdcaaGreatDoorBunH
import Derived.Test.YtfbgmgadpjpdcaaGreatDoorBunV
import Derived.Test.YtfbgmgadpjpdcaaGreatDoorBunA
import Derived.Test.YtfbgmgadpjpdcaaGreatDoorLinesD
set_option linter.unusedSimpArgs false
set_option linter.unusedVariables false
namespace Go.Proofs.YtfbgmgadpjpdcaaGreatDoor
open Go Go.RowKit
set_option maxRecDepth 100000

theorem Room_any (s : StateD) (a1 a2 a3 : Option Addr) (c1 c2 c3 : Nat) (w : World) : Calls Tryz.prog 44 #[.agg #[.slice a1 s.ready.length c1, .slice a2 s.outs.length c2, .slice a3 s.takers.length c3, .int .i64 s.nextSeq, .int .i64 s.nextTag, .int .i64 s.came, .int .i64 s.acked, .int .i64 s.dropped]] w fun e w' => e = .returned (.bool (decide (s.nextSeq ≤ 524288))) ∧ Below w.heap.size w w' := by
  have hb := (Below.refl w.heap.size w).alloc (Nat.le_refl _) (.cells #[.slice a1 s.ready.length c1, .slice a2 s.outs.length c2, .slice a3 s.takers.length c3, .int .i64 s.nextSeq, .int .i64 s.nextTag, .int .i64 s.came, .int .i64 s.acked, .int .i64 s.dropped] 31)
  go_enter Tryz.func44, Tryz.ntmps44
  go_wp2
  go_ret
  exact ⟨rfl, hb⟩
theorem Open_any (g : Nat) (p : PlanD) (p1 p2 p3 : Option Addr) (q1 q2 q3 : Nat) (w : World) : Calls Tryz.prog 46 #[.agg #[.slice p1 p.posts.length q1, .slice p2 p.queues.length q2, .slice p3 p.binds.length q3], .pointer (some ⟨g, 0, none⟩)] w fun e w' => e = .returned (.pointer (some ⟨w.heap.size + 1, 0, none⟩)) ∧ Bk w' (w.heap.size + 1) 127 (hallV g p p1 p2 p3 q1 q2 q3 (.slice none 0 0)) ∧ Below w.heap.size w w' := by
  go_enter Tryz.func46, Tryz.ntmps46
  go_wp2
  go_ret
  refine ⟨by simp, ?_, ?_⟩
  · exact Bk.new_at _ _ _ (by simp)
  · exact ((Below.refl _ _).alloc (Nat.le_refl _) _).alloc (by simp) _
end Go.Proofs.YtfbgmgadpjpdcaaGreatDoor

namespace Go.Proofs.YtfbgmgadpjpdcaaGreatDoor
open Go Go.RowKit
set_option maxRecDepth 100000

end Go.Proofs.YtfbgmgadpjpdcaaGreatDoor

namespace Go.Proofs.YtfbgmgadpjpdcaaGreatDoor
open Go Go.RowKit
set_option maxRecDepth 100000

end Go.Proofs.YtfbgmgadpjpdcaaGreatDoor

namespace Go.Proofs.YtfbgmgadpjpdcaaGreatDoor
open Go Go.RowKit
set_option maxRecDepth 100000

structure RefAt (w : World) (lo g : Nat) (v1 v2 v3 : Value) (rows : List RowD) (s : StateD) : Prop where
  size : lo ≤ w.heap.size
  box : Bk w g 31 (ownV s v1 v2 v3)
  held : HeldAt w lo v1 v2 v3 rows s
  gl : lo ≤ g
theorem RefAt.kept {ts : List TypeId} {w W : World} {lo g : Nat} {v1 v2 v3 : Value} {rows : List RowD} {s : StateD} (H : RefAt w lo g v1 v2 v3 rows s) (hk : KeepsT ts w W) (hb : Below lo w W)
    (h1 : 41 ∉ ts) (h2 : 43 ∉ ts) (h3 : 89 ∉ ts) (h4 : 91 ∉ ts) (h6 : 31 ∉ ts) : RefAt W lo g v1 v2 v3 rows s :=
  ⟨Nat.le_trans H.size hb.size, hk _ _ _ h6 H.box, H.held.kept hk h1 h2 h3 h4, H.gl⟩
theorem RefAt.since {w W : World} {lo g : Nat} {v1 v2 v3 : Value} {rows : List RowD} {s : StateD} (H : RefAt w lo g v1 v2 v3 rows s) (hb : Below w.heap.size w W) : RefAt W lo g v1 v2 v3 rows s :=
  H.kept (KeepsT.of_below (ts := []) hb) (hb.mono H.size) (by simp) (by simp) (by simp) (by simp) (by simp)
theorem RefAt.num {w : World} {lo g : Nat} {v1 v2 v3 : Value} {rows : List RowD} {s : StateD} (H : RefAt w lo g v1 v2 v3 rows s) (i : Nat) (u : Value) (a b c d e : Int)
    (hu : (ownV s v1 v2 v3).setIfInBounds i u = ownV ⟨s.ready, s.outs, s.takers, a, b, c, d, e⟩ v1 v2 v3) : RefAt (w.setCell ⟨g, i, none⟩ u) lo g v1 v2 v3 rows ⟨s.ready, s.outs, s.takers, a, b, c, d, e⟩ ∧ KeepsT [31] w (w.setCell ⟨g, i, none⟩ u) ∧ Below lo w (w.setCell ⟨g, i, none⟩ u) := by
  have hk := KeepsT.set H.box (ts := [31]) (by decide) i u
  have hb : Below lo w (w.setCell ⟨g, i, none⟩ u) := (Below.refl _ _).setCell (p := ⟨g, i, none⟩) H.gl u
  refine ⟨⟨Nat.le_trans H.size hb.size, ?_, (H.held.kept hk).nums _ _ _ _ _, H.gl⟩, hk, hb⟩
  rw [← hu]
  exact H.box.set_ i u
theorem RefAt.rowSet {w : World} {lo g gr n C k : Nat} {v2 v3 : Value} {rows : List RowD} {s : StateD} (H : RefAt w lo g (.slice (some ⟨gr, 0, none⟩) n C) v2 v3 rows s) (hn : n = s.ready.length) (ra : Option Addr) (rc : Nat) (ys : List ItemD)
    (hsl : SlT w lo 43 ra (ys.flatMap vItem)) (hc : ys.length ≤ rc) :
    RefAt (w.setCell ⟨gr, k, none⟩ (.slice ra ys.length rc)) lo g (.slice (some ⟨gr, 0, none⟩) n C) v2 v3 (rows.set k ⟨ra, rc, ys⟩) { s with ready := s.ready.set k ys } ∧ KeepsT [41] w (w.setCell ⟨gr, k, none⟩ (.slice ra ys.length rc)) ∧ Below lo w (w.setCell ⟨gr, k, none⟩ (.slice ra ys.length rc)) := by
  obtain ⟨h1, hk⟩ := H.held.rowSet (k := k) hn ra rc ys hsl hc
  have hg : lo ≤ gr := (H.held.ready.lt gr rfl).1
  have hb : Below lo w (w.setCell ⟨gr, k, none⟩ (.slice ra ys.length rc)) := (Below.refl _ _).setCell (p := ⟨gr, k, none⟩) hg _
  exact ⟨⟨Nat.le_trans H.size hb.size, hk _ _ _ (by decide) H.box, h1, H.gl⟩, hk, hb⟩
end Go.Proofs.YtfbgmgadpjpdcaaGreatDoor

namespace Go.Proofs.YtfbgmgadpjpdcaaGreatDoor
open Go Go.RowKit
set_option maxRecDepth 100000

def WaitAt (W : World) (lo : Nat) (al : Option Addr) (L : List ArrivalD) : Prop :=
  Sl W 0 lo al (L.flatMap vArrival) ∨ SlT W lo 76 al (L.flatMap vArrival)
theorem WaitAt.sl {W : World} {lo : Nat} {al : Option Addr} {L : List ArrivalD} (h : WaitAt W lo al L) (hl : lo ≤ W.heap.size) : Sl W 0 W.heap.size al (L.flatMap vArrival) := by
  rcases h with h | h
  · exact h.wider (Nat.le_refl _) hl
  · exact h.sl.wider (Nat.zero_le _) (Nat.le_refl _)
theorem WaitAt.kept {ts : List TypeId} {W W' : World} {lo : Nat} {al : Option Addr} {L : List ArrivalD} (h : WaitAt W lo al L) (hk : KeepsT ts W W') (hb : Below lo W W') (ha : 76 ∉ ts) : WaitAt W' lo al L := by
  rcases h with h | h
  · exact .inl (h.below hb (Nat.le_refl _))
  · exact .inr (h.keep hk ha)
theorem WaitAt.own {W : World} {lo n C : Nat} {al : Option Addr} {L : List ArrivalD} (h : W.ownsRow lo 76 4 (.slice al n C) n (L.flatMap vArrival)) : WaitAt W lo al L := .inr (SlT.of_own h)
end Go.Proofs.YtfbgmgadpjpdcaaGreatDoor
