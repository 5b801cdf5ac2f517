/-
  The wire, read: lists of posts, of queues, of binds.
-/
import Derived.Test.YtapimpmpjighmaaDoorWireB
namespace Go.Proofs.YtapimpmpjighmaaDoor
open Go.RowKit
set_option maxRecDepth 100000

def iterS {α : Type} (f : ByteArray → Option (α × ByteArray)) : Nat → ByteArray → Option (List α × ByteArray)
  | 0, s => some ([], s)
  | n + 1, s => (f s).bind fun x => (iterS f n x.2).map fun y => (x.1 :: y.1, y.2)
def listS {α : Type} (f : ByteArray → Option (α × ByteArray)) (s : ByteArray) : Option (List α × ByteArray) := (numS s).bind fun x => iterS f x.1 x.2

/-- What the reading of a list promises. -/
def LPost {α : Type} (g : Nat) (w : World) (vx : α → List Value) (o : Option (List α × ByteArray)) (e : Ending) (w' : World) : Prop :=
  w.grownBy w' (some g) ∧ match o with
    | some (l, r) => (∃ a c, e = .returned (.slice a l.length c) ∧ l.length ≤ c ∧ Sl w' w.heap.size w'.heap.size a (l.flatMap vx)) ∧ GlassAt w' g r
    | none => e = .panicked [brokenE]
def LRel {α : Type} (f : ByteArray → Option (α × ByteArray)) (vx : α → List Value) (ty : TypeId) (size g n : Nat) (w : World) (s0 : ByteArray) (v i : Value) (wr : World) : Prop :=
  ∃ (j : Nat) (done : List α) (sj : ByteArray), j ≤ n ∧ i = .int .i64 j ∧ done.length = j ∧ wr.ownsRow w.heap.size ty size v j (done.flatMap vx) ∧ iterS f n s0 = (iterS f (n - j) sj).map (fun y => (done ++ y.1, y.2)) ∧ GlassAt wr g sj ∧ w.grownBy wr (some g)

theorem iter_none {α : Type} {f : ByteArray → Option (α × ByteArray)} {n j : Nat} {s0 sj : ByteArray} {done : List α} (hj : j < n) (h : iterS f n s0 = (iterS f (n - j) sj).map (fun y => (done ++ y.1, y.2))) (hf : f sj = none) : iterS f n s0 = none := by
  rw [h, show n - j = (n - (j + 1)) + 1 by omega, iterS, hf]; rfl
theorem iter_some {α : Type} {f : ByteArray → Option (α × ByteArray)} {n j : Nat} {s0 sj r : ByteArray} {done : List α} {x : α} (hj : j < n) (h : iterS f n s0 = (iterS f (n - j) sj).map (fun y => (done ++ y.1, y.2))) (hf : f sj = some (x, r)) :
    iterS f n s0 = (iterS f (n - (j + 1)) r).map (fun y => ((done ++ [x]) ++ y.1, y.2)) := by
  rw [h, show n - j = (n - (j + 1)) + 1 by omega, iterS, hf, Option.bind_some]
  rw [Option.map_map]
  congr 1
  funext y
  simp
theorem iter_end {α : Type} {f : ByteArray → Option (α × ByteArray)} {n : Nat} {s0 sj : ByteArray} {done : List α} (h : iterS f n s0 = (iterS f (n - n) sj).map (fun y => (done ++ y.1, y.2))) : iterS f n s0 = some (done, sj) := by
  rw [h, Nat.sub_self, iterS]; simp
theorem gw_own {a b c : World} {row : Option Nat} {e : TypeId} {size n : Nat} {v : Value} {us : List Value} (h : a.grownBy b row) (hown : b.ownsRow a.heap.size e size v n us) (hg : b.grownBy c v.ownBlock) : a.grownBy c row :=
  ⟨hg.os.trans h.os, hg.tape.trans h.tape, hg.output.trans h.output, Nat.le_trans h.size hg.size, fun k hk hr => (hg.block k (Nat.lt_of_lt_of_le hk h.size) (fun e => by have := (hown.lt k e.symm).1; omega)).trans (h.block k hk hr)⟩
theorem gw_ne {b : World} {B g : Nat} {e : TypeId} {size n : Nat} {v : Value} {us : List Value} (hown : b.ownsRow B e size v n us) (hg : g < B) : v.ownBlock = none ∨ v.ownBlock ≠ some g := by
  right
  intro h
  have := (hown.lt g h).1
  omega
theorem GlassAt.own {b c : World} {B g : Nat} {s : ByteArray} {e : TypeId} {size n : Nat} {v : Value} {us : List Value} (h : GlassAt b g s) (hown : b.ownsRow B e size v n us) (hg : b.grownBy c v.ownBlock) (hlt : g < B) : GlassAt c g s :=
  Bk.grown h hg (fun e => by have := (hown.lt g e.symm).1; omega)

theorem infoPost : (Tryd.prog.info? 81).map (fun i => (i.zero, i.size, i.bytes)) = some (some (.agg #[.string ⟨#[]⟩, .int .i64 0]), 2, 24) := by kernel_rfl

set_option maxHeartbeats 2000000 in
theorem listPost_any (c g : Nat) (s : ByteArray) (w : World) (hc : HoldsG w c g) (hg : GlassAt w g s) :
    Calls Tryd.prog 44 #[.pointer (some ⟨g, 0, none⟩), .func (.func 45) #[] #[.pointer (some ⟨c, 0, none⟩)]] w (LPost g w vPost (listS postS s)) := by
  have h1 := num_any g s w hg
  have HC := Lib.hid hc
  have HG := Lib.hid hg
  have hlt := Bk.lt hg
  clear hc hg
  rcases ho : numS s with _ | ⟨n, r0⟩
  · rw [show listS postS s = none by unfold listS; rw [ho]; rfl]
    rw [ho] at h1
    have H1 := Lib.hid h1; clear h1 ho
    go_enter Tryd.func44, Tryd.ntmps44
    go_wp2_with fail
    refine H1.out.mono ?_
    rintro e w1 ⟨hgr, rfl⟩
    go_wp2_with fail
    exact ⟨rfl, hgr, rfl⟩
  · have hn := (numS_le ho).1
    rw [show listS postS s = iterS postS n r0 by unfold listS; rw [ho]; rfl]
    rw [ho] at h1
    have H1 := Lib.hid h1; clear h1 ho
    go_enter Tryd.func44, Tryd.ntmps44
    go_wp2_with fail
    refine H1.out.mono ?_
    rintro e w1 ⟨hgr, rfl, hg1⟩
    have HGR := Lib.hid hgr
    have HG1 := Lib.hid hg1
    clear hgr hg1 H1
    go_wp2_with fail
    go_loopw [5, 8] (fun v i wr => LRel postS vPost 81 2 g n w r0 v i wr) (fun _ i _ => n - (intOf i).toNat)
    case atStart => exact ⟨0, [], r0, by omega, rfl, rfl, World.ownsRow_nil _ _ _ _, by cases iterS postS n r0 <;> simp, HG1.out, HGR.out⟩
    case round =>
      clear HGR HG1
      obtain ⟨j, done, sj, hj, rfl, hd, hown, hit, hgl, hgr⟩ := hrel
      have HO := Lib.hid hown
      have HIT := Lib.hid hit
      have HGR := Lib.hid hgr
      have HD := Lib.hid hd
      clear hit hgr hd
      by_cases hjl : j < n
      · have h2 := postW_any c g sj wr (HC.out.grown HGR.out) hgl
        clear hgl hown
        rcases hf : postS sj with _ | ⟨x, r⟩
        · have HN := Lib.hid (iter_none hjl HIT.out hf)
          rw [hf] at h2
          have H2 := Lib.hid h2; clear h2 hf
          go_wp2_with fail
          refine H2.out.mono ?_
          rintro e w2 ⟨hgr2, rfl⟩
          go_wp2_with fail
          refine ⟨rfl, ?_⟩
          rw [HN.out]
          exact ⟨gw_trans HGR.out hgr2, rfl⟩
        · have HS := Lib.hid (iter_some hjl HIT.out hf)
          rw [hf] at h2
          have h2' : Calls Tryd.prog 45 #[.pointer (some ⟨c, 0, none⟩)] wr (GPost g wr (fun x : PostD => .agg #[.string x.name, .int .i64 x.kind]) (some (x, r))) := h2
          have H2 := Lib.hid h2'; clear h2 h2' hf
          go_wp2_with fail
          refine H2.out.mono ?_
          rintro e w2 ⟨hgr2, rfl, hg2⟩
          have hown2 := HO.out.kept hgr2 (gw_ne HO.out hlt)
          have HG2 := Lib.hid (gw_trans HGR.out hgr2)
          have HO2 := Lib.hid hown2
          have HL2 := Lib.hid hg2
          have hbase := HG2.out.size
          clear H2 hgr2 hown2 hg2
          go_wp2_with (at_builtin; refine append1 rfl _ _ 22 rfl w.heap.size 81 infoPost Tryd.underlying22 rfl (by decide) (by decide) w2 _ _ _ rfl HO2.out [.string x.name, .int .i64 x.kind] rfl rfl rfl (by simp [Value.oneCell']) (by omega) hbase ?_; intro v3 w3 hown3 hgrow; have HO3 := Lib.hid hown3; have HG3 := Lib.hid (gw_own HG2.out HO2.out hgrow); have HL3 := Lib.hid (HL2.out.own HO2.out hgrow hlt); clear hown3 hgrow)
          exact ⟨⟨j + 1, done ++ [x], r, hjl, by go_num, by rw [List.length_append, HD.out]; rfl, by rw [List.flatMap_append]; simpa [vPost] using HO3.out, HS.out, HL3.out, HG3.out⟩, by simp [intOf]; omega⟩
      · obtain rfl : j = n := by omega
        have HEND := Lib.hid (iter_end HIT.out)
        obtain ⟨a, cc, rfl, hcap⟩ := own_slice hown
        have hsl := Sl.of_own hown
        have HSL := Lib.hid hsl
        have HGL := Lib.hid hgl
        clear hown hsl hgl
        go_wp2_with fail
        go_ret
        unfold LPost
        rw [HEND.out]
        exact ⟨HGR.out, ⟨a, cc, by rw [HD.out]; rfl, by rw [HD.out]; exact hcap, HSL.out⟩, HGL.out⟩

theorem infoQueue : (Tryd.prog.info? 83).map (fun i => (i.zero, i.size, i.bytes)) = some (some (.agg #[.string ⟨#[]⟩, .int .i64 0, .int .i64 0]), 3, 32) := by kernel_rfl

set_option maxHeartbeats 2000000 in
theorem listQueue_any (c g : Nat) (s : ByteArray) (w : World) (hc : HoldsG w c g) (hg : GlassAt w g s) :
    Calls Tryd.prog 48 #[.pointer (some ⟨g, 0, none⟩), .func (.func 49) #[] #[.pointer (some ⟨c, 0, none⟩)]] w (LPost g w vQueue (listS queueS s)) := by
  have h1 := num_any g s w hg
  have HC := Lib.hid hc
  have HG := Lib.hid hg
  have hlt := Bk.lt hg
  clear hc hg
  rcases ho : numS s with _ | ⟨n, r0⟩
  · rw [show listS queueS s = none by unfold listS; rw [ho]; rfl]
    rw [ho] at h1
    have H1 := Lib.hid h1; clear h1 ho
    go_enter Tryd.func48, Tryd.ntmps48
    go_wp2_with fail
    refine H1.out.mono ?_
    rintro e w1 ⟨hgr, rfl⟩
    go_wp2_with fail
    exact ⟨rfl, hgr, rfl⟩
  · have hn := (numS_le ho).1
    rw [show listS queueS s = iterS queueS n r0 by unfold listS; rw [ho]; rfl]
    rw [ho] at h1
    have H1 := Lib.hid h1; clear h1 ho
    go_enter Tryd.func48, Tryd.ntmps48
    go_wp2_with fail
    refine H1.out.mono ?_
    rintro e w1 ⟨hgr, rfl, hg1⟩
    have HGR := Lib.hid hgr
    have HG1 := Lib.hid hg1
    clear hgr hg1 H1
    go_wp2_with fail
    go_loopw [5, 8] (fun v i wr => LRel queueS vQueue 83 3 g n w r0 v i wr) (fun _ i _ => n - (intOf i).toNat)
    case atStart => exact ⟨0, [], r0, by omega, rfl, rfl, World.ownsRow_nil _ _ _ _, by cases iterS queueS n r0 <;> simp, HG1.out, HGR.out⟩
    case round =>
      clear HGR HG1
      obtain ⟨j, done, sj, hj, rfl, hd, hown, hit, hgl, hgr⟩ := hrel
      have HO := Lib.hid hown
      have HIT := Lib.hid hit
      have HGR := Lib.hid hgr
      have HD := Lib.hid hd
      clear hit hgr hd
      by_cases hjl : j < n
      · have h2 := queueW_any c g sj wr (HC.out.grown HGR.out) hgl
        clear hgl hown
        rcases hf : queueS sj with _ | ⟨x, r⟩
        · have HN := Lib.hid (iter_none hjl HIT.out hf)
          rw [hf] at h2
          have H2 := Lib.hid h2; clear h2 hf
          go_wp2_with fail
          refine H2.out.mono ?_
          rintro e w2 ⟨hgr2, rfl⟩
          go_wp2_with fail
          refine ⟨rfl, ?_⟩
          rw [HN.out]
          exact ⟨gw_trans HGR.out hgr2, rfl⟩
        · have HS := Lib.hid (iter_some hjl HIT.out hf)
          rw [hf] at h2
          have h2' : Calls Tryd.prog 49 #[.pointer (some ⟨c, 0, none⟩)] wr (GPost g wr (fun x : QueueD => .agg #[.string x.name, .int .i64 x.limit, .int .i64 x.dead]) (some (x, r))) := h2
          have H2 := Lib.hid h2'; clear h2 h2' hf
          go_wp2_with fail
          refine H2.out.mono ?_
          rintro e w2 ⟨hgr2, rfl, hg2⟩
          have hown2 := HO.out.kept hgr2 (gw_ne HO.out hlt)
          have HG2 := Lib.hid (gw_trans HGR.out hgr2)
          have HO2 := Lib.hid hown2
          have HL2 := Lib.hid hg2
          have hbase := HG2.out.size
          clear H2 hgr2 hown2 hg2
          go_wp2_with (at_builtin; refine append1 rfl _ _ 23 rfl w.heap.size 83 infoQueue Tryd.underlying23 rfl (by decide) (by decide) w2 _ _ _ rfl HO2.out [.string x.name, .int .i64 x.limit, .int .i64 x.dead] rfl rfl rfl (by simp [Value.oneCell']) (by omega) hbase ?_; intro v3 w3 hown3 hgrow; have HO3 := Lib.hid hown3; have HG3 := Lib.hid (gw_own HG2.out HO2.out hgrow); have HL3 := Lib.hid (HL2.out.own HO2.out hgrow hlt); clear hown3 hgrow)
          exact ⟨⟨j + 1, done ++ [x], r, hjl, by go_num, by rw [List.length_append, HD.out]; rfl, by rw [List.flatMap_append]; simpa [vQueue] using HO3.out, HS.out, HL3.out, HG3.out⟩, by simp [intOf]; omega⟩
      · obtain rfl : j = n := by omega
        have HEND := Lib.hid (iter_end HIT.out)
        obtain ⟨a, cc, rfl, hcap⟩ := own_slice hown
        have hsl := Sl.of_own hown
        have HSL := Lib.hid hsl
        have HGL := Lib.hid hgl
        clear hown hsl hgl
        go_wp2_with fail
        go_ret
        unfold LPost
        rw [HEND.out]
        exact ⟨HGR.out, ⟨a, cc, by rw [HD.out]; rfl, by rw [HD.out]; exact hcap, HSL.out⟩, HGL.out⟩

theorem infoBind : (Tryd.prog.info? 64).map (fun i => (i.zero, i.size, i.bytes)) = some (some (.agg #[.int .i64 0, .bool false, .int .i64 0, .string ⟨#[]⟩]), 4, 40) := by kernel_rfl

set_option maxHeartbeats 2000000 in
theorem listBind_any (c g : Nat) (s : ByteArray) (w : World) (hc : HoldsG w c g) (hg : GlassAt w g s) :
    Calls Tryd.prog 50 #[.pointer (some ⟨g, 0, none⟩), .func (.func 51) #[] #[.pointer (some ⟨c, 0, none⟩)]] w (LPost g w vBind (listS bindS s)) := by
  have h1 := num_any g s w hg
  have HC := Lib.hid hc
  have HG := Lib.hid hg
  have hlt := Bk.lt hg
  clear hc hg
  rcases ho : numS s with _ | ⟨n, r0⟩
  · rw [show listS bindS s = none by unfold listS; rw [ho]; rfl]
    rw [ho] at h1
    have H1 := Lib.hid h1; clear h1 ho
    go_enter Tryd.func50, Tryd.ntmps50
    go_wp2_with fail
    refine H1.out.mono ?_
    rintro e w1 ⟨hgr, rfl⟩
    go_wp2_with fail
    exact ⟨rfl, hgr, rfl⟩
  · have hn := (numS_le ho).1
    rw [show listS bindS s = iterS bindS n r0 by unfold listS; rw [ho]; rfl]
    rw [ho] at h1
    have H1 := Lib.hid h1; clear h1 ho
    go_enter Tryd.func50, Tryd.ntmps50
    go_wp2_with fail
    refine H1.out.mono ?_
    rintro e w1 ⟨hgr, rfl, hg1⟩
    have HGR := Lib.hid hgr
    have HG1 := Lib.hid hg1
    clear hgr hg1 H1
    go_wp2_with fail
    go_loopw [5, 8] (fun v i wr => LRel bindS vBind 64 4 g n w r0 v i wr) (fun _ i _ => n - (intOf i).toNat)
    case atStart => exact ⟨0, [], r0, by omega, rfl, rfl, World.ownsRow_nil _ _ _ _, by cases iterS bindS n r0 <;> simp, HG1.out, HGR.out⟩
    case round =>
      clear HGR HG1
      obtain ⟨j, done, sj, hj, rfl, hd, hown, hit, hgl, hgr⟩ := hrel
      have HO := Lib.hid hown
      have HIT := Lib.hid hit
      have HGR := Lib.hid hgr
      have HD := Lib.hid hd
      clear hit hgr hd
      by_cases hjl : j < n
      · have h2 := bindW_any c g sj wr (HC.out.grown HGR.out) hgl
        clear hgl hown
        rcases hf : bindS sj with _ | ⟨x, r⟩
        · have HN := Lib.hid (iter_none hjl HIT.out hf)
          rw [hf] at h2
          have H2 := Lib.hid h2; clear h2 hf
          go_wp2_with fail
          refine H2.out.mono ?_
          rintro e w2 ⟨hgr2, rfl⟩
          go_wp2_with fail
          refine ⟨rfl, ?_⟩
          rw [HN.out]
          exact ⟨gw_trans HGR.out hgr2, rfl⟩
        · have HS := Lib.hid (iter_some hjl HIT.out hf)
          rw [hf] at h2
          have h2' : Calls Tryd.prog 51 #[.pointer (some ⟨c, 0, none⟩)] wr (GPost g wr (fun x : BindD => .agg #[.int .i64 x.src, .bool x.toPost, .int .i64 x.to, .string x.pattern]) (some (x, r))) := h2
          have H2 := Lib.hid h2'; clear h2 h2' hf
          go_wp2_with fail
          refine H2.out.mono ?_
          rintro e w2 ⟨hgr2, rfl, hg2⟩
          have hown2 := HO.out.kept hgr2 (gw_ne HO.out hlt)
          have HG2 := Lib.hid (gw_trans HGR.out hgr2)
          have HO2 := Lib.hid hown2
          have HL2 := Lib.hid hg2
          have hbase := HG2.out.size
          clear H2 hgr2 hown2 hg2
          go_wp2_with (at_builtin; refine append1 rfl _ _ 24 rfl w.heap.size 64 infoBind Tryd.underlying24 rfl (by decide) (by decide) w2 _ _ _ rfl HO2.out [.int .i64 x.src, .bool x.toPost, .int .i64 x.to, .string x.pattern] rfl rfl rfl (by simp [Value.oneCell']) (by omega) hbase ?_; intro v3 w3 hown3 hgrow; have HO3 := Lib.hid hown3; have HG3 := Lib.hid (gw_own HG2.out HO2.out hgrow); have HL3 := Lib.hid (HL2.out.own HO2.out hgrow hlt); clear hown3 hgrow)
          exact ⟨⟨j + 1, done ++ [x], r, hjl, by go_num, by rw [List.length_append, HD.out]; rfl, by rw [List.flatMap_append]; simpa [vBind] using HO3.out, HS.out, HL3.out, HG3.out⟩, by simp [intOf]; omega⟩
      · obtain rfl : j = n := by omega
        have HEND := Lib.hid (iter_end HIT.out)
        obtain ⟨a, cc, rfl, hcap⟩ := own_slice hown
        have hsl := Sl.of_own hown
        have HSL := Lib.hid hsl
        have HGL := Lib.hid hgl
        clear hown hsl hgl
        go_wp2_with fail
        go_ret
        unfold LPost
        rw [HEND.out]
        exact ⟨HGR.out, ⟨a, cc, by rw [HD.out]; rfl, by rw [HD.out]; exact hcap, HSL.out⟩, HGL.out⟩

end Go.Proofs.YtapimpmpjighmaaDoor
