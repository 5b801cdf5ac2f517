/-
  route.posts: the walk.
  route.Of: the walk.
  route.Asked, route.Posts, route.Queues.
  route.Way: what it computes; the roads in memory.
  Parts of a function's code, found by a function; a region that draws its order within a round of a loop.
  The plain law of routes: the posts and the queues to which a key comes. No program in sight.
  SameInts, walked.
  The routes of the office, without the program.
-/
import Derived.Test.YtaanpcjkflhomaaGreatDoorBunN
import Derived.Deep.RegionHeld3
import Derived.Recover
import Derived.Test.YtaanpcjkflhomaaGreatDoorBunF
import Derived.OrdersHeld
import Derived.OrdersIn
import Derived.TacticsIn
import Derived.Deep.QuietTactic
import Derived.BigQuiet
import Derived.Test.YtaanpcjkflhomaaGreatDoorBunD
set_option linter.unusedSimpArgs false
set_option linter.unusedVariables false
namespace Go.Proofs.YtaanpcjkflhomaaGreatDoor
open Go Go.RowKit Go.Shelf Go.Sort
set_option maxRecDepth 100000
attribute [local go_sem] Oper.semAt_some
def RQ0 (Q : Exit → Act → World → Prop) : Exit → Act → World → Prop
 | .panic _,_,_ => False
 | e,a,W => Q e a W
theorem RQ0.normal {Q : Exit → Act → World → Prop} {a : Act} {W : World} (h : Q .normal a W) : RQ0 Q .normal a W := h
theorem region_calm {P : Program} {id : Nat} {ops : Array Oper} {b : Bool} {Q : Exit → Act → World → Prop} {a : Act} {w : World} (h : (Code.region id ops b).wp P (RQ0 Q) a w) : (Code.region id ops b).wp P Q a w :=
 Code.wp_mono (fun e a W h => by cases e <;> first | exact h.elim | exact h) h
theorem PlanAt.keep' {w w' : World} {B : Nat} {a1 a2 a3 : Option Addr} {p : PlanD} (h : PlanAt w 0 B a1 a2 a3 p) (hc : ∀ q : Addr,q.block < B → w'.cell? q = w.cell? q) : PlanAt w' 0 B a1 a2 a3 p := ⟨h.posts.keep hc,h.queues.keep hc,h.binds.keep hc⟩
theorem IntsO.grown' {w w' : World} {base : Nat} {v : Value} {xs : List Int} (h : IntsO w base v xs) (hb : Below w.heap.size w w') : IntsO w' base v xs := by
 refine ⟨h.1,?_⟩
 rcases h.2 with h1 | ⟨g,cap,cur,h1,h2,h3,h4⟩
 ·exact .inl h1
 ·exact .inr ⟨g,cap,cur,h1,h2,(hb.block g (Array.getElem?_eq_some_iff.1 h3).1).trans h3,h4⟩
theorem Bk.row {w w' : World} {g : Nat} {t : TypeId} {cs : Array Value} {row : Option Nat} (h : Bk w g t cs) (hg : w.grownBy w' row) (hr : ∀ r,row = some r → ∃ o : Obj,w.heap[r]? = some o ∧ o.isCells = false) : Bk w' g t cs :=
 h.grown hg fun e => by
  obtain ⟨o,ho,hc⟩ := hr g e.symm
  rw [show w.heap[g]? = _ from h] at ho
  cases ho
  cases hc
theorem IntsO.row {w w' : World} {base : Nat} {v : Value} {xs : List Int} {row : Option Nat} (h : IntsO w base v xs) (hg : w.grownBy w' row) (hr : ∀ r,row = some r → ∃ o : Obj,w.heap[r]? = some o ∧ o.isCells = false) : IntsO w' base v xs := by
 refine ⟨h.1,?_⟩
 rcases h.2 with h1 | ⟨g,cap,cur,h1,h2,h3,h4⟩
 ·exact .inl h1
 ·refine .inr ⟨g,cap,cur,h1,h2,(hg.block g (Array.getElem?_eq_some_iff.1 h3).1 fun e => ?_).trans h3,h4⟩
  obtain ⟨o,ho,hc⟩ := hr g e.symm
  rw [h3] at ho
  cases ho
  cases hc
theorem onTo_len (p : PlanD) (x : Int) (key : ByteArray) : ∀ j,(onTo p x key j).length ≤ j
 | 0 => by simp [onTo]
 | j + 1 => by
  have := onTo_len p x key j
  rw [onTo]
  split
  ·split
   ·simp; omega
   ·omega
  ·omega
theorem onL_len (p : PlanD) (x : Int) (key : ByteArray) : (onL p x key).length ≤ p.binds.length := onTo_len p x key _
def Col (base bo bp B1 : Nat) (Rd : Nat → Prop) (w : World) (P : Array Value) (Ds : List Nat) (xs : List Int) (W : World) : Prop :=
 ∃ v,Bk W bp 26 P ∧ Bk W bo 40 #[v] ∧ IntsO W base v xs ∧ (∀ r,v.ownBlock = some r → ¬ Rd r) ∧ Below base w W ∧ MarksOk base W Ds ∧ B1 ≤ W.heap.size
theorem Col.size {base bo bp B1 : Nat} {Rd : Nat → Prop} {w W : World} {P : Array Value} {Ds : List Nat} {xs : List Int} (h : Col base bo bp B1 Rd w P Ds xs W) : B1 ≤ W.heap.size := by
 obtain ⟨v,_,_,_,_,_,_,h⟩ := h
 exact h
theorem col_row {base bo bp B1 : Nat} {Rd : Nat → Prop} {w W W' : World} {P : Array Value} {Ds : List Nat} {xs : List Int} {row : Option Nat} (h : Col base bo bp B1 Rd w P Ds xs W) (hbB : base ≤ B1) (hD : ∀ D ∈ Ds,D < B1) (hg : W.grownBy W' row)
  (hr : ∀ r,row = some r → B1 ≤ r ∧ ∃ o : Obj,W.heap[r]? = some o ∧ o.isCells = false) : Col base bo bp B1 Rd w P Ds xs W' := by
 obtain ⟨v,h1,h2,h3,h4,h5,h6,h7⟩ := h
 refine ⟨v,h1.row hg fun r e => (hr r e).2,h2.row hg fun r e => (hr r e).2,h3.row hg fun r e => (hr r e).2,h4,h5.grown hg (by omega) (fun r e => Nat.le_trans hbB (hr r e).1),h6.grown hg fun D hD' e => by have := (hr D e.symm).1; have := hD D hD'; omega,Nat.le_trans h7 hg.size⟩
theorem col_own {α : Type} {base bo bp B1 : Nat} {Rd : Nat → Prop} {w : World} {P : Array Value} {Ds : List Nat} (hbB : base ≤ B1) (hD : ∀ D ∈ Ds,D < B1) (f : α → List Int) : OwnFrom B1 (fun s W => Col base bo bp B1 Rd w P Ds (f s) W) :=
 fun s W W' row h hg hr => col_row h hbB hD hg hr
theorem Col.alloc {base bo bp B1 : Nat} {Rd : Nat → Prop} {w W : World} {P : Array Value} {Ds : List Nat} {xs : List Int} (h : Col base bo bp B1 Rd w P Ds xs W) (hbB : base ≤ B1) (o : Obj) : Col base bo bp B1 Rd w P Ds xs (W.alloc o) := by
 obtain ⟨v,h1,h2,h3,h4,h5,h6,h7⟩ := h
 exact ⟨v,h1.alloc o,h2.alloc o,World.ownsRow.alloc h3 o,h4,h5.alloc (by omega) o,h6.below ((Below.refl _ W).alloc (Nat.le_refl _) o) (Nat.le_refl _),by simp; omega⟩
theorem infoInt : (Tryz.prog.info? 3).map (fun i => (i.zero,i.size,i.bytes)) = some (some (.int .i64 0),1,8) := by kernel_rfl
theorem append1_in {P : Program} {F : Fence} {nF : Nat} {ops : Array Oper} {rest : List Oper} {o : Oper} {a : Act} {W : World} {Q : Exit → Act → World → Prop} (hgd : o.guard = none) (s x : Operand) (t : TypeId)
  (ho : o.op = .call { callee := .builtin .append,args := #[s,x],argTypes := #[t,t] })
  (base : Nat) (e : TypeId) {z : Value} {size bytes : Nat} (hinfo : (P.info? e).map (fun i => (i.zero,i.size,i.bytes)) = some (some z,size,bytes)) (ht : P.underlying t = some (.slice e)) (hzs : z.cells.size = size) (hsz : 0 < size) (hb : bytes ≤ 4096)
  (w : World) (v : Value) (n : Nat) (us : List Value) (hs : a.eval s = v) (hown : w.ownsRow base e size v n us)
  (news : List Value) (hW : W = w.alloc (.cells news.toArray e)) (hx : a.eval x = .slice (some ⟨w.heap.size,0,none⟩) 1 1) (hl : news.length = size) (h1 : ∀ u ∈ news,u.oneCell' = true) (hn : n < 4294967296) (hbase : base ≤ w.heap.size)
  (h : ∀ v' w',w'.ownsRow base e size v' (n + 1) (us ++ news) → w.grownBy w' v.ownBlock → (v'.ownBlock = v.ownBlock ∨ v'.ownBlock = some (w.heap.size + 1)) → wpListIn F nF P ops Q rest (a.put o.dst v') w') : wpListIn F nF P ops Q (o :: rest) a W := by
 subst hW
 obtain ⟨i,hi,hz0,hz1,hz2⟩ := info_parts hinfo
 refine wpListIn_append_own_at _ hgd s x t ho base e i z size bytes ht hi hz0 hz1 hz2 hzs hsz v n us hs (hown.alloc _) ⟨w.heap.size,0,none⟩ 1 1 news hx (by simpa using hl) (fun j u hu => ?_) h1 (by unfold maxLen; omega) ?_ (by simp; omega) (fun v' w' h2 h3 _ h4 => h v' w' h2 (grownBy_of_alloc h3) (by simpa using h4))
 ·have : ((⟨w.heap.size,0,none⟩ : Addr).add j) = ⟨w.heap.size,j,none⟩ := by
   unfold Addr.add
   split
   ·simp_all
   ·simp
  rw [this,World.cell?_alloc_at _ _ _ _ rfl]
  simpa using hu
 ·have : (n + 1) * bytes ≤ 4294967296 * 4096 := Nat.mul_le_mul (by omega) hb
  omega
theorem IntsO.ne {W : World} {base g : Nat} {t : TypeId} {cs : Array Value} {v : Value} {xs : List Int} (h : IntsO W base v xs) (hb : Bk W g t cs) (ht : t ≠ 3) : some g ≠ v.ownBlock := by
 rcases h.2 with ⟨rfl,_⟩ | ⟨g2,cap,cur,rfl,_,h3,_⟩
 ·simp [Value.ownBlock]
 ·intro e
  obtain rfl : g = g2 := by simpa [Value.ownBlock] using e
  have := (show W.heap[g]? = _ from hb).symm.trans h3
  simp at this
  exact ht this.2
theorem IntsO.cellsAt {W : World} {base : Nat} {v : Value} {xs : List Int} (h : IntsO W base v xs) (r : Nat) (hr : v.ownBlock = some r) : ∃ o : Obj,W.heap[r]? = some o ∧ o.isCells = true := by
 rcases h.2 with ⟨rfl,_⟩ | ⟨g2,cap,cur,rfl,_,h3,_⟩
 ·simp [Value.ownBlock] at hr
 ·obtain rfl : g2 = r := by simpa [Value.ownBlock] using hr
  exact ⟨_,h3,rfl⟩
theorem Col.app {base bo bp B1 : Nat} {Rd : Nat → Prop} {w W w1 : World} {P : Array Value} {Ds : List Nat} {xs : List Int} {v v' : Value} {x : Int}
  (h1 : Bk W bp 26 P) (h2 : Bk W bo 40 #[v]) (h3 : IntsO W base v xs) (h4 : ∀ r,v.ownBlock = some r → ¬ Rd r) (h5 : Below base w W) (h6 : MarksOk base W Ds) (h7 : B1 ≤ W.heap.size)
  (hRd : ∀ r,Rd r → r < B1) (hbo : ¬ Rd bo) (hbb : base ≤ bo) (hbp : bp ≠ bo) (hBb : base ≤ B1)
  (g1 : IntsO w1 base v' (xs ++ [x])) (g2 : W.grownBy w1 v.ownBlock) (g3 : v'.ownBlock = v.ownBlock ∨ v'.ownBlock = some (W.heap.size + 1)) :
  Bk w1 bo 40 #[v] ∧ Col base bo bp B1 Rd w P Ds (xs ++ [x]) (w1.setCell ⟨bo,0,none⟩ v') ∧ KeepsFrom B1 W (w1.setCell ⟨bo,0,none⟩ v') ∧ KpS Rd W (w1.setCell ⟨bo,0,none⟩ v') := by
 have b2 : Bk w1 bo 40 #[v] := h2.grown g2 (h3.ne h2 (by decide))
 have b1 : Bk w1 bp 26 P := h1.grown g2 (h3.ne h1 (by decide))
 have hset : w1.grownBy (w1.setCell ⟨bo,0,none⟩ v') (some bo) := grownBy_setCell' w1 bo v'
 refine ⟨b2,⟨v',b1.grown hset (by simpa using hbp),?_,?_,?_,?_,?_,?_⟩,?_,?_,?_⟩
 ·exact b2.set_ 0 v'
 ·exact World.ownsRow.kept g1 hset (.inr fun e => g1.ne b2 (by decide) e.symm)
 ·intro r hr hrd
  rcases g3 with e | e
  ·exact h4 r (e ▸ hr) hrd
  ·rw [e] at hr
   cases hr
   have := hRd _ hrd
   omega
 ·exact (below_own h3 g2 h5 (Nat.le_refl _) (by omega)).setCell (p := ⟨bo,0,none⟩) hbb v'
 ·refine (h6.grown g2 fun D hD e => ?_).grown hset fun D hD e => ?_
  ·obtain ⟨o,ho,hc⟩ := h3.cellsAt D e.symm
   rw [(h6.2 D hD).2] at ho
   cases ho
   cases hc
  ·cases e
   have := (h6.2 _ hD).2
   rw [show W.heap[bo]? = _ from h2] at this
   cases this
 ·have := g2.size
  have := hset.size
  omega
 ·refine ((KeepsOthers.of_grownBy g2 fun j o ej hj => ?_).trans (KeepsOthers.setCell _ _ _)).from _
  obtain ⟨o',ho,hc⟩ := h3.cellsAt j ej
  rw [hj] at ho
  cases ho
  exact hc
 ·intro r hrd
  have hlt := hRd r hrd
  have e1 : w1.heap[r]? = W.heap[r]? := g2.block r (by omega) fun e => h4 r e.symm hrd
  exact (hset.block r (by have := g2.size; omega) (fun e => hbo (by cases e; exact hrd))).trans e1
 ·exact Nat.le_trans g2.size hset.size
theorem outAt_pos (p : PlanD) (k : Int) (key : ByteArray) : ∀ j,0 < (outAt p k key j).length
 | 0 => by simp [outAt]
 | j + 1 => by
  have h := outAt_pos p k key j
  rw [outAt]
  split
  ·have := (gather_len (outAt p k key j) (onL p (by assumption) key)).2
   omega
  ·exact h
def PRel (p : PlanD) (k : Nat) (key : ByteArray) (P : Array Value) (w : World) (i : Value) (ds : List Deferred) (wr : World) : Prop :=
 ∃ (j : Nat) (v : Value) (Ds : List Nat),i = .int .i64 (j : Int) ∧ ds = Ds.map mark ∧ j ≤ (outAt p k key j).length ∧
  Bk wr w.heap.size 26 P ∧ Bk wr (w.heap.size + 1 + 1) 40 #[v] ∧ IntsO wr w.heap.size v (outAt p k key j) ∧ Below w.heap.size w wr ∧ MarksOk w.heap.size wr Ds
set_option maxHeartbeats 2000000 in
theorem posts_any (p : PlanD) (k : Nat) (key : ByteArray) (a1 a2 a3 : Option Addr) (c1 c2 c3 B0 : Nat) (w : World) (hk : k < p.posts.length) (hr : PlanRight p) (hkey : key.size ≤ 1048576) (hps : PlanSmall p)
  (hpl : PlanAt w 0 B0 a1 a2 a3 p) (hv : EnvB B0 w) (hB0 : B0 ≤ w.heap.size) :
  Calls Tryz.prog 160 #[.agg #[.slice a1 p.posts.length c1,.slice a2 p.queues.length c2,.slice a3 p.binds.length c3],.int .i64 (k : Int),.string key] w fun e w' =>
   ∃ v,e = .returned v ∧ IntsO w' w.heap.size v (sortI (outs p k key)) ∧ Below w.heap.size w w' := by
 refine (callsIn_wide (n := 4)).1 ?_
 refine callsIn_of_wp_marks Tryz.func160 rfl trivial ?_ rfl
 simp only [Tryz.ntmps160,List.size_toArray,List.length_cons,List.length_nil,Nat.reduceAdd,Nat.reduceSub,Array.replicate_succ,Array.replicate_zero,List.push_toArray,List.append_toArray,List.nil_append,List.cons_append]
 have HB := Lib.hid (And.intro hpl (And.intro hv hB0))
 have HR := Lib.hid hr
 have HKK := Lib.hid hk
 clear hpl hv hB0 hr hk
 refine wpIn_wide.2 ?_
 go_wp2
 refine wp_loop (fun a' wr => ∃ (u8 u10 u13 u14 u15 u16 u17 u18 u19 u20 u21 u22 u23 u24 u25 u26 u27 u28 u29 u30 u31 u32 u33 u34 u35 u36 u37 u38 u39 u40 u41 : Value) (ds : List Deferred),PRel p k key #[.slice a1 p.posts.length c1,.slice a2 p.queues.length c2,.slice a3 p.binds.length c3] w u8 ds wr ∧ a' = ⟨#[.agg #[.slice a1 p.posts.length c1,.slice a2 p.queues.length c2,.slice a3 p.binds.length c3],.int .i64 (k : Int),.string key,.pointer (some ⟨w.heap.size,0,none⟩),undef,undef,.slice none 0 0,.pointer (some ⟨w.heap.size + 1 + 1,0,none⟩),u8,undef,u10,.int .i64 (k : Int),.slice (some ⟨w.heap.size + 1,0,none⟩) 1 1,u13,u14,u15,u16,u17,u18,u19,u20,u21,u22,u23,u24,u25,u26,u27,u28,u29,u30,u31,u32,u33,u34,u35,u36,u37,u38,u39,u40,u41,undef,undef,undef],ds⟩) (fun a' _ => p.posts.length - (intOf (a'.tmps.getD 8 undef)).toNat) ?_ ?_
 ·(repeat apply Exists.intro)
  refine ⟨?_,rfl⟩
  refine ⟨0,_,[],rfl,rfl,Nat.zero_le _,((Bk.new _ _ _).alloc _).alloc _,Bk.new_at _ _ _ (by simp),?_,Own3 w _ _ _,MarksOk.nil _ _⟩
  refine ⟨by simp [outAt],.inr ⟨w.heap.size + 1,1,#[.int .i64 (k : Int)],rfl,by omega,(Bk.new_at _ _ _ (by simp)).alloc _,by simp [outAt],by unfold maxLen; omega,by simp,by simp [outAt]⟩⟩
 ·rintro a' wr ⟨_,u10,u13,u14,u15,u16,u17,u18,u19,u20,u21,u22,u23,u24,u25,u26,u27,u28,u29,u30,u31,u32,u33,u34,u35,u36,u37,u38,u39,u40,u41,ds,⟨j,v,Ds,rfl,rfl,hj,hP,hO,hI,hB,hM⟩,rfl⟩
  have hok := outAt_ok HR.out HKK.out (key := key) j
  have hl := hok.len
  have hp4 := HR.out.posts
  rcases ints_cases hI with ⟨_,h0⟩ | ⟨g,C,rfl⟩
  ·have := outAt_pos p k key j
   rw [h0] at this
   simp at this
  have d0 := hP.cell 0
  have d1 := hP.cell 1
  have d2 := hP.cell 2
  have d3 := hO.cell 0
  simp only [List.getElem?_toArray,List.getElem?_cons_zero,List.getElem?_cons_succ] at d0 d1 d2 d3
  by_cases hlt : j < (outAt p k key j).length
  ·obtain ⟨x,hx,hxp,hxl⟩ : ∃ x : Nat,(outAt p k key j)[j]? = some (x : Int) ∧ x < p.posts.length ∧ outAt p k key (j + 1) = gather (outAt p k key j) (onL p x key) := by
    have h1 := hok.2 _ (List.getElem_mem hlt)
    refine ⟨((outAt p k key j)[j]).toNat,?_,by omega,?_⟩
    ·rw [List.getElem?_eq_getElem hlt]; congr 1; omega
    ·rw [outAt,List.getElem?_eq_getElem hlt]
     simp only
     congr 2
     omega
   have d4 : wr.cell? ⟨g,j,none⟩ = some (.int .i64 (x : Int)) := by
    rw [(own_cell hI j hlt).1,List.getElem?_map,hx]
    rfl
   have HS := Lib.hid (show wr.cell? ⟨w.heap.size,0,none⟩ = some (.slice a1 p.posts.length c1) ∧ wr.cell? ⟨w.heap.size,1,none⟩ = some (.slice a2 p.queues.length c2) ∧ wr.cell? ⟨w.heap.size,2,none⟩ = some (.slice a3 p.binds.length c3) ∧ wr.cell? ⟨w.heap.size + 1 + 1,0,none⟩ = some (.slice (some ⟨g,0,none⟩) (outAt p k key j).length C) ∧ wr.cell? ⟨g,j,none⟩ = some (.int .i64 (x : Int)) from ⟨d0,d1,d2,d3,d4⟩)
   have HF := Lib.hid (And.intro hP (And.intro hO (And.intro hI (And.intro hB hM))))
   have HCUT : Hid (∀ W2,Below wr.heap.size wr W2 → W2.cell? ⟨w.heap.size,0,none⟩ = some (.slice a1 p.posts.length c1) ∧ W2.cell? ⟨w.heap.size,1,none⟩ = some (.slice a2 p.queues.length c2) ∧ W2.cell? ⟨w.heap.size,2,none⟩ = some (.slice a3 p.binds.length c3) ∧ W2.cell? ⟨w.heap.size + 1 + 1,0,none⟩ = some (.slice (some ⟨g,0,none⟩) (outAt p k key j).length C) ∧ W2.cell? ⟨g,j,none⟩ = some (.int .i64 (x : Int))) := fun W2 h => by
    have hgl := World.block_lt_of_cell? _ _ d4
    exact ⟨(h.cell (p := ⟨w.heap.size,0,none⟩) hP.lt).trans d0,(h.cell (p := ⟨w.heap.size,1,none⟩) hP.lt).trans d1,(h.cell (p := ⟨w.heap.size,2,none⟩) hP.lt).trans d2,(h.cell (p := ⟨w.heap.size + 1 + 1,0,none⟩) hO.lt).trans d3,(h.cell (p := ⟨g,j,none⟩) hgl).trans d4⟩
   have HX := Lib.hid hxp
   have HXL := Lib.hid hxl
   have HOK := Lib.hid (And.intro hok (And.intro hl hp4))
   clear hx hxp hxl hok hl hp4 hP hO hI hB hM d4
   go_wp2
   clear d0 d1 d2 d3
   refine region_calm ?_
   refine wp_region_held_drew (S := (fun W => W.cell? ⟨w.heap.size,0,none⟩ = some (.slice a1 p.posts.length c1) ∧ W.cell? ⟨w.heap.size,1,none⟩ = some (.slice a2 p.queues.length c2) ∧ W.cell? ⟨w.heap.size,2,none⟩ = some (.slice a3 p.binds.length c3) ∧ W.cell? ⟨w.heap.size + 1 + 1,0,none⟩ = some (.slice (some ⟨g,0,none⟩) (outAt p k key j).length C) ∧ W.cell? ⟨g,j,none⟩ = some (.int .i64 (x : Int)))) (by kernel_rfl) (by exact HS.out) (fun hHeld => ?_)
   first | (refine wpAnyH_take (i := 0) (v := ?_) rfl (by kernel_rfl) (by kernel_rfl) (by kernel_rfl) (fun _ _ _ h => h) (Or.inl ⟨by rfl,?_⟩) (by assumption) ?_; rotate_left; focus (intro w hSw; (try dsimp only at hSw); go_simp; (all_goals with_reducible rfl); done)) | fail "op 0"
   try simp only [Act.put,zA,zB,zC,zD,zE]
   first | (refine wpAnyH_take (i := 1) (v := ?_) rfl (by kernel_rfl) (by kernel_rfl) (by kernel_rfl) (fun _ _ _ h => h) (Or.inl ⟨by rfl,?_⟩) (by assumption) ?_; rotate_left; focus (intro w hSw; (try dsimp only at hSw); go_simp; (all_goals with_reducible rfl); done)) | fail "op 1"
   try simp only [Act.put,zA,zB,zC,zD,zE,zF]
   first | (refine wpAnyH_take (i := 2) (v := ?_) rfl (by kernel_rfl) (by kernel_rfl) (by kernel_rfl) (fun _ _ _ h => h) (Or.inl ⟨by rfl,?_⟩) (by assumption) ?_; rotate_left; focus (intro w hSw; (try dsimp only at hSw); go_simp; (all_goals with_reducible rfl); done)) | fail "op 2"
   try simp only [Act.put,zA,zB,zC,zD,zE,zF]
   first | (refine wpAnyH_take (i := 3) (v := ?_) rfl (by kernel_rfl) (by kernel_rfl) (by kernel_rfl) (fun _ _ _ h => h) (Or.inl ⟨by rfl,?_⟩) (by assumption) ?_; rotate_left; focus (intro w hSw; (try dsimp only at hSw); go_simp; (all_goals with_reducible rfl); done)) | fail "op 3"
   try simp only [Act.put,zA,zB,zC,zD,zE,zF]
   first | (refine wpAnyH_take (i := 4) (v := ?_) rfl (by kernel_rfl) (by kernel_rfl) (by kernel_rfl) (fun _ _ _ h => h) (Or.inl ⟨by rfl,?_⟩) (by assumption) ?_; rotate_left; focus (intro w hSw; (try dsimp only at hSw); go_simp; (all_goals with_reducible rfl); done)) | fail "op 4"
   try simp only [Act.put,zA,zB,zC,zD,zE,zF]
   first | (refine wpAnyH_take (i := 5) (v := ?_) rfl (by kernel_rfl) (by kernel_rfl) (by kernel_rfl) (fun _ _ _ h => h) (Or.inl ⟨by rfl,?_⟩) (by assumption) ?_; rotate_left; focus (intro w hSw; (try dsimp only at hSw); go_simp; (all_goals with_reducible rfl); done)) | fail "op 5"
   try simp only [Act.put,zA,zB,zC,zD,zE,zF]
   refine wpAnyH_ready (rs := [6]) (by kernel_rfl) (by simp) ?_
   refine AllReadyH.cons rfl (fun K hK => ?_) AllReadyH.nil
   go_simp
   go_at_call 161
   (with_reducible refine (on_any _ _ _ _ _ wr.drew ⟨_,rfl⟩).mono ?_)
   rintro e W2 ⟨rfl,n1,n2,n3,hb⟩
   have hb' : Below wr.heap.size wr W2 := ⟨hb.os,hb.tape,hb.output,hb.size,hb.block⟩
   have HN := Lib.hid (And.intro n1 (And.intro n2 (And.intro n3 hb')))
   clear n1 n2 n3 hb hb'
   refine hK.out _ _ (by exact HCUT.out _ HN.out.2.2.2) (fun hHeld => ?_)
   clear hK K
   try simp only [Act.put,zA,zB,zC,zD,zE,zF]
   refine wpAnyH_done (by kernel_rfl) ?_ _
   refine RQ0.normal ?_
   go_wp2
   have HN2 : Hid (Bk W2 wr.heap.size 26 #[.slice a1 p.posts.length c1,.slice a2 p.queues.length c2,.slice a3 p.binds.length c3] ∧ Bk W2 (wr.heap.size + 1) 3 #[.int .i64 (x : Int)] ∧ Bk W2 (wr.heap.size + 2) 9 #[.string key] ∧ Below wr.heap.size wr W2) := ⟨HN.out.1,HN.out.2.1,HN.out.2.2.1,HN.out.2.2.2⟩
   clear HN
   obtain ⟨Rd,hRd⟩ : ∃ Rd,Rd = OnRd B0 wr.heap.size (wr.heap.size + 1) (wr.heap.size + 2) := ⟨_,rfl⟩
   have HRd : Hid (∀ r,Rd r → r < W2.heap.size) := by
    intro r h
    have h1 := HN2.out.1.lt
    have h2 := HN2.out.2.1.lt
    have h3 := HN2.out.2.2.1.lt
    have h4 := HN2.out.2.2.2.size
    have h5 := HF.out.2.2.2.1.size
    have h6 := HB.out.2.2
    rw [hRd] at h
    unfold OnRd at h
    omega
   have HOld : Hid (∀ r,w.heap.size ≤ r → r < wr.heap.size → ¬ Rd r) := by
    intro r h1 h2 h
    have h6 := HB.out.2.2
    rw [hRd] at h
    unfold OnRd at h
    omega
   have HST := Lib.hid (on_stops 3 (by decide) p x key a1 a2 a3 c1 c2 c3 B0 wr.heap.size (wr.heap.size + 1) (wr.heap.size + 2) W2 HX.out hps hkey HN2.out.1 HN2.out.2.1 HN2.out.2.2.1
    (PlanAt.keep' HB.out.1 fun q hq => (HF.out.2.2.2.1.trans (HN2.out.2.2.2.mono HF.out.2.2.2.1.size)).cell (p := q) (Nat.lt_of_lt_of_le hq HB.out.2.2))
    (HB.out.2.1.keep fun q hq => (HF.out.2.2.2.1.trans (HN2.out.2.2.2.mono HF.out.2.2.2.1.size)).cell (p := q) (Nat.lt_of_lt_of_le hq HB.out.2.2))
    (Nat.le_trans HB.out.2.2 (Nat.le_trans HF.out.2.2.2.1.size HN2.out.2.2.2.size)))
   rw [← hRd] at HST
   have HC0 : Hid (Col w.heap.size (w.heap.size + 1 + 1) w.heap.size W2.heap.size Rd w #[.slice a1 p.posts.length c1,.slice a2 p.queues.length c2,.slice a3 p.binds.length c3] Ds (gather (outAt p k key j) []) W2) := by
    refine ⟨_,HF.out.1.below HN2.out.2.2.2 HF.out.1.lt,HF.out.2.1.below HN2.out.2.2.2 HF.out.2.1.lt,HF.out.2.2.1.grown' HN2.out.2.2.2,fun r hr => ?_,HF.out.2.2.2.1.trans (HN2.out.2.2.2.mono HF.out.2.2.2.1.size),HF.out.2.2.2.2.below HN2.out.2.2.2 (Nat.le_refl _),Nat.le_refl _⟩
    have := World.ownsRow.lt HF.out.2.2.1 r hr
    exact HOld.out r this.1 this.2
   have HDs : Hid (∀ D ∈ Ds,D < W2.heap.size) := fun D hD => Nat.lt_of_lt_of_le (HF.out.2.2.2.2.lt hD) HN2.out.2.2.2.size
   have HBB : Hid (w.heap.size ≤ W2.heap.size) := Nat.le_trans HF.out.2.2.2.1.size HN2.out.2.2.2.size
   have HBO : Hid (¬ Rd (w.heap.size + 1 + 1) ∧ w.heap.size + 1 + 1 < W2.heap.size) := ⟨HOld.out _ (by omega) HF.out.2.1.lt,Nat.lt_of_lt_of_le HF.out.2.1.lt HN2.out.2.2.2.size⟩
   refine (wpIn_wide (n := 4)).1 ?_
   refine wpIn_rangeFunc_ownH rfl (by decide) (gf := 174) (lb := #[.pointer (some ⟨wr.heap.size,0,none⟩),.pointer (some ⟨wr.heap.size + 1,0,none⟩),.pointer (some ⟨wr.heap.size + 2,0,none⟩)]) rfl trivial (enters_of Tryz.func174 (by kernel_rfl) rfl)
    HST.out (fun h k => KpS.trans h k) (fun W l o o' hl _ _ _ => ⟨KpAt.putObj (B := W2.heap.size) HRd.out W l o' hl,by simp⟩) (Below.refl _ _) (fun _ => rfl)
    (fun pre W => Col w.heap.size (w.heap.size + 1 + 1) w.heap.size W2.heap.size Rd w #[.slice a1 p.posts.length c1,.slice a2 p.queues.length c2,.slice a3 p.binds.length c3] Ds (gather (outAt p k key j) pre) W) (fun _ _ _ => False) (col_own HBB.out HDs.out _) (fun _ _ _ _ _ h _ _ => h) HC0.out
    (fun y a' W => ∃ bb,W2.heap.size ≤ bb ∧ Bk W bb 127 #[.int .i64 y.2.src,.bool y.2.toPost,.int .i64 y.2.to,.string y.2.pattern] ∧ a' = { tmps := #[.agg #[.slice a1 p.posts.length c1,.slice a2 p.queues.length c2,.slice a3 p.binds.length c3],.int .i64 (k : Int),.string key,.pointer (some ⟨w.heap.size,0,none⟩),undef,undef,.slice none 0 0,.pointer (some ⟨w.heap.size + 1 + 1,0,none⟩),.int .i64 (j : Int),undef,.pointer (some ⟨bb,0,none⟩),.int .i64 (k : Int),.slice (some ⟨w.heap.size + 1,0,none⟩) 1 1,.int .i64 (j : Int),.slice (some ⟨g,0,none⟩) (outAt p k key j).length C,.int .i64 ((outAt p k key j).length : Int),.bool true,u17,u18,.agg #[.slice a1 p.posts.length c1,.slice a2 p.queues.length c2,.slice a3 p.binds.length c3],.slice (some ⟨g,0,none⟩) (outAt p k key j).length C,.int .i64 (j : Int),.pointer (some ⟨g,j,none⟩),.int .i64 (x : Int),.string key,.func (.func 174) #[] #[.pointer (some ⟨wr.heap.size,0,none⟩),.pointer (some ⟨wr.heap.size + 1,0,none⟩),.pointer (some ⟨wr.heap.size + 2,0,none⟩)],.int .i64 (y.1 : Int),.agg #[.int .i64 y.2.src,.bool y.2.toPost,.int .i64 y.2.to,.string y.2.pattern],u28,u29,u30,u31,u32,u33,u34,u35,u36,u37,u38,u39,u40,u41,undef,undef,undef],defers := [] }) ?ax ?assign ?body ?done ?stop
   case stop =>
    rintro D c pre W _ _ h _
    exact h.elim
   case ax =>
    rintro y a' _ A B row ⟨bb,h1,h2,h3⟩ hg hrow
    exact ⟨bb,h1,h2.row hg (fun r e => (hrow r e).2),h3⟩
   case assign =>
    intro l pre y W K hC hK
    unfold vBind
    gi_wp2
    refine hK _ _ ?_ ?_ ?_ ⟨W.heap.size,hC.size,Bk.new _ _ _,rfl⟩
    ·exact (KeepsOthers.alloc W _).from _
    ·exact ⟨(KpAt.refl _ _).alloc HRd.out hC.size _,by simp⟩
    ·exact hC.alloc HBB.out _
   case body =>
    rintro l pre y a' W hl - hC ⟨bb,hb1,hb2,rfl⟩ hlen
    obtain ⟨v,q1,q2,q3,q4,q5,q6,q7⟩ := hC
    have e0 := hb2.cell 1
    have e1 := hb2.cell 2
    have e2 := q2.cell 0
    simp only [List.getElem?_toArray,List.getElem?_cons_zero,List.getElem?_cons_succ] at e0 e1 e2
    have hg1 := (gather_len (outAt p k key j) pre).1
    have hg2 := (gather_len (outAt p k key j) pre).2
    have hon := onL_len p x key
    have hbn := HR.out.binds
    have hol := HOK.out.2
    have hsn := gather_snoc (outAt p k key j) pre y
    obtain ⟨C2,g2,rfl⟩ : ∃ C2 g2,v = .slice (some ⟨g2,0,none⟩) (gather (outAt p k key j) pre).length C2 := by
     rcases ints_cases q3 with ⟨_,h0⟩ | ⟨g2,C2,h0⟩
     ·rw [h0] at hg2
      simp only [List.length_nil] at hg2
      omega
     ·exact ⟨C2,g2,h0⟩
    cases ht : y.2.toPost
    ·rw [ht] at e0
     have hA : addTo (gather (outAt p k key j) pre) y = gather (outAt p k key j) pre := by simp [addTo,ht]
     have HE := Lib.hid (hsn.trans hA)
     have HQ := Lib.hid (And.intro q1 (And.intro q2 (And.intro q3 (And.intro q4 (And.intro q5 (And.intro q6 q7))))))
     clear ht hA hsn q1 q2 q3 q4 q5 q6 q7 hg1 hg2 hon hbn hol hlen
     gi_wp2
     refine ⟨trivial,?_⟩
     gi_wp2
     refine ⟨KeepsFrom.refl _ _,KpS.refl _ _,?_⟩
     dsimp only
     rw [HE.out]
     exact ⟨_,HQ.out.1,HQ.out.2.1,HQ.out.2.2.1,HQ.out.2.2.2.1,HQ.out.2.2.2.2.1,HQ.out.2.2.2.2.2.1,HQ.out.2.2.2.2.2.2⟩
    ·rw [ht] at e0
     have hct : ∃ b : Bool,b = decide (y.2.to ∈ gather (outAt p k key j) pre) ∧ Calls Tryz.prog 173 #[.slice (some ⟨g2,0,none⟩) (gather (outAt p k key j) pre).length C2,.int .i64 y.2.to] W fun e w' => e = .returned (.bool b) ∧ w' = W := by
      refine ⟨_,rfl,?_⟩
      have := Tryz.slices_Contains_int g2 0 (gather (outAt p k key j) pre).length C2 (gather (outAt p k key j) pre) y.2.to W (Nat.le_refl _) (by omega) (fun i hi => by
       rw [Nat.zero_add,(own_cell q3 i hi).1,List.getElem?_map,List.getElem?_eq_getElem hi,List.getD_eq_getElem?_getD,List.getElem?_eq_getElem hi]
       rfl)
      rw [List.take_length,List.contains_eq_mem] at this
      exact this
     obtain ⟨b,hbd,hct⟩ := hct
     have HCT := Lib.hid hct
     have HQ := Lib.hid (And.intro q1 (And.intro q2 (And.intro q3 (And.intro q4 (And.intro q5 (And.intro q6 q7))))))
     have HLT := Lib.hid (show (gather (outAt p k key j) pre).length < 4294967296 by omega)
     have HTM := Lib.hid ht
     have HSN := Lib.hid hsn
     have HBD := Lib.hid hbd
     clear hct ht hsn hbd q1 q2 q3 q4 q5 q6 q7 hg1 hg2 hon hbn hol hlen
     cases b
     ·have HE : Hid (gather (outAt p k key j) (pre ++ [y]) = gather (outAt p k key j) pre ++ [y.2.to]) := by
       refine HSN.out.trans ?_
       unfold addTo
       rw [if_pos ⟨HTM.out,of_decide_eq_false HBD.out.symm⟩]
      clear HSN HTM HBD
      gi_wp2_with (first | (refine ⟨trivial,?_⟩; gi_at_call 173; refine (CallsIn.inRound l (callsIn_wide.2 HCT.out)).mono ?_; rintro e w' ⟨rfl,hw⟩; (have hw2 := hw.symm); subst hw2) | (gi_at_builtin; refine append1_in rfl _ _ 40 rfl w.heap.size 3 infoInt Tryz.underlying40 rfl (by decide) (by decide) W _ _ _ rfl HQ.out.2.2.1 [.int .i64 y.2.to] rfl rfl rfl (by simp [Value.oneCell']) HLT.out (Nat.le_trans HBB.out HQ.out.2.2.2.2.2.2) ?_; intro v3 w3 hown' hgrow hat; obtain ⟨a3,C3,rfl,_⟩ := own_slice hown'; obtain ⟨m0,m3⟩ := Col.app (x := y.2.to) (Rd := Rd) (B1 := W2.heap.size) HQ.out.1 HQ.out.2.1 HQ.out.2.2.1 HQ.out.2.2.2.1 HQ.out.2.2.2.2.1 HQ.out.2.2.2.2.2.1 HQ.out.2.2.2.2.2.2 HRd.out HBO.out.1 (by omega) (by omega) HBB.out (show IntsO w3 w.heap.size _ (gather (outAt p k key j) pre ++ [y.2.to]) by unfold IntsO; rw [List.length_append,List.map_append]; exact hown') hgrow hat; have m1 := m0.cell 0; have m2 := m0.frozen 0; simp only [List.getElem?_toArray,List.getElem?_cons_zero] at m1; have HAP := Lib.hid m3; clear hown' hgrow hat m0 m3))
      refine ⟨HAP.out.2.1,HAP.out.2.2,?_⟩
      dsimp only
      rw [HE.out]
      exact HAP.out.1
     ·have HE : Hid (gather (outAt p k key j) (pre ++ [y]) = gather (outAt p k key j) pre) := by
       refine HSN.out.trans ?_
       unfold addTo
       rw [if_neg fun h => h.2 (of_decide_eq_true HBD.out.symm)]
      clear HSN HTM HBD
      gi_wp2_with (refine ⟨trivial,?_⟩; gi_at_call 173; refine (CallsIn.inRound l (callsIn_wide.2 HCT.out)).mono ?_; rintro e w' ⟨rfl,hw⟩; (have hw2 := hw.symm); subst hw2)
      refine ⟨KeepsFrom.refl _ _,KpS.refl _ _,?_⟩
      dsimp only
      rw [HE.out]
      exact ⟨_,HQ.out.1,HQ.out.2.1,HQ.out.2.2.1,HQ.out.2.2.2.1,HQ.out.2.2.2.2.1,HQ.out.2.2.2.2.2.1,HQ.out.2.2.2.2.2.2⟩
   case done =>
    rintro D ys W hD rfl hC hDe
    obtain ⟨v,q1,q2,q3,q4,q5,q6,q7⟩ := hC
    have HQ := Lib.hid (And.intro q1 (And.intro q2 (And.intro q3 (And.intro q4 (And.intro q5 (And.intro q6 q7))))))
    have HDE := Lib.hid hDe
    have HDD := Lib.hid hD
    have hol := HOK.out.2
    clear q1 q2 q3 q4 q5 q6 q7 hDe hD
    go_wp2
    refine ⟨?_,?_⟩
    ·(repeat apply Exists.intro)
     refine ⟨?_,rfl⟩
     refine ⟨j + 1,v,D :: Ds,by go_num,rfl,?_,HQ.out.1,HQ.out.2.1,by rw [HXL.out]; exact HQ.out.2.2.1,HQ.out.2.2.2.2.1,?_⟩
     ·have := (gather_len (outAt p k key j) (onL p x key)).2
      rw [HXL.out]
      omega
     ·refine HQ.out.2.2.2.2.2.1.cons ?_ ?_ HDE.out
      ·have := HBO.out.2
       have := HDD.out
       omega
      ·intro h
       have := HDs.out D h
       have := HDD.out
       omega
    ·have := HOK.out.2.1
     simp [intOf]
     omega
  ·have he := outs_eq (show (outAt p k key j).length ≤ j by omega) (show j ≤ p.posts.length by omega)
   have HE := Lib.hid he
   have HF := Lib.hid (And.intro hP (And.intro hO (And.intro hI (And.intro hB hM))))
   have HSO := Lib.hid (sort_own w.heap.size _ _ wr hI (by omega))
   clear he hok hl hp4 hP hO hI hB hM
   go_wp2_with (go_at_call 162; refine HSO.out.mono ?_; rintro e W2 ⟨rfl,n1,n2⟩; have n3 : Bk W2 (w.heap.size + 1 + 1) 40 _ := HF.out.2.1.grown n2 (HF.out.2.2.1.ne HF.out.2.1 (by decide)); have n4 := n3.cell 0; simp only [List.getElem?_toArray,List.getElem?_cons_zero] at n4; have HN := Lib.hid (And.intro n1 n2); clear n1 n2 n3)
   refine leaves_marks Ds W2 (HF.out.2.2.2.2.grown HN.out.2 fun D hD e => ?_) fun W3 hs => ⟨_,results_tmp rfl _ _ _,_,rfl,?_,?_⟩
   ·obtain ⟨o,ho,hc⟩ := HF.out.2.2.1.cellsAt D e.symm
    rw [(HF.out.2.2.2.2.2 D hD).2] at ho
    cases ho
    cases hc
   ·rw [HE.out]
    exact hs.own HN.out.1
   ·exact (below_own HF.out.2.2.1 HN.out.2 HF.out.2.2.2.1 (Nat.le_refl _) HF.out.2.2.2.1.size).trans hs.below
open Go Go.RowKit Go.Shelf Go.Sort
set_option maxRecDepth 100000
attribute [local go_sem] Oper.semAt_some
def queueTo (out : List Int) (y : Nat × BindD) : List Int := if y.2.toPost = true then out else out ++ [y.2.to]
def collect (out : List Int) (bs : List (Nat × BindD)) : List Int := bs.foldl queueTo out
theorem collect_snoc (out : List Int) (bs : List (Nat × BindD)) (y : Nat × BindD) : collect out (bs ++ [y]) = queueTo (collect out bs) y := by simp [collect,List.foldl_append]
def offAt (p : PlanD) (key : ByteArray) (ps : List Int) : Nat → List Int
 | 0 => []
 | j + 1 => match ps[j]? with
  | some x => collect (offAt p key ps j) (onL p x key)
  | none => offAt p key ps j
def ofL (p : PlanD) (k : Int) (key : ByteArray) : List Int := Lib.compact (sortI (offAt p key (sortI (outs p k key)) (sortI (outs p k key)).length))
theorem collect_len (out : List Int) (bs : List (Nat × BindD)) : (collect out bs).length ≤ out.length + bs.length := by
 induction bs generalizing out with
 | nil => simp [collect]
 | cons y bs ih =>
  have h1 := ih (queueTo out y)
  have h2 : (queueTo out y).length ≤ out.length + 1 := by unfold queueTo; split <;> simp
  simp only [collect,List.foldl_cons,List.length_cons] at *
  omega
theorem offAt_len (p : PlanD) (key : ByteArray) (ps : List Int) : ∀ j,(offAt p key ps j).length ≤ j * p.binds.length
 | 0 => by simp [offAt]
 | j + 1 => by
  have h := offAt_len p key ps j
  rw [offAt,Nat.succ_mul]
  split
  ·rename_i x _
   have h1 := collect_len (offAt p key ps j) (onL p x key)
   have h2 := onL_len p x key
   omega
  ·omega
theorem sortI_mem {zs : List Int} {x : Int} : x ∈ sortI zs ↔ x ∈ zs := List.mem_mergeSort
def ORel (p : PlanD) (key : ByteArray) (P : Array Value) (ps : List Int) (w W0 : World) (vp : Value) (i : Value) (ds : List Deferred) (wr : World) : Prop :=
 ∃ (j : Nat) (v : Value) (Ds : List Nat),i = .int .i64 (j : Int) ∧ ds = Ds.map mark ∧ j ≤ ps.length ∧
  Bk wr w.heap.size 26 P ∧ Bk wr (w.heap.size + 1) 40 #[v] ∧ IntsO wr w.heap.size v (offAt p key ps j) ∧ Below w.heap.size w wr ∧ MarksOk w.heap.size wr Ds ∧
  IntsO wr w.heap.size vp ps ∧ (∀ r,v.ownBlock = some r → vp.ownBlock ≠ some r) ∧ W0.heap.size ≤ wr.heap.size
set_option maxHeartbeats 2000000 in
theorem Of_walk (p : PlanD) (k : Nat) (key : ByteArray) (a1 a2 a3 : Option Addr) (c1 c2 c3 B0 : Nat) (w : World) (hk : k < p.posts.length) (hr : PlanRight p) (hkey : key.size ≤ 1048576) (hps : PlanSmall p)
  (hpl : PlanAt w 0 B0 a1 a2 a3 p) (hv : EnvB B0 w) (hB0 : B0 ≤ w.heap.size) :
  Calls Tryz.prog 138 #[.agg #[.slice a1 p.posts.length c1,.slice a2 p.queues.length c2,.slice a3 p.binds.length c3],.int .i64 (k : Int),.string key] w fun e w' =>
   ∃ v,e = .returned v ∧ IntsO w' w.heap.size v (ofL p k key) ∧ Below w.heap.size w w' := by
 refine (callsIn_wide (n := 4)).1 ?_
 refine callsIn_of_wp_marks Tryz.func138 rfl trivial ?_ rfl
 simp only [Tryz.ntmps138,List.size_toArray,List.length_cons,List.length_nil,Nat.reduceAdd,Nat.reduceSub,Array.replicate_succ,Array.replicate_zero,List.push_toArray,List.append_toArray,List.nil_append,List.cons_append]
 have HB := Lib.hid (And.intro hpl (And.intro hv hB0))
 have HR := Lib.hid hr
 have HKK := Lib.hid hk
 have hposts : Hid (∀ W,Below w.heap.size w W → Calls Tryz.prog 160 #[.agg #[.slice a1 p.posts.length c1,.slice a2 p.queues.length c2,.slice a3 p.binds.length c3],.int .i64 (k : Int),.string key] W fun e w' =>
   ∃ v,e = .returned v ∧ IntsO w' W.heap.size v (sortI (outs p k key)) ∧ Below W.heap.size W w') := fun W hW =>
  posts_any p k key a1 a2 a3 c1 c2 c3 B0 W hk hr hkey hps (PlanAt.keep' hpl fun q hq => hW.cell (p := q) (Nat.lt_of_lt_of_le hq hB0)) (hv.keep fun q hq => hW.cell (p := q) (Nat.lt_of_lt_of_le hq hB0)) (Nat.le_trans hB0 hW.size)
 clear hpl hv hB0 hr hk
 refine wpIn_wide.2 ?_
 obtain ⟨W1,hW1⟩ : ∃ W1,(w.alloc (.cells #[.slice a1 p.posts.length c1,.slice a2 p.queues.length c2,.slice a3 p.binds.length c3] 26)).alloc (.cells #[.slice none 0 0] 40) = W1 := ⟨_,rfl⟩
 have k1 : Bk W1 w.heap.size 26 #[.slice a1 p.posts.length c1,.slice a2 p.queues.length c2,.slice a3 p.binds.length c3] := by rw [← hW1]; exact (Bk.new _ _ _).alloc _
 have k2 : Bk W1 (w.heap.size + 1) 40 #[.slice none 0 0] := by rw [← hW1]; exact Bk.new_at _ _ _ (by simp)
 have k3 : Below w.heap.size w W1 := by rw [← hW1]; exact ((Below.refl _ w).alloc (Nat.le_refl _) _).alloc (by simp) _
 have k4 : w.heap.size + 2 ≤ W1.heap.size := by rw [← hW1]; simp
 have HK1 := Lib.hid (And.intro k1 (And.intro k2 (And.intro k3 k4)))
 have m0 := k1.cell 0
 have m1 := k1.cell 1
 have m2 := k1.cell 2
 simp only [List.getElem?_toArray,List.getElem?_cons_zero,List.getElem?_cons_succ] at m0 m1 m2
 clear k1 k2 k3 k4
 go_wp2_with (go_at_call 160; go_loud (refine (hposts.out W1 HK1.out.2.2.1).mono ?_; rintro e W0 ⟨vp,rfl,n1,n2⟩; obtain ⟨ap,cp,rfl,_⟩ := own_slice n1; have HN := Lib.hid (And.intro n1 n2); clear n1 n2))
 clear hW1 m0 m1 m2
 generalize hnp : (sortI (outs p k key)).length = np at *
 refine wp_loop (fun a' wr => ∃ (u9 u11 u17 u18 u19 u20 u21 u22 u23 u24 u25 u26 u27 u28 u29 u30 u31 u32 u33 u34 u35 : Value) (ds : List Deferred),ORel p key #[.slice a1 p.posts.length c1,.slice a2 p.queues.length c2,.slice a3 p.binds.length c3] (sortI (outs p k key)) w W0 (.slice ap np cp) u17 ds wr ∧ a' = ⟨#[.agg #[.slice a1 p.posts.length c1,.slice a2 p.queues.length c2,.slice a3 p.binds.length c3],.int .i64 (k : Int),.string key,.pointer (some ⟨w.heap.size,0,none⟩),undef,undef,.slice none 0 0,.pointer (some ⟨w.heap.size + 1,0,none⟩),undef,u9,undef,u11,.agg #[.slice a1 p.posts.length c1,.slice a2 p.queues.length c2,.slice a3 p.binds.length c3],.int .i64 (k : Int),.string key,.slice ap np cp,.int .i64 (np : Int),u17,u18,u19,u20,u21,u22,u23,u24,u25,u26,u27,u28,u29,u30,u31,u32,u33,u34,u35,undef,undef,undef,undef],ds⟩) (fun a' _ => np - (intOf (a'.tmps.getD 17 undef)).toNat) ?_ ?_
 ·(repeat apply Exists.intro)
  refine ⟨?_,rfl⟩
  have hz := HK1.out.2.2.2
  have hn1 : IntsO W0 w.heap.size (.slice ap np cp) (sortI (outs p k key)) := by
   obtain ⟨q1,q2⟩ := HN.out.1
   refine ⟨q1,?_⟩
   rcases q2 with q2 | ⟨g,cap,cur,r1,r2,r3⟩
   ·exact .inl q2
   ·exact .inr ⟨g,cap,cur,r1,by omega,r3⟩
  refine ⟨0,.slice none 0 0,[],rfl,rfl,Nat.zero_le _,HK1.out.1.below HN.out.2 HK1.out.1.lt,HK1.out.2.1.below HN.out.2 HK1.out.2.1.lt,World.ownsRow_nil _ _ _ _,HK1.out.2.2.1.trans (HN.out.2.mono HK1.out.2.2.1.size),MarksOk.nil _ _,hn1,(fun r h => by cases h),Nat.le_refl _⟩
 ·rintro a' wr ⟨u9,u11,_,u18,u19,u20,u21,u22,u23,u24,u25,u26,u27,u28,u29,u30,u31,u32,u33,u34,u35,ds,⟨j,v,Ds,rfl,rfl,hj,hP,hO,hI,hB,hM,hVP,hne,hsz⟩,rfl⟩
  have hok := outAt_ok HR.out HKK.out (key := key) p.posts.length
  have hl := hok.len
  have hp4 := HR.out.posts
  have hb10 := HR.out.binds
  have hsl := sortI_len (outs p k key)
  have hol := offAt_len p key (sortI (outs p k key)) j
  have hoo : (outs p k key).length ≤ p.posts.length := hl
  have hj4 : j * p.binds.length ≤ 4 * 10 := Nat.mul_le_mul (by omega) hb10
  have d0 := hP.cell 0
  have d1 := hP.cell 1
  have d2 := hP.cell 2
  simp only [List.getElem?_toArray,List.getElem?_cons_zero,List.getElem?_cons_succ] at d0 d1 d2
  by_cases hlt : j < np
  ·obtain ⟨x,hx,hxp,hxl⟩ : ∃ x : Nat,(sortI (outs p k key))[j]? = some (x : Int) ∧ x < p.posts.length ∧ offAt p key (sortI (outs p k key)) (j + 1) = collect (offAt p key (sortI (outs p k key)) j) (onL p x key) := by
    have hlt2 : j < (sortI (outs p k key)).length := by omega
    have h1 := hok.2 _ (sortI_mem.1 (List.getElem_mem hlt2))
    refine ⟨((sortI (outs p k key))[j]).toNat,?_,by omega,?_⟩
    ·rw [List.getElem?_eq_getElem hlt2]; congr 1; omega
    ·rw [offAt,List.getElem?_eq_getElem hlt2]
     simp only
     congr 2
     omega
   obtain ⟨gp,rfl⟩ : ∃ gp,ap = some ⟨gp,0,none⟩ := by
    rcases ints_cases hVP with ⟨h0,h1⟩ | ⟨gp,C,h0⟩
    ·rw [h1] at hnp
     simp at hnp
     omega
    ·cases h0
     exact ⟨gp,rfl⟩
   have d4 : wr.cell? ⟨gp,j,none⟩ = some (.int .i64 (x : Int)) := by
    have h1 := hVP
    unfold IntsO at h1
    rw [hnp] at h1
    rw [(own_cell h1 j hlt).1,List.getElem?_map,hx]
    rfl
   have HF := Lib.hid (And.intro hP (And.intro hO (And.intro hI (And.intro hB (And.intro hM (And.intro hVP (And.intro hne hsz)))))))
   have HX := Lib.hid hxp
   have HXL := Lib.hid hxl
   have HOL : Hid ((offAt p key (sortI (outs p k key)) j).length ≤ 40 ∧ np ≤ 4) := ⟨by omega,by omega⟩
   have hnp4 : np ≤ 4 := by omega
   clear hx hxp hxl hok hl hp4 hP hO hI hB hM hVP hne hsz hsl hol hoo hj4 hb10
   go_wp2_with (go_at_call 161; (with_reducible refine (on_any _ _ _ _ _ wr ⟨_,rfl⟩).mono ?_); rintro e W2 ⟨rfl,n1,n2,n3,hb⟩; have HN2 := Lib.hid (And.intro n1 (And.intro n2 (And.intro n3 hb))); clear n1 n2 n3 hb)
   clear d0 d1 d2 d4
   obtain ⟨Rd,hRd⟩ : ∃ Rd,Rd = fun r => OnRd B0 wr.heap.size (wr.heap.size + 1) (wr.heap.size + 2) r ∨ r = gp := ⟨_,rfl⟩
   have hgp : w.heap.size ≤ gp ∧ gp < wr.heap.size := World.ownsRow.lt HF.out.2.2.2.2.2.1 gp rfl
   have HRd : Hid (∀ r,Rd r → r < W2.heap.size) := by
    intro r h
    have h1 := HN2.out.1.lt
    have h2 := HN2.out.2.1.lt
    have h3 := HN2.out.2.2.1.lt
    have h4 := HN2.out.2.2.2.size
    have h5 := HF.out.2.2.2.1.size
    have h6 := HB.out.2.2
    rw [hRd] at h
    simp only [OnRd] at h
    omega
   have HOld : Hid (∀ r,w.heap.size ≤ r → r < wr.heap.size → r ≠ gp → ¬ Rd r) := by
    intro r h1 h2 h3 h
    have h6 := HB.out.2.2
    rw [hRd] at h
    simp only [OnRd] at h
    omega
   have HON : Hid (∀ A B,KpS Rd A B → KpS (OnRd B0 wr.heap.size (wr.heap.size + 1) (wr.heap.size + 2)) A B) := fun A B h => ⟨fun r hr => h.1 r (by rw [hRd]; exact .inl hr),h.2⟩
   have HGP : Hid (Rd gp ∧ gp < wr.heap.size) := ⟨by rw [hRd]; exact .inr rfl,hgp.2⟩
   have HST := Lib.hid (on_stops 3 (by decide) p x key a1 a2 a3 c1 c2 c3 B0 wr.heap.size (wr.heap.size + 1) (wr.heap.size + 2) W2 HX.out hps hkey HN2.out.1 HN2.out.2.1 HN2.out.2.2.1
    (PlanAt.keep' HB.out.1 fun q hq => (HF.out.2.2.2.1.trans (HN2.out.2.2.2.mono HF.out.2.2.2.1.size)).cell (p := q) (Nat.lt_of_lt_of_le hq HB.out.2.2))
    (HB.out.2.1.keep fun q hq => (HF.out.2.2.2.1.trans (HN2.out.2.2.2.mono HF.out.2.2.2.1.size)).cell (p := q) (Nat.lt_of_lt_of_le hq HB.out.2.2))
    (Nat.le_trans HB.out.2.2 (Nat.le_trans HF.out.2.2.2.1.size HN2.out.2.2.2.size)))
   have HBO : Hid (¬ Rd (w.heap.size + 1) ∧ w.heap.size + 1 < W2.heap.size) := ⟨HOld.out _ (by omega) HF.out.2.1.lt (fun e => by
     have h1 := HF.out.2.1
     rw [e] at h1
     exact HF.out.2.2.2.2.2.1.ne h1 (by decide) rfl),Nat.lt_of_lt_of_le HF.out.2.1.lt HN2.out.2.2.2.size⟩
   clear hRd hgp
   have HC0 : Hid (Col w.heap.size (w.heap.size + 1) w.heap.size W2.heap.size Rd w #[.slice a1 p.posts.length c1,.slice a2 p.queues.length c2,.slice a3 p.binds.length c3] Ds (collect (offAt p key (sortI (outs p k key)) j) []) W2 ∧ KpAt Rd W2 W2) := by
    refine ⟨⟨_,HF.out.1.below HN2.out.2.2.2 HF.out.1.lt,HF.out.2.1.below HN2.out.2.2.2 HF.out.2.1.lt,HF.out.2.2.1.grown' HN2.out.2.2.2,fun r hr => ?_,HF.out.2.2.2.1.trans (HN2.out.2.2.2.mono HF.out.2.2.2.1.size),HF.out.2.2.2.2.1.below HN2.out.2.2.2 (Nat.le_refl _),Nat.le_refl _⟩,KpAt.refl _ _⟩
    have := World.ownsRow.lt HF.out.2.2.1 r hr
    exact HOld.out r this.1 this.2 (fun e => HF.out.2.2.2.2.2.2.1 r hr (by rw [e]; rfl))
   have HDs : Hid (∀ D ∈ Ds,D < W2.heap.size) := fun D hD => Nat.lt_of_lt_of_le (HF.out.2.2.2.2.1.lt hD) HN2.out.2.2.2.size
   have HBB : Hid (w.heap.size ≤ W2.heap.size) := Nat.le_trans HF.out.2.2.2.1.size HN2.out.2.2.2.size
   refine (wpIn_wide (n := 4)).1 ?_
   refine wpIn_rangeFunc_ownH rfl (by decide) (gf := 174) (lb := #[.pointer (some ⟨wr.heap.size,0,none⟩),.pointer (some ⟨wr.heap.size + 1,0,none⟩),.pointer (some ⟨wr.heap.size + 2,0,none⟩)]) rfl trivial (enters_of Tryz.func174 (by kernel_rfl) rfl)
    HST.out (fun h k => KpS.trans h k) (fun W l o o' hl _ _ _ => HON.out _ _ ⟨KpAt.putObj (B := W2.heap.size) HRd.out W l o' hl,by simp⟩) (Below.refl _ _) (fun _ => rfl)
    (fun pre W => Col w.heap.size (w.heap.size + 1) w.heap.size W2.heap.size Rd w #[.slice a1 p.posts.length c1,.slice a2 p.queues.length c2,.slice a3 p.binds.length c3] Ds (collect (offAt p key (sortI (outs p k key)) j) pre) W ∧ KpAt Rd W2 W) (fun _ _ _ => False)
    (fun pre A B row h hg hr => ⟨col_row h.1 HBB.out HDs.out hg hr,fun r hrd => (hg.block r (by have := HRd.out r hrd; have := h.1.size; omega) (fun e => by have := HRd.out r hrd; have := (hr r e.symm).1; omega)).trans (h.2 r hrd)⟩) (fun _ _ _ _ _ h _ _ => h) HC0.out
    (fun y a' W => ∃ bb,W2.heap.size ≤ bb ∧ Bk W bb 127 #[.int .i64 y.2.src,.bool y.2.toPost,.int .i64 y.2.to,.string y.2.pattern] ∧ a' = { tmps := #[.agg #[.slice a1 p.posts.length c1,.slice a2 p.queues.length c2,.slice a3 p.binds.length c3],.int .i64 (k : Int),.string key,.pointer (some ⟨w.heap.size,0,none⟩),undef,undef,.slice none 0 0,.pointer (some ⟨w.heap.size + 1,0,none⟩),undef,.int .i64 (x : Int),undef,.pointer (some ⟨bb,0,none⟩),.agg #[.slice a1 p.posts.length c1,.slice a2 p.queues.length c2,.slice a3 p.binds.length c3],.int .i64 (k : Int),.string key,.slice (some ⟨gp,0,none⟩) np cp,.int .i64 (np : Int),.int .i64 (j : Int),.bool true,.pointer (some ⟨gp,j,none⟩),.int .i64 (x : Int),.agg #[.slice a1 p.posts.length c1,.slice a2 p.queues.length c2,.slice a3 p.binds.length c3],.int .i64 (x : Int),.string key,.func (.func 174) #[] #[.pointer (some ⟨wr.heap.size,0,none⟩),.pointer (some ⟨wr.heap.size + 1,0,none⟩),.pointer (some ⟨wr.heap.size + 2,0,none⟩)],.int .i64 (y.1 : Int),.agg #[.int .i64 y.2.src,.bool y.2.toPost,.int .i64 y.2.to,.string y.2.pattern],u27,u28,u29,u30,u31,u32,u33,u34,u35,undef,undef,undef,undef],defers := [] }) ?ax ?assign ?body ?done ?stop
   case stop =>
    rintro D c pre W _ _ h _
    exact h.elim
   case ax =>
    rintro y a' _ A B row ⟨bb,h1,h2,h3⟩ hg hrow
    exact ⟨bb,h1,h2.row hg (fun r e => (hrow r e).2),h3⟩
   case assign =>
    intro l pre y W K hC hK
    unfold vBind
    gi_wp2
    refine hK _ _ ?_ ?_ ?_ ⟨W.heap.size,hC.1.size,Bk.new _ _ _,rfl⟩
    ·exact (KeepsOthers.alloc W _).from _
    ·exact HON.out _ _ ⟨(KpAt.refl _ _).alloc HRd.out hC.1.size _,by simp⟩
    ·exact ⟨hC.1.alloc HBB.out _,hC.2.alloc HRd.out hC.1.size _⟩
   case body =>
    rintro l pre y a' W hl - ⟨hC,hKP⟩ ⟨bb,hb1,hb2,rfl⟩ hlen
    obtain ⟨v,q1,q2,q3,q4,q5,q6,q7⟩ := hC
    obtain ⟨av,cv,rfl,_⟩ := own_slice q3
    have e0 := hb2.cell 1
    have e1 := hb2.cell 2
    have e2 := q2.cell 0
    simp only [List.getElem?_toArray,List.getElem?_cons_zero,List.getElem?_cons_succ] at e0 e1 e2
    have hg1 := collect_len (offAt p key (sortI (outs p k key)) j) pre
    have hon := onL_len p x key
    have hbn := HR.out.binds
    have hol := HOL.out.1
    have hsn := collect_snoc (offAt p key (sortI (outs p k key)) j) pre y
    have HLT := Lib.hid (show (collect (offAt p key (sortI (outs p k key)) j) pre).length < 4294967296 by omega)
    have HQ := Lib.hid (And.intro q1 (And.intro q2 (And.intro q3 (And.intro q4 (And.intro q5 (And.intro q6 q7))))))
    have HKP := Lib.hid hKP
    cases ht : y.2.toPost
    ·rw [ht] at e0
     have hA : queueTo (collect (offAt p key (sortI (outs p k key)) j) pre) y = collect (offAt p key (sortI (outs p k key)) j) pre ++ [y.2.to] := by simp [queueTo,ht]
     have HE := Lib.hid (hsn.trans hA)
     clear ht hA hsn q1 q2 q3 q4 q5 q6 q7 hg1 hon hbn hol hlen hKP
     gi_wp2_with (gi_at_builtin; refine append1_in rfl _ _ 40 rfl w.heap.size 3 infoInt Tryz.underlying40 rfl (by decide) (by decide) W _ _ _ rfl HQ.out.2.2.1 [.int .i64 y.2.to] rfl rfl rfl (by simp [Value.oneCell']) HLT.out (Nat.le_trans HBB.out HQ.out.2.2.2.2.2.2) ?_; intro v3 w3 hown' hgrow hat; obtain ⟨a3,C3,rfl,_⟩ := own_slice hown'; obtain ⟨m0,m3⟩ := Col.app (x := y.2.to) (Rd := Rd) (B1 := W2.heap.size) HQ.out.1 HQ.out.2.1 HQ.out.2.2.1 HQ.out.2.2.2.1 HQ.out.2.2.2.2.1 HQ.out.2.2.2.2.2.1 HQ.out.2.2.2.2.2.2 HRd.out HBO.out.1 (by omega) (by omega) HBB.out (show IntsO w3 w.heap.size _ (collect (offAt p key (sortI (outs p k key)) j) pre ++ [y.2.to]) by unfold IntsO; rw [List.length_append,List.map_append]; exact hown') hgrow hat; have m1 := m0.cell 0; have m2 := m0.frozen 0; simp only [List.getElem?_toArray,List.getElem?_cons_zero] at m1; have HAP := Lib.hid m3; clear hown' hgrow hat m0 m3)
     refine ⟨HAP.out.2.1,HON.out _ _ HAP.out.2.2,?_,HKP.out.trans HAP.out.2.2.1⟩
     rw [HE.out]
     exact HAP.out.1
    ·rw [ht] at e0
     have hA : queueTo (collect (offAt p key (sortI (outs p k key)) j) pre) y = collect (offAt p key (sortI (outs p k key)) j) pre := by simp [queueTo,ht]
     have HE := Lib.hid (hsn.trans hA)
     clear ht hA hsn q1 q2 q3 q4 q5 q6 q7 hg1 hon hbn hol hlen hKP
     gi_wp2
     refine ⟨KeepsFrom.refl _ _,KpS.refl _ _,?_,HKP.out⟩
     rw [HE.out]
     exact ⟨_,HQ.out.1,HQ.out.2.1,HQ.out.2.2.1,HQ.out.2.2.2.1,HQ.out.2.2.2.2.1,HQ.out.2.2.2.2.2.1,HQ.out.2.2.2.2.2.2⟩
   case done =>
    rintro D ys W hD rfl ⟨hC,hKP⟩ hDe
    obtain ⟨v,q1,q2,q3,q4,q5,q6,q7⟩ := hC
    have HQ := Lib.hid (And.intro q1 (And.intro q2 (And.intro q3 (And.intro q4 (And.intro q5 (And.intro q6 q7))))))
    have HDE := Lib.hid hDe
    have HDD := Lib.hid hD
    have HKP := Lib.hid hKP
    clear q1 q2 q3 q4 q5 q6 q7 hDe hD hKP
    go_wp2
    refine ⟨?_,?_⟩
    ·(repeat apply Exists.intro)
     refine ⟨?_,rfl⟩
     refine ⟨j + 1,v,D :: Ds,by go_num,rfl,by omega,HQ.out.1,HQ.out.2.1,by rw [HXL.out]; exact HQ.out.2.2.1,HQ.out.2.2.2.2.1,?_,?_,?_,?_⟩
     ·refine HQ.out.2.2.2.2.2.1.cons ?_ ?_ HDE.out
      ·have := HBO.out.2
       have := HDD.out
       omega
      ·intro h
       have := HDs.out D h
       have := HDD.out
       omega
     ·refine ⟨HF.out.2.2.2.2.2.1.1,?_⟩
      rcases HF.out.2.2.2.2.2.1.2 with h1 | ⟨g,cap,cur,h1,h2,h3,h4⟩
      ·exact .inl h1
      ·cases h1
       exact .inr ⟨gp,_,cur,rfl,h2,((HKP.out gp HGP.out.1).trans (HN2.out.2.2.2.block gp HGP.out.2)).trans h3,h4⟩
     ·intro r hr e
      cases e
      exact HQ.out.2.2.2.1 _ hr HGP.out.1
     ·exact Nat.le_trans HF.out.2.2.2.2.2.2.2 (Nat.le_trans HN2.out.2.2.2.size HQ.out.2.2.2.2.2.2)
    ·simp [intOf]
     omega
  ·have hjj : offAt p key (sortI (outs p k key)) j = offAt p key (sortI (outs p k key)) (sortI (outs p k key)).length := by
    congr 1
    omega
   have HE := Lib.hid hjj
   have hl40 : (offAt p key (sortI (outs p k key)) j).length ≤ 40 := by omega
   have HF := Lib.hid (And.intro hP (And.intro hO (And.intro hI (And.intro hB hM))))
   have hsol := sortI_len (offAt p key (sortI (outs p k key)) j)
   have HSO := Lib.hid (sort_own w.heap.size _ _ wr hI (by omega))
   have HCO : Hid (∀ W,IntsO W w.heap.size v (sortI (offAt p key (sortI (outs p k key)) j)) → _) := fun W h => compact_own w.heap.size v _ W h (by omega)
   have hvs := own_slice hI
   obtain ⟨av,cv,rfl,_⟩ := hvs
   have d5 := hO.cell 0
   simp only [List.getElem?_toArray,List.getElem?_cons_zero] at d5
   clear hjj hok hl hp4 hP hO hI hB hM hVP hne hsz hsl hol hoo hj4 hb10 hsol
   go_wp2_with (first | (go_at_call 162; refine HSO.out.mono ?_; rintro e W2 ⟨rfl,n1,n2⟩; have n3 : Bk W2 (w.heap.size + 1) 40 _ := HF.out.2.1.grown n2 (HF.out.2.2.1.ne HF.out.2.1 (by decide)); have n4 := n3.cell 0; simp only [List.getElem?_toArray,List.getElem?_cons_zero] at n4; have HN2 := Lib.hid (And.intro n1 n2); clear n1 n2 n3) | (go_at_call 163; refine (HCO.out W2 HN2.out.1).mono ?_; rintro e W3 ⟨v3,rfl,n1,n2⟩; have HN3 := Lib.hid (And.intro n1 n2); clear n1 n2))
   have hg3 : wr.grownBy W3 (Value.ownBlock (.slice av (offAt p key (sortI (outs p k key)) j).length cv)) := ⟨HN3.out.2.os.trans HN2.out.2.os,HN3.out.2.tape.trans HN2.out.2.tape,HN3.out.2.output.trans HN2.out.2.output,Nat.le_trans HN2.out.2.size HN3.out.2.size,
    fun r h1 h2 => (HN3.out.2.block r (Nat.lt_of_lt_of_le h1 HN2.out.2.size) h2).trans (HN2.out.2.block r h1 h2)⟩
   refine leaves_marks Ds W3 (HF.out.2.2.2.2.grown hg3 fun D hD e => ?_) fun W4 hs => ⟨_,results_tmp rfl _ _ _,_,rfl,?_,?_⟩
   ·obtain ⟨o,ho,hc⟩ := HF.out.2.2.1.cellsAt D e.symm
    rw [(HF.out.2.2.2.2.2 D hD).2] at ho
    cases ho
    cases hc
   ·unfold ofL
    rw [← HE.out]
    exact hs.own HN3.out.1
   ·exact (below_own HF.out.2.2.1 hg3 HF.out.2.2.2.1 (Nat.le_refl _) HF.out.2.2.2.1.size).trans hs.below
open Go Go.RowKit Go.Shelf Go.Sort
set_option maxRecDepth 100000
def routeErr (p : PlanD) (x : Int) (key : ByteArray) : Int := if checkP p ≠ 0 then checkP p else if x < 0 ∨ (p.posts.length : Int) ≤ x then 5 else splitErr isWord key
set_option maxHeartbeats 2000000 in
theorem Asked_route (p : PlanD) (n : Int) (key : ByteArray) (a1 a2 a3 : Option Addr) (c1 c2 c3 lo : Nat) (w : World) (hv : Env w) (hp : PlanAt w lo w.heap.size a1 a2 a3 p) (hs : PlanSmall p) (h2 : key.size ≤ 1048576) :
  Calls Tryz.prog 154 #[planV p a1 a2 a3 c1 c2 c3,.int .i64 n,.string key] w fun e w' => e = .returned (.int .i64 (routeErr p n key)) ∧ Below w.heap.size w w' := by
 have hnl := hs.posts
 have HS := Lib.hid hs; clear hs
 have hbx := boxed_new hp c1 c2 c3 26
 have hz0 : (w.alloc (.cells #[Value.slice a1 p.posts.length c1,Value.slice a2 p.queues.length c2,Value.slice a3 p.binds.length c3] 26)).heap.size = w.heap.size + 1 := by simp
 unfold planV
 have HV := Lib.hid hv; clear hv hp
 go_enter Tryz.func154,Tryz.ntmps154
 obtain ⟨m20,m21,m22⟩ := (hbx _ (Below.refl _ _)).2.1
 have HBX := Lib.hid hbx; clear hbx
 go_wp2_with fail
 generalize w.alloc (.cells #[Value.slice a1 p.posts.length c1,Value.slice a2 p.queues.length c2,Value.slice a3 p.binds.length c3] 26) = W0 at *
 refine (Check_any p a1 a2 a3 c1 c2 c3 0 W0 (below_env (HBX.out W0 (Below.refl _ _)).2.2 HV.out) ((HBX.out W0 (Below.refl _ _)).1) HS.out).mono ?_
 rintro e W1 ⟨rfl,hB1⟩
 have HB1 := Lib.hid hB1; clear hB1 m20 m21 m22 hz0
 obtain ⟨m20,m21,m22⟩ := (HBX.out _ HB1.out).2.1
 by_cases hc : checkP p = 0
 ·have b1 : (checkP p != 0) = false := by simp [hc]
  by_cases hn : n < 0 ∨ (p.posts.length : Int) ≤ n
  ·have HR : Hid (routeErr p n key = 5) := by
    have : routeErr p n key = 5 := by simp [routeErr,hc,hn]
    exact (this : routeErr p n key = 5)
   clear hc
   by_cases hn0 : n < 0
   ·clear hn
    go_wp2_with fail
    go_ret
    exact ⟨by rw [HR.out]; rfl,(HBX.out _ HB1.out).2.2⟩
   ·have hn1 : (p.posts.length : Int) ≤ n := by omega
    clear hn
    go_wp2_with fail
    go_ret
    exact ⟨by rw [HR.out]; rfl,(HBX.out _ HB1.out).2.2⟩
  ·have hn0 : 0 ≤ n := by omega
   have hn1 : n < p.posts.length := by omega
   have HF : Hid (routeErr p n key = splitErr isWord key) := by
    have : routeErr p n key = splitErr isWord key := by
     unfold routeErr
     rw [if_neg (by simp [hc]),if_neg hn]
    exact (this : routeErr p n key = splitErr isWord key)
   clear hc hn
   go_wp2_with fail
   refine (Split_env key W1 (by omega) (below_env (HBX.out _ HB1.out).2.2 HV.out)).mono ?_
   rintro e W2 ⟨sa,sc,rfl,_,_,hB2⟩
   have HB2 := Lib.hid (HB1.out.trans (hB2.mono HB1.out.size)); clear hB2 m20 m21 m22 HB1
   go_wp2_with fail
   go_ret
   exact ⟨by rw [HF.out]; rfl,(HBX.out _ HB2.out).2.2⟩
 ·have b1 : (checkP p != 0) = true := by simp [hc]
  have HR : Hid (routeErr p n key = checkP p) := by
   have : routeErr p n key = checkP p := by simp [routeErr,hc]
   exact (this : routeErr p n key = checkP p)
  clear hc
  go_wp2_with fail
  go_ret
  exact ⟨by rw [HR.out]; rfl,(HBX.out _ HB1.out).2.2⟩
theorem IntsO.lower {w : World} {b b' : Nat} {v : Value} {xs : List Int} (h : IntsO w b v xs) (hb : b' ≤ b) : IntsO w b' v xs := by
 refine ⟨h.1,?_⟩
 rcases h.2 with h1 | ⟨g,cap,cur,h1,h2,h3⟩
 ·exact .inl h1
 ·exact .inr ⟨g,cap,cur,h1,by omega,h3⟩
theorem routeErr_ok {p : PlanD} {x : Int} {key : ByteArray} (h : routeErr p x key = 0) : PlanRight p ∧ ∃ k : Nat,x = k ∧ k < p.posts.length ∧ splitErr isWord key = 0 := by
 unfold routeErr at h
 split at h
 ·exact absurd h (by assumption)
 ·rename_i h1
  split at h
  ·cases h
  ·rename_i h2
   obtain ⟨k,rfl⟩ := Int.eq_ofNat_of_zero_le (show 0 ≤ x by omega)
   exact ⟨checkP_right (by simpa using h1),k,rfl,by omega,h⟩
def queuesR (p : PlanD) (x : Int) (key : ByteArray) : List Int := if routeErr p x key = 0 then ofL p x key else []
set_option maxHeartbeats 2000000 in
theorem Queues_any (p : PlanD) (n : Int) (key : ByteArray) (a1 a2 a3 : Option Addr) (c1 c2 c3 : Nat) (w : World) (hv : Env w) (hp : PlanAt w 0 w.heap.size a1 a2 a3 p) (hs : PlanSmall p) (h2 : key.size ≤ 1048576) :
  Calls Tryz.prog 126 #[planV p a1 a2 a3 c1 c2 c3,.int .i64 n,.string key] w fun e w' => ∃ v,e = .returned (.tuple #[v,.int .i64 (routeErr p n key)]) ∧ IntsO w' w.heap.size v (queuesR p n key) ∧ Below w.heap.size w w' := by
 have HS := Lib.hid hs; clear hs
 have hbx := boxed_new hp c1 c2 c3 26
 have hz0 : (w.alloc (.cells #[Value.slice a1 p.posts.length c1,Value.slice a2 p.queues.length c2,Value.slice a3 p.binds.length c3] 26)).heap.size = w.heap.size + 1 := by simp
 unfold planV
 have HP := Lib.hid hp
 have HV := Lib.hid hv; clear hv hp
 go_enter Tryz.func126,Tryz.ntmps126
 obtain ⟨m20,m21,m22⟩ := (hbx _ (Below.refl _ _)).2.1
 have HBX := Lib.hid hbx; clear hbx
 go_wp2_with fail
 generalize w.alloc (.cells #[Value.slice a1 p.posts.length c1,Value.slice a2 p.queues.length c2,Value.slice a3 p.binds.length c3] 26) = W0 at *
 have HAS := Lib.hid (Asked_route p n key a1 a2 a3 c1 c2 c3 0 W0 (below_env (HBX.out W0 (Below.refl _ _)).2.2 HV.out) ((HBX.out W0 (Below.refl _ _)).1) HS.out h2)
 unfold planV at HAS
 refine HAS.out.mono ?_
 clear HAS
 rintro e W1 ⟨rfl,hB1⟩
 have HB1 := Lib.hid hB1; clear hB1 m20 m21 m22 hz0
 obtain ⟨⟨m20,m21,m22⟩,hb1⟩ := (HBX.out _ HB1.out).2
 by_cases hc : routeErr p n key = 0
 ·have b1 : (routeErr p n key != 0) = false := by simp [hc]
  have HR : Hid (queuesR p n key = ofL p n key ∧ routeErr p n key = 0) := ⟨by simp [queuesR,hc],hc⟩
  obtain ⟨hr,k,rfl,hk,_⟩ := routeErr_ok hc
  clear hc
  have HW := Lib.hid hb1
  have HCP := Lib.hid (Of_walk p k key a1 a2 a3 c1 c2 c3 w.heap.size W1 hk hr h2 HS.out (PlanAt.keep' HP.out fun q hq => hb1.cell (p := q) hq) ((EnvB.mk' HV.out).keep fun q hq => hb1.cell (p := q) hq) hb1.size)
  clear hb1
  go_wp2_with (go_at_call 138; refine HCP.out.mono ?_; rintro e W2 ⟨v,rfl,n1,n2⟩; have HN := Lib.hid (And.intro n1 n2); clear n1 n2)
  go_ret2
  refine ⟨v,by rw [HR.out.2]; rfl,?_,HW.out.trans (HN.out.2.mono HW.out.size)⟩
  rw [HR.out.1]
  exact IntsO.lower HN.out.1 HW.out.size
 ·have b1 : (routeErr p n key != 0) = true := by simp [hc]
  have HR : Hid (queuesR p n key = []) := by
   have : queuesR p n key = [] := by simp [queuesR,hc]
   exact (this : queuesR p n key = [])
  have HW := Lib.hid hb1
  clear hc hb1
  go_wp2_with fail
  go_ret2
  exact ⟨_,rfl,by rw [HR.out]; exact World.ownsRow_nil _ _ _ _,HW.out⟩
open Go Go.RowKit Go.Shelf Go.Sort
set_option maxRecDepth 100000
abbrev Road := Int × List Int
def stepW (l : List Int) (s : List Int × List Road) (y : Nat × BindD) : List Int × List Road :=
 if y.2.toPost = true ∧ y.2.to ∉ s.1 then (s.1 ++ [y.2.to],s.2 ++ [(y.2.to,l ++ [(y.1 : Int)])]) else s
structure WayOk (p : PlanD) (n : Nat) (s : List Int × List Road) : Prop where
 ok : OutOk p s.1
 len : s.1.length = n + s.2.length
 at_ : ∀ r ∈ s.2,0 ≤ r.1 ∧ r.1 < (p.posts.length : Int)
theorem WayOk.step {p : PlanD} (hr : PlanRight p) {n : Nat} {s : List Int × List Road} (h : WayOk p n s) {l : List Int} {y : Nat × BindD} (hy : y.2 ∈ p.binds) : WayOk p n (stepW l s y) := by
 have hb := hr.bind _ hy
 unfold stepW
 split
 ·rename_i hc
  rw [if_pos hc.1] at hb
  refine ⟨?_,?_,fun r hr' => ?_⟩
  ·have := h.ok.add hr (y := y) hy
   rwa [addTo,if_pos hc] at this
  ·have := h.len
   simp only [List.length_append,List.length_cons,List.length_nil]
   omega
  ·rcases List.mem_append.1 hr' with h' | h'
   ·exact h.at_ r h'
   ·obtain rfl : r = (y.2.to,l ++ [(y.1 : Int)]) := by simpa using h'
    exact ⟨hb.2.2.1,hb.2.2.2⟩
 ·exact h
open Go Go.RowKit
def firstLoop : Code → Option Code
 | .loop c => some c
 | .seq a b => match firstLoop a with
  | some c => some c
  | none => firstLoop b
 | .block _ c => firstLoop c
 | .scope c => firstLoop c
 | .cond _ a b => match firstLoop a with
  | some c => some c
  | none => firstLoop b
 | _ => none
def loopsOf : Code → List Code
 | .loop c => [c]
 | .seq a b => loopsOf a ++ loopsOf b
 | .block _ c => loopsOf c
 | .scope c => loopsOf c
 | .cond _ a b => loopsOf a ++ loopsOf b
 | _ => []
noncomputable def loopAt (f : Func) (n : Nat) : Code := ((f.body.map loopsOf).getD []).getD n .skip
def RQ1 (Q : Exit → Act → World → Prop) : Exit → Act → World → Prop
 | .normal,a,W => Q .normal a W
 | _,_,_ => False
theorem RQ1.normal {Q : Exit → Act → World → Prop} {a : Act} {W : World} (h : Q .normal a W) : RQ1 Q .normal a W := h
inductive Reach (p : PlanD) (key : ByteArray) (k : Int) : Int → Prop where
  | start : Reach p key k k
  | step {b : BindD} : Reach p key k b.src → b ∈ p.binds → b.toPost = true → byP p b key = true → Reach p key k b.to
theorem onTo_mem' {p : PlanD} {key : ByteArray} : ∀ {j i : Nat} {b : BindD}, i < j → p.binds[i]? = some b → byP p b key = true → (i, b) ∈ onTo p b.src key j
  | j + 1, i, b, hi, hb, hf => by
    rcases Nat.lt_or_ge i j with h | h
    · exact (onTo_step p b.src key j).subset (onTo_mem' h hb hf)
    · obtain rfl : i = j := by omega
      unfold onTo
      rw [hb]
      simp only [hf, and_self, if_true]
      simp
theorem onL_mem {p : PlanD} {key : ByteArray} {x : Int} {y : Nat × BindD} : y ∈ onL p x key ↔ p.binds[y.1]? = some y.2 ∧ y.2.src = x ∧ byP p y.2 key = true := by
  constructor
  · exact fun h => (onTo_mem h).2
  · rintro ⟨h1, rfl, h3⟩
    exact onTo_mem' (List.getElem?_eq_some_iff.1 h1).1 h1 h3
theorem onL_of {p : PlanD} {key : ByteArray} {b : BindD} (h : b ∈ p.binds) (hf : byP p b key = true) : ∃ i, (i, b) ∈ onL p b.src key := by
  obtain ⟨i, hi⟩ := List.getElem?_of_mem h
  exact ⟨i, onL_mem.2 ⟨hi, rfl, hf⟩⟩
theorem addTo_mem {out : List Int} {y : Nat × BindD} {z : Int} : z ∈ addTo out y ↔ z ∈ out ∨ (y.2.toPost = true ∧ y.2.to = z) := by
  unfold addTo
  split
  · rename_i h
    rw [List.mem_append, List.mem_singleton]
    exact ⟨fun h1 => h1.imp id fun e => ⟨h.1, e.symm⟩, fun h1 => h1.imp id fun e => e.2.symm⟩
  · rename_i h
    constructor
    · exact .inl
    · rintro (h1 | ⟨h1, rfl⟩)
      · exact h1
      · exact Decidable.byContradiction fun h2 => h ⟨h1, h2⟩
theorem gather_mem {z : Int} : ∀ {bs : List (Nat × BindD)} {out : List Int}, z ∈ gather out bs ↔ z ∈ out ∨ ∃ y ∈ bs, y.2.toPost = true ∧ y.2.to = z
  | [], out => by simp [gather]
  | y :: bs, out => by
    show z ∈ gather (addTo out y) bs ↔ _
    rw [gather_mem, addTo_mem]
    simp only [List.mem_cons, exists_eq_or_imp]
    exact or_assoc
theorem addTo_prefix (out : List Int) (y : Nat × BindD) : out <+: addTo out y := by
  unfold addTo
  split
  · exact List.prefix_append _ _
  · exact List.prefix_rfl
theorem gather_prefix : ∀ (bs : List (Nat × BindD)) (out : List Int), out <+: gather out bs
  | [], _ => List.prefix_rfl
  | y :: bs, out => (addTo_prefix out y).trans (gather_prefix bs _)
theorem outAt_prefix (p : PlanD) (k : Int) (key : ByteArray) (j : Nat) : outAt p k key j <+: outAt p k key (j + 1) := by
  show _ <+: (match (outAt p k key j)[j]? with | some x => gather (outAt p k key j) (onL p x key) | none => outAt p k key j)
  split
  · exact gather_prefix _ _
  · exact List.prefix_rfl
theorem outAt_reach (p : PlanD) (k : Int) (key : ByteArray) : ∀ j, ∀ x ∈ outAt p k key j, Reach p key k x
  | 0, x, h => by obtain rfl : x = k := by simpa [outAt] using h
                  exact .start
  | j + 1, x, h => by
    unfold outAt at h
    split at h
    · rename_i z hz
      rcases gather_mem.1 h with h | ⟨y, hy, h1, rfl⟩
      · exact outAt_reach p k key j x h
      · obtain ⟨h2, h3, h4⟩ := onL_mem.1 hy
        refine .step ?_ (List.mem_of_getElem? h2) h1 h4
        rw [h3]
        exact outAt_reach p k key j z (List.mem_of_getElem? hz)
    · exact outAt_reach p k key j x h
theorem outAt_closed (p : PlanD) (k : Int) (key : ByteArray) : ∀ (j i : Nat) (x : Int), i < j → (outAt p k key j)[i]? = some x → ∀ y ∈ onL p x key, y.2.toPost = true → y.2.to ∈ outAt p k key j
  | j + 1, i, x, hi, hx, y, hy, hp => by
    have hpre := outAt_prefix p k key j
    rcases Nat.lt_or_ge i (outAt p k key j).length with hl | hl
    · have hx' : (outAt p k key j)[i]? = some x := by
        obtain ⟨t, ht⟩ := hpre
        rw [← ht, List.getElem?_append_left hl] at hx
        exact hx
      rcases Nat.lt_or_ge i j with h | h
      · exact hpre.subset (outAt_closed p k key j i x h hx' y hy hp)
      · obtain rfl : i = j := by omega
        show _ ∈ (match (outAt p k key i)[i]? with | some x => gather (outAt p k key i) (onL p x key) | none => outAt p k key i)
        rw [hx']
        exact gather_mem.2 (.inr ⟨y, hy, hp, rfl⟩)
    · exfalso
      have : outAt p k key (j + 1) = outAt p k key j := outAt_still (j := j) (by omega) 1
      rw [this, List.getElem?_eq_none hl] at hx
      cases hx
theorem outs_mem {p : PlanD} (hr : PlanRight p) {k : Nat} (hk : k < p.posts.length) {key : ByteArray} {x : Int} : x ∈ outs p k key ↔ Reach p key k x := by
  constructor
  · exact outAt_reach p k key _ x
  · intro h
    induction h with
    | start =>
      have : ∀ j, outAt p k key 0 <+: outAt p k key j := fun j => by
        induction j with
        | zero => exact List.prefix_rfl
        | succ j ih => exact ih.trans (outAt_prefix p k key j)
      exact (this _).subset (by simp [outAt])
    | @step b h1 h2 h3 h4 ih =>
      obtain ⟨i, hi⟩ := onL_of h2 h4
      obtain ⟨m, hm⟩ := List.getElem?_of_mem ih
      have hl := (outAt_ok hr hk p.posts.length (key := key)).len
      have hml := (List.getElem?_eq_some_iff.1 hm).1
      exact outAt_closed p k key _ m _ (Nat.lt_of_lt_of_le hml hl) hm _ hi h3
theorem asc_ext {l r : List Int} (hl : l.Pairwise (· < ·)) (hr : r.Pairwise (· < ·)) (h : ∀ x, x ∈ l ↔ x ∈ r) : l = r := by
  have nd : ∀ {l : List Int}, l.Pairwise (· < ·) → l.Nodup := fun h => h.imp fun h => by omega
  have hp : l.Perm r := (List.perm_ext_iff_of_nodup (nd hl) (nd hr)).2 h
  exact hp.eq_of_pairwise (fun a b _ _ h1 h2 => by omega) hl hr
theorem sortI_le (zs : List Int) : (sortI zs).Pairwise (· ≤ ·) := by
  have := List.pairwise_mergeSort (le := fun x y : Int => decide (x ≤ y)) (fun a b c h1 h2 => by simp only [decide_eq_true_eq] at *; omega) (fun a b => by simp only [Bool.or_eq_true, decide_eq_true_eq]; omega) zs
  exact this.imp fun h => by simpa using h
theorem sortI_asc {zs : List Int} (h : zs.Nodup) : (sortI zs).Pairwise (· < ·) := by
  have h1 := sortI_le zs
  have h2 : (sortI zs).Nodup := (List.mergeSort_perm zs _).nodup_iff.2 h
  exact (h1.and h2).imp fun ⟨h, k⟩ => by omega
section
open Go.Lib
theorem compact_mem {zs : List Int} (h : zs.Pairwise (· ≤ ·)) {x : Int} : x ∈ compact zs ↔ x ∈ zs := by
  have key : ∀ m, m ≤ zs.length → (x ∈ compactUpTo zs.toArray m ↔ x ∈ zs.take m) := by
    intro m
    induction m with
    | zero => intro _; simp [compactUpTo]
    | succ m ih =>
      intro hm
      have hm' : m < zs.toArray.size := by simp; omega
      rw [compactUpTo_succ, List.mem_append, ih (by omega), List.take_succ_eq_append_getElem (by omega), List.mem_append, List.mem_singleton, getElem!_pos _ m hm']
      by_cases hk : keeps zs.toArray m = true
      · rw [if_pos hk]; simp
      · rw [if_neg hk]
        unfold keeps at hk
        simp only [decide_eq_true_eq, not_or, Decidable.not_not] at hk
        obtain ⟨h0, h1⟩ := hk
        rw [getElem!_pos _ m hm', getElem!_pos _ (m - 1) (by simp; omega)] at h1
        simp only [zD] at h1 ⊢
        simp only [List.not_mem_nil, or_false]
        constructor
        · exact .inl
        · rintro (h2 | rfl)
          · exact h2
          · rw [h1]
            rw [List.mem_take_iff_getElem]
            exact ⟨m - 1, by omega, rfl⟩
  have := key zs.length (Nat.le_refl _)
  rwa [List.take_length] at this
theorem compact_asc {zs : List Int} (h : zs.Pairwise (· ≤ ·)) : (compact zs).Pairwise (· < ·) := by
  have key : ∀ m, m ≤ zs.length → (compactUpTo zs.toArray m).Pairwise (· < ·) ∧ ∀ x ∈ compactUpTo zs.toArray m, ∀ hm : 0 < m, ∃ hz : m - 1 < zs.length, x ≤ zs[m - 1] := by
    intro m
    induction m with
    | zero => intro _; simp [compactUpTo]
    | succ m ih =>
      intro hm
      have hm' : m < zs.toArray.size := by simp; omega
      obtain ⟨h1, h2⟩ := ih (by omega)
      rw [compactUpTo_succ, getElem!_pos _ m hm']
      simp only [zD, Nat.add_sub_cancel]
      have hlast : ∀ x ∈ compactUpTo zs.toArray m, x ≤ zs[m] := fun x hx => by
        rcases Nat.eq_zero_or_pos m with rfl | h0
        · simp [compactUpTo] at hx
        · obtain ⟨hz, hle⟩ := h2 x hx h0
          have := List.pairwise_iff_getElem.1 h (m - 1) m hz (by omega) (by omega)
          omega
      by_cases hk : keeps zs.toArray m = true
      · rw [if_pos hk]
        refine ⟨List.pairwise_append.2 ⟨h1, by simp, fun a ha b hb => ?_⟩, fun x hx _ => ⟨by omega, ?_⟩⟩
        · obtain rfl : b = zs[m] := by simpa using hb
          have h3 : 0 < m := by
            rcases Nat.eq_zero_or_pos m with rfl | h0
            · simp [compactUpTo] at ha
            · exact h0
          obtain ⟨hz, hle⟩ := h2 a ha h3
          have hle2 := List.pairwise_iff_getElem.1 h (m - 1) m hz (by omega) (by omega)
          unfold keeps at hk
          simp only [decide_eq_true_eq] at hk
          rw [getElem!_pos _ m hm', getElem!_pos _ (m - 1) (by simp; omega)] at hk
          simp only [zD] at hk
          omega
        · rcases List.mem_append.1 hx with hx | hx
          · exact hlast x hx
          · obtain rfl : x = zs[m] := by simpa using hx
            omega
      · rw [if_neg hk, List.append_nil]
        exact ⟨h1, fun x hx _ => ⟨by omega, hlast x hx⟩⟩
  exact (key zs.length (Nat.le_refl _)).1
end
theorem collect_mem {z : Int} : ∀ {bs : List (Nat × BindD)} {out : List Int}, z ∈ collect out bs ↔ z ∈ out ∨ ∃ y ∈ bs, y.2.toPost = false ∧ y.2.to = z
  | [], out => by simp [collect]
  | y :: bs, out => by
    show z ∈ collect (queueTo out y) bs ↔ _
    rw [collect_mem]
    have : z ∈ queueTo out y ↔ z ∈ out ∨ (y.2.toPost = false ∧ y.2.to = z) := by
      unfold queueTo
      cases y.2.toPost <;> simp [eq_comm]
    rw [this]
    simp only [List.mem_cons, exists_eq_or_imp]
    exact or_assoc
theorem offAt_mem (p : PlanD) (key : ByteArray) (ps : List Int) (z : Int) : ∀ j, j ≤ ps.length → (z ∈ offAt p key ps j ↔ ∃ x ∈ ps.take j, ∃ y ∈ onL p x key, y.2.toPost = false ∧ y.2.to = z)
  | 0, _ => by simp [offAt]
  | j + 1, hj => by
    have hj' : j < ps.length := by omega
    unfold offAt
    rw [List.getElem?_eq_getElem hj', List.take_succ_eq_append_getElem hj']
    simp only
    rw [collect_mem, offAt_mem p key ps z j (by omega)]
    simp only [List.mem_append, List.mem_singleton, or_and_right, exists_or, exists_eq_left]
theorem ofL_mem {p : PlanD} (hr : PlanRight p) {k : Nat} (hk : k < p.posts.length) {key : ByteArray} {z : Int} : z ∈ ofL p k key ↔ ∃ b ∈ p.binds, b.toPost = false ∧ b.to = z ∧ byP p b key = true ∧ Reach p key k b.src := by
  unfold ofL
  rw [compact_mem (sortI_le _), sortI_mem, offAt_mem _ _ _ _ _ (Nat.le_refl _), List.take_length]
  constructor
  · rintro ⟨x, hx, y, hy, h1, h2⟩
    obtain ⟨h3, h4, h5⟩ := onL_mem.1 hy
    exact ⟨y.2, List.mem_of_getElem? h3, h1, h2, h5, by rw [h4]; exact (outs_mem hr hk).1 (sortI_mem.1 hx)⟩
  · rintro ⟨b, hb, h1, h2, h3, h4⟩
    obtain ⟨i, hi⟩ := onL_of hb h3
    exact ⟨b.src, sortI_mem.2 ((outs_mem hr hk).2 h4), (i, b), hi, h1, h2⟩
theorem ofL_asc (p : PlanD) (k : Int) (key : ByteArray) : (ofL p k key).Pairwise (· < ·) := compact_asc (sortI_le _)
theorem ofL_lt {p : PlanD} (hr : PlanRight p) {k : Nat} (hk : k < p.posts.length) {key : ByteArray} {z : Int} (h : z ∈ ofL p k key) : 0 ≤ z ∧ z < (p.queues.length : Int) := by
  obtain ⟨b, hb, h1, rfl, _⟩ := (ofL_mem hr hk).1 h
  have := hr.bind _ hb
  rw [h1] at this
  simp only [Bool.false_eq_true, if_false] at this
  omega
open Go Go.RowKit
set_option maxRecDepth 100000
def SameIRel (xs ys : List Int) (B : Nat) (w : World) (i : Value) (wr : World) : Prop :=
 ∃ k : Nat,k ≤ xs.length ∧ i = .int .i64 k ∧ Below B w wr ∧ xs.take k = ys.take k
theorem take_step' {α : Type} {xs ys : List α} {k : Nat} (h : xs.take k = ys.take k) (h1 : k < xs.length) (h2 : k < ys.length) (he : xs[k] = ys[k]) : xs.take (k + 1) = ys.take (k + 1) := by
 rw [List.take_add_one,List.take_add_one,h,List.getElem?_eq_getElem h1,List.getElem?_eq_getElem h2,he]
theorem sl_int {w : World} {lo hi : Nat} {a : Option Addr} {xs : List Int} (h : Sl w lo hi a (xs.map (Value.int .i64))) {k : Nat} (hk : k < xs.length) : ∃ b o,a = some ⟨b,o,none⟩ ∧ b < hi ∧ w.cell? ⟨b,o + k,none⟩ = some (.int .i64 xs[k]) := by
 obtain ⟨b,o,rfl,_,h2,hc⟩ := h.at_ (by simpa using hk)
 exact ⟨b,o,rfl,h2,hc k _ (by simp [hk])⟩
set_option maxHeartbeats 1000000 in
theorem SameInts_any (a b : Option Addr) (c d : Nat) (xs ys : List Int) (w : World) (lo : Nat) (hx : Sl w lo w.heap.size a (xs.map (Value.int .i64))) (hy : Sl w lo w.heap.size b (ys.map (Value.int .i64)))
  (h1 : xs.length ≤ 4294967296) (h2 : ys.length ≤ 4294967296) :
  Calls Tryz.prog 29 #[.slice a xs.length c,.slice b ys.length d] w fun e w' => e = .returned (.bool (decide (xs = ys))) ∧ Below w.heap.size w w' := by
 have HX := Lib.hid hx; clear hx
 have HY := Lib.hid hy; clear hy
 by_cases hl : xs.length = ys.length
 ·have hl' : ((xs.length : Int) != (ys.length : Int)) = false := by simp [hl]
  have HL := Lib.hid hl; clear hl
  go_enter Tryz.func29,Tryz.ntmps29
  go_wp2
  go_loopw [5] (fun i wr => SameIRel xs ys w.heap.size w i wr) (fun i _ => xs.length - (intOf i).toNat)
  case atStart => exact ⟨0,by omega,rfl,Below.refl _ _,rfl⟩
  case round =>
   obtain ⟨k,hk,rfl,hB,hall⟩ := hrel
   have HA := Lib.hid hall; clear hall
   by_cases hlt : k < xs.length
   ·have hlt2 : k < ys.length := by have := HL.out; omega
    obtain ⟨b1,o1,rfl,hb1,hc1⟩ := sl_int HX.out hlt
    obtain ⟨b2,o2,rfl,hb2,hc2⟩ := sl_int HY.out hlt2
    have hc1' := (hB.cell (p := ⟨b1,o1 + k,none⟩) hb1).trans hc1
    have hc2' := (hB.cell (p := ⟨b2,o2 + k,none⟩) hb2).trans hc2
    have HXK := Lib.hid (Eq.refl xs[k])
    clear hc1 hc2 hb1 hb2
    by_cases he : xs[k] = ys[k]
    ·have hT := Lib.hid (take_step' HA.out hlt hlt2 he)
     have heb : (xs[k] != ys[k]) = false := by simp [he]
     generalize xs[k] = x at *
     generalize ys[k] = y at *
     clear HXK
     have HE := Lib.hid he
     clear he
     go_wp2
     go_quiet (fail)
     all_goals go_wp2
     exact ⟨⟨k + 1,by omega,by go_num,below_draws hB _,hT.out⟩,by simp [intOf]; omega⟩
    ·have hne : ¬ xs = ys := by
      rintro rfl
      exact he rfl
     have HN := Lib.hid hne
     have heb : (xs[k] != ys[k]) = true := by simp [he]
     clear HXK hne he
     generalize xs[k] = x at *
     generalize ys[k] = y at *
     go_wp2
     go_quiet (fail)
     all_goals go_wp2
     go_ret
     exact ⟨by rw [decide_eq_false HN.out]; rfl,below_draws hB _⟩
   ·go_wp2
    go_ret
    refine ⟨?_,hB⟩
    have : xs = ys := by
     have := HA.out
     rwa [List.take_of_length_le (by omega),List.take_of_length_le (by have := HL.out; omega)] at this
    rw [decide_eq_true this]; rfl
 ·have hl' : ((xs.length : Int) != (ys.length : Int)) = true := by simp; omega
  have hne : ¬ xs = ys := fun e => hl (by rw [e])
  have HN := Lib.hid hne; clear hne hl
  go_enter Tryz.func29,Tryz.ntmps29
  go_wp2
  go_ret
  exact ⟨by rw [decide_eq_false HN.out]; rfl,Below.refl _ _⟩
theorem ints_sl {w : World} {base n c : Nat} {a : Option Addr} {xs : List Int} (h : IntsO w base (.slice a n c) xs) : n = xs.length ∧ Sl w 0 w.heap.size a (xs.map (Value.int .i64)) := by
 have hn : n = xs.length := by
  rcases h.2 with ⟨h1,h2⟩ | ⟨g,cap,cur,h1,_⟩
  ·simp only [Value.slice.injEq] at h1; omega
  ·simp only [Value.slice.injEq] at h1; omega
 subst hn
 exact ⟨rfl,(Sl.of_own (n := xs.length) h).wider (Nat.zero_le _) (Nat.le_refl _)⟩
theorem same_lit (xs : List Int) (a : Option Addr) (c : Nat) (w W : World) (h : Sl w 0 w.heap.size a (xs.map (Value.int .i64))) (hb : Below w.heap.size w W) (hl : xs.length ≤ 1000) (n : Nat) (hn : n = xs.length) (cs : Array Value) (hc : cs = (xs.map (Value.int .i64)).toArray) :
  Calls Tryz.prog 29 #[.slice a n c,.slice (some ⟨W.heap.size,0,none⟩) n n] (W.alloc (.cells cs 3)) fun e w' => e = .returned (.bool true) ∧ Below W.heap.size W w' := by
 subst hn hc
 have h1 : Sl (W.alloc (.cells (xs.map (Value.int .i64)).toArray 3)) 0 (W.alloc (.cells (xs.map (Value.int .i64)).toArray 3)).heap.size a (xs.map (Value.int .i64)) :=
  ((h.below hb (Nat.le_refl _)).below ((Below.refl _ _).alloc (by have := hb.size; omega) _) (Nat.le_refl _)).wider (Nat.le_refl _) (by have := hb.size; simp; omega)
 have h2 : Sl (W.alloc (.cells (xs.map (Value.int .i64)).toArray 3)) 0 (W.alloc (.cells (xs.map (Value.int .i64)).toArray 3)).heap.size (some ⟨W.heap.size,0,none⟩) (xs.map (Value.int .i64)) :=
  (Sl.new W (xs.map (Value.int .i64)) 3 (W.heap.size + 1) (by omega)).wider (Nat.zero_le _) (by simp)
 refine (SameInts_any a (some ⟨W.heap.size,0,none⟩) c xs.length xs xs _ 0 h1 h2 (by omega) (by omega)).mono ?_
 rintro e w' ⟨rfl,hb'⟩
 exact ⟨by simp,((Below.refl _ _).alloc (Nat.le_refl _) _).trans (hb'.mono (by simp))⟩
open Go Go.RowKit
set_option maxRecDepth 100000
theorem sortI_self {l : List Int} (h : l.Pairwise (· < ·)) : sortI l = l :=
 asc_ext (sortI_asc (h.imp fun h => by omega)) h fun x => sortI_mem
theorem compact_self {l : List Int} (h : l.Pairwise (· < ·)) : Lib.compact l = l :=
 asc_ext (compact_asc (h.imp fun h => by omega)) h fun x => compact_mem (h.imp fun h => by omega)
theorem byP_list (p : PlanD) (b : BindD) (key : ByteArray) : byP p b key = if kindAt p b = 1 then (b.pattern.data.toList == key.data.toList) else if kindAt p b = 3 then laidP (dots b.pattern.data.toList) (dots key.data.toList) else true := by
 unfold byP byK
 rw [fitP_data,ByteArray.toList_eq,ByteArray.toList_eq]
abbrev kXY : ByteArray := ⟨#[120,46,121]⟩
end Go.Proofs.YtaanpcjkflhomaaGreatDoor
