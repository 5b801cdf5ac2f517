/-
  Letters and lines of letters: plain.
  Walks of the lines: Fine, Check; the reference's ItemFine, LineFine.
  Walk of the reference's SameItems.
  Walks of the reference's push, PushOf, ShedOf.
  Walk of the reference's LineFine.
  The laws' letters.
  append without room, plain: a new row, and nothing that was there has turned. copy into a block of the call's own, at elements of any size; a slice of letters cloned.
  The library's IndexFunc and ContainsFunc at the program's slices: where the first element stands of which the function says yes.
-/
import Derived.Test.YtaanpcjkflhomaaGreatDoorBunA
import Derived.Test.YtaanpcjkflhomaaGreatDoorBunB
import Derived.Test.YtaanpcjkflhomaaGreatDoorBunC
import Derived.Deep.RegionHeld3
import Derived.Deep.QuietTactic
import Derived.BigQuiet
import Derived.StillTailTactics
import Derived.Laws.StructEq
import Derived.IntWalk
import Derived.Test.YtaanpcjkflhomaaGreatDoorBunD
import Derived.Lib.AppendZeros
import Derived.Laws.CopyRow
import Derived.Lib.SliceRun
set_option linter.unusedSimpArgs false
set_option linter.unusedVariables false
namespace Go.Proofs.YtaanpcjkflhomaaGreatDoor
open Go.RowKit
def itemFine (x : ItemD) : Bool := decide (splitErr isWord x.key = 0) && decide (0 ≤ x.seq) && decide (x.seq < 1048576) && decide (x.body.size ≤ 12) && decide (0 ≤ x.deaths) && decide (x.deaths ≤ 2)
def lineFrom (last : Int) : List ItemD → Bool
 | [] => true
 | x :: r => itemFine x && decide (last < x.seq) && lineFrom x.seq r
def lineFine (l : List ItemD) : Bool := lineFrom (-1) l
def lineErr (l : List ItemD) : Int := if lineFine l = true then 0 else 1
def lastAt (l : List ItemD) (k : Nat) : Int := if k = 0 then -1 else match l[k - 1]? with
 | some x => x.seq
 | none => -1
theorem itemFine_seq {x : ItemD} (h : itemFine x = true) : 0 ≤ x.seq ∧ x.seq < 1048576 := by
 simp only [itemFine,Bool.and_eq_true,decide_eq_true_eq] at h
 exact ⟨h.1.1.1.1.2,h.1.1.1.2⟩
theorem lastAt_succ {l : List ItemD} {k : Nat} (h : k < l.length) : lastAt l (k + 1) = l[k].seq := by
 simp [lastAt,h]
theorem lineFrom_drop {l : List ItemD} {k : Nat} (h : k < l.length) (last : Int) : lineFrom last (l.drop k) = (itemFine l[k] && decide (last < l[k].seq) && lineFrom l[k].seq (l.drop (k + 1))) := by
 rw [List.drop_eq_getElem_cons h]
 rfl
theorem line_bad1 {l : List ItemD} {k : Nat} (h : k < l.length) {last : Int} (hl : lineFrom last (l.drop k) = lineFine l) (hf : itemFine l[k] = false) : lineFine l = false := by
 rw [← hl,lineFrom_drop h,hf]; rfl
theorem line_bad2 {l : List ItemD} {k : Nat} (h : k < l.length) {last : Int} (hl : lineFrom last (l.drop k) = lineFine l) (hf : l[k].seq ≤ last) : lineFine l = false := by
 rw [← hl,lineFrom_drop h,decide_eq_false (by omega),Bool.and_false]; rfl
theorem line_step {l : List ItemD} {k : Nat} (h : k < l.length) {last : Int} (hl : lineFrom last (l.drop k) = lineFine l) (hf : itemFine l[k] = true) (hs : last < l[k].seq) : lineFrom (lastAt l (k + 1)) (l.drop (k + 1)) = lineFine l := by
 rw [← hl,lineFrom_drop h,hf,decide_eq_true hs,lastAt_succ h]; rfl
theorem line_done {l : List ItemD} {last : Int} (hl : lineFrom last (l.drop l.length) = lineFine l) : lineFine l = true := by
 rw [← hl,List.drop_length]; rfl
theorem lineFrom_right : ∀ {l : List ItemD} {last : Int},lineFrom last l = true → (∀ x ∈ l,itemFine x = true ∧ last < x.seq) ∧ l.Pairwise fun x y => x.seq < y.seq
 | [],_,_ => ⟨(fun x hx => by cases hx),List.Pairwise.nil⟩
 | x :: r,last,h => by
  simp only [lineFrom,Bool.and_eq_true,decide_eq_true_eq] at h
  obtain ⟨h1,h2⟩ := lineFrom_right h.2
  refine ⟨fun y hy => ?_,List.pairwise_cons.2 ⟨fun y hy => (h1 y hy).2,h2⟩⟩
  rcases List.mem_cons.1 hy with rfl | hy
  ·exact h.1
  ·exact ⟨(h1 y hy).1,by have := (h1 y hy).2; omega⟩
theorem lineFrom_of : ∀ {l : List ItemD} {last : Int},(∀ x ∈ l,itemFine x = true ∧ last < x.seq) → (l.Pairwise fun x y => x.seq < y.seq) → lineFrom last l = true
 | [],_,_,_ => rfl
 | x :: r,last,h1,h2 => by
  obtain ⟨h3,h4⟩ := List.pairwise_cons.1 h2
  obtain ⟨h5,h6⟩ := h1 x (List.mem_cons_self ..)
  simp only [lineFrom,Bool.and_eq_true,decide_eq_true_eq]
  exact ⟨⟨h5,h6⟩,lineFrom_of (fun y hy => ⟨(h1 y (List.mem_cons_of_mem _ hy)).1,h3 y hy⟩) h4⟩
theorem lineFine_iff {l : List ItemD} : lineFine l = true ↔ (∀ x ∈ l,itemFine x = true) ∧ l.Pairwise fun x y => x.seq < y.seq := by
 constructor
 ·intro h
  exact ⟨fun x hx => ((lineFrom_right h).1 x hx).1,(lineFrom_right h).2⟩
 ·rintro ⟨h1,h2⟩
  exact lineFrom_of (fun x hx => ⟨h1 x hx,by have := (itemFine_seq (h1 x hx)).1; omega⟩) h2
def pushL (l : List ItemD) (x : ItemD) : List ItemD := match l with
 | [] => [x]
 | y :: r => if x.seq < y.seq then x :: y :: r else y :: pushL r x
open Go.RowKit
set_option maxRecDepth 100000
set_option maxHeartbeats 1000000 in
theorem Fine_any (x : ItemD) (w : World) (hv : Env w) (hx : ItemSmall x) : Calls Tryz.prog 78 #[.agg (vItem x).toArray] w fun e w' => e = .returned (.bool (itemFine x)) ∧ Below w.heap.size w w' := by
 obtain ⟨seq,key,body,again,deaths⟩ := x
 obtain ⟨k1,k2,_⟩ := hx
 simp only at k1 k2
 unfold vItem
 have hbk := Bk.new w 52 #[.int .i64 seq,.string key,.string body,.bool again,.int .i64 deaths]
 have hbl : Below w.heap.size w (w.alloc (.cells #[.int .i64 seq,.string key,.string body,.bool again,.int .i64 deaths] 52)) := (Below.refl _ w).alloc (Nat.le_refl _) _
 have hz : (w.alloc (.cells #[.int .i64 seq,.string key,.string body,.bool again,.int .i64 deaths] 52)).heap.size = w.heap.size + 1 := by simp
 have HB := Lib.hid hbk; clear hbk
 have HL := Lib.hid (And.intro hbl (below_env hbl hv)); clear hbl hv
 go_enter Tryz.func78,Tryz.ntmps78
 go_wp2_with fail
 generalize w.alloc (.cells #[.int .i64 seq,.string key,.string body,.bool again,.int .i64 deaths] 52) = W0 at *
 refine (Split_env key W0 (by omega) HL.out.2).mono ?_
 rintro e W1 ⟨a1,c1,rfl,_,_,hb1⟩
 have b1 := HB.out.below hb1 (by omega)
 have e0 := b1.cell 0; have e2 := b1.cell 2; have e4 := b1.cell 4
 simp only [List.getElem?_toArray,List.getElem?_cons_zero,List.getElem?_cons_succ] at e0 e2 e4
 have HB1 := Lib.hid (HL.out.1.trans (hb1.mono HL.out.1.size)); clear hb1 b1
 have HF : Hid (itemFine ⟨seq,key,body,again,deaths⟩ = (decide (splitErr isWord key = 0) && decide (0 ≤ seq) && decide (seq < 1048576) && decide (body.size ≤ 12) && decide (0 ≤ deaths) && decide (deaths ≤ 2))) := (rfl : itemFine ⟨seq,key,body,again,deaths⟩ = _)
 by_cases hs : splitErr isWord key = 0
 ·have b0 : (splitErr isWord key == 0) = true := by simp [hs]
  have HF2 : Hid (itemFine ⟨seq,key,body,again,deaths⟩ = (decide (0 ≤ seq) && decide (seq < 1048576) && decide (body.size ≤ 12) && decide (0 ≤ deaths) && decide (deaths ≤ 2))) := by
   refine (?_ : itemFine ⟨seq,key,body,again,deaths⟩ = _)
   rw [HF.out,decide_eq_true hs,Bool.true_and]
  clear hs
  go_wp2_with fail
  all_goals go_ret
  all_goals refine ⟨?_,HB1.out⟩
  all_goals (refine congrArg (fun b => Ending.returned (Value.bool b)) ?_; rw [HF2.out]; first | (simp [*]; done) | (simp [*]; omega))
 ·have b0 : (splitErr isWord key == 0) = false := by simp [hs]
  have HF2 : Hid (itemFine ⟨seq,key,body,again,deaths⟩ = false) := by
   refine (?_ : itemFine ⟨seq,key,body,again,deaths⟩ = _)
   rw [HF.out,decide_eq_false hs]
   rfl
  clear hs
  go_wp2_with fail
  go_ret
  exact ⟨by rw [HF2.out]; rfl,HB1.out⟩
def LineRel (l : List ItemD) (w : World) (last i : Value) (wr : World) : Prop :=
 ∃ k : Nat,k ≤ l.length ∧ i = .int .i64 k ∧ last = .int .i64 (lastAt l k) ∧ lineFrom (lastAt l k) (l.drop k) = lineFine l ∧ Below w.heap.size w wr
theorem item_cells {wr : World} {b o k : Nat} {x : ItemD} (hc : ∀ j u,(vItem x)[j]? = some u → wr.cell? ⟨b,o + k * 5 + j,none⟩ = some u) :
  wr.cell? ⟨b,o + k * 5,none⟩ = some (.int .i64 x.seq) ∧ wr.cell? ⟨b,o + k * 5 + 1,none⟩ = some (.string x.key) ∧ wr.cell? ⟨b,o + k * 5 + 2,none⟩ = some (.string x.body) ∧ wr.cell? ⟨b,o + k * 5 + 3,none⟩ = some (.bool x.again) ∧ wr.cell? ⟨b,o + k * 5 + 4,none⟩ = some (.int .i64 x.deaths) :=
 ⟨hc 0 _ rfl,hc 1 _ rfl,hc 2 _ rfl,hc 3 _ rfl,hc 4 _ rfl⟩
set_option maxHeartbeats 1000000 in
theorem LCheck_any (a : Option Addr) (c : Nat) (l : List ItemD) (lo : Nat) (w : World) (hv : Env w) (hl : Sl w lo w.heap.size a (l.flatMap vItem)) (hs : LineSmall l) :
  Calls Tryz.prog 77 #[.slice a l.length c] w fun e w' => e = .returned (.int .i64 (lineErr l)) ∧ Below w.heap.size w w' := by
 have hll := hs.len
 have HL := Lib.hid hl; clear hl
 have HV := Lib.hid hv; clear hv
 have HS := Lib.hid hs.item; clear hs
 go_enter Tryz.func77,Tryz.ntmps77
 go_wp2_with fail
 go_loopw [3,8] (fun last i wr => LineRel l w last i wr) (fun _ i _ => l.length - (intOf i).toNat)
 case atStart => exact ⟨0,by omega,rfl,rfl,rfl,Below.refl _ _⟩
 case round =>
  obtain ⟨k,hk,rfl,rfl,hlf,hB⟩ := hrel
  have HF := Lib.hid hlf; clear hlf
  have HB := Lib.hid hB
  by_cases hlt : k < l.length
  ·obtain ⟨b,o,ha,_,hb,hc⟩ := sl_elem vItem_len (by decide) HL.out hlt
   subst ha
   obtain ⟨e0,e1,e2,e3,e4⟩ := item_cells (wr := wr) (b := b) (o := o) (k := k) (x := l[k]) fun j u hu => (hB.cell (p := ⟨b,_,none⟩) hb).trans (hc j u hu)
   have HSM := Lib.hid (HS.out _ (List.getElem_mem hlt))
   have hbk := Bk.new wr 52 (vItem l[k]).toArray
   have hbl : Below wr.heap.size wr (wr.alloc (.cells (vItem l[k]).toArray 52)) := (Below.refl _ wr).alloc (Nat.le_refl _) _
   have hz : (wr.alloc (.cells (vItem l[k]).toArray 52)).heap.size = wr.heap.size + 1 := by simp
   have HBK := Lib.hid hbk; have HBL := Lib.hid hbl; have HZ := Lib.hid hz
   clear hc hB hbk hbl hz
   go_wp2_with fail
   refine (Fine_any l[k] _ (below_env (HB.out.trans (HBL.out.mono HB.out.size)) HV.out) HSM.out).mono ?_
   rintro e w1 ⟨rfl,hb1⟩
   have hb1' := HBK.out.below hb1 (by have := HZ.out; unfold vItem at this; simp)
   have f0 := hb1'.cell 0
   rw [show ((vItem l[k]).toArray)[0]? = some (.int .i64 l[k].seq) from rfl] at f0
   have HB1 := Lib.hid (HB.out.trans ((HBL.out.trans (hb1.mono (by have := HZ.out; unfold vItem at this; simp))).mono HB.out.size))
   clear hb1 hb1' e0 e1 e2 e3 e4
   cases hq : itemFine l[k]
   ·have HR : Hid (lineErr l = 1) := by
     refine (?_ : lineErr l = 1)
     unfold lineErr
     rw [line_bad1 hlt HF.out hq]
     rfl
    clear hq
    go_wp2_with fail
    go_ret
    exact ⟨by rw [HR.out]; rfl,HB1.out⟩
   ·by_cases hs : lastAt l k < l[k].seq
    ·have HR := Lib.hid (line_step hlt HF.out hq hs)
     have HQ := Lib.hid (lastAt_succ hlt)
     clear hq
     go_wp2_with fail
     exact ⟨⟨k + 1,hlt,by go_num,by rw [HQ.out],HR.out,HB1.out⟩,by simp [intOf]; omega⟩
    ·have hs' : l[k].seq ≤ lastAt l k := by omega
     have HR : Hid (lineErr l = 1) := by
      refine (?_ : lineErr l = 1)
      unfold lineErr
      rw [line_bad2 hlt HF.out hs']
      rfl
     clear hq hs
     go_wp2_with fail
     go_ret
     exact ⟨by rw [HR.out]; rfl,HB1.out⟩
  ·obtain rfl : k = l.length := by omega
   have HR : Hid (lineErr l = 0) := by
    refine (?_ : lineErr l = 0)
    unfold lineErr
    rw [line_done HF.out]
    rfl
   clear hB
   go_wp2_with fail
   go_ret
   exact ⟨by rw [HR.out]; rfl,HB.out⟩
open Go.RowKit
set_option maxRecDepth 100000
open Go.RowKit
set_option maxRecDepth 100000
def zItem : Value := .agg #[.int .i64 0,.string .empty,.string .empty,.bool false,.int .i64 0]
theorem infoItem : (Tryz.prog.info? 52).map (fun i => (i.zero,i.size,i.bytes)) = some (some zItem,5,56) := by kernel_rfl
theorem vItem_one (x : ItemD) : ∀ u ∈ vItem x,u.oneCell' = true := by simp [vItem,Value.oneCell']
theorem items_one (xs : List ItemD) : ∀ u ∈ xs.flatMap vItem,u.oneCell' = true := by
 intro u hu
 obtain ⟨x,_,hx⟩ := List.mem_flatMap.1 hu
 exact vItem_one x u hx
theorem own_mono {w : World} {base base' : Nat} {e : TypeId} {size n : Nat} {v : Value} {us : List Value} (h : w.ownsRow base e size v n us) (hb : base' ≤ base) : w.ownsRow base' e size v n us := by
 obtain ⟨hl,h⟩ := h
 refine ⟨hl,?_⟩
 rcases h with h | ⟨g,cap,cur,hv,hg,r⟩
 ·exact .inl h
 ·exact .inr ⟨g,cap,cur,hv,Nat.le_trans hb hg,r⟩
theorem pushL_len (x : ItemD) : ∀ l : List ItemD,(pushL l x).length = l.length + 1
 | [] => rfl
 | y :: r => by
  unfold pushL
  split
  ·simp
  ·simp [pushL_len x r]
open Go.RowKit
set_option maxRecDepth 100000
theorem since_stepC {w W W' : World} {C : Prop} (hW : C ∧ Below w.heap.size w W) (hb : Below W.heap.size W W') : Below w.heap.size w W' := hW.2.trans (hb.mono hW.2.size)
open Go.RowKit
set_option maxRecDepth 100000
def letterP (n : Int) (b : ByteArray) : ItemD := ⟨n,⟨#[120,46,121]⟩,b,false,0⟩
theorem xy_key : splitErr isWord ⟨#[120,46,121]⟩ = 0 := by rw [splitErr_list,ByteArray.toList_eq]; decide
theorem letter_fine {n : Int} {b : ByteArray} (h0 : 0 ≤ n) (h1 : n < 1048576) (hb : b.size ≤ 12) : itemFine (letterP n b) = true := by
 simp [itemFine,letterP,xy_key,h0,h1,hb]
theorem letter_small {n : Int} {b : ByteArray} (h0 : 0 ≤ n) (h1 : n < 1048576) (hb : b.size ≤ 12) : ItemSmall (letterP n b) := by
 unfold ItemSmall letterP
 refine ⟨?_,?_,?_,?_,?_,?_⟩
 ·show (⟨#[120,46,121]⟩ : ByteArray).size ≤ 1048576; decide
 ·show b.size ≤ 1048576; omega
 ·show -9223372036854775808 ≤ n; omega
 ·show n ≤ 9223372036854775807; omega
 ·show (-9223372036854775808 : Int) ≤ 0; decide
 ·show (0 : Int) ≤ 9223372036854775807; decide
set_option maxHeartbeats 400000 in
theorem letter_any (n : Int) (b : ByteArray) (w : World) : Calls Tryz.prog 100 #[.int .i64 n,.string b] w fun e w' => e = .returned (.agg (vItem (letterP n b)).toArray) ∧ Below w.heap.size w w' := by
 go_enter Tryz.func100,Tryz.ntmps100
 go_wp2_with fail
 exact bodyPost_ret (v := .agg (vItem (letterP n b)).toArray) (by simp [results,Tryz.results100,go_sem,vItem,letterP]) rfl ⟨rfl,(Below.refl _ _).alloc (Nat.le_refl _) _⟩
def bOne : ByteArray := ⟨#[111,110,101]⟩
def bFour : ByteArray := ⟨#[102,111,117,114]⟩
def bTwo : ByteArray := ⟨#[116,119,111]⟩
theorem f1 : itemFine (letterP 1 bOne) = true := letter_fine (by decide) (by decide) (by decide)
theorem f2 : itemFine (letterP 2 bTwo) = true := letter_fine (by decide) (by decide) (by decide)
theorem f4 : itemFine (letterP 4 bFour) = true := letter_fine (by decide) (by decide) (by decide)
theorem s1 : ItemSmall (letterP 1 bOne) := letter_small (by decide) (by decide) (by decide)
theorem s2 : ItemSmall (letterP 2 bTwo) := letter_small (by decide) (by decide) (by decide)
theorem s4 : ItemSmall (letterP 4 bFour) := letter_small (by decide) (by decide) (by decide)
set_option maxHeartbeats 400000 in
theorem letter_lit (n : Int) (b : ByteArray) (w : World) : Calls Tryz.prog 100 #[.int .i64 n,.string b] w fun e w' => e = .returned (.agg #[.int .i64 n,.string ⟨#[120,46,121]⟩,.string b,.bool false,.int .i64 0]) ∧ Below w.heap.size w w' := letter_any n b w
open Go.RowKit
theorem addr_add' (b o j : Nat) : (⟨b,o,none⟩ : Addr).add j = ⟨b,o + j,none⟩ := by
 unfold Addr.add
 split
 ·simp_all
 ·simp
theorem own_new {w : World} {e : TypeId} {size k : Nat} (n cap : Nat) (us : List Value) (rest : Array Value) (hl : us.length = n * size) (hc : n ≤ cap) (hm : cap ≤ maxLen) (hr : rest.size = (cap - n) * size) (hk : k ≤ w.heap.size) :
  (w.drew.alloc (.cells (us.toArray ++ rest) e)).ownsRow k e size (.slice (some ⟨w.heap.size,0,none⟩) n cap) n us := by
 refine ⟨hl,.inr ⟨w.heap.size,_,_,rfl,hk,heap_alloc_new w.drew _,hc,hm,?_,?_⟩⟩
 ·simp only [Array.size_append,List.size_toArray,hl,hr,← Nat.add_mul]
  congr 1
  omega
 ·simp only [Array.toList_append]
  rw [← hl]
  exact List.take_left
theorem run_append_new {P : Program} (w : World) (t ty e : TypeId) {z : Value} {size bytes : Nat} (ht : P.underlying t = some (.slice e)) (hinfo : (P.info? e).map (fun i => (i.zero,i.size,i.bytes)) = some (some z,size,bytes))
  (hzs : z.cells.size = size) (hsz : 0 < size) (hb : bytes ≤ 4096) (b0 : Addr) (n cap : Nat) (olds : List Value) (lo hi : Nat) (hol : olds.length = n * size) (ho : Sl w lo hi (some b0) olds)
  (lo' hi' : Nat) (a : Option Addr) (m c : Nat) (news : List Value) (hl : news.length = m * size) (hs : Sl w lo' hi' a news) (hnc : n ≤ cap) (hg : cap < n + m) (hn : n + m ≤ 4294967296) :
  ∃ v' w',(Builtin.append_ #[t,t] ty #[.slice (some b0) n cap,.slice a m c]).run P w = .ok v' w' ∧ w'.ownsRow w.heap.size e size v' (n + m) (olds ++ news) ∧ Below w.heap.size w w' := by
 obtain ⟨i,hi,hz0,hz1,hz2⟩ := info_parts hinfo
 have hnil : news ≠ [] := by
  rintro rfl
  have : m * size = 0 := hl.symm
  rcases Nat.mul_eq_zero.1 this with h | h <;> omega
 rcases hs with h | ⟨b,o,rfl,_,_,hc⟩
 ·exact absurd h hnil
 have hby : (n + m) * bytes ≤ 140737488355328 := by
  have : (n + m) * bytes ≤ 4294967296 * 4096 := Nat.mul_le_mul hn hb
  omega
 have hr := run_append_grow (P := P) w t ty e i z ht hi hz0 b0 n cap olds (by rw [hz1]; exact hol) (fun j v hj => by
   rcases ho with h | ⟨b',o',e',_,_,hc'⟩
   ·rw [h] at hj; simp at hj
   ·simp only [Option.some.injEq] at e'
    rw [e',addr_add']
    exact hc' j v hj) ⟨b,o,none⟩ m c news (by rw [hz1]; exact hl) (fun j v hj => by rw [addr_add']; exact hc j v hj) hg (by omega) (growslice_fits hg (by rw [hz2]; exact hby))
 have hge := grownCap_ge w (n + m) cap e
 have hcm : grownCap w (n + m) cap e ≤ maxLen := grownCap_le_maxLen w (n + m) cap e (by unfold maxLen; omega)
 refine ⟨_,_,hr,?_,(Below.refl _ w).drew.alloc (Nat.le_refl _) _⟩
 rw [List.append_toArray olds news]
 exact own_new (n + m) _ (olds ++ news) _ (by rw [List.length_append,hol,hl,Nat.add_mul]) hge hcm (by rw [size_zeroCells,hzs]) (Nat.le_refl _)
theorem run_append_zero {P : Program} (w : World) (t ty e : TypeId) {z : Value} {size bytes : Nat} (ht : P.underlying t = some (.slice e)) (hinfo : (P.info? e).map (fun i => (i.zero,i.size,i.bytes)) = some (some z,size,bytes))
  (hzs : z.cells.size = size) (hsz : 0 < size) (hb : bytes ≤ 4096) (b0 : Addr) (lo hi : Nat) (a : Option Addr) (m c : Nat) (news : List Value) (hl : news.length = m * size) (hs : Sl w lo hi a news) (hn : m ≤ 4294967296) :
  ∃ v' w',(Builtin.append_ #[t,t] ty #[.slice (some b0) 0 0,.slice a m c]).run P w = .ok v' w' ∧ Below w.heap.size w w' ∧ (0 < m ∧ w'.ownsRow w.heap.size e size v' m news ∨ m = 0 ∧ v' = .slice (some b0) 0 0 ∧ w' = w) := by
 by_cases hm : m = 0
 ·subst hm
  obtain ⟨i,hi,hz0,hz1,hz2⟩ := info_parts hinfo
  refine ⟨.slice (some b0) 0 0,w,?_,Below.refl _ _,.inr ⟨rfl,rfl,rfl⟩⟩
  cases a with
  | none => simp [Builtin.append_,run_underlying ht,sizeOf,typeInfo,hi,Builtin.lenOf,Builtin.firstCells,storeCells]
  | some ad =>
   have hf := run_firstCells_some (P := P) w i.size 0 ad 0 c [] (by simp) (by intro j v hj; simp at hj)
   simp [Builtin.append_,run_underlying ht,sizeOf,typeInfo,hi,Builtin.lenOf,hf,storeCells]
 ·obtain ⟨v',w',h1,h2,h3⟩ := run_append_new (P := P) w t ty e ht hinfo hzs hsz hb b0 0 0 [] 0 0 (by simp) (Sl.nil _ _ _ _) lo hi a m c news hl hs (Nat.le_refl _) (by omega) (by omega)
  rw [Nat.zero_add,List.nil_append] at h2
  exact ⟨v',w',h1,h3,.inl ⟨by omega,h2⟩⟩
end Go.Proofs.YtaanpcjkflhomaaGreatDoor
namespace Go.Proofs.YtaanpcjkflhomaaGreatDoor
open Go.RowKit
set_option maxRecDepth 100000
theorem run_copy_rowN {P : Program} (w : World) (dT sT ty elem : TypeId) {z : Value} {size bytes : Nat} (hu : P.underlying dT = some (.slice elem)) (hinfo : (P.info? elem).map (fun i => (i.zero,i.size,i.bytes)) = some (some z,size,bytes))
  (g o dLen dCap : Nat) (a : Addr) (sLen sCap k : Nat) (cur : Array Value) (t : TypeId) (cs : List Value) (hg : w.heap[g]? = some (.cells cur t (0,0))) (hk : Nat.min sLen dLen = k) (hn : cs.length = k * size)
  (hsrc : ∀ j v,cs[j]? = some v → w.cell? (a.add j) = some v) (hfit : o + cs.length ≤ cur.size) (h1 : ∀ v ∈ cs,v.oneCell' = true) :
  (Builtin.copy_ #[dT,sT] ty #[.slice (some ⟨g,o,none⟩) dLen dCap,.slice (some a) sLen sCap]).run P w = .ok (goInt k) (w.setRow g (cur.toList.take o ++ cs ++ cur.toList.drop (o + cs.length)).toArray) := by
 obtain ⟨i,hi,hz0,hz1,hz2⟩ := info_parts hinfo
 have hl := run_loadCells_list (P := P) w a cs hsrc
 have hst := run_storeCells_at P g o t cs 0 cur w hg (by simpa using hfit) h1
 rw [hn] at hl
 simp [Builtin.copy_,run_underlying hu,Builtin.lenOf,Builtin.firstCells,sizeOf,typeInfo,hi,hz1,hk,hl,hst]
theorem wpList_copyR {P : Program} (w : World) {ops : Array Oper} {rest : List Oper} {o : Oper} {a : Act} {Q : Exit → Act → World → Prop} (hgd : o.guard = none) (d s : Operand) (t t' : TypeId)
  (ho : o.op = .call { callee := .builtin .copy,args := #[d,s],argTypes := #[t,t'] }) (v u : Value) (hd : a.eval d = v) (hs : a.eval s = u) {v' : Value} {w' : World}
  (hr : (Builtin.copy_ #[t,t'] o.type #[v,u]).run P w = .ok v' w') (h : wpList P ops Q rest (a.put o.dst v') w') : wpList P ops Q (o :: rest) a w :=
 wpList_plain hgd fun _ hK => by
  unfold Oper.wp execOp
  simp only [ho,resolve,invoke,builtin,Sem.run_bind,Sem.run_pure,Result.andThen_ok,List.map_toArray,List.map_cons,List.map_nil,hd,hs,hr]
  exact hK _ _ h
theorem bk_setRow {w : World} {g : Nat} {t : TypeId} {cs : Array Value} (h : Bk w g t cs) (cs' : Array Value) : Bk (w.setRow g cs') g t cs' := setRow_heap w g cs cs' t (0,0) h
theorem bk_setRow_far {w : World} {g g' : Nat} {t : TypeId} {cs : Array Value} (h : Bk w g' t cs) (hne : g' ≠ g) (cs' : Array Value) : Bk (w.setRow g cs') g' t cs := (setRow_other w g g' cs' hne).trans h
theorem grown_setRow (w : World) (g : Nat) (cs : Array Value) : w.grownBy (w.setRow g cs) (some g) := ⟨rfl,rfl,rfl,by simp,fun k _ hne => setRow_other w g k cs (fun e => hne (by rw [e]))⟩
theorem grown_trans {w w1 w2 : World} {row : Option Nat} (h1 : w.grownBy w1 row) (h2 : w1.grownBy w2 row) : w.grownBy w2 row :=
 ⟨h2.os.trans h1.os,h2.tape.trans h1.tape,h2.output.trans h1.output,Nat.le_trans h1.size h2.size,fun k hk hne => (h2.block k (Nat.lt_of_lt_of_le hk h1.size) hne).trans (h1.block k hk hne)⟩
theorem grown_drew (w : World) (row : Option Nat) : w.grownBy w.drew row := ⟨rfl,rfl,rfl,Nat.le_refl _,fun _ _ _ => rfl⟩
theorem grown_below {w w' : World} (h : Below w.heap.size w w') (row : Option Nat) : w.grownBy w' row := ⟨h.os,h.tape,h.output,h.size,fun k hk _ => h.block k hk⟩
theorem eg_sizeItem : ∀ w,(sizeOf (Tryz.prog.elem 50)).run Tryz.prog w = .ok 5 w := fun _ => by kernel_rfl
theorem sl_of_bk {w : World} {g lo hi : Nat} {t : TypeId} {cs : Array Value} (h : Bk w g t cs) (h1 : lo ≤ g) (h2 : g < hi) {us : List Value} (hu : us = cs.toList) : Sl w lo hi (some ⟨g,0,none⟩) us :=
 .inr ⟨g,0,rfl,h1,h2,fun j u hj => by
  rw [Nat.zero_add,h.cell]
  rw [hu,Array.getElem?_toList] at hj
  exact hj⟩
set_option maxHeartbeats 1000000 in
theorem Clone_any (a : Option Addr) (c : Nat) (l : List ItemD) (lo : Nat) (w : World) (hl : Sl w lo w.heap.size a (l.flatMap vItem)) (hll : l.length ≤ 1048576) :
  Calls Tryz.prog 135 #[.slice a l.length c] w fun e w' => ∃ v,e = .returned v ∧ w'.ownsRow w.heap.size 52 5 v l.length (l.flatMap vItem) ∧ Below w.heap.size w w' := by
 have heq := fun W => Lib.run_eql_slice_nil (P := Tryz.prog) W 50 52 a l.length c 0 0 Tryz.underlying50
 have hlen : (l.flatMap vItem).length = l.length * 5 := flat_len vItem_len l
 have HLEN := Lib.hid hlen; clear hlen
 have HL := Lib.hid hl; clear hl
 cases a with
 | none =>
  have h0 : l.length = 0 := by
   rcases HL.out with h | ⟨b,o,e,_⟩
   ·have := HLEN.out; rw [h] at this; simp at this; omega
   ·cases e
  have HR : Hid (∀ W : World,W.ownsRow w.heap.size 52 5 (.slice none 0 0) l.length (l.flatMap vItem)) := fun W => by
   rw [h0,List.eq_nil_of_length_eq_zero h0]
   exact World.ownsRow_nil _ _ _ _
  clear h0
  go_enter Tryz.func135,Tryz.ntmps135
  go_wp2_with fail
  go_ret
  exact ⟨_,rfl,HR.out _,Below.refl _ _⟩
 | some ad =>
  have hal : Below w.heap.size w (w.alloc (.cells #[] 52)) := (Below.refl _ _).alloc (Nat.le_refl _) _
  obtain ⟨v',w',hr,hb,hx⟩ := run_append_zero (P := Tryz.prog) (w.alloc (.cells #[] 52)) 50 50 52 Tryz.underlying50 infoItem rfl (by decide) (by decide) ⟨w.heap.size,0,none⟩ lo w.heap.size (some ad) l.length c (l.flatMap vItem) HLEN.out (HL.out.below hal (Nat.le_refl _)) (by omega)
  have HO : Hid (w'.ownsRow w.heap.size 52 5 v' l.length (l.flatMap vItem)) := by
   rcases hx with ⟨_,h⟩ | ⟨h0,rfl,rfl⟩
   ·exact own_mono h (by simp)
   ·rw [h0,List.eq_nil_of_length_eq_zero h0]
    exact World.ownsRow_lit w #[] 0 (Nat.le_refl _) (by decide) rfl
  have HB := Lib.hid (hal.trans (hb.mono hal.size)); clear hx hb hal
  go_enter Tryz.func135,Tryz.ntmps135
  go_wp2_with (at_builtin; refine Lib.wpList_append_run _ rfl _ _ _ _ rfl _ _ rfl rfl _ _ hr ?_)
  go_ret
  exact ⟨_,rfl,HO.out,HB.out⟩
open Go.RowKit
set_option maxRecDepth 100000
set_option maxHeartbeats 1000000 in
theorem indexFunc_Taker (g : Nat) (lb : Array Value) (eg : ∀ args w,(callFunc g args).run Tryz.prog w = .ok (.enter g args) w) (p : TakerD → Bool) (xs : List TakerD) (a : Option Addr) (c lo : Nat) (w : World)
  (hp : ∀ x ∈ xs,∀ W,Below w.heap.size w W → Calls Tryz.prog g (#[.agg (vTaker x).toArray] ++ lb) W fun e W' => e = .returned (.bool (p x)) ∧ Below W.heap.size W W')
  (hx : Sl w lo w.heap.size a (xs.flatMap (vTaker))) (hl : xs.length ≤ 4294967296) :
  Calls Tryz.prog 101 #[.slice a xs.length c,.func (.func g) #[] lb] w fun e w' => e = .returned (.int .i64 (idxOf p xs)) ∧ Below w.heap.size w w' := by
 have HX := Lib.hid hx; clear hx
 have HP := Lib.hid hp; clear hp
 go_enter Tryz.func101,Tryz.ntmps101
 go_wp2_with fail
 go_loopw [8] (fun i wr => IdxRel p xs w.heap.size w i wr) (fun i _ => xs.length - (intOf i).toNat)
 case atStart => exact ⟨0,by omega,rfl,Below.refl _ _,fun j x hj => absurd hj (by omega)⟩
 case round =>
  obtain ⟨k,hk,rfl,hB,hall⟩ := hrel
  have HA := Lib.hid hall; clear hall
  by_cases hlt : k < xs.length
  ·obtain ⟨b,o,rfl,_,hb,hc⟩ := sl_elem (enc := vTaker) (size := 2) (fun _ => rfl) (by decide) HX.out hlt
   have e0 : wr.cell? ⟨b,o + k * 2,none⟩ = some (.int .i64 xs[k].queue) := by
    have := (hB.cell (p := ⟨b,_,none⟩) hb).trans (hc 0 _ rfl)
    simpa using this
   have e1 : wr.cell? ⟨b,o + k * 2 + 1,none⟩ = some (.int .i64 xs[k].atOnce) := by
    have := (hB.cell (p := ⟨b,_,none⟩) hb).trans (hc 1 _ rfl)
    simpa using this
   have HPk := Lib.hid (HP.out xs[k] (List.getElem_mem hlt) wr hB)
   have HB := Lib.hid hB
   clear hc hB
   cases hq : p xs[k]
   ·have HQ := Lib.hid hq; clear hq
    go_wp2_with fail
    refine HPk.out.mono ?_
    rw [HQ.out]
    rintro e w1 ⟨rfl,hb1⟩
    have H1 := Lib.hid (HB.out.trans (hb1.mono HB.out.size)); clear hb1
    go_wp2_with fail
    exact ⟨idxRel_step HA.out hlt HQ.out H1.out,by simp [intOf]; omega⟩
   ·have HQ := Lib.hid (idxOf_hit HA.out hlt hq)
    have HQ2 := Lib.hid hq; clear hq
    go_wp2_with fail
    refine HPk.out.mono ?_
    rw [HQ2.out]
    rintro e w1 ⟨rfl,hb1⟩
    have H1 := Lib.hid (HB.out.trans (hb1.mono HB.out.size)); clear hb1
    go_wp2_with fail
    go_ret
    exact ⟨by rw [HQ.out]; rfl,H1.out⟩
  ·have HQ := Lib.hid (idxOf_miss HA.out (by omega))
   go_wp2_with fail
   go_ret
   exact ⟨by rw [HQ.out]; rfl,hB⟩
set_option maxHeartbeats 400000 in
theorem containsFunc_Taker (g : Nat) (lb : Array Value) (eg : ∀ args w,(callFunc g args).run Tryz.prog w = .ok (.enter g args) w) (p : TakerD → Bool) (xs : List TakerD) (a : Option Addr) (c lo : Nat) (w : World)
  (hp : ∀ x ∈ xs,∀ W,Below w.heap.size w W → Calls Tryz.prog g (#[.agg (vTaker x).toArray] ++ lb) W fun e W' => e = .returned (.bool (p x)) ∧ Below W.heap.size W W')
  (hx : Sl w lo w.heap.size a (xs.flatMap (vTaker))) (hl : xs.length ≤ 4294967296) :
  Calls Tryz.prog 63 #[.slice a xs.length c,.func (.func g) #[] lb] w fun e w' => e = .returned (.bool (xs.any p)) ∧ Below w.heap.size w w' := by
 have HI := Lib.hid (indexFunc_Taker g lb eg p xs a c lo w hp hx hl); clear hp hx
 have hany := idxOf_any p xs
 have HY := Lib.hid hany; clear hany
 generalize hI : idxOf p xs = I at HI HY
 clear hI
 go_enter Tryz.func63,Tryz.ntmps63
 go_wp2_with fail
 refine HI.out.mono ?_
 rintro e w1 ⟨rfl,hb1⟩
 go_wp2_with fail
 go_ret
 exact ⟨by rw [HY.out]; rfl,hb1⟩
end Go.Proofs.YtaanpcjkflhomaaGreatDoor
