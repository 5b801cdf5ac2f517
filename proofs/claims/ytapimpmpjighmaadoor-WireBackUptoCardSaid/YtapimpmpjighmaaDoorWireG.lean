/-
  Walk of wire.Write.
-/
import Derived.Test.YtapimpmpjighmaaDoorWireF
import Derived.Test.YtapimpmpjighmaaDoorPlanFA
import Derived.Laws.IdiomStrings
namespace Go.Proofs.YtapimpmpjighmaaDoor
open Go.RowKit
set_option maxRecDepth 100000

def byteN (n : Int) : UInt8 := UInt8.ofNat (n % 256).toNat
theorem byteN_toNat (n : Int) : ((byteN n).toNat : Int) = n % 256 := by
  unfold byteN
  rw [UInt8.toNat_ofNat']
  omega
def byteV (b : UInt8) : Value := .int .u8 (b.toNat : Int)
def encB : AnyD → List UInt8
  | .int n => [byteN n]
  | .str s => [byteN (s.size : Int)] ++ s.data.toList
  | .bool b => [if b then 1 else 0]
def encsB (xs : List AnyD) : List UInt8 := xs.flatMap encB
theorem encV_eq (x : AnyD) : encV x = (encB x).map byteV := by
  cases x with
  | int n => simp [encV, encB, byteV, byteN_toNat]
  | str s => simp [encV, encB, byteV, byteN_toNat, Lib.strCells]
  | bool b => cases b <;> simp [encV, encB, byteV]
theorem encsV_eq : ∀ xs : List AnyD, encsV xs = (encsB xs).map byteV
  | [] => rfl
  | x :: r => by
    have := encsV_eq r
    unfold encsV encsB at this ⊢
    rw [List.flatMap_cons, List.flatMap_cons, List.map_append, encV_eq, this]

def anyPost (x : PostD) : List AnyD := [.str x.name, .int x.kind]
def anyQueue (x : QueueD) : List AnyD := [.str x.name, .int x.limit, .int (x.dead + 1)]
def anyBind (x : BindD) : List AnyD := [.int x.src, .bool x.toPost, .int x.to, .str x.pattern]
/-- The bytes of a plan. -/
def writeB (p : PlanD) : List UInt8 := encsB [.int p.posts.length] ++ p.posts.flatMap (fun x => encsB (anyPost x)) ++ (encsB [.int p.queues.length] ++ p.queues.flatMap (fun x => encsB (anyQueue x))) ++ (encsB [.int p.binds.length] ++ p.binds.flatMap (fun x => encsB (anyBind x)))
def writeS (p : PlanD) : ByteArray := ⟨(writeB p).toArray⟩
def writeP (p : PlanD) : ByteArray := if checkP p = 0 then writeS p else ⟨#[]⟩

/-- Bytes that a row of bytes holds, as a string. -/
theorem run_text {w : World} {B : Nat} {a : Option Addr} {c : Nat} (l : List UInt8) (h : w.ownsRow B 5 1 (.slice a l.length c) l.length (l.map byteV)) (h0 : 0 < l.length) : (convert 76 9 (.slice a l.length c)).run Tryd.prog w = .ok (.string ⟨l.toArray⟩) w := by
  obtain ⟨rb, rfl⟩ := own_at h h0
  refine run_convert_bytes_back w 76 9 5 ⟨rb, 0, none⟩ c l Tryd.underlying76 Tryd.underlying5 Tryd.underlying9 (fun j hj => ?_)
  have := h.cellAt j (by omega)
  have e : ((⟨rb, 0, none⟩ : Addr).add j) = ⟨rb, j, none⟩ := by
    unfold Addr.add
    split
    · simp_all
    · simp
  rw [e, this, List.getElem?_map, List.getElem?_eq_getElem hj]
  rfl

/-- The bytes so far: what is ahead, and so many of a list. -/
def WRel {α : Type} (l : List α) (f : α → List AnyD) (hd : List UInt8) (B g : Nat) (W0 : World) (i : Value) (wr : World) : Prop :=
  ∃ j : Nat, j ≤ l.length ∧ i = .int .i64 j ∧ (∃ v, PenAt B wr g ((hd ++ (l.take j).flatMap (fun x => encsB (f x))).map byteV) v) ∧ Below B W0 wr
theorem flat_next {α : Type} {l : List α} {f : α → List AnyD} {hd : List UInt8} {j : Nat} (h : j < l.length) : (hd ++ (l.take (j + 1)).flatMap (fun x => encsB (f x))).map byteV = (hd ++ (l.take j).flatMap (fun x => encsB (f x))).map byteV ++ encsV (f l[j]) := by
  rw [List.take_succ_eq_append_getElem h, List.flatMap_append, encsV_eq, ← List.map_append]
  simp
theorem flat_all {α : Type} (l : List α) (f : α → List AnyD) (hd : List UInt8) : hd ++ (l.take l.length).flatMap (fun x => encsB (f x)) = hd ++ l.flatMap (fun x => encsB (f x)) := by rw [List.take_length]
theorem flatw_len {α : Type} {f : α → List AnyD} {n : Nat} : ∀ l : List α, (∀ x ∈ l, (encsB (f x)).length ≤ n) → (l.flatMap (fun x => encsB (f x))).length ≤ l.length * n
  | [], _ => by simp
  | x :: r, hf => by
    have h1 := flatw_len r (fun y hy => hf y (List.mem_cons_of_mem _ hy))
    have h2 := hf x (List.mem_cons_self ..)
    rw [List.flatMap_cons, List.length_append, List.length_cons, Nat.succ_mul]
    omega
theorem take_flat_len {α : Type} {f : α → List AnyD} {n j : Nat} {l : List α} (hf : ∀ x ∈ l, (encsB (f x)).length ≤ n) : ((l.take j).flatMap (fun x => encsB (f x))).length ≤ l.length * n := by
  have h1 := flatw_len (l.take j) (fun x hx => hf x (List.mem_of_mem_take hx))
  have h2 : (l.take j).length ≤ l.length := by rw [List.length_take]; omega
  exact Nat.le_trans h1 (Nat.mul_le_mul_right n h2)
theorem post_bytes {p : PlanD} (h : PlanSmall p) : ∀ x ∈ p.posts, (encsB (anyPost x)).length ≤ 1048600 := fun x hx => by
  have h1 := h.post x hx
  have h2 : x.name.data.size = x.name.size := rfl
  simp only [anyPost, encsB, encB, List.flatMap_cons, List.flatMap_nil, List.length_append, List.length_cons, List.length_nil, Array.length_toList]
  omega
theorem queue_bytes {p : PlanD} (h : PlanSmall p) : ∀ x ∈ p.queues, (encsB (anyQueue x)).length ≤ 1048600 := fun x hx => by
  have h1 := h.queue x hx
  have h2 : x.name.data.size = x.name.size := rfl
  simp only [anyQueue, encsB, encB, List.flatMap_cons, List.flatMap_nil, List.length_append, List.length_cons, List.length_nil, Array.length_toList]
  omega
theorem bind_bytes {p : PlanD} (h : PlanSmall p) : ∀ x ∈ p.binds, (encsB (anyBind x)).length ≤ 1048600 := fun x hx => by
  have h1 := h.bind x hx
  have h2 : x.pattern.data.size = x.pattern.size := rfl
  simp only [anyBind, encsB, encB, List.flatMap_cons, List.flatMap_nil, List.length_append, List.length_cons, List.length_nil, Array.length_toList]
  omega

set_option maxHeartbeats 4000000 in
theorem Write_any (p : PlanD) (a1 a2 a3 : Option Addr) (c1 c2 c3 : Nat) (w : World) (hE : Env w) (hp : PlanAt w 0 w.heap.size a1 a2 a3 p) (hps : PlanSmall p) :
    Calls Tryd.prog 11 #[planV p a1 a2 a3 c1 c2 c3] w fun e w' => e = .returned (.tuple #[.string (writeP p), .int .i64 (checkP p)]) ∧ Below w.heap.size w w' := by
  have hbx := boxed_new hp c1 c2 c3 26
  unfold planV
  have HV := Lib.hid hE
  have HS := Lib.hid hps
  clear hp hE hps
  go_enter Tryd.func11, Tryd.ntmps11
  obtain ⟨m20, m21, m22⟩ := (hbx _ (Below.refl _ _)).2.1
  have HBX := Lib.hid hbx; clear hbx
  go_wp2_with fail
  generalize w.alloc (.cells #[Value.slice a1 p.posts.length c1, Value.slice a2 p.queues.length c2, Value.slice a3 p.binds.length c3] 26) = W0 at *
  refine (Check_any p a1 a2 a3 c1 c2 c3 0 W0 (below_env (HBX.out W0 (Below.refl _ _)).2.2 HV.out) ((HBX.out W0 (Below.refl _ _)).1) HS.out).mono ?_
  rintro e W1 ⟨rfl, hB1⟩
  have HB1 := Lib.hid hB1; clear hB1 m20 m21 m22
  obtain ⟨m20, m21, m22⟩ := (HBX.out _ HB1.out).2.1
  by_cases hc : checkP p = 0
  · have hright := checkP_right hc
    have HR := Lib.hid hright
    have HC := Lib.hid hc
    have HW : Hid (writeP p = writeS p) := (if_pos hc : writeP p = writeS p)
    have hn1 := hright.posts; have hn2 := hright.queues; have hn3 := hright.binds
    rw [hc]
    clear hright hc
    have hlt1 := World.block_lt_of_cell? W1 _ m20
    go_wp2_with fail
    have hp0 : PenAt W1.heap.size (W1.alloc (.cells #[.slice none 0 0] 78)) W1.heap.size (([] : List UInt8).map byteV) (.slice none 0 0) := ⟨Bk.new _ _ _, World.ownsRow_nil _ _ _ _, Nat.le_refl _⟩
    have hb0 : Below W1.heap.size W1 (W1.alloc (.cells #[.slice none 0 0] 78)) := (Below.refl _ _).alloc (Nat.le_refl _) _
    have hz0 : (W1.alloc (.cells #[.slice none 0 0] 78)).heap.size = W1.heap.size + 1 := by simp
    have BP1 := Lib.hid (take_flat_len (j := p.posts.length) (post_bytes HS.out))
    have BP2 := Lib.hid (take_flat_len (j := p.queues.length) (queue_bytes HS.out))
    rw [List.take_length] at BP1 BP2
    have HP := Lib.hid hp0; have HB := Lib.hid hb0
    clear hp0 hb0
    have hks : W1.heap.size + 1 = (W1.alloc (.cells #[.slice none 0 0] 78)).heap.size := hz0.symm
    generalize W1.alloc (.cells #[.slice none 0 0] 78) = Wc at *
    have hl0 : ([].map byteV).length + (encsV [.int p.posts.length]).length < 4294967296 := by
      have e1 := BP1.out; have e2 := BP2.out
      simp only [encsV_eq, List.length_map, List.length_append, encsB, encB, List.flatMap_cons, List.flatMap_nil, List.length_cons, List.length_nil]
      simp only [encsB] at e1 e2
      omega
    refine (put_any [.int p.posts.length] W1.heap.size W1.heap.size (W1.heap.size + 1) ([].map byteV) (.slice none 0 0) _ (HP.out.alloc _) (Bk.new_at _ _ _ hks) hl0 (by have := HB.out.size; omega)).mono ?_
    rintro e W2 ⟨rfl, ⟨v2, hp2⟩, _, hb2⟩
    rw [encsV_eq, ← List.map_append] at hp2
    rw [List.nil_append] at hp2
    have HPL := Lib.hid hp2
    have HBL := Lib.hid ((HB.out.alloc HB.out.size _).trans hb2)
    clear hp2 hb2 hl0 HP HB m20 m21 m22 hks
    obtain ⟨m20, m21, m22⟩ := (HBX.out _ (HB1.out.trans (HBL.out.mono HB1.out.size))).2.1
    go_wp2_with fail
    clear m20 m21 m22
    go_loopw [7, 29] (fun _ i wr => WRel p.posts anyPost (encsB [.int p.posts.length]) W1.heap.size W1.heap.size W1 i wr) (fun _ i _ => p.posts.length - (intOf i).toNat)
    case atStart => exact ⟨0, by omega, rfl, ⟨v2, by rw [List.take_zero, List.flatMap_nil, List.append_nil]; exact HPL.out⟩, HBL.out⟩
    case round =>
      clear HPL HBL
      obtain ⟨j, hj, rfl, ⟨vj, hpj⟩, hbj⟩ := hrel
      have HPJ := Lib.hid hpj
      have HBJ := Lib.hid hbj
      have HW0 := Lib.hid (HB1.out.trans (hbj.mono HB1.out.size))
      clear hpj hbj
      by_cases hjl : j < p.posts.length
      · have hnx := flat_next (f := anyPost) (hd := encsB [.int p.posts.length]) hjl
        obtain ⟨b, o, ha, _, hb, hcl⟩ := sl_elem vPost_len (by decide) (HBX.out _ HW0.out).1.posts hjl
        have d0 : wr.cell? ⟨b, o + j * 2, none⟩ = some (.string p.posts[j].name) := hcl 0 _ rfl
        have d1 : wr.cell? ⟨b, o + j * 2 + 1, none⟩ = some (.int .i64 p.posts[j].kind) := hcl 1 _ rfl
        have hby := post_bytes HS.out _ (List.getElem_mem hjl)
        have htk := take_flat_len (j := j) (post_bytes HS.out)
        clear hcl
        generalize p.posts[j] = x at *
        have HNX := Lib.hid hnx
        have hlq : ((encsB [.int p.posts.length] ++ (p.posts.take j).flatMap (fun x => encsB (anyPost x))).map byteV).length + (encsV (anyPost x)).length < 4294967296 := by
          have e1 := BP1.out; have e2 := BP2.out
          rw [encsV_eq, List.length_map, List.length_map, List.length_append]
          have e3 : (encsB [.int p.posts.length]).length ≤ 20 + p.posts.length * 1048600 + p.queues.length * 1048600 := by
            simp only [List.length_append, encsB, encB, List.flatMap_cons, List.flatMap_nil, List.length_cons, List.length_nil]
            simp only [encsB] at e1 e2
            omega
          omega
        have HLQ := Lib.hid hlq
        clear hnx hlq hby htk
        subst ha
        go_wp2_with fail
        have hz : (wr.alloc (.cells #[.string x.name, .int .i64 x.kind] 81)).heap.size = wr.heap.size + 1 := by simp
        refine (put_any (anyPost x) W1.heap.size W1.heap.size (wr.heap.size + 1) _ vj _ ((HPJ.out.alloc _).alloc _) (Bk.new_at _ _ _ hz.symm) HLQ.out (by have := HBJ.out.size; omega)).mono ?_
        rintro e W9 ⟨rfl, ⟨v9, hp9⟩, _, hb9⟩
        rw [← HNX.out] at hp9
        have HP9 := Lib.hid hp9
        have HB9 := Lib.hid (((HBJ.out.alloc HBJ.out.size _).alloc (by have := HBJ.out.size; omega) _).trans hb9)
        clear hp9 hb9 hz
        go_wp2_with fail
        exact ⟨⟨j + 1, hjl, by go_num, ⟨v9, HP9.out⟩, HB9.out⟩, by simp [intOf]; omega⟩
      · obtain rfl : j = p.posts.length := by omega
        have hpj := HPJ.out
        rw [flat_all] at hpj
        have HP := Lib.hid hpj
        have HB := Lib.hid HBJ.out
        clear hpj HPJ HBJ
        obtain ⟨m20, m21, m22⟩ := (HBX.out _ HW0.out).2.1
        generalize wr = Wc at *
        generalize vj = vc at *
        go_wp2_with fail
        clear m20 m21 m22
        have hl1 : ((encsB [.int p.posts.length] ++ p.posts.flatMap (fun x => encsB (anyPost x))).map byteV).length + (encsV [.int p.queues.length]).length < 4294967296 := by
          have e1 := BP1.out; have e2 := BP2.out
          simp only [encsV_eq, List.length_map, List.length_append, encsB, encB, List.flatMap_cons, List.flatMap_nil, List.length_cons, List.length_nil]
          simp only [encsB] at e1 e2
          omega
        refine (put_any [.int p.queues.length] W1.heap.size W1.heap.size (Wc.heap.size) ((encsB [.int p.posts.length] ++ p.posts.flatMap (fun x => encsB (anyPost x))).map byteV) vc _ (HP.out.alloc _) (Bk.new_at _ _ _ rfl) hl1 (by have := HB.out.size; omega)).mono ?_
        rintro e W3 ⟨rfl, ⟨v3, hp3⟩, _, hb3⟩
        rw [encsV_eq, ← List.map_append] at hp3
        have HPL := Lib.hid hp3
        have HBL := Lib.hid ((HB.out.alloc HB.out.size _).trans hb3)
        clear hp3 hb3 hl1 HP HB
        obtain ⟨m20, m21, m22⟩ := (HBX.out _ (HB1.out.trans (HBL.out.mono HB1.out.size))).2.1
        go_wp2_with fail
        clear m20 m21 m22
        go_loopw [9, 53] (fun _ i wr => WRel p.queues anyQueue ((encsB [.int p.posts.length] ++ p.posts.flatMap (fun x => encsB (anyPost x))) ++ encsB [.int p.queues.length]) W1.heap.size W1.heap.size W1 i wr) (fun _ i _ => p.queues.length - (intOf i).toNat)
        case atStart => exact ⟨0, by omega, rfl, ⟨v3, by rw [List.take_zero, List.flatMap_nil, List.append_nil]; exact HPL.out⟩, HBL.out⟩
        case round =>
          clear HPL HBL
          obtain ⟨j, hj, rfl, ⟨vj, hpj⟩, hbj⟩ := hrel
          have HPJ := Lib.hid hpj
          have HBJ := Lib.hid hbj
          have HW0 := Lib.hid (HB1.out.trans (hbj.mono HB1.out.size))
          clear hpj hbj
          by_cases hjl : j < p.queues.length
          · have hnx := flat_next (f := anyQueue) (hd := (encsB [.int p.posts.length] ++ p.posts.flatMap (fun x => encsB (anyPost x))) ++ encsB [.int p.queues.length]) hjl
            obtain ⟨b, o, ha, _, hb, hcl⟩ := sl_elem vQueue_len (by decide) (HBX.out _ HW0.out).1.queues hjl
            have d0 : wr.cell? ⟨b, o + j * 3, none⟩ = some (.string p.queues[j].name) := hcl 0 _ rfl
            have d1 : wr.cell? ⟨b, o + j * 3 + 1, none⟩ = some (.int .i64 p.queues[j].limit) := hcl 1 _ rfl
            have d2 : wr.cell? ⟨b, o + j * 3 + 2, none⟩ = some (.int .i64 p.queues[j].dead) := hcl 2 _ rfl
            have hqd := (HR.out.queue _ (List.getElem_mem hjl)).2.2
            have hwd : IntKind.i64.wrap (p.queues[j].dead + 1) = p.queues[j].dead + 1 := IntWalk.i64_in _ (by omega)
            have hby := queue_bytes HS.out _ (List.getElem_mem hjl)
            have htk := take_flat_len (j := j) (queue_bytes HS.out)
            clear hcl hqd
            generalize p.queues[j] = x at *
            have HNX := Lib.hid hnx
            have hlq : (((encsB [.int p.posts.length] ++ p.posts.flatMap (fun x => encsB (anyPost x))) ++ encsB [.int p.queues.length] ++ (p.queues.take j).flatMap (fun x => encsB (anyQueue x))).map byteV).length + (encsV (anyQueue x)).length < 4294967296 := by
              have e1 := BP1.out; have e2 := BP2.out
              rw [encsV_eq, List.length_map, List.length_map, List.length_append]
              have e3 : ((encsB [.int p.posts.length] ++ p.posts.flatMap (fun x => encsB (anyPost x))) ++ encsB [.int p.queues.length]).length ≤ 20 + p.posts.length * 1048600 + p.queues.length * 1048600 := by
                simp only [List.length_append, encsB, encB, List.flatMap_cons, List.flatMap_nil, List.length_cons, List.length_nil]
                simp only [encsB] at e1 e2
                omega
              omega
            have HLQ := Lib.hid hlq
            clear hnx hlq hby htk
            subst ha
            go_wp2_with fail
            have hz : (wr.alloc (.cells #[.string x.name, .int .i64 x.limit, .int .i64 x.dead] 83)).heap.size = wr.heap.size + 1 := by simp
            refine (put_any (anyQueue x) W1.heap.size W1.heap.size (wr.heap.size + 1) _ vj _ ((HPJ.out.alloc _).alloc _) (Bk.new_at _ _ _ hz.symm) HLQ.out (by have := HBJ.out.size; omega)).mono ?_
            rintro e W9 ⟨rfl, ⟨v9, hp9⟩, _, hb9⟩
            rw [← HNX.out] at hp9
            have HP9 := Lib.hid hp9
            have HB9 := Lib.hid (((HBJ.out.alloc HBJ.out.size _).alloc (by have := HBJ.out.size; omega) _).trans hb9)
            clear hp9 hb9 hz
            go_wp2_with fail
            exact ⟨⟨j + 1, hjl, by go_num, ⟨v9, HP9.out⟩, HB9.out⟩, by simp [intOf]; omega⟩
          · obtain rfl : j = p.queues.length := by omega
            have hpj := HPJ.out
            rw [flat_all] at hpj
            have HP := Lib.hid hpj
            have HB := Lib.hid HBJ.out
            clear hpj HPJ HBJ
            obtain ⟨m20, m21, m22⟩ := (HBX.out _ HW0.out).2.1
            generalize wr = Wc at *
            generalize vj = vc at *
            go_wp2_with fail
            clear m20 m21 m22
            have hl2 : (((encsB [.int p.posts.length] ++ p.posts.flatMap (fun x => encsB (anyPost x))) ++ encsB [.int p.queues.length] ++ p.queues.flatMap (fun x => encsB (anyQueue x))).map byteV).length + (encsV [.int p.binds.length]).length < 4294967296 := by
              have e1 := BP1.out; have e2 := BP2.out
              simp only [encsV_eq, List.length_map, List.length_append, encsB, encB, List.flatMap_cons, List.flatMap_nil, List.length_cons, List.length_nil]
              simp only [encsB] at e1 e2
              omega
            refine (put_any [.int p.binds.length] W1.heap.size W1.heap.size (Wc.heap.size) (((encsB [.int p.posts.length] ++ p.posts.flatMap (fun x => encsB (anyPost x))) ++ encsB [.int p.queues.length] ++ p.queues.flatMap (fun x => encsB (anyQueue x))).map byteV) vc _ (HP.out.alloc _) (Bk.new_at _ _ _ rfl) hl2 (by have := HB.out.size; omega)).mono ?_
            rintro e W4 ⟨rfl, ⟨v4, hp4⟩, _, hb4⟩
            rw [encsV_eq, ← List.map_append] at hp4
            have HPL := Lib.hid hp4
            have HBL := Lib.hid ((HB.out.alloc HB.out.size _).trans hb4)
            clear hp4 hb4 hl2 HP HB
            obtain ⟨m20, m21, m22⟩ := (HBX.out _ (HB1.out.trans (HBL.out.mono HB1.out.size))).2.1
            go_wp2_with fail
            clear m20 m21 m22
            go_loopw [11, 81] (fun _ i wr => WRel p.binds anyBind (((encsB [.int p.posts.length] ++ p.posts.flatMap (fun x => encsB (anyPost x))) ++ encsB [.int p.queues.length] ++ p.queues.flatMap (fun x => encsB (anyQueue x))) ++ encsB [.int p.binds.length]) W1.heap.size W1.heap.size W1 i wr) (fun _ i _ => p.binds.length - (intOf i).toNat)
            case atStart => exact ⟨0, by omega, rfl, ⟨v4, by rw [List.take_zero, List.flatMap_nil, List.append_nil]; exact HPL.out⟩, HBL.out⟩
            case round =>
              clear HPL HBL
              obtain ⟨j, hj, rfl, ⟨vj, hpj⟩, hbj⟩ := hrel
              have HPJ := Lib.hid hpj
              have HBJ := Lib.hid hbj
              have HW0 := Lib.hid (HB1.out.trans (hbj.mono HB1.out.size))
              clear hpj hbj
              by_cases hjl : j < p.binds.length
              · have hnx := flat_next (f := anyBind) (hd := ((encsB [.int p.posts.length] ++ p.posts.flatMap (fun x => encsB (anyPost x))) ++ encsB [.int p.queues.length] ++ p.queues.flatMap (fun x => encsB (anyQueue x))) ++ encsB [.int p.binds.length]) hjl
                obtain ⟨b, o, ha, _, hb, hcl⟩ := sl_elem vBind_len (by decide) (HBX.out _ HW0.out).1.binds hjl
                have d0 : wr.cell? ⟨b, o + j * 4, none⟩ = some (.int .i64 p.binds[j].src) := hcl 0 _ rfl
                have d1 : wr.cell? ⟨b, o + j * 4 + 1, none⟩ = some (.bool p.binds[j].toPost) := hcl 1 _ rfl
                have d2 : wr.cell? ⟨b, o + j * 4 + 2, none⟩ = some (.int .i64 p.binds[j].to) := hcl 2 _ rfl
                have d3 : wr.cell? ⟨b, o + j * 4 + 3, none⟩ = some (.string p.binds[j].pattern) := hcl 3 _ rfl
                have hby := bind_bytes HS.out _ (List.getElem_mem hjl)
                have htk := take_flat_len (j := j) (bind_bytes HS.out)
                clear hcl
                generalize p.binds[j] = x at *
                have HNX := Lib.hid hnx
                have hlq : ((((encsB [.int p.posts.length] ++ p.posts.flatMap (fun x => encsB (anyPost x))) ++ encsB [.int p.queues.length] ++ p.queues.flatMap (fun x => encsB (anyQueue x))) ++ encsB [.int p.binds.length] ++ (p.binds.take j).flatMap (fun x => encsB (anyBind x))).map byteV).length + (encsV (anyBind x)).length < 4294967296 := by
                  have e1 := BP1.out; have e2 := BP2.out
                  rw [encsV_eq, List.length_map, List.length_map, List.length_append]
                  have e3 : (((encsB [.int p.posts.length] ++ p.posts.flatMap (fun x => encsB (anyPost x))) ++ encsB [.int p.queues.length] ++ p.queues.flatMap (fun x => encsB (anyQueue x))) ++ encsB [.int p.binds.length]).length ≤ 20 + p.posts.length * 1048600 + p.queues.length * 1048600 := by
                    simp only [List.length_append, encsB, encB, List.flatMap_cons, List.flatMap_nil, List.length_cons, List.length_nil]
                    simp only [encsB] at e1 e2
                    omega
                  omega
                have HLQ := Lib.hid hlq
                clear hnx hlq hby htk
                subst ha
                go_wp2_with fail
                have hz : (wr.alloc (.cells #[.int .i64 x.src, .bool x.toPost, .int .i64 x.to, .string x.pattern] 64)).heap.size = wr.heap.size + 1 := by simp
                refine (put_any (anyBind x) W1.heap.size W1.heap.size (wr.heap.size + 1) _ vj _ ((HPJ.out.alloc _).alloc _) (Bk.new_at _ _ _ hz.symm) HLQ.out (by have := HBJ.out.size; omega)).mono ?_
                rintro e W9 ⟨rfl, ⟨v9, hp9⟩, _, hb9⟩
                rw [← HNX.out] at hp9
                have HP9 := Lib.hid hp9
                have HB9 := Lib.hid (((HBJ.out.alloc HBJ.out.size _).alloc (by have := HBJ.out.size; omega) _).trans hb9)
                clear hp9 hb9 hz
                go_wp2_with fail
                exact ⟨⟨j + 1, hjl, by go_num, ⟨v9, HP9.out⟩, HB9.out⟩, by simp [intOf]; omega⟩
              · obtain rfl : j = p.binds.length := by omega
                have hpj := HPJ.out
                rw [flat_all] at hpj
                have HP := Lib.hid hpj
                have HB := Lib.hid HBJ.out
                clear hpj HPJ HBJ
                have hpl := HP.out.row
                have hpc := HP.out.pen.cell 0
                have hgl := HP.out.pen.lt
                simp only [List.getElem?_toArray, List.getElem?_cons_zero] at hpc
                obtain ⟨ra, rc, rfl, _⟩ := own_slice hpl
                rw [show (((encsB [.int p.posts.length] ++ p.posts.flatMap (fun x => encsB (anyPost x))) ++ encsB [.int p.queues.length] ++ p.queues.flatMap (fun x => encsB (anyQueue x))) ++ encsB [.int p.binds.length] ++ p.binds.flatMap (fun x => encsB (anyBind x))) = writeB p by unfold writeB; simp only [List.append_assoc]] at hpl hpc
                rw [List.length_map] at hpl hpc
                have hcv := run_text (writeB p) hpl (by unfold writeB encsB encB; simp)
                have HCV := Lib.hid hcv
                go_wp2_with fail
                go_ret2
                exact ⟨by rw [HW.out, HC.out]; rfl, (HBX.out _ HW0.out).2.2⟩
  · have b1 : (checkP p != 0) = true := by simp [hc]
    have HW : Hid (writeP p = ⟨#[]⟩) := (if_neg hc : writeP p = ⟨#[]⟩)
    clear hc
    go_wp2_with fail
    go_ret2
    exact ⟨by rw [HW.out]; rfl, (HBX.out _ HB1.out).2.2⟩

end Go.Proofs.YtapimpmpjighmaaDoor
