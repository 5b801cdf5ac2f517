/-
  The program's data, plain, and how they lie in memory: posts, queues, binds, plans.
-/
import Derived.Test.YtapimpmpjighmaaDoorBase
namespace Go.Proofs.YtapimpmpjighmaaDoor
open Go.RowKit

structure PostD where
  name : ByteArray
  kind : Int
structure QueueD where
  name : ByteArray
  limit : Int
  dead : Int
structure BindD where
  src : Int
  toPost : Bool
  to : Int
  pattern : ByteArray
structure PlanD where
  posts : List PostD
  queues : List QueueD
  binds : List BindD

def vPost (p : PostD) : List Value := [.string p.name, .int .i64 p.kind]
def vQueue (q : QueueD) : List Value := [.string q.name, .int .i64 q.limit, .int .i64 q.dead]
def vBind (b : BindD) : List Value := [.int .i64 b.src, .bool b.toPost, .int .i64 b.to, .string b.pattern]

theorem flat_get {α : Type} {enc : α → List Value} {size : Nat} (hs : ∀ x, (enc x).length = size) : ∀ (xs : List α) (k : Nat) (hk : k < xs.length) (j : Nat), j < size → (xs.flatMap enc)[k * size + j]? = (enc xs[k])[j]?
  | x :: xs, 0, _, j, hj => by
    rw [List.flatMap_cons, Nat.zero_mul, Nat.zero_add, List.getElem?_append_left (by rw [hs]; exact hj)]
    rfl
  | x :: xs, k + 1, hk, j, hj => by
    rw [List.flatMap_cons, List.getElem?_append_right (by rw [hs, Nat.succ_mul]; omega), hs, show (k + 1) * size + j - size = k * size + j from by rw [Nat.succ_mul]; omega,
      flat_get hs xs k (by simpa using hk) j hj]
    rfl

theorem flat_len {α : Type} {enc : α → List Value} {size : Nat} (hs : ∀ x, (enc x).length = size) : ∀ xs : List α, (xs.flatMap enc).length = xs.length * size
  | [] => by simp
  | x :: xs => by rw [List.flatMap_cons, List.length_append, hs, flat_len hs xs, List.length_cons, Nat.succ_mul]; omega

/-- An element of a slice of structs: where its cells lie. -/
theorem sl_elem {α : Type} {enc : α → List Value} {size : Nat} (hs : ∀ x, (enc x).length = size) (h0 : 0 < size) {w : World} {lo hi : Nat} {a : Option Addr} {xs : List α} (h : Sl w lo hi a (xs.flatMap enc)) {k : Nat} (hk : k < xs.length) :
    ∃ b o, a = some ⟨b, o, none⟩ ∧ lo ≤ b ∧ b < hi ∧ ∀ j u, (enc xs[k])[j]? = some u → w.cell? ⟨b, o + k * size + j, none⟩ = some u := by
  obtain ⟨b, o, e, h1, h2, hc⟩ := h.at_ (k := k * size) (by rw [flat_len hs]; exact Nat.mul_lt_mul_of_pos_right hk h0)
  refine ⟨b, o, e, h1, h2, fun j u hu => ?_⟩
  have hj : j < size := by rw [← hs xs[k]]; exact (List.getElem?_eq_some_iff.1 hu).1
  rw [show o + k * size + j = o + (k * size + j) from by omega]
  exact hc _ u (by rw [flat_get hs xs k hk j hj]; exact hu)

/-- A plan in memory: three slices of structs. -/
structure PlanAt (w : World) (lo hi : Nat) (a1 a2 a3 : Option Addr) (p : PlanD) : Prop where
  posts : Sl w lo hi a1 (p.posts.flatMap vPost)
  queues : Sl w lo hi a2 (p.queues.flatMap vQueue)
  binds : Sl w lo hi a3 (p.binds.flatMap vBind)
structure PlanSmall (p : PlanD) : Prop where
  posts : p.posts.length ≤ 1048576
  queues : p.queues.length ≤ 1048576
  binds : p.binds.length ≤ 1048576
  post : ∀ x ∈ p.posts, x.name.size ≤ 1048576
  queue : ∀ x ∈ p.queues, x.name.size ≤ 1048576
  bind : ∀ x ∈ p.binds, x.pattern.size ≤ 1048576
def planV (p : PlanD) (a1 a2 a3 : Option Addr) (c1 c2 c3 : Nat) : Value := .agg #[.slice a1 p.posts.length c1, .slice a2 p.queues.length c2, .slice a3 p.binds.length c3]

theorem PlanAt.below {w w' : World} {lo hi B : Nat} {a1 a2 a3 : Option Addr} {p : PlanD} (h : PlanAt w lo hi a1 a2 a3 p) (hb : Below B w w') (hB : hi ≤ B) : PlanAt w' lo hi a1 a2 a3 p :=
  ⟨h.posts.below hb hB, h.queues.below hb hB, h.binds.below hb hB⟩
theorem PlanAt.wider {w : World} {lo hi lo' hi' : Nat} {a1 a2 a3 : Option Addr} {p : PlanD} (h : PlanAt w lo hi a1 a2 a3 p) (h1 : lo' ≤ lo) (h2 : hi ≤ hi') : PlanAt w lo' hi' a1 a2 a3 p :=
  ⟨h.posts.wider h1 h2, h.queues.wider h1 h2, h.binds.wider h1 h2⟩

theorem vPost_len (x : PostD) : (vPost x).length = 2 := rfl
theorem vQueue_len (x : QueueD) : (vQueue x).length = 3 := rfl
theorem vBind_len (x : BindD) : (vBind x).length = 4 := rfl

structure ItemD where
  seq : Int
  key : ByteArray
  body : ByteArray
  again : Bool
  deaths : Int
structure OutD where
  tag : Int
  taker : Int
  queue : Int
  item : ItemD
structure TakerD where
  queue : Int
  atOnce : Int
structure ArrivalD where
  queue : Int
  key : ByteArray
  body : ByteArray
  deaths : Int
structure ActD where
  kind : Int
  a : Int
  b : Int
  key : ByteArray
  body : ByteArray
structure StateD where
  ready : List (List ItemD)
  outs : List OutD
  takers : List TakerD
  nextSeq : Int
  nextTag : Int
  came : Int
  acked : Int
  dropped : Int

def vItem (x : ItemD) : List Value := [.int .i64 x.seq, .string x.key, .string x.body, .bool x.again, .int .i64 x.deaths]
def vOut (x : OutD) : List Value := [.int .i64 x.tag, .int .i64 x.taker, .int .i64 x.queue, .int .i64 x.item.seq, .string x.item.key, .string x.item.body, .bool x.item.again, .int .i64 x.item.deaths]
def vTaker (x : TakerD) : List Value := [.int .i64 x.queue, .int .i64 x.atOnce]
def vArrival (x : ArrivalD) : List Value := [.int .i64 x.queue, .string x.key, .string x.body, .int .i64 x.deaths]
def vAct (x : ActD) : List Value := [.int .i64 x.kind, .int .i64 x.a, .int .i64 x.b, .string x.key, .string x.body]
/-- A queue's row in memory: where it lies, its capacity, its letters. -/
structure RowD where
  at_ : Option Addr
  cap : Nat
  items : List ItemD
def vRow (r : RowD) : List Value := [.slice r.at_ r.items.length r.cap]
theorem vRow_len (r : RowD) : (vRow r).length = 1 := rfl
/-- A state in memory. -/
structure StateAt (w : World) (lo hi : Nat) (a1 a2 a3 : Option Addr) (rows : List RowD) (s : StateD) : Prop where
  same : rows.map (·.items) = s.ready
  ready : Sl w lo hi a1 (rows.flatMap vRow)
  row : ∀ r ∈ rows, Sl w lo hi r.at_ (r.items.flatMap vItem) ∧ r.items.length ≤ r.cap
  outs : Sl w lo hi a2 (s.outs.flatMap vOut)
  takers : Sl w lo hi a3 (s.takers.flatMap vTaker)
def vState (s : StateD) (a1 a2 a3 : Option Addr) (c1 c2 c3 : Nat) : Array Value := #[.slice a1 s.ready.length c1, .slice a2 s.outs.length c2, .slice a3 s.takers.length c3, .int .i64 s.nextSeq, .int .i64 s.nextTag, .int .i64 s.came, .int .i64 s.acked, .int .i64 s.dropped]
def stateV (s : StateD) (a1 a2 a3 : Option Addr) (c1 c2 c3 : Nat) : Value := .agg (vState s a1 a2 a3 c1 c2 c3)
theorem StateAt.below {w w' : World} {lo hi B : Nat} {a1 a2 a3 : Option Addr} {rows : List RowD} {s : StateD} (h : StateAt w lo hi a1 a2 a3 rows s) (hb : Below B w w') (hB : hi ≤ B) : StateAt w' lo hi a1 a2 a3 rows s :=
  ⟨h.same, h.ready.below hb hB, fun r hr => ⟨(h.row r hr).1.below hb hB, (h.row r hr).2⟩, h.outs.below hb hB, h.takers.below hb hB⟩
theorem StateAt.wider {w : World} {lo hi lo' hi' : Nat} {a1 a2 a3 : Option Addr} {rows : List RowD} {s : StateD} (h : StateAt w lo hi a1 a2 a3 rows s) (h1 : lo' ≤ lo) (h2 : hi ≤ hi') : StateAt w lo' hi' a1 a2 a3 rows s :=
  ⟨h.same, h.ready.wider h1 h2, fun r hr => ⟨(h.row r hr).1.wider h1 h2, (h.row r hr).2⟩, h.outs.wider h1 h2, h.takers.wider h1 h2⟩
/-- A letter whose texts are not great. -/
def ItemSmall (x : ItemD) : Prop := x.key.size ≤ 1048576 ∧ x.body.size ≤ 1048576 ∧ -9223372036854775808 ≤ x.seq ∧ x.seq ≤ 9223372036854775807 ∧ -9223372036854775808 ≤ x.deaths ∧ x.deaths ≤ 9223372036854775807
structure LineSmall (l : List ItemD) : Prop where
  len : l.length ≤ 1048576
  item : ∀ x ∈ l, ItemSmall x
structure StateSmall (s : StateD) : Prop where
  ready : s.ready.length ≤ 1048576
  outs : s.outs.length ≤ 1048576
  takers : s.takers.length ≤ 1048576
  row : ∀ l ∈ s.ready, LineSmall l
  out : ∀ x ∈ s.outs, ItemSmall x.item
  lying : (s.ready.map List.length).sum ≤ 1048576
theorem vItem_len (x : ItemD) : (vItem x).length = 5 := rfl
theorem vOut_len (x : OutD) : (vOut x).length = 8 := rfl
theorem vTaker_len (x : TakerD) : (vTaker x).length = 2 := rfl
theorem vArrival_len (x : ArrivalD) : (vArrival x).length = 4 := rfl
theorem vAct_len (x : ActD) : (vAct x).length = 5 := rfl

end Go.Proofs.YtapimpmpjighmaaDoor
