/-
  Plain predicates on memory for this claim's walks: a slice that reads as a list of cells between two block numbers, and how it is kept. No program in sight.
  What the bound of the second form gives: how long a text of the arguments can be.
  The program's data, plain, and how they lie in memory: posts, queues, binds, plans.
  Plain laws on words: what the library's search by runes comes to where only bytes of ASCII are let by; splitting at points.
  A region that draws its order, walked in one named order: what the order needs is checked once, for all ways through the region.
  The last step of every law of this seat: where the call answers true and nothing that was there has turned, the row's post holds. Also: the condition of the second form, and what the world's shape gives.
  Arguments opened: a slice of structs that came in reads as a list of plain ones. No program in sight but its types.
  Arguments opened: posts, queues, binds; a plan.
  Arguments opened: letters, lines of letters, states.
-/
import Derived.WalkKit
import Derived.WalkSpells
import Derived.WalkLawsBesides
import Derived.Lib.Hide
import Derived.Deep.QuietTactic
import Derived.BigQuiet
import Derived.Deep.OwnRows
import Derived.Test.YtaanpcjkflhomaaGreatDoorRows
import Derived.Shelf.GgClosure.StringsIndexFunc
import Derived.Lib.Split
import Derived.Lib.CountLaws
import Derived.Lib.SplitLaws
import Derived.Laws.Strings
import Derived.WideShapes
import Derived.Deep.RegionHeld3
import Derived.ProofKit
import Derived.OpenShut
import Derived.Deep.DeepHandedRow
import Derived.Lib.LaidTab
import Derived.LaidMore
import Derived.Lay
import Derived.SevenTiedAt
import Derived.Stop.Joined
import Derived.Deep.Slices
import Derived.Deep.Fields
import Derived.ChangeSame
import Derived.Lib.SmallJoins
set_option maxHeartbeats 20000000
set_option maxRecDepth 100000
set_option linter.unusedSimpArgs false
set_option linter.unusedVariables false
namespace Go.Proofs.YtaanpcjkflhomaaGreatDoor
open Go.RowKit
theorem zA {α:Type _} (l:List α) (i:Nat) (a:α):l.toArray.setIfInBounds i a=(l.set i a).toArray:=List.setIfInBounds_toArray l i a
theorem zB {α:Type _} {x:α} {xs:List α} {a:α} :(x::xs).set 0 a=a::xs:=rfl
theorem zC {α:Type _} {x:α} {xs:List α} {i:Nat} {a:α} :(x::xs).set (i+1) a=x::xs.set i a:=rfl
theorem zD {α:Type _} {xs:List α} {i:Nat} (h:i < xs.toArray.size):xs.toArray[i]=xs[i]:=rfl
theorem zE {α:Type _} (a:α) (xs:List α) (h:0 < (a::xs).length):(a::xs)[0]=a:=rfl
theorem zF {α:Type _} (a:α) (xs:List α) (i:Nat) (h:i+1 < (a::xs).length):(a::xs)[i+1]=xs[i]'(Nat.lt_of_succ_lt_succ h):=rfl
theorem zh {p:Prop} (h:p):Hid p:=Lib.hid h
theorem zn (n:Nat):n≤n:=Nat.le_refl n
theorem zb (B:Nat) (w:World):Below B w w:=Below.refl B w
theorem zI {α:Type _} {xs:List α} {i:Nat} :xs.toArray[i]? =xs[i]? :=List.getElem?_toArray
theorem zJ {α:Type _} {a:α} {l:List α} :(a::l)[0]? =some a:=rfl
theorem zK {α:Type _} {a:α} {l:List α} {i:Nat} :(a::l)[i+1]? =l[i]? :=rfl
theorem zG {α:Type _} {l:List α} {i:Nat} (h:i < l.length):l[i]? =some l[i]:=List.getElem?_eq_getElem h
def Sl (w:World) (lo hi:Nat) (a:Option Addr) (us:List Value):Prop:=
 us=[]∨∃b o,a=some ⟨b,o,none⟩∧lo≤b∧b < hi∧∀j u,us[j]? =some u→w.cell? ⟨b,o+j,none⟩=some u
theorem Sl.nil (w:World) (lo hi:Nat) (a:Option Addr):Sl w lo hi a []:= .inl rfl
theorem Sl.at_ {w:World} {lo hi:Nat} {a:Option Addr} {us:List Value} (h:Sl w lo hi a us) {k:Nat} (hk:k < us.length):
  ∃b o,a=some ⟨b,o,none⟩∧lo≤b∧b < hi∧∀j u,us[j]? =some u→w.cell? ⟨b,o+j,none⟩=some u:=by
 rcases h with rfl|h
 ·simp at hk
 ·exact h
theorem Sl.keep {w w':World} {lo hi:Nat} {a:Option Addr} {us:List Value} (h:Sl w lo hi a us) (hk:∀p:Addr,p.block < hi→w'.cell? p=w.cell? p):Sl w' lo hi a us:=by
 rcases h with h|⟨b,o,e,h1,h2,hc⟩
 ·exact .inl h
 ·exact .inr ⟨b,o,e,h1,h2,fun j u hu=>(hk _ h2).trans (hc j u hu)⟩
theorem Sl.below {w w':World} {lo hi B:Nat} {a:Option Addr} {us:List Value} (h:Sl w lo hi a us) (hb:Below B w w') (hB:hi≤B):Sl w' lo hi a us:=
 h.keep fun p hp=>hb.cell (by omega)
theorem Sl.wider {w:World} {lo hi lo' hi':Nat} {a:Option Addr} {us:List Value} (h:Sl w lo hi a us) (h1:lo'≤lo) (h2:hi≤hi'):Sl w lo' hi' a us:=by
 rcases h with h|⟨b,o,e,h3,h4,hc⟩
 ·exact .inl h
 ·exact .inr ⟨b,o,e,by omega,by omega,hc⟩
theorem Sl.new (w:World) (us:List Value) (t:TypeId) (hi:Nat) (h:w.heap.size < hi):Sl (w.alloc (.cells us.toArray t)) w.heap.size hi (some ⟨w.heap.size,0,none⟩) us:=
 .inr ⟨_,0,rfl,zn _,h,fun j u hu=>by rw[World.cell?_alloc_at _ _ _ _ rfl];simpa using hu⟩
theorem Sl.drop {w:World} {lo hi:Nat} {b o:Nat} {us:List Value} (h:Sl w lo hi (some ⟨b,o,none⟩) us) (k:Nat):Sl w lo hi (some ⟨b,o+k,none⟩) (us.drop k):=by
 rcases h with rfl|⟨b',o',e,h1,h2,hc⟩
 ·left;simp
 ·right
  simp only[Option.some.injEq,Addr.mk.injEq] at e
  obtain⟨rfl,rfl,_⟩:=e
  exact⟨b,o+k,rfl,h1,h2,fun j u hu=>by
   have:=hc (k+j) u (by simpa using hu)
   rw[show o+k+j=o+(k+j) from by omega];exact this⟩
theorem Sl.take {w:World} {lo hi:Nat} {a:Option Addr} {us:List Value} (h:Sl w lo hi a us) (k:Nat):Sl w lo hi a (us.take k):=by
 rcases h with rfl|⟨b',o',e,h1,h2,hc⟩
 ·left;simp
 ·exact .inr ⟨b',o',e,h1,h2,fun j u hu=>hc j u (by
   rw[List.getElem?_take] at hu
   split at hu
   ·exact hu
   ·cases hu)⟩
theorem Sl.of_own {w:World} {base:Nat} {e:TypeId} {size n c:Nat} {a:Option Addr} {us:List Value} (h:w.ownsRow base e size (.slice a n c) n us):Sl w base w.heap.size a us:=by
 obtain⟨hl,h⟩:=h
 rcases h with⟨_,hn⟩|⟨g,cap,cur,hv,hg,hh,hnc,hm,hcs,ht⟩
 ·left
  subst hn
  exact List.eq_nil_of_length_eq_zero (by simpa using hl)
 ·right
  simp only[Value.slice.injEq] at hv
  obtain⟨rfl,_,rfl⟩:=hv
  have hlt:g < w.heap.size:=by
   rcases Nat.lt_or_ge g w.heap.size with h|h
   ·exact h
   ·rw[Array.getElem?_eq_none h] at hh;cases hh
  refine⟨g,0,rfl,hg,hlt,fun j u hu=> ?_⟩
  simp only[World.cell?,hh,Nat.zero_add]
  rw[←ht,List.getElem?_take] at hu
  split at hu
  ·simpa using hu
  ·cases hu
theorem Ad {w:World} {base:Nat} {e:TypeId} {size n:Nat} {v:Value} {us:List Value} (h:w.ownsRow base e size v n us):∃a c,v= .slice a n c∧n≤c:=by
 obtain⟨hl,h⟩:=h
 rcases h with⟨rfl,rfl⟩|⟨g,cap,cur,hv,hg,hh,hnc,hm,hcs,ht⟩
 ·exact⟨none,0,rfl,zn _⟩
 ·exact⟨_,cap,hv,hnc⟩
theorem own_below {w w':World} {base:Nat} {e:TypeId} {size n:Nat} {v:Value} {us:List Value} (h:w.ownsRow base e size v n us) (hb:Below w.heap.size w w'):w'.ownsRow base e size v n us:=by
 obtain⟨hl,h⟩:=h
 refine⟨hl,?_⟩
 rcases h with h|⟨g,cap,cur,hv,hg,hh,r⟩
 ·exact .inl h
 ·exact .inr ⟨g,cap,cur,hv,hg,(hb.block g (Array.getElem?_eq_some_iff.1 hh).1).trans hh,r⟩
theorem Pg {w w1:World} {o:Obj} {row:Option Nat} (hg:(w.alloc o).grownBy w1 row):w.grownBy w1 row:=
 ⟨hg.os,hg.tape,hg.output,Nat.le_trans (by simp) hg.size,fun k hk hne=>(hg.block k (by simp;omega) hne).trans (Below.heap_alloc _ _ _ hk)⟩
theorem Bl {B:Nat} {w0 w w1:World} {base:Nat} {e:TypeId} {size n:Nat} {v:Value} {us:List Value} (hown:w.ownsRow base e size v n us) (hg:w.grownBy w1 v.ownBlock) (hb:Below B w0 w) (h1:B≤base) (h2:B≤w.heap.size):Below B w0 w1:=
 hb.grown hg h2 fun k hk=>by have:=(hown.lt k hk).1;omega
theorem D6 {P:Program} {ops:Array Oper} {rest:List Oper} {o:Oper} {a:Act} {W:World} {Q:Exit→Act→World→Prop} (hgd:o.guard=none) (s x:Operand) (t:TypeId)
  (ho:o.op= .call { callee:= .builtin .append,args:= #[s,x],argTypes:= #[t,t] })
  (base:Nat) (e:TypeId) {z:Value} {size bytes:Nat} (hinfo:(P.info? e).map (fun i=>(i.zero,i.size,i.bytes))=some (some z,size,bytes)) (ht:P.underlying t=some (.slice e)) (hzs:z.cells.size=size) (hsz:0 < size) (hb:bytes≤4096)
  (w:World) (v:Value) (n:Nat) (us:List Value) (hs:a.eval s=v) (hown:w.ownsRow base e size v n us)
  (news:List Value) (hW:W=w.alloc (.cells news.toArray e)) (hx:a.eval x= .slice (some ⟨w.heap.size,0,none⟩) 1 1) (hl:news.length=size) (h1:∀u∈news,u.oneCell'=true) (hn:n < 4294967296) (hbase:base≤w.heap.size)
  (h:∀v' w',w'.ownsRow base e size v' (n+1) (us++news)→w.grownBy w' v.ownBlock→wpList P ops Q rest (a.put o.dst v') w'):wpList P ops Q (o::rest) a W:=by
 subst hW
 obtain⟨i,hi,hz0,hz1,hz2⟩:=info_parts hinfo
 refine wpList_append_own _ hgd s x t ho base e i z size bytes ht hi hz0 hz1 hz2 hzs hsz v n us hs (hown.alloc _) ⟨w.heap.size,0,none⟩ 1 1 news hx (by simpa using hl) (fun j u hu=> ?_) h1 (by unfold maxLen;omega) ?_ (by simp;omega) (fun v' w' h2 h3 _=>h v' w' h2 (Pg h3))
 ·have:((⟨w.heap.size,0,none⟩:Addr).add j)=⟨w.heap.size,j,none⟩:=by
   unfold Addr.add
   split
   ·simp_all
   ·simp
  rw[this,World.cell?_alloc_at _ _ _ _ rfl]
  simpa using hu
 ·have:(n+1) * bytes≤4294967296 * 4096:=Nat.mul_le_mul (by omega) hb
  omega
def Bk (w:World) (g:Nat) (t:TypeId) (cs:Array Value):Prop:=w.heap[g]? =some (.cells cs t (0,0))
theorem Bk.lt {w:World} {g:Nat} {t:TypeId} {cs:Array Value} (h:Bk w g t cs):g < w.heap.size:=(Array.getElem?_eq_some_iff.1 h).1
theorem Bk.new (w:World) (t:TypeId) (cs:Array Value):Bk (w.alloc (.cells cs t)) w.heap.size t cs:=by
 show(w.heap.push _)[w.heap.size]? =_
 rw[Array.getElem?_push,if_pos rfl]
theorem Bk.new_at (w:World) (t:TypeId) (cs:Array Value) {g:Nat} (h:g=w.heap.size):Bk (w.alloc (.cells cs t)) g t cs:=h▸Bk.new w t cs
theorem Bk.alloc {w:World} {g:Nat} {t:TypeId} {cs:Array Value} (h:Bk w g t cs) (o:Obj):Bk (w.alloc o) g t cs:=(Below.heap_alloc w o g h.lt).trans h
theorem Bk.cell {w:World} {g:Nat} {t:TypeId} {cs:Array Value} (h:Bk w g t cs) (i:Nat):w.cell? ⟨g,i,none⟩=cs[i]? :=by
 unfold Bk at h
 simp[World.cell?,h]
theorem Bk.frozen {w:World} {g:Nat} {t:TypeId} {cs:Array Value} (h:Bk w g t cs) (i:Nat):w.frozen? ⟨g,i,none⟩=false:=by
 unfold Bk at h
 simp[World.frozen?,h]
theorem Bk.below {w w':World} {B g:Nat} {t:TypeId} {cs:Array Value} (h:Bk w g t cs) (hb:Below B w w') (hg:g < B):Bk w' g t cs:=(hb.block g hg).trans h
theorem Bk.set_ {w:World} {g:Nat} {t:TypeId} {cs:Array Value} (h:Bk w g t cs) (i:Nat) (u:Value):Bk (w.setCell ⟨g,i,none⟩ u) g t (cs.setIfInBounds i u):=by
 unfold Bk at h⊢
 simp[World.setCell,Array.getElem?_modify,h]
theorem Bk.far {w:World} {g:Nat} {t:TypeId} {cs:Array Value} (h:Bk w g t cs) {p:Addr} (hp:g≠p.block) (u:Value):Bk (w.setCell p u) g t cs:=(Below.heap_setCell w p u g hp).trans h
theorem Bk.drewN {w:World} {g:Nat} {t:TypeId} {cs:Array Value} (h:Bk w g t cs) (n:Nat):Bk (w.drewN n) g t cs:=h
theorem Bk.grown {w w':World} {g:Nat} {t:TypeId} {cs:Array Value} {row:Option Nat} (h:Bk w g t cs) (hg:w.grownBy w' row) (hne:some g≠row):Bk w' g t cs:=(hg.block g h.lt hne).trans h
theorem Pm {P:Program} {t e:TypeId} {z:Value} {bytes:Nat} (ht:P.underlying t=some (.slice e)) (hinfo:(P.info? e).map (fun i=>(i.zero,i.size,i.bytes))=some (some z,1,bytes)) (hz1:z.cells= #[z])
  (n:Nat) (i:Int) (hi:i=(n:Int)) (hb:bytes≤4096) (hn:n≤4294967296) (w:World):
  (Instr.makeSlice t (.int .i64 i) (.int .i64 i)).run P w= .ok (.slice (some ⟨w.heap.size,0,none⟩) n n) (w.alloc (.cells (List.replicate n z).toArray e)):=by
 subst hi
 have h1:bytes * n≤4096 * 4294967296:=Nat.mul_le_mul hb hn
 have:=run_make_row' t e z bytes ht hinfo hz1 .i64 .i64 n (by omega) (by omega) w
 rw[this]
 congr 3
 apply Array.toList_inj.1
 rw[toList_madeCells_one]
def E6 (a:Option Addr) (cap k size:Nat):Option Addr:=if cap=k then a else a.map (·.add (k * size))
theorem Lt {P:Program} {t size:Nat} (ht:P.underlying t=some (.slice (P.elem t))) (hs:∀w,(sizeOf (P.elem t)).run P w= .ok size w) (a:Option Addr) (len cap k:Nat) (i:Int) (hi:i=(k:Int)) (hk:k≤len) (w:World):
  (Instr.slice t (.slice a len cap) (some (.int .i64 i)) none none).run P w= .ok (.slice (E6 a cap k size) (len - k) (cap - k)) w:=by
 subst hi
 rw[run_slice_l w t a len cap ht .i64 k (by omega) (by omega),hs]
 simp[sliced,E6,Result.andThen]
 try(split<;>simp_all)
theorem Sl.cut {w:World} {lo hi:Nat} {a:Option Addr} {us:List Value} (h:Sl w lo hi a us) {n cap k size:Nat} (hl:us.length=n * size) (hk:k≤n) (hc:n≤cap):Sl w lo hi (E6 a cap k size) (us.drop (k * size)):=by
 rcases h with rfl|⟨b,o,rfl,h1,h2,hcell⟩
 ·left;simp
 ·unfold E6
  split
  ·left
   apply List.drop_eq_nil_of_le
   rw[hl]
   exact Nat.mul_le_mul_right _ (by omega)
  ·right
   refine⟨b,o+k * size,?_,h1,h2,fun j u hu=> ?_⟩
   ·simp only[Option.map_some,Addr.add]
    split
    ·simp_all
    ·simp
   ·have:=hcell (k * size+j) u (by simpa using hu)
    rw[show o+k * size+j=o+(k * size+j) from by omega];exact this
theorem below_draws {B:Nat} {w0 w:World} (h:Below B w0 w):∀n,Below B w0 (w.drewN n)
 |0=>h
 |n+1=>(below_draws h n).drew
theorem O5 {H:Type} {d:DataW H} :∀ {l:List (DataW H)},d∈l→Rows.uptoBulk d≤Rows.uptoBulkAll l
 | [],h=>by cases h
 |x::r,h=>by
  simp only[Rows.uptoBulkAll]
  rcases List.mem_cons.1 h with rfl|h
  ·omega
  ·have:=O5 h;omega
theorem Abw {H:Type} (bytes:List UInt8):Rows.uptoBulk (DataW.lit (H:=H) (.string bytes))=bytes.length+1:=by
 simp[Rows.uptoBulk]
theorem Zm {H:Type} {l:List (DataW H)} (hk:Rows.uptoSmall H l=true):Rows.uptoBulkAll l≤1048576:=of_decide_eq_true hk
theorem Gs {H:Type} {l:List (DataW H)} (hk:Rows.uptoSmall H l=true) {bytes:List UInt8} (h:DataW.lit (.string bytes)∈l):bytes.length≤1048576:=by
 have h1:=O5 h
 have h2:=Zm hk
 rw[Abw] at h1
 omega
theorem Dz {H:Type} {l:List (DataW H)} (hk:Rows.uptoSmall H l=true) {d:DataW H} (hd:d∈l):Rows.uptoBulk d≤1048576:=by
 have h1:=O5 hd
 have h2:=Zm hk
 omega
open Go.RowKit
structure J5 where
 name:ByteArray
 kind:Int
structure Ge where
 name:ByteArray
 limit:Int
 dead:Int
structure B4 where
 src:Int
 toPost:Bool
 to:Int
 pattern:ByteArray
structure Ab where
 posts:List J5
 queues:List Ge
 binds:List B4
def Jt (p:J5):List Value:=[.string p.name,.int .i64 p.kind]
def Hc (q:Ge):List Value:=[.string q.name,.int .i64 q.limit,.int .i64 q.dead]
def D4 (b:B4):List Value:=[.int .i64 b.src,.bool b.toPost,.int .i64 b.to,.string b.pattern]
theorem flat_get {α:Type} {enc:α→List Value} {size:Nat} (hs:∀x,(enc x).length=size):∀(xs:List α) (k:Nat) (hk:k < xs.length) (j:Nat),j < size→(xs.flatMap enc)[k * size+j]? =(enc xs[k])[j]?
 |x::xs,0,_,j,hj=>by
  rw[List.flatMap_cons,Nat.zero_mul,Nat.zero_add,List.getElem?_append_left (by rw[hs];exact hj)]
  rfl
 |x::xs,k+1,hk,j,hj=>by
  rw[List.flatMap_cons,List.getElem?_append_right (by rw[hs,Nat.succ_mul];omega),hs,show(k+1) * size+j - size=k * size+j from by rw[Nat.succ_mul];omega,
   flat_get hs xs k (by simpa using hk) j hj]
  rfl
theorem Dc {α:Type} {enc:α→List Value} {size:Nat} (hs:∀x,(enc x).length=size):∀xs:List α,(xs.flatMap enc).length=xs.length * size
 | []=>by simp
 |x::xs=>by rw[List.flatMap_cons,List.length_append,hs,Dc hs xs,List.length_cons,Nat.succ_mul];omega
theorem Bd {α:Type} {enc:α→List Value} {size:Nat} (hs:∀x,(enc x).length=size) (h0:0 < size) {w:World} {lo hi:Nat} {a:Option Addr} {xs:List α} (h:Sl w lo hi a (xs.flatMap enc)) {k:Nat} (hk:k < xs.length):
  ∃b o,a=some ⟨b,o,none⟩∧lo≤b∧b < hi∧∀j u,(enc xs[k])[j]? =some u→w.cell? ⟨b,o+k * size+j,none⟩=some u:=by
 obtain⟨b,o,e,h1,h2,hc⟩:=h.at_ (k:=k * size) (by rw[Dc hs];exact Nat.mul_lt_mul_of_pos_right hk h0)
 refine⟨b,o,e,h1,h2,fun j u hu=> ?_⟩
 have hj:j < size:=by rw[←hs xs[k]];exact(List.getElem?_eq_some_iff.1 hu).1
 rw[show o+k * size+j=o+(k * size+j) from by omega]
 exact hc _ u (by rw[flat_get hs xs k hk j hj];exact hu)
structure Az (w:World) (lo hi:Nat) (a1 a2 a3:Option Addr) (p:Ab):Prop where
 posts:Sl w lo hi a1 (p.posts.flatMap Jt)
 queues:Sl w lo hi a2 (p.queues.flatMap Hc)
 binds:Sl w lo hi a3 (p.binds.flatMap D4)
structure Ai (p:Ab):Prop where
 posts:p.posts.length≤1048576
 queues:p.queues.length≤1048576
 binds:p.binds.length≤1048576
 post:∀x∈p.posts,x.name.size≤1048576
 queue:∀x∈p.queues,x.name.size≤1048576
 bind:∀x∈p.binds,x.pattern.size≤1048576
def Bc (p:Ab) (a1 a2 a3:Option Addr) (c1 c2 c3:Nat):Value:= .agg #[.slice a1 p.posts.length c1,.slice a2 p.queues.length c2,.slice a3 p.binds.length c3]
theorem Az.below {w w':World} {lo hi B:Nat} {a1 a2 a3:Option Addr} {p:Ab} (h:Az w lo hi a1 a2 a3 p) (hb:Below B w w') (hB:hi≤B):Az w' lo hi a1 a2 a3 p:=
 ⟨h.posts.below hb hB,h.queues.below hb hB,h.binds.below hb hB⟩
theorem Az.wider {w:World} {lo hi lo' hi':Nat} {a1 a2 a3:Option Addr} {p:Ab} (h:Az w lo hi a1 a2 a3 p) (h1:lo'≤lo) (h2:hi≤hi'):Az w lo' hi' a1 a2 a3 p:=
 ⟨h.posts.wider h1 h2,h.queues.wider h1 h2,h.binds.wider h1 h2⟩
theorem Jz (x:J5):(Jt x).length=2:=rfl
theorem G3 (x:Ge):(Hc x).length=3:=rfl
theorem Ho (x:B4):(D4 x).length=4:=rfl
structure Ap where
 seq:Int
 key:ByteArray
 body:ByteArray
 again:Bool
 deaths:Int
structure Eh where
 tag:Int
 taker:Int
 queue:Int
 item:Ap
structure B6 where
 queue:Int
 atOnce:Int
structure Aj where
 queue:Int
 key:ByteArray
 body:ByteArray
 deaths:Int
structure Cn where
 kind:Int
 a:Int
 b:Int
 key:ByteArray
 body:ByteArray
structure Aa where
 ready:List (List Ap)
 outs:List Eh
 takers:List B6
 nextSeq:Int
 nextTag:Int
 came:Int
 acked:Int
 dropped:Int
def A9 (x:Ap):List Value:=[.int .i64 x.seq,.string x.key,.string x.body,.bool x.again,.int .i64 x.deaths]
def Eg (x:Eh):List Value:=[.int .i64 x.tag,.int .i64 x.taker,.int .i64 x.queue,.int .i64 x.item.seq,.string x.item.key,.string x.item.body,.bool x.item.again,.int .i64 x.item.deaths]
def El (x:B6):List Value:=[.int .i64 x.queue,.int .i64 x.atOnce]
def Bm (x:Aj):List Value:=[.int .i64 x.queue,.string x.key,.string x.body,.int .i64 x.deaths]
def Ez (x:Cn):List Value:=[.int .i64 x.kind,.int .i64 x.a,.int .i64 x.b,.string x.key,.string x.body]
structure Bq where
 at_:Option Addr
 cap:Nat
 items:List Ap
def Nv (r:Bq):List Value:=[.slice r.at_ r.items.length r.cap]
theorem Dv (r:Bq):(Nv r).length=1:=rfl
structure Ax (w:World) (lo hi:Nat) (a1 a2 a3:Option Addr) (rows:List Bq) (s:Aa):Prop where
 same:rows.map (·.items)=s.ready
 ready:Sl w lo hi a1 (rows.flatMap Nv)
 row:∀r∈rows,Sl w lo hi r.at_ (r.items.flatMap A9)∧r.items.length≤r.cap
 outs:Sl w lo hi a2 (s.outs.flatMap Eg)
 takers:Sl w lo hi a3 (s.takers.flatMap El)
def Ag (s:Aa) (a1 a2 a3:Option Addr) (c1 c2 c3:Nat):Array Value:= #[.slice a1 s.ready.length c1,.slice a2 s.outs.length c2,.slice a3 s.takers.length c3,.int .i64 s.nextSeq,.int .i64 s.nextTag,.int .i64 s.came,.int .i64 s.acked,.int .i64 s.dropped]
def Ac (s:Aa) (a1 a2 a3:Option Addr) (c1 c2 c3:Nat):Value:= .agg (Ag s a1 a2 a3 c1 c2 c3)
theorem Ax.below {w w':World} {lo hi B:Nat} {a1 a2 a3:Option Addr} {rows:List Bq} {s:Aa} (h:Ax w lo hi a1 a2 a3 rows s) (hb:Below B w w') (hB:hi≤B):Ax w' lo hi a1 a2 a3 rows s:=
 ⟨h.same,h.ready.below hb hB,fun r hr=>⟨(h.row r hr).1.below hb hB,(h.row r hr).2⟩,h.outs.below hb hB,h.takers.below hb hB⟩
theorem Ax.wider {w:World} {lo hi lo' hi':Nat} {a1 a2 a3:Option Addr} {rows:List Bq} {s:Aa} (h:Ax w lo hi a1 a2 a3 rows s) (h1:lo'≤lo) (h2:hi≤hi'):Ax w lo' hi' a1 a2 a3 rows s:=
 ⟨h.same,h.ready.wider h1 h2,fun r hr=>⟨(h.row r hr).1.wider h1 h2,(h.row r hr).2⟩,h.outs.wider h1 h2,h.takers.wider h1 h2⟩
def Ep (x:Ap):Prop:=x.key.size≤1048576∧x.body.size≤1048576∧ -9223372036854775808≤x.seq∧x.seq≤9223372036854775807∧ -9223372036854775808≤x.deaths∧x.deaths≤9223372036854775807
structure F5 (l:List Ap):Prop where
 len:l.length≤1048576
 item:∀x∈l,Ep x
structure Am (s:Aa):Prop where
 ready:s.ready.length≤1048576
 outs:s.outs.length≤1048576
 takers:s.takers.length≤1048576
 row:∀l∈s.ready,F5 l
 out:∀x∈s.outs,Ep x.item
 lying:(s.ready.map List.length).sum≤1048576
theorem Cg (x:Ap):(A9 x).length=5:=rfl
theorem Dy (x:Eh):(Eg x).length=8:=rfl
theorem Cy (x:B6):(El x).length=2:=rfl
theorem D2 (x:Aj):(Bm x).length=4:=rfl
theorem Qz (x:Cn):(Ez x).length=5:=rfl
open Go
def odd (r:Int):Bool:= !((decide (97≤r) && decide (r≤122)) || (decide (48≤r) && decide (r≤57)))
theorem Amm (n:Nat) (h:128≤n):odd (n:Int)=true:=by
 simp[odd];omega
theorem U3 (s:ByteArray) (i:Nat) (h:(s.get! i).toNat < 128):Utf8.decode s i=((s.get! i).toNat,1):=by
 simp[Utf8.decode,h]
theorem Zq (s:ByteArray) (i:Nat) (h:128≤(s.get! i).toNat):128≤(Utf8.decode s i).1:=by
 unfold Utf8.decode
 simp only[Nat.add_zero]
 rw[if_neg (by omega)]
 repeat' split
 all_goals simp_all [Utf8.runeError]
 all_goals omega
theorem get!_eq (s:ByteArray) (i:Nat) (h:i < s.size):s.get! i=s.data.toList[i]'(by simpa using h):=by
 simp only[ByteArray.get!,Array.getElem!_eq_getD,Array.getD,Array.getElem_toList]
 exact dif_pos h
theorem Al1 (s:ByteArray):∀(f pos:Nat),s.size≤f+pos→
  decide (0≤Lib.idxFuncFrom (fun n=>odd (n:Int)) true s f pos)=(s.data.toList.drop pos).any fun c=>odd (c.toNat:Int)
 |0,pos,h=>by
  rw[List.drop_eq_nil_of_le (by simpa using h)]
  simp[Lib.idxFuncFrom]
 |f+1,pos,h=>by
  unfold Lib.idxFuncFrom
  by_cases hp:pos < s.size
  ·have hl:pos < s.data.toList.length:=by simpa using hp
   rw[if_pos hp,List.drop_eq_getElem_cons hl,List.any_cons]
   rcases Nat.lt_or_ge (s.get! pos).toNat 128 with hb|hb
   ·rw[U3 s pos hb]
    simp only[get!_eq s pos hp]
    by_cases ho:odd ((s.data.toList[pos]).toNat:Int)=true
    ·rw[if_pos ho,ho];simp
    ·rw[if_neg ho,Al1 s f (pos+1) (by omega)]
     simp only[Bool.not_eq_true] at ho
     rw[ho,Bool.false_or]
   ·have h1:=Amm _ (Zq s pos hb)
    have h2:=Amm _ hb
    rw[get!_eq s pos hp] at h2
    rw[if_pos h1,h2];simp
  ·rw[if_neg hp,List.drop_eq_nil_of_le (by simp;omega)]
   simp
def isWord (l:List UInt8):Bool:= !l.isEmpty && !(l.any fun c=>odd (c.toNat:Int))
def E3 (l:List UInt8):Bool:=l == [42] || l == [35] || isWord l
theorem Ag5 (s:ByteArray):decide (0≤Lib.idxFunc (fun n=>odd (n:Int)) true s)=s.toList.any fun c=>odd (c.toNat:Int):=by
 rw[ByteArray.toList_eq]
 have:=Al1 s s.size 0 (by omega)
 rw[List.drop_zero] at this
 exact this
def Gy:List UInt8→List (List UInt8)
 | []=>[[]]
 |x::r=>if x=46 then []::Gy r else (x::(Gy r).headD [])::(Gy r).tail
theorem P8 (b:UInt8) (l:List UInt8):Lib.index (b::l) [46]=if b=46 then 0 else if Lib.index l [46] == -1 then -1 else Lib.index l [46]+1:=by
 rw[Lib.index]
 by_cases h:b=46
 ·subst h;simp[List.isPrefixOf]
 ·have:(46 == b)=false:=by simp;exact fun e=>h e.symm
  simp[List.isPrefixOf,h,this]
theorem Xx:∀l:List UInt8,Lib.splitK [46] 0 (Lib.count l [46]) l=Gy l
 | []=>by
  have:Lib.index [] [46]= -1:=rfl
  rw[Lib.count_miss this];rfl
 |b::l=>by
  have ih:=Xx l
  by_cases hb:b=46
  ·subst hb
   have hi:Lib.index (46::l) [46]=(0:Nat):=by rw[P8];rfl
   rw[Lib.count_hit (by simp) hi,Nat.add_comm 1,Lib.splitK,if_neg (by rw[hi];decide),hi]
   simp only[Gy,if_true,List.length_cons,List.length_nil,Nat.zero_add,Int.toNat_natCast,Nat.add_zero,List.drop_succ_cons,List.drop_zero,List.take_zero]
   rw[ih]
  ·rcases(show Lib.index l [46] < 0∨0≤Lib.index l [46] from by omega) with h0|h0
   ·have hm:Lib.index l [46]= -1:=by have:=Lib.index_ge l [46];omega
    have hi:Lib.index (b::l) [46]= -1:=by rw[P8,if_neg hb,hm];rfl
    rw[Lib.count_miss hm] at ih
    rw[Lib.count_miss hi]
    unfold Gy
    rw[if_neg hb,←ih]
    rfl
   ·obtain⟨i,hl⟩:=Int.eq_ofNat_of_zero_le h0
    have hi:Lib.index (b::l) [46]=((i+1:Nat):Int):=by
     rw[P8,if_neg hb,hl,if_neg (by simp)];rfl
    have hc:Lib.count (b::l) [46]=Lib.count l [46]:=by
     rw[Lib.count_hit (by simp) hi,Lib.count_hit (by simp) hl]
     rfl
    rw[hc]
    rw[Lib.count_hit (by simp) hl,Nat.add_comm 1] at ih⊢
    rw[Lib.splitK,if_neg (by intro hh;rw[hl,beq_iff_eq] at hh;omega),hl] at ih
    rw[Lib.splitK,if_neg (by intro hh;rw[hi,beq_iff_eq] at hh;omega),hi]
    unfold Gy
    rw[if_neg hb,←ih]
    rfl
def Ny (s:ByteArray) (at_:Nat):Nat→Nat→Nat→List ByteArray
 |0,_,_=>[]
 |f+1,from_,i=>if s.size≤i then [s.extract from_ i] else if (s.get! i).toNat=at_ then s.extract from_ i::Ny s at_ f (i+1) (i+1) else Ny s at_ f from_ (i+1)
def parts (s:ByteArray):List ByteArray:=Lib.splitB ⟨#[46]⟩ 0 (Lib.countB s ⟨#[46]⟩) s
theorem I8 (s:ByteArray):(parts s).map ByteArray.toList=Gy s.toList:=by
 have:(parts s).map (·.data.toList)=Gy s.data.toList:=by
  rw[parts,Lib.splitB_data]
  exact Xx _
 rw[ByteArray.toList_eq,←this]
 exact List.map_congr_left fun x _=>ByteArray.toList_eq x
theorem toList_inj {a b:ByteArray} (h:a.toList=b.toList):a=b:=by
 rw[ByteArray.toList_eq,ByteArray.toList_eq] at h
 exact WideShapes.bytes_inj h
section
variable {P:Program} {ops:Array Oper} {Q:Exit→Act→World→Prop} {md:Region.Mode} {S:World→Prop}
def Tt (md:Region.Mode) (ops:Array Oper):Array Bool→List (Nat×Bool)→Bool
 |listed,[]=>(Region.ready md ops listed).isEmpty
 |listed,(i,true)::r=>(Region.ready md ops listed == [i]) && Tt md ops (listed.setIfInBounds i true) r
 |listed,(i,false)::r=>Region.free md ops listed i && (Region.ready md ops listed).contains i && Tt md ops (listed.setIfInBounds i true) r
def NW (P:Program) (ops:Array Oper) (Q:Exit→Act→World→Prop) (S:World→Prop):List (Nat×Bool)→Act→World→Prop
 | [],a,w=>Q .normal a w
 |(i,false)::r,a,w=>∃oi v,ops[i]? =some oi∧(∀c a w,Q (.panic c) (a.put oi.dst v) w→Q (.panic c) a w)∧YieldsIf P ops S oi v a∧NW P ops Q S r (a.put oi.dst v) w
 |(i,true)::r,a,w=>wpOp P ops Q i (fun a' w'=>S w'∧NW P ops Q S r a' w') a w
theorem NW.any (hs:Region.noSelect ops=true):∀(order:List (Nat×Bool)) (listed:Array Bool) (a:Act) (w:World),Tt md ops listed order=true→S w→NW P ops Q S order a w→wpAnyH P md ops Q S order.length listed a w
 | [],listed,a,w,hok,_,h=>wpAnyH_done (List.isEmpty_iff.1 hok) h _
 |(i,false)::r,listed,a,w,hok,hS,h=>by
  obtain⟨oi,v,hi,hQ,hy,h⟩:=h
  simp only[Tt,Bool.and_eq_true] at hok
  exact wpAnyH_take hi hs hok.1.1 hok.1.2 hQ hy hS (NW.any hs r _ _ w hok.2 hS h)
 |(i,true)::r,listed,a,w,hok,hS,h=>by
  simp only[Tt,Bool.and_eq_true,beq_iff_eq] at hok
  refine wpAnyH_all hok.1 (by simp) fun j hj=> ?_
  obtain rfl:=List.mem_singleton.1 hj
  exact wpOp_mono (fun a' w' h'=>⟨h'.1,NW.any hs r _ a' w' hok.2 h'.1 h'.2⟩) h
def Ady (ops:Array Oper) (order:List (Nat×Bool)):Prop:=Region.noSelect ops=true∧Tt .any ops (Array.replicate ops.size false) order=true∧order.length=ops.size
theorem Jn (order:List (Nat×Bool)) {id:Nat} {a:Act} {w:World} (h1:(Region.noSelect ops && Tt .any ops (Array.replicate ops.size false) order && decide (order.length=ops.size))=true)
  (h:Shut (Ady ops order)→(Code.region id ops true).wp P Q a w):(Code.region id ops true).wp P Q a w:=by
 simp only[Bool.and_eq_true,decide_eq_true_eq] at h1
 exact h ⟨h1.1.1,h1.1.2,h1.2⟩
theorem Ir {order:List (Nat×Bool)} {id:Nat} {a:Act} {w:World} (ho:Shut (Ady ops order)) (hm:P.follows .mixedOrders=true) (hS:S w.drew)
  (h:S w.drew→NW P ops Q S order a w.drew):(Code.region id ops true).wp P Q a w:=by
 obtain⟨h1,h2,h3⟩:=ho.out
 refine wp_region_held_drew hm hS fun hS=> ?_
 have:=NW.any h1 order _ a _ h2 hS (h hS)
 rw[h3] at this
 exact this
theorem NW.take {i:Nat} {oi:Oper} {v:Value} {r:List (Nat×Bool)} {a:Act} {w:World} (hi:ops[i]? =some oi) (hQ:∀c a w,Q (.panic c) (a.put oi.dst v) w→Q (.panic c) a w) (hy:YieldsIf P ops S oi v a)
  (h:NW P ops Q S r (a.put oi.dst v) w):NW P ops Q S ((i,false)::r) a w:=⟨oi,v,hi,hQ,hy,h⟩
theorem NW.leave {i:Nat} {oi:Oper} {c:Bool} {r:List (Nat×Bool)} {a:Act} {w:World} (hi:ops[i]? =some oi) (hQ:∀c a w,Q (.panic c) (a.put oi.dst undef) w→Q (.panic c) a w) (hw:Region.wanted oi (yielded ops a.tmps)=false) (hS:S w)
  (h:NW P ops Q S r (a.put oi.dst undef) w):NW P ops Q S ((i,c)::r) a w:=by
 cases c
 ·exact⟨oi,undef,hi,hQ,.inr ⟨hw,rfl⟩,h⟩
 ·show wpOp P ops Q i _ a w
  unfold wpOp
  simp only[hi,hw,Bool.false_eq_true,if_false]
  exact⟨hS,h⟩
theorem NW.call {i:Nat} {o:Oper} {r:List (Nat×Bool)} {a:Act} {w:World} (hi:ops[i]? =some o)
  (h:∀K':Act→World→Prop,Shut (∀a w,S w→(S w→NW P ops Q S r a w)→K' a w)→if Region.wanted o (yielded ops a.tmps)=true then Oper.wp P o a w K' Q else K' (a.put o.dst undef) w):NW P ops Q S ((i,true)::r) a w:=
 wpOp_step hi (fun K' hK=>h K' (fun a w hS hW=>hK a w ⟨hS,hW hS⟩))
/-! The same told shortly: what each step asks is shown by the same few words each time. -/
theorem zT {i:Nat} {oi:Oper} {v:Value} {r:List (Nat×Bool)} {a a':Act} {w:World} (h:NW P ops Q S r a' w) (hi:ops[i]? =some oi:=by rfl) (hQ:∀c a w,Q (.panic c) (a.put oi.dst v) w→Q (.panic c) a w:=by exact fun _ _ _ h=>h)
  (hw:Region.wanted oi (yielded ops a.tmps)=true:=by rfl) (hv:∀w,S w→(execOp a.eval oi).run P w= .ok (.value v) w:=by(intro w hSw;(try dsimp only at hSw);go_simp;(all_goals with_reducible rfl);done)) (ha:a.put oi.dst v=a':=by(simp only[Act.put,zA,zB,zC,zD,zE,zF];with_reducible rfl)):NW P ops Q S ((i,false)::r) a w:=⟨oi,v,hi,hQ,.inl ⟨hw,hv⟩,ha▸h⟩
theorem zL {i:Nat} {oi:Oper} {c:Bool} {r:List (Nat×Bool)} {a a':Act} {w:World} (h:NW P ops Q S r a' w) (hi:ops[i]? =some oi:=by rfl) (hQ:∀c a w,Q (.panic c) (a.put oi.dst undef) w→Q (.panic c) a w:=by exact fun _ _ _ h=>h)
  (hw:Region.wanted oi (yielded ops a.tmps)=false:=by rfl) (hS:S w:=by assumption) (ha:a.put oi.dst undef=a':=by(simp only[Act.put,zA,zB,zC,zD,zE,zF];with_reducible rfl)):NW P ops Q S ((i,c)::r) a w:=NW.leave hi hQ hw hS (ha▸h)
theorem zH (i:Nat) {oi:Oper} {v:Value} {fuel:Nat} {listed:Array Bool} {a a':Act} {w:World} (h:wpAnyH P md ops Q S fuel (listed.setIfInBounds i true) a' w) (hi:ops[i]? =some oi:=by rfl)
  (hs:Region.noSelect ops=true:=by kernel_rfl) (hf:Region.free md ops listed i=true:=by kernel_rfl) (hr:(Region.ready md ops listed).contains i=true:=by kernel_rfl) (hQ:∀c a w,Q (.panic c) (a.put oi.dst v) w→Q (.panic c) a w:=by exact fun _ _ _ h=>h)
  (hw:Region.wanted oi (yielded ops a.tmps)=true:=by rfl) (hv:∀w,S w→(execOp a.eval oi).run P w= .ok (.value v) w:=by(intro w hSw;(try dsimp only at hSw);go_simp;(all_goals with_reducible rfl);done)) (hS:S w:=by assumption) (ha:a.put oi.dst v=a':=by(simp only[Act.put,zA,zB,zC,zD,zE,zF];with_reducible rfl)):wpAnyH P md ops Q S (fuel+1) listed a w:=wpAnyH_take hi hs hf hr hQ (.inl ⟨hw,hv⟩) hS (ha▸h)
theorem zU (i:Nat) {oi:Oper} {fuel:Nat} {listed:Array Bool} {a a':Act} {w:World} (h:wpAnyH P md ops Q S fuel (listed.setIfInBounds i true) a' w) (hi:ops[i]? =some oi:=by rfl)
  (hs:Region.noSelect ops=true:=by kernel_rfl) (hf:Region.free md ops listed i=true:=by kernel_rfl) (hr:(Region.ready md ops listed).contains i=true:=by kernel_rfl) (hQ:∀c a w,Q (.panic c) (a.put oi.dst undef) w→Q (.panic c) a w:=by exact fun _ _ _ h=>h)
  (hw:Region.wanted oi (yielded ops a.tmps)=false:=by rfl) (hS:S w:=by assumption) (ha:a.put oi.dst undef=a':=by(simp only[Act.put,zA,zB,zC,zD,zE,zF];with_reducible rfl)):wpAnyH P md ops Q S (fuel+1) listed a w:=wpAnyH_take hi hs hf hr hQ (.inr ⟨hw,rfl⟩) hS (ha▸h)
theorem zR (i:Nat) {o:Oper} {fuel:Nat} {listed:Array Bool} {a:Act} {w:World} (h:∀K':Act→World→Prop,Shut (∀a w,S w→(S w→wpAnyH P md ops Q S fuel (listed.setIfInBounds i true) a w)→K' a w)→if Region.wanted o (yielded ops a.tmps)=true then Oper.wp P o a w K' Q else K' (a.put o.dst undef) w) (ho:ops[i]? =some o:=by rfl) (hr:Region.ready md ops listed=[i]:=by kernel_rfl):wpAnyH P md ops Q S (fuel+1) listed a w:=
 wpAnyH_ready hr (by simp) (AllReadyH.cons ho h AllReadyH.nil)
theorem zR2 (i j:Nat) {o x:Oper} {fuel:Nat} {listed:Array Bool} {a:Act} {w:World} (h:∀K':Act→World→Prop,Shut (∀a w,S w→(S w→wpAnyH P md ops Q S fuel (listed.setIfInBounds i true) a w)→K' a w)→if Region.wanted o (yielded ops a.tmps)=true then Oper.wp P o a w K' Q else K' (a.put o.dst undef) w) (h':∀K':Act→World→Prop,Shut (∀a w,S w→(S w→wpAnyH P md ops Q S fuel (listed.setIfInBounds j true) a w)→K' a w)→if Region.wanted x (yielded ops a.tmps)=true then Oper.wp P x a w K' Q else K' (a.put x.dst undef) w) (ho:ops[i]? =some o:=by rfl) (hx:ops[j]? =some x:=by rfl) (hr:Region.ready md ops listed=[i,j]:=by kernel_rfl):wpAnyH P md ops Q S (fuel+1) listed a w:=
 wpAnyH_ready hr (by simp) (AllReadyH.cons ho h (AllReadyH.cons hx h' AllReadyH.nil))
theorem zS {w:World} (hk:Go.RowKit.Hid (∀W,Go.RowKit.Below w.heap.size w W→S W)) {order:List (Nat×Bool)} {id:Nat} {a:Act} (ho:Shut (Ady ops order)) (hm:P.follows .mixedOrders=true)
  (h:S w.drew→NW P ops Q S order a w.drew):(Code.region id ops true).wp P Q a w:=Ir ho hm (hk _ (Go.RowKit.Below.refl _ _).drew) h
theorem NW.done {a:Act} {w:World} (h:Q .normal a w):NW P ops Q S [] a w:=h
end
open Go.ChangeShapes Go.WideShapes Go.ChangeAt Go.RowKit
theorem Tz {H:Type} {enc:TypeId×Value→H} {P:Program} (hl:laidOutB P=true) {W W':World} (hb:Below W.heap.size W W'):
  ∀ {ts:List TypeId} {vs:List Value} {ds:List (DataW H)} {ps:List MemPlace},(∀t∈ts,P.readableRec t=true∧t < P.types.size)→(∀x∈ps,x.block < W.heap.size)→
   DataW.TrodAll enc P W 0 (fun _=>true) true ts vs ds ps→DataW.TrodAll enc P W' 0 (fun b=>decide (b < W.heap.size)) true ts vs ds ps
 | [],vs,ds,ps,_,_,h=>by
  obtain⟨rfl,rfl,rfl⟩:=trodAll_nil h
  exact trodAll_mk0
 |t::ts,vs,ds,ps,hr,hlt,h=>by
  obtain⟨v,vs',d,ds',p,p',rfl,rfl,rfl,h1,h2⟩:=trodAll_cons h
  exact trodAll_cons_mk (Below.trod hl (hr t (by simp)).1 (hr t (by simp)).2 h1 hb (fun x hx=>hlt x (by simp[hx]))) (Tz hl hb (fun t' ht=>hr t' (by simp[ht])) (fun x hx=>hlt x (by simp[hx])) h2)
theorem Fp {H:Type} {enc:TypeId×Value→H} {P:Program} {f:Func} {s:ChangeSpec} {W W':World} {args:Array Value} {ds gs:List (DataW H)} {before:List MemPlace} {tb:TypeId}
  (hl:laidOutB P=true) (hts':(f.params.toList.all fun t=>P.readableRec t && decide (t < P.types.size))=true) (hv:s.vars=[]) (hres:f.resultTypes= #[tb]) (htb:P.underlying tb=some .bool)
  (hW:DataW.Whole enc P f.params.toList s.vars false W args.toList ds gs before) (hfn:s.fn H (ds++gs)= { results:=[.lit (.bool true)],args:=ds }) (hb:Below W.heap.size W W'):
  s.post enc P f false true false false W args (.bool true) W':=by
 have hts:∀t∈f.params.toList,P.readableRec t=true∧t < P.types.size:=fun t ht=>by
  have:=List.all_eq_true.1 hts' t ht
  simpa using this
 have hlt:∀x∈before,x.block < W.heap.size:=fun p hp=>hW.lt p hp
 have hW':=hW
 obtain⟨p,q,hA,hV,rfl,hfz,hnd⟩:=hW
 rw[hv] at hV
 obtain⟨rfl,rfl⟩:=trodVars_none hV
 rw[List.append_nil] at hlt hfn
 refine⟨ds,[],_,[],p,[],hW',?_,?_,?_,hb.frame _,fun h=>by cases h⟩
 ·rw[List.append_nil,hfn,hres]
  exact trodAll_cons_mk (shut_bool htb true) trodAll_mk0
 ·rw[List.append_nil,hfn]
  exact Tz hl hb hts hlt hA
 ·rw[List.append_nil,hfn,hv]
  rfl
theorem Dg {H:Type} {enc:TypeId×Value→H} {C:Checked} {os:Os} {f:FuncId} {fn:Func} {s:OpenSpec} {laid:List (String×DataW Unit)} (modest:Bool) (args:Array Value)
  (hsh:((World.laidAll C.prog os laid).forCall (fun _ _=>0) ⟨#[],args,[]⟩).Shaped C.prog)
  (hok:Input.okWideB C.prog ((World.laidAll C.prog os laid).forCall (fun _ _=>0) ⟨#[],args,[]⟩) f ⟨#[],args,[]⟩=true)
  (hrow:s.preRow enc C.prog fn [] false laid ((World.laidAll C.prog os laid).forCall (fun _ _=>0) ⟨#[],args,[]⟩).memory args):
  ∃(w:World) (tape:Tape) (i:Input),w.os=os∧(w.forCall tape i).Shaped C.prog∧i.vars=[]∧Input.okWide C.prog (w.forCall tape i) .any w.heap.size f i∧
   s.preRow enc C.prog fn [] false laid (w.forCall tape i).memory i.args∧({ modest:=modest } :Assume).holds C.prog (lone (Frame.enter C.prog f i.args .normal) [] (w.forCall tape i)):=
 ⟨World.laidAll C.prog os laid,fun _ _=>0,⟨#[],args,[]⟩,World.laidAll_os _ _ _,hsh,(Input.okWide_of_okWideB (base:=0) hok).1,(Input.okWide_of_okWideB hok).2,hrow,by
  simp only[Assume.holds]
  exact⟨by simp,by simp,fun _=>Modest.zero,by simp,by simp⟩⟩
open Go.RowKit Go.ChangeShapes Go.WideShapes Go.Deep
theorem Ame {α:Type} {p:Nat→α→Prop} :∀n:Nat,(∀i,i < n→∃x,p i x)→∃xs:List α,xs.length=n∧∀i x,xs[i]? =some x→p i x
 |0,_=>⟨[],rfl,fun i x h=>by simp at h⟩
 |n+1,h=>by
  obtain⟨xs,hl,hx⟩:=Ame n fun i hi=>h i (by omega)
  obtain⟨x,hp⟩:=h n (by omega)
  refine⟨xs++[x],by simp[hl],fun i y hy=> ?_⟩
  rcases Nat.lt_or_ge i n with h1|h1
  ·rw[List.getElem?_append_left (by omega)] at hy
   exact hx i y hy
  ·have:i < (xs++[x]).length:=(List.getElem?_eq_some_iff.1 hy).1
   have e:i=n:=by simp[hl] at this;omega
   subst e
   rw[List.getElem?_append_right (by omega)] at hy
   simp[hl] at hy
   exact hy▸hp
theorem Aqu {H:Type} (d:DataW H):1≤Rows.uptoBulk d:=by
 cases d with
 |lit l=>cases l<;>simp[Rows.uptoBulk]
 |_=>simp[Rows.uptoBulk]
theorem Wy {H:Type} :∀l:List (DataW H),l.length≤Rows.uptoBulkAll l
 | []=>by simp
 |d::r=>by
  have:=Wy r
  have:=Aqu d
  simp only[Rows.uptoBulkAll,List.length_cons]
  omega
theorem Gg {H:Type} {d:DataW H} {l:List (DataW H)} (h:d∈l):Rows.uptoBulk d < Rows.uptoBulk (.agg l):=by
 have:=O5 h
 simp only[Rows.uptoBulk]
 omega
theorem Ga {H:Type} {encH:TypeId×Value→H} {P:Program} {w:World} {base:Nat} {spare:Nat→Bool} {held:Bool} {t fuel:Nat} {fs:Array Field} {cs:List Value} {x:DataW H×List MemPlace}
  (ht:P.underlying t=some (.struct fs)) (h:DataW.trod encH P w base spare held fuel t cs=some x):
  ∃(xs:List (DataW H×List MemPlace)) (n:Nat),x.1= .agg (xs.map (·.1))∧cs.length=P.cellsOf t∧xs.length=fs.size∧∀(j:Nat) (f:Field),fs[j]? =some f→∃y,y.1∈xs.map (·.1)∧DataW.trod encH P w base spare held n f.type ((cs.drop f.offset).take (P.cellsOf f.type))=some y:=by
 obtain⟨xs,n,_,rfl,hl,hlen,hf⟩:=DataW.trod_struct ht h
 refine⟨xs,n,rfl,hl,hlen,fun j f hj=> ?_⟩
 have hjl:j < fs.size:=(Array.getElem?_eq_some_iff.1 hj).1
 have h1:=hf j f hj
 have hx:j < xs.length:=by omega
 exact⟨xs[j],List.mem_map.2 ⟨_,List.getElem_mem hx,rfl⟩,by rw[h1];exact zG hx⟩
theorem addr_add (b o j:Nat):(⟨b,o,none⟩:Addr).add j=⟨b,o+j,none⟩:=by
 unfold Addr.add
 split
 ·simp_all
 ·simp
theorem open_list {H α:Type} {encH:TypeId×Value→H} {P:Program} {w:World} {base:Nat} {spare:Nat→Bool} {held:Bool} {t e size fuel:Nat} {cs:List Value} {x:DataW H×List MemPlace}
  {enc:α→List Value} (rel:DataW H→α→Prop) (ht:P.underlying t=some (.slice e)) (hC:P.cellsOf e=size) (h0:0 < size) (hs:∀x,(enc x).length=size)
  (hel:∀n cs y,DataW.trod encH P w base spare held n e cs=some y→∃x,cs=enc x∧rel y.1 x)
  (h:DataW.trod encH P w base spare held fuel t cs=some x):
  ∃(a:Option Addr) (c:Nat) (xs:List α),cs=[.slice a xs.length c]∧xs.length≤c∧c≤maxLen∧Sl w 0 w.heap.size a (xs.flatMap enc)∧xs.length < Rows.uptoBulk x.1∧(∀y∈xs,∃d,rel d y∧Rows.uptoBulk d≤Rows.uptoBulk x.1)∧
   ∃ds:List (DataW H),ds.length=xs.length∧Rows.uptoBulkAll ds < Rows.uptoBulk x.1∧∀(i:Nat) (d:DataW H) (y:α),ds[i]? =some d→xs[i]? =some y→rel d y:=by
 subst hC
 rcases open_slice ht h with⟨rfl,rfl⟩|⟨a,len,cap,m,n,D,Pl,rfl,hb,hl,hm,hmm,hx,hi⟩
 ·exact⟨none,0,[],rfl,zn _,by decide,Sl.nil _ _ _ _,by simp[Rows.uptoBulk],fun y hy=>by simp at hy,[],rfl,by simp[Rows.uptoBulk,Rows.uptoBulkAll],fun i d y h=>by simp at h⟩
 ·have hle:len≤m:=by rw[hmm];split<;>omega
  obtain⟨xs,hxl,hxs⟩:=Ame (p:=fun i (y:α)=>w.cells? base (a.add (i * P.cellsOf e)) (P.cellsOf e)=some (enc y)∧rel (D i) y) len fun i hi'=>by
   obtain⟨cs',h1,h2⟩:=hi i (by omega)
   obtain⟨y,rfl,hr⟩:=hel n cs' _ h2
   exact⟨y,h1,hr⟩
  subst hxl
  have hall:Rows.uptoBulkAll ((List.range xs.length).map D) < Rows.uptoBulk x.1:=by
   rw[hx]
   simp only[Rows.uptoBulk]
   omega
  refine⟨some a,cap,xs,rfl,hl,hm,?_,?_,?_,(List.range xs.length).map D,by simp,hall,fun i d y hd hy=> ?_⟩
  ·cases xs with
   |nil=>exact Sl.nil _ _ _ _
   |cons y0 ys=>
    have hcell:∀i y,(y0::ys)[i]? =some y→∀j,j < P.cellsOf e→w.cell? ((a.add (i * P.cellsOf e)).add j)=(enc y)[j]? :=fun i y hy j hj=>by
     obtain⟨_,_,hat⟩:=World.cells?_some (hxs i y hy).1
     exact hat j hj
    have hc0:=hcell 0 y0 rfl 0 h0
    rw[Nat.zero_mul] at hc0
    have hg:∃v,(enc y0)[0]? =some v:=⟨_,zG (by rw[hs];exact h0)⟩
    obtain⟨v0,hv0⟩:=hg
    rw[hv0] at hc0
    have e00:(a.add 0).add 0=a:=by simp[Addr.add]
    rw[e00] at hc0
    have hspot:=World.cell?_spot hc0
    obtain⟨b,o,spot⟩:=a
    simp only at hspot
    subst hspot
    have hblt:b < w.heap.size:=by
     rcases Nat.lt_or_ge b w.heap.size with h1|h1
     ·exact h1
     ·simp[World.cell?,Array.getElem?_eq_none h1] at hc0
    refine .inr ⟨b,o,rfl,Nat.zero_le _,hblt,fun j u hu=> ?_⟩
    have hjl:j < ((y0::ys).flatMap enc).length:=(List.getElem?_eq_some_iff.1 hu).1
    rw[Dc hs] at hjl
    have hq:j / P.cellsOf e < (y0::ys).length:=(Nat.div_lt_iff_lt_mul h0).2 hjl
    have hr:j % P.cellsOf e < P.cellsOf e:=Nat.mod_lt _ h0
    have hj:j=j / P.cellsOf e * P.cellsOf e+j % P.cellsOf e:=by
     have:=Nat.div_add_mod j (P.cellsOf e)
     rw[Nat.mul_comm] at this
     exact this.symm
    have hg:=flat_get hs (y0::ys) _ hq _ hr
    rw[←hj,hu] at hg
    have hc:=hcell _ _ (zG hq) _ hr
    rw[←hg,Go.Deep.add_add,←hj] at hc
    rw[addr_add] at hc
    exact hc
  ·have:=Wy ((List.range xs.length).map D)
   simp only[List.length_map,List.length_range] at this
   omega
  ·intro y hy
   obtain⟨i,hi'⟩:=List.getElem?_of_mem hy
   have hil:i < xs.length:=(List.getElem?_eq_some_iff.1 hi').1
   refine⟨D i,(hxs i y hi').2,?_⟩
   have hmem:D i∈(List.range xs.length).map D:=List.mem_map.2 ⟨i,List.mem_range.2 hil,rfl⟩
   have:=O5 hmem
   omega
  ·have hil:i < xs.length:=(List.getElem?_eq_some_iff.1 hy).1
   rw[List.getElem?_map,List.getElem?_range hil] at hd
   simp only[Option.map_some,Option.some.injEq] at hd
   subst hd
   exact(hxs i y hy).2
theorem Af7 {H α:Type} {f:α→Nat} :∀(ds:List (DataW H)) (xs:List α),ds.length=xs.length→(∀(i:Nat) (d:DataW H) (y:α),ds[i]? =some d→xs[i]? =some y→f y≤Rows.uptoBulk d)→(xs.map f).sum≤Rows.uptoBulkAll ds
 | [],[],_,_=>by simp
 |d::ds,x::xs,hl,h=>by
  have h0:=h 0 d x rfl rfl
  have ih:=Af7 (f:=f) ds xs (by simpa using hl) fun i d y hd hy=>h (i+1) d y (by simpa using hd) (by simpa using hy)
  simp only[List.map_cons,List.sum_cons,Rows.uptoBulkAll]
  omega
open Go.RowKit Go.ChangeShapes Go.WideShapes Go.Deep
def i64 (n:Int):Prop:= -9223372036854775808≤n∧n≤9223372036854775807
theorem Aw6 {n:Int} (h:(Lit.int .i64 n).wf=true):i64 n:=by
 have:=bounds_i64 h
 unfold i64
 omega
theorem Ayp {α:Type} {l:List α} (h:l.length=2):∃a b,l=[a,b]:=by
 match l,h with
 | [a,b],_=>exact⟨a,b,rfl⟩
theorem Axu {α:Type} {l:List α} (h:l.length=3):∃a b c,l=[a,b,c]:=by
 match l,h with
 | [a,b,c],_=>exact⟨a,b,c,rfl⟩
theorem Ay5 {α:Type} {l:List α} (h:l.length=4):∃a b c d,l=[a,b,c,d]:=by
 match l,h with
 | [a,b,c,d],_=>exact⟨a,b,c,d,rfl⟩
theorem Ayq {α:Type} {l:List α} (h:l.length=5):∃a b c d e,l=[a,b,c,d,e]:=by
 match l,h with
 | [a,b,c,d,e],_=>exact⟨a,b,c,d,e,rfl⟩
theorem Oo:Tryz.prog.cellsOf 3=1:=by kernel_rfl
theorem N1:Tryz.prog.cellsOf 9=1:=by kernel_rfl
theorem Avy:Tryz.prog.cellsOf 4=1:=by kernel_rfl
theorem Co {H:Type} {encH:TypeId×Value→H} {P:Program} {w:World} {base:Nat} {spare:Nat→Bool} {held:Bool} {m:Nat} {fs:Array Field} {cs:List Value} {ds:List (DataW H)}
  (hf:∀(j:Nat) (f:Field),fs[j]? =some f→∃y,y.1∈ds∧DataW.trod encH P w base spare held m f.type ((cs.drop f.offset).take (P.cellsOf f.type))=some y) (j:Nat) {t o k:Nat} (hj:fs[j]?.map (fun f=>(f.type,f.offset))=some (t,o)) (hk:P.cellsOf t=k):
  ∃y,y.1∈ds∧DataW.trod encH P w base spare held m t ((cs.drop o).take k)=some y:=by
 cases hfj:fs[j]? with
 |none=>rw[hfj] at hj;cases hj
 |some f=>
  rw[hfj] at hj
  simp only[Option.map_some,Option.some.injEq,Prod.mk.injEq] at hj
  obtain⟨rfl,rfl⟩:=hj
  rw[←hk]
  exact hf j f hfj
section
variable {H:Type} {encH:TypeId×Value→H} {w:World} {base:Nat} {spare:Nat→Bool} {held:Bool} {n:Nat} {cs:List Value} {y:DataW H×List MemPlace}
theorem Hj {c:Value} (h:DataW.trod encH Tryz.prog w base spare held n 3 [c]=some y):∃i,c= .int .i64 i∧i64 i:=by
 obtain⟨i,hc,_,hw⟩:=DataW.trod_int Tryz.underlying3 h
 simp only[List.cons.injEq,and_true] at hc
 exact⟨i,hc,Aw6 hw⟩
theorem Ali {c:Value} (h:DataW.trod encH Tryz.prog w base spare held n 4 [c]=some y):∃b,c= .bool b:=by
 obtain⟨b,hc,_⟩:=DataW.trod_bool Tryz.underlying4 h
 simp only[List.cons.injEq,and_true] at hc
 exact⟨b,hc⟩
theorem Kg {c:Value} (h:DataW.trod encH Tryz.prog w base spare held n 9 [c]=some y):∃s:ByteArray,c= .string s∧s.size < Rows.uptoBulk y.1:=by
 obtain⟨s,hc,hy,hw⟩:=DataW.trod_string Tryz.underlying9 h
 simp only[List.cons.injEq,and_true] at hc
 refine⟨s,hc,?_⟩
 rw[hy,Abw]
 simp
def Atn (d:DataW H) (x:J5):Prop:=x.name.size < Rows.uptoBulk d∧i64 x.kind
def Ana (d:DataW H) (x:Ge):Prop:=x.name.size < Rows.uptoBulk d∧i64 x.limit∧i64 x.dead
def Atm (d:DataW H) (x:B4):Prop:=x.pattern.size < Rows.uptoBulk d∧i64 x.src∧i64 x.to
theorem App (h:DataW.trod encH Tryz.prog w base spare held n 123 cs=some y):∃x,cs=Jt x∧Atn y.1 x:=by
 obtain⟨xs,m,hx,hl,hlen,hf⟩:=Ga Tryz.underlying123 h
 obtain⟨c0,c1,rfl⟩:=Ayp (hl.trans (show Tryz.prog.cellsOf 123=2 by kernel_rfl))
 obtain⟨y0,m0,h0⟩:=Co hf 0 rfl N1
 obtain⟨y1,m1,h1⟩:=Co hf 1 rfl Oo
 obtain⟨s,rfl,hs⟩:=Kg h0
 obtain⟨i,rfl,hi⟩:=Hj h1
 rw[hx]
 exact⟨⟨s,i⟩,rfl,Nat.lt_trans hs (Gg m0),hi⟩
theorem Amz (h:DataW.trod encH Tryz.prog w base spare held n 104 cs=some y):∃x,cs=Hc x∧Ana y.1 x:=by
 obtain⟨xs,m,hx,hl,hlen,hf⟩:=Ga Tryz.underlying104 h
 obtain⟨c0,c1,c2,rfl⟩:=Axu (hl.trans (show Tryz.prog.cellsOf 104=3 by kernel_rfl))
 obtain⟨y0,m0,h0⟩:=Co hf 0 rfl N1
 obtain⟨y1,m1,h1⟩:=Co hf 1 rfl Oo
 obtain⟨y2,m2,h2⟩:=Co hf 2 rfl Oo
 obtain⟨s,rfl,hs⟩:=Kg h0
 obtain⟨i,rfl,hi⟩:=Hj h1
 obtain⟨j,rfl,hj⟩:=Hj h2
 rw[hx]
 exact⟨⟨s,i,j⟩,rfl,Nat.lt_trans hs (Gg m0),hi,hj⟩
theorem Alg (h:DataW.trod encH Tryz.prog w base spare held n 127 cs=some y):∃x,cs=D4 x∧Atm y.1 x:=by
 obtain⟨xs,m,hx,hl,hlen,hf⟩:=Ga Tryz.underlying127 h
 obtain⟨c0,c1,c2,c3,rfl⟩:=Ay5 (hl.trans (show Tryz.prog.cellsOf 127=4 by kernel_rfl))
 obtain⟨y0,m0,h0⟩:=Co hf 0 rfl Oo
 obtain⟨y1,m1,h1⟩:=Co hf 1 rfl Avy
 obtain⟨y2,m2,h2⟩:=Co hf 2 rfl Oo
 obtain⟨y3,m3,h3⟩:=Co hf 3 rfl N1
 obtain⟨i,rfl,hi⟩:=Hj h0
 obtain⟨b,rfl⟩:=Ali h1
 obtain⟨j,rfl,hj⟩:=Hj h2
 obtain⟨s,rfl,hs⟩:=Kg h3
 rw[hx]
 exact⟨⟨i,b,j,s⟩,rfl,Nat.lt_trans hs (Gg m3),hi,hj⟩
structure E1 (p:Ab):Prop where
 post:∀x∈p.posts,i64 x.kind
 queue:∀x∈p.queues,i64 x.limit∧i64 x.dead
 bind:∀x∈p.binds,i64 x.src∧i64 x.to
theorem Akx (h:DataW.trod encH Tryz.prog w base spare held n 26 cs=some y) (hB:Rows.uptoBulk y.1≤1048576):
  ∃(p:Ab) (a1 a2 a3:Option Addr) (c1 c2 c3:Nat),cs=[.slice a1 p.posts.length c1,.slice a2 p.queues.length c2,.slice a3 p.binds.length c3]∧Az w 0 w.heap.size a1 a2 a3 p∧Ai p∧E1 p∧
   p.posts.length≤c1∧p.queues.length≤c2∧p.binds.length≤c3:=by
 obtain⟨xs,m,hx,hl,hlen,hf⟩:=Ga Tryz.underlying26 h
 obtain⟨v0,v1,v2,rfl⟩:=Axu (hl.trans (show Tryz.prog.cellsOf 26=3 by kernel_rfl))
 obtain⟨y0,m0,h0⟩:=Co hf 0 rfl (show Tryz.prog.cellsOf 22=1 by kernel_rfl)
 obtain⟨y1,m1,h1⟩:=Co hf 1 rfl (show Tryz.prog.cellsOf 23=1 by kernel_rfl)
 obtain⟨y2,m2,h2⟩:=Co hf 2 rfl (show Tryz.prog.cellsOf 24=1 by kernel_rfl)
 rw[hx] at hB
 have b0:=Gg m0
 have b1:=Gg m1
 have b2:=Gg m2
 obtain⟨a1,c1,ps,e1,k1,_,s1,n1,r1,_⟩:=open_list (enc:=Jt) Atn Tryz.underlying22 (show Tryz.prog.cellsOf 123=2 by kernel_rfl) (by decide) Jz (fun _ _ _=>App) h0
 obtain⟨a2,c2,qs,e2,k2,_,s2,n2,r2,_⟩:=open_list (enc:=Hc) Ana Tryz.underlying23 (show Tryz.prog.cellsOf 104=3 by kernel_rfl) (by decide) G3 (fun _ _ _=>Amz) h1
 obtain⟨a3,c3,bs,e3,k3,_,s3,n3,r3,_⟩:=open_list (enc:=D4) Atm Tryz.underlying24 (show Tryz.prog.cellsOf 127=4 by kernel_rfl) (by decide) Ho (fun _ _ _=>Alg) h2
 have e1':v0= .slice a1 ps.length c1:=by simpa using e1
 have e2':v1= .slice a2 qs.length c2:=by simpa using e2
 have e3':v2= .slice a3 bs.length c3:=by simpa using e3
 subst e1' e2' e3'
 refine⟨⟨ps,qs,bs⟩,a1,a2,a3,c1,c2,c3,rfl,⟨s1,s2,s3⟩,⟨?_,?_,?_,?_,?_,?_⟩,⟨?_,?_,?_⟩,k1,k2,k3⟩
 ·exact Nat.le_trans (Nat.le_of_lt (Nat.lt_trans n1 b0)) hB
 ·exact Nat.le_trans (Nat.le_of_lt (Nat.lt_trans n2 b1)) hB
 ·exact Nat.le_trans (Nat.le_of_lt (Nat.lt_trans n3 b2)) hB
 ·intro x hx
  obtain⟨d,hd,hb⟩:=r1 x hx
  have:=hd.1
  omega
 ·intro x hx
  obtain⟨d,hd,hb⟩:=r2 x hx
  have:=hd.1
  omega
 ·intro x hx
  obtain⟨d,hd,hb⟩:=r3 x hx
  have:=hd.1
  omega
 ·intro x hx
  obtain⟨d,hd,hb⟩:=r1 x hx
  exact hd.2
 ·intro x hx
  obtain⟨d,hd,hb⟩:=r2 x hx
  exact hd.2
 ·intro x hx
  obtain⟨d,hd,hb⟩:=r3 x hx
  exact hd.2
theorem Gb {r:Reach} {b0:Nat} {v:Value} {d:DataW H} {p:List MemPlace} (hv:Value.okWide Tryz.prog w r b0 26 v) (h:DataW.Trod encH Tryz.prog w base spare held 26 v d p) (hB:Rows.uptoBulk d≤1048576):
  ∃(p:Ab) (a1 a2 a3:Option Addr) (c1 c2 c3:Nat),v=Bc p a1 a2 a3 c1 c2 c3∧Az w 0 w.heap.size a1 a2 a3 p∧Ai p∧E1 p∧p.posts.length≤c1∧p.queues.length≤c2∧p.binds.length≤c3:=by
 obtain⟨cs,rfl,hsz⟩:=okWide_struct Tryz.underlying26 hv
 obtain⟨fuel,hf⟩:=h
 obtain⟨p,a1,a2,a3,c1,c2,c3,hc,k⟩:=Akx hf hB
 refine⟨p,a1,a2,a3,c1,c2,c3,?_,k⟩
 have:cs.toList=_:=hc
 obtain⟨l⟩:=cs
 simp only at this
 subst this
 rfl
end
open Go.RowKit Go.ChangeShapes Go.WideShapes Go.Deep
theorem len8 {α:Type} {l:List α} (h:l.length=8):∃a b c d e f g i,l=[a,b,c,d,e,f,g,i]:=by
 match l,h with
 | [a,b,c,d,e,f,g,i],_=>exact⟨a,b,c,d,e,f,g,i,rfl⟩
section
variable {H:Type} {encH:TypeId×Value→H} {w:World} {base:Nat} {spare:Nat→Bool} {held:Bool} {n:Nat} {cs:List Value} {y:DataW H×List MemPlace}
def Abm (d:DataW H) (x:Ap):Prop:=x.key.size < Rows.uptoBulk d∧x.body.size < Rows.uptoBulk d∧i64 x.seq∧i64 x.deaths
def Aqa (_:DataW H) (x:B6):Prop:=i64 x.queue∧i64 x.atOnce
def Aye (d:DataW H) (x:Eh):Prop:=Abm d x.item∧i64 x.tag∧i64 x.taker∧i64 x.queue
def Atu (d:DataW H) (x:Cn):Prop:=x.key.size < Rows.uptoBulk d∧x.body.size < Rows.uptoBulk d∧i64 x.kind∧i64 x.a∧i64 x.b
theorem Abm.small {d:DataW H} {x:Ap} (h:Abm d x) (hB:Rows.uptoBulk d≤1048576):Ep x:=by
 obtain⟨h1,h2,h3,h4⟩:=h
 unfold i64 at h3 h4
 unfold Ep
 omega
theorem Aq0:Tryz.prog.cellsOf 52=5:=by kernel_rfl
theorem Ayk:Tryz.prog.cellsOf 77=8:=by kernel_rfl
theorem Aq1:Tryz.prog.cellsOf 79=2:=by kernel_rfl
theorem Aw0:Tryz.prog.cellsOf 31=8:=by kernel_rfl
theorem Awx:Tryz.prog.cellsOf 50=1:=by kernel_rfl
theorem Awz:Tryz.prog.cellsOf 27=1:=by kernel_rfl
theorem Ayl:Tryz.prog.cellsOf 28=1:=by kernel_rfl
theorem Auf:Tryz.prog.cellsOf 29=1:=by kernel_rfl
theorem Aep (h:DataW.trod encH Tryz.prog w base spare held n 52 cs=some y):∃x,cs=A9 x∧Abm y.1 x:=by
 obtain⟨xs,m,hx,hl,hlen,hf⟩:=Ga Tryz.underlying52 h
 obtain⟨c0,c1,c2,c3,c4,rfl⟩:=Ayq (hl.trans Aq0)
 obtain⟨y0,m0,h0⟩:=Co hf 0 rfl Oo
 obtain⟨y1,m1,h1⟩:=Co hf 1 rfl N1
 obtain⟨y2,m2,h2⟩:=Co hf 2 rfl N1
 obtain⟨y3,m3,h3⟩:=Co hf 3 rfl Avy
 obtain⟨y4,m4,h4⟩:=Co hf 4 rfl Oo
 obtain⟨i,rfl,hi⟩:=Hj h0
 obtain⟨k,rfl,hk⟩:=Kg h1
 obtain⟨b,rfl,hb⟩:=Kg h2
 obtain⟨g,rfl⟩:=Ali h3
 obtain⟨j,rfl,hj⟩:=Hj h4
 rw[hx]
 exact⟨⟨i,k,b,g,j⟩,rfl,Nat.lt_trans hk (Gg m1),Nat.lt_trans hb (Gg m2),hi,hj⟩
theorem Atd (h:DataW.trod encH Tryz.prog w base spare held n 79 cs=some y):∃x,cs=El x∧Aqa y.1 x:=by
 obtain⟨xs,m,hx,hl,hlen,hf⟩:=Ga Tryz.underlying79 h
 obtain⟨c0,c1,rfl⟩:=Ayp (hl.trans Aq1)
 obtain⟨y0,m0,h0⟩:=Co hf 0 rfl Oo
 obtain⟨y1,m1,h1⟩:=Co hf 1 rfl Oo
 obtain⟨i,rfl,hi⟩:=Hj h0
 obtain⟨j,rfl,hj⟩:=Hj h1
 exact⟨⟨i,j⟩,rfl,hi,hj⟩
theorem Axg (h:DataW.trod encH Tryz.prog w base spare held n 77 cs=some y):∃x,cs=Eg x∧Aye y.1 x:=by
 obtain⟨xs,m,hx,hl,hlen,hf⟩:=Ga Tryz.underlying77 h
 obtain⟨c0,c1,c2,c3,c4,c5,c6,c7,rfl⟩:=len8 (hl.trans Ayk)
 obtain⟨y0,m0,h0⟩:=Co hf 0 rfl Oo
 obtain⟨y1,m1,h1⟩:=Co hf 1 rfl Oo
 obtain⟨y2,m2,h2⟩:=Co hf 2 rfl Oo
 obtain⟨y3,m3,h3⟩:=Co hf 3 rfl Aq0
 obtain⟨i,rfl,hi⟩:=Hj h0
 obtain⟨j,rfl,hj⟩:=Hj h1
 obtain⟨k,rfl,hk⟩:=Hj h2
 obtain⟨x,hc,hr⟩:=Aep h3
 have hc':[c3,c4,c5,c6,c7]=A9 x:=hc
 unfold A9 at hc'
 simp only[List.cons.injEq,and_true] at hc'
 obtain⟨rfl,rfl,rfl,rfl,rfl⟩:=hc'
 rw[hx]
 have hb:=Gg m3
 exact⟨⟨i,j,k,x⟩,rfl,⟨Nat.lt_trans hr.1 hb,Nat.lt_trans hr.2.1 hb,hr.2.2⟩,hi,hj,hk⟩
def At7 (w:World) (d:DataW H) (r:Bq):Prop:=r.items.length≤r.cap∧Sl w 0 w.heap.size r.at_ (r.items.flatMap A9)∧r.items.length < Rows.uptoBulk d∧∀x∈r.items,∃d':DataW H,Abm d' x∧Rows.uptoBulk d'≤Rows.uptoBulk d
theorem row_in (h:DataW.trod encH Tryz.prog w base spare held n 50 cs=some y):∃r,cs=Nv r∧At7 w y.1 r:=by
 obtain⟨a,c,xs,e,k,_,s,m,r,_⟩:=open_list (enc:=A9) Abm Tryz.underlying50 Aq0 (by decide) Cg (fun _ _ _=>Aep) h
 exact⟨⟨a,c,xs⟩,e,k,s,m,r⟩
theorem At7.small {d:DataW H} {r:Bq} (h:At7 w d r) (hB:Rows.uptoBulk d≤1048576):F5 r.items:=by
 obtain⟨_,_,h3,h4⟩:=h
 refine⟨by omega,fun x hx=> ?_⟩
 obtain⟨d',hd,hb⟩:=h4 x hx
 exact hd.small (by omega)
structure Ba (s:Aa):Prop where
 nextSeq:i64 s.nextSeq
 nextTag:i64 s.nextTag
 came:i64 s.came
 acked:i64 s.acked
 dropped:i64 s.dropped
 taker:∀x∈s.takers,i64 x.queue∧i64 x.atOnce
 out:∀x∈s.outs,i64 x.tag∧i64 x.taker∧i64 x.queue
theorem Aih (h:DataW.trod encH Tryz.prog w base spare held n 31 cs=some y) (hB:Rows.uptoBulk y.1≤1048576):
  ∃(s:Aa) (a1 a2 a3:Option Addr) (c1 c2 c3:Nat) (rows:List Bq),cs=(Ag s a1 a2 a3 c1 c2 c3).toList∧Ax w 0 w.heap.size a1 a2 a3 rows s∧Am s∧Ba s∧
   s.ready.length≤c1∧s.outs.length≤c2∧s.takers.length≤c3:=by
 obtain⟨xs,m,hx,hl,hlen,hf⟩:=Ga Tryz.underlying31 h
 obtain⟨v0,v1,v2,v3,v4,v5,v6,v7,rfl⟩:=len8 (hl.trans Aw0)
 obtain⟨y0,m0,h0⟩:=Co hf 0 rfl Awz
 obtain⟨y1,m1,h1⟩:=Co hf 1 rfl Ayl
 obtain⟨y2,m2,h2⟩:=Co hf 2 rfl Auf
 obtain⟨y3,m3,h3⟩:=Co hf 3 rfl Oo
 obtain⟨y4,m4,h4⟩:=Co hf 4 rfl Oo
 obtain⟨y5,m5,h5⟩:=Co hf 5 rfl Oo
 obtain⟨y6,m6,h6⟩:=Co hf 6 rfl Oo
 obtain⟨y7,m7,h7⟩:=Co hf 7 rfl Oo
 rw[hx] at hB
 have b0:=Gg m0
 have b1:=Gg m1
 have b2:=Gg m2
 obtain⟨a1,c1,rs,e1,k1,_,s1,n1,r1,ds,dl,db,dr⟩:=open_list (enc:=Nv) (At7 w) Tryz.underlying27 Awx (by decide) Dv (fun _ _ _=>row_in) h0
 obtain⟨a2,c2,os,e2,k2,_,s2,n2,r2,_⟩:=open_list (enc:=Eg) Aye Tryz.underlying28 Ayk (by decide) Dy (fun _ _ _=>Axg) h1
 obtain⟨a3,c3,ts,e3,k3,_,s3,n3,r3,_⟩:=open_list (enc:=El) Aqa Tryz.underlying29 Aq1 (by decide) Cy (fun _ _ _=>Atd) h2
 obtain⟨i3,rfl,hi3⟩:=Hj h3
 obtain⟨i4,rfl,hi4⟩:=Hj h4
 obtain⟨i5,rfl,hi5⟩:=Hj h5
 obtain⟨i6,rfl,hi6⟩:=Hj h6
 obtain⟨i7,rfl,hi7⟩:=Hj h7
 have e1':v0= .slice a1 rs.length c1:=by simpa using e1
 have e2':v1= .slice a2 os.length c2:=by simpa using e2
 have e3':v2= .slice a3 ts.length c3:=by simpa using e3
 subst e1' e2' e3'
 have hrl:(rs.map (·.items)).length=rs.length:=List.length_map _
 refine⟨⟨rs.map (·.items),os,ts,i3,i4,i5,i6,i7⟩,a1,a2,a3,c1,c2,c3,rs,by simp[Ag],⟨rfl,s1,fun r hr=> ?_,s2,s3⟩,⟨?_,?_,?_,?_,?_,?_⟩,⟨hi3,hi4,hi5,hi6,hi7,fun x hx=> ?_,fun x hx=> ?_⟩,by rw[hrl];exact k1,k2,k3⟩
 ·obtain⟨d,hd,_⟩:=r1 r hr
  exact⟨hd.2.1,hd.1⟩
 ·show(rs.map (·.items)).length≤_
  rw[hrl]
  exact Nat.le_trans (Nat.le_of_lt (Nat.lt_trans n1 b0)) hB
 ·exact Nat.le_trans (Nat.le_of_lt (Nat.lt_trans n2 b1)) hB
 ·exact Nat.le_trans (Nat.le_of_lt (Nat.lt_trans n3 b2)) hB
 ·intro l hl
  obtain⟨r,hr,rfl⟩:=List.mem_map.1 hl
  obtain⟨d,hd,hb⟩:=r1 r hr
  exact hd.small (by omega)
 ·intro x hx
  obtain⟨d,hd,hb⟩:=r2 x hx
  exact hd.1.small (by omega)
 ·have:=Af7 (f:=fun r:Bq=>r.items.length) ds rs dl fun i d r hd hr=>Nat.le_of_lt (dr i d r hd hr).2.2.1
  show((rs.map (·.items)).map List.length).sum≤_
  rw[List.map_map]
  exact Nat.le_trans this (by omega)
 ·obtain⟨d,hd,hb⟩:=r3 x hx
  exact hd
 ·obtain⟨d,hd,hb⟩:=r2 x hx
  exact hd.2
theorem Hm {r:Reach} {b0:Nat} {v:Value} {d:DataW H} {p:List MemPlace} (hv:Value.okWide Tryz.prog w r b0 31 v) (h:DataW.Trod encH Tryz.prog w base spare held 31 v d p) (hB:Rows.uptoBulk d≤1048576):
  ∃(s:Aa) (a1 a2 a3:Option Addr) (c1 c2 c3:Nat) (rows:List Bq),v=Ac s a1 a2 a3 c1 c2 c3∧Ax w 0 w.heap.size a1 a2 a3 rows s∧Am s∧Ba s∧s.ready.length≤c1∧s.outs.length≤c2∧s.takers.length≤c3:=by
 obtain⟨cs,rfl,hsz⟩:=okWide_struct Tryz.underlying31 hv
 obtain⟨fuel,hf⟩:=h
 obtain⟨s,a1,a2,a3,c1,c2,c3,rows,hc,k⟩:=Aih hf hB
 exact⟨s,a1,a2,a3,c1,c2,c3,rows,congrArg Value.agg (Array.toList_inj.1 hc),k⟩
end
end Go.Proofs.YtaanpcjkflhomaaGreatDoor
