/-
  Plain predicates on memory for this claim's walks: a slice that reads as a list of cells between two block numbers, and how it is kept. No program in sight.
-/
import Derived.WalkKit
import Derived.WalkSpells
import Derived.WalkLawsBesides
import Derived.Lib.Hide
import Derived.Deep.QuietTactic
import Derived.BigQuiet
import Derived.Deep.OwnRows
import Derived.Test.YtaanpcjkflhomaaGreatDoorRows
import Derived.Shelf.GgClosure.StringsIndexFunc
import Derived.Lib.Split
import Derived.Lib.CountLaws
import Derived.Lib.SplitLaws
import Derived.Laws.Strings
import Derived.WideShapes
import Derived.Deep.RegionHeld3
import Derived.ProofKit
import Derived.OpenShut
import Derived.Deep.DeepHandedRow
import Derived.Lib.LaidTab
import Derived.LaidMore
import Derived.Lay
import Derived.SevenTiedAt
import Derived.Stop.Joined
import Derived.Deep.Slices
import Derived.Deep.Fields
import Derived.ChangeSame
import Derived.Lib.SmallJoins
set_option maxHeartbeats 20000000
set_option maxRecDepth 100000
set_option linter.unusedSimpArgs false
set_option linter.unusedVariables false
namespace Go.Proofs.YtaanpcjkflhomaaGreatDoor
open Go.RowKit
theorem zA {α:Type _} (l:List α) (i:Nat) (a:α):l.toArray.setIfInBounds i a=(l.set i a).toArray:=List.setIfInBounds_toArray l i a
theorem zB {α:Type _} {x:α} {xs:List α} {a:α} :(x::xs).set 0 a=a::xs:=rfl
theorem zC {α:Type _} {x:α} {xs:List α} {i:Nat} {a:α} :(x::xs).set (i+1) a=x::xs.set i a:=rfl
theorem zD {α:Type _} {xs:List α} {i:Nat} (h:i < xs.toArray.size):xs.toArray[i]=xs[i]:=rfl
theorem zE {α:Type _} (a:α) (xs:List α) (h:0 < (a::xs).length):(a::xs)[0]=a:=rfl
theorem zF {α:Type _} (a:α) (xs:List α) (i:Nat) (h:i+1 < (a::xs).length):(a::xs)[i+1]=xs[i]'(Nat.lt_of_succ_lt_succ h):=rfl
theorem zh {p:Prop} (h:p):Hid p:=Lib.hid h
theorem zn (n:Nat):n≤n:=Nat.le_refl n
theorem zb (B:Nat) (w:World):Below B w w:=Below.refl B w
theorem zI {α:Type _} {xs:List α} {i:Nat} :xs.toArray[i]? =xs[i]? :=List.getElem?_toArray
theorem zJ {α:Type _} {a:α} {l:List α} :(a::l)[0]? =some a:=rfl
theorem zK {α:Type _} {a:α} {l:List α} {i:Nat} :(a::l)[i+1]? =l[i]? :=rfl
theorem zG {α:Type _} {l:List α} {i:Nat} (h:i < l.length):l[i]? =some l[i]:=List.getElem?_eq_getElem h
theorem zi {a b:Prop} (h:a) (k:b):a∧b:=⟨h, k⟩
theorem zp {c:Prop} {h:Decidable c} (hc:c) {α:Sort _} {t e:α} :(ite c t e)=t:=if_pos hc
theorem zq {c:Prop} {h:Decidable c} (hc:¬ c) {α:Sort _} {t e:α} :(ite c t e)=e:=if_neg hc
theorem zr {n m k:Nat} (h:n≤m) (i:m≤k):n≤k:=Nat.le_trans h i
theorem zc (a b:Bool):((a && b)=true)=(a=true∧b=true):=Bool.and_eq_true a b
theorem zd {p:Prop} [Decidable p]:(decide p=true)=p:=decide_eq_true_eq
theorem ze {α:Type _} {x y:List α} :(x++y).length=x.length+y.length:=List.length_append
theorem zg {α:Type _} {l:List α} {n:Nat} (h:n < l.length):l[n]'h∈l:=List.getElem_mem h
theorem zj {α:Type _} {l:List α} {i:Nat} (h:i < l.length):l.take (i+1)=l.take i++[l[i]]:=List.take_succ_eq_append_getElem h
abbrev gd (t:Array Value) (i:Nat):Value:=t.getD i undef
def fr (t:Array Value):Nat→Nat→List Value
  |_, 0=>[]
  |i, n+1=>gd t i::fr t (i+1) n
def fj (l:List (List Value)):Array Value:=l.flatten.toArray
def Sl (w:World) (lo hi:Nat) (a:Option Addr) (us:List Value):Prop:=
 us=[]∨∃b o,a=some ⟨b,o,none⟩∧lo≤b∧b < hi∧∀j u,us[j]? =some u→w.cell? ⟨b,o+j,none⟩=some u
theorem Sl.nil (w:World) (lo hi:Nat) (a:Option Addr):Sl w lo hi a []:= .inl rfl
theorem Sl.at_ {w:World} {lo hi:Nat} {a:Option Addr} {us:List Value} (h:Sl w lo hi a us) {k:Nat} (hk:k < us.length):
  ∃b o,a=some ⟨b,o,none⟩∧lo≤b∧b < hi∧∀j u,us[j]? =some u→w.cell? ⟨b,o+j,none⟩=some u:=by
 rcases h with rfl|h
 ·simp at hk
 ·exact h
theorem Sl.keep {w w':World} {lo hi:Nat} {a:Option Addr} {us:List Value} (h:Sl w lo hi a us) (hk:∀p:Addr,p.block < hi→w'.cell? p=w.cell? p):Sl w' lo hi a us:=by
 rcases h with h|⟨b,o,e,h1,h2,hc⟩
 ·exact .inl h
 ·exact .inr ⟨b,o,e,h1,h2,fun j u hu=>(hk _ h2).trans (hc j u hu)⟩
theorem Sl.below {w w':World} {lo hi B:Nat} {a:Option Addr} {us:List Value} (h:Sl w lo hi a us) (hb:Below B w w') (hB:hi≤B):Sl w' lo hi a us:=
 h.keep fun p hp=>hb.cell (by omega)
theorem Sl.wider {w:World} {lo hi lo' hi':Nat} {a:Option Addr} {us:List Value} (h:Sl w lo hi a us) (h1:lo'≤lo) (h2:hi≤hi'):Sl w lo' hi' a us:=by
 rcases h with h|⟨b,o,e,h3,h4,hc⟩
 ·exact .inl h
 ·exact .inr ⟨b,o,e,by omega,by omega,hc⟩
theorem Sl.new (w:World) (us:List Value) (t:TypeId) (hi:Nat) (h:w.heap.size < hi):Sl (w.alloc (.cells us.toArray t)) w.heap.size hi (some ⟨w.heap.size,0,none⟩) us:=
 .inr ⟨_,0,rfl,zn _,h,fun j u hu=>by rw[World.cell?_alloc_at _ _ _ _ rfl];simpa using hu⟩
theorem Sl.drop {w:World} {lo hi:Nat} {b o:Nat} {us:List Value} (h:Sl w lo hi (some ⟨b,o,none⟩) us) (k:Nat):Sl w lo hi (some ⟨b,o+k,none⟩) (us.drop k):=by
 rcases h with rfl|⟨b',o',e,h1,h2,hc⟩
 ·left;simp
 ·right
  simp only[Option.some.injEq,Addr.mk.injEq] at e;obtain⟨rfl,rfl,_⟩:=e;exact⟨b,o+k,rfl,h1,h2,fun j u hu=>by
   have:=hc (k+j) u (by simpa using hu);rw[show o+k+j=o+(k+j) from by omega];exact this⟩
theorem Sl.take {w:World} {lo hi:Nat} {a:Option Addr} {us:List Value} (h:Sl w lo hi a us) (k:Nat):Sl w lo hi a (us.take k):=by
 rcases h with rfl|⟨b',o',e,h1,h2,hc⟩
 ·left;simp
 ·exact .inr ⟨b',o',e,h1,h2,fun j u hu=>hc j u (by
   rw[List.getElem?_take] at hu
   split at hu
   ·exact hu
   ·cases hu)⟩
theorem Sl.cu {w:World} {base:Nat} {e:TypeId} {size n c:Nat} {a:Option Addr} {us:List Value} (h:w.ownsRow base e size (.slice a n c) n us):Sl w base w.heap.size a us:=by
 obtain⟨hl,h⟩:=h;rcases h with⟨_,hn⟩|⟨g,cap,cur,hv,hg,hh,hnc,hm,hcs,ht⟩
 ·left
  subst hn;exact List.eq_nil_of_length_eq_zero (by simpa using hl)
 ·right
  simp only[Value.slice.injEq] at hv;obtain⟨rfl,_,rfl⟩:=hv;have hlt:g < w.heap.size:=by
   rcases Nat.lt_or_ge g w.heap.size with h|h
   ·exact h
   ·rw[Array.getElem?_eq_none h] at hh;cases hh
  refine⟨g,0,rfl,hg,hlt,fun j u hu=> ?_⟩;simp only[World.cell?,hh,Nat.zero_add];rw[←ht,List.getElem?_take] at hu
  split at hu
  ·simpa using hu
  ·cases hu
theorem Ad {w:World} {base:Nat} {e:TypeId} {size n:Nat} {v:Value} {us:List Value} (h:w.ownsRow base e size v n us):∃a c,v= .slice a n c∧n≤c:=by
 obtain⟨hl,h⟩:=h;rcases h with⟨rfl,rfl⟩|⟨g,cap,cur,hv,hg,hh,hnc,hm,hcs,ht⟩
 ·exact⟨none,0,rfl,zn _⟩
 ·exact⟨_,cap,hv,hnc⟩
theorem own_below {w w':World} {base:Nat} {e:TypeId} {size n:Nat} {v:Value} {us:List Value} (h:w.ownsRow base e size v n us) (hb:Below w.heap.size w w'):w'.ownsRow base e size v n us:=by
 obtain⟨hl,h⟩:=h;refine⟨hl,?_⟩;rcases h with h|⟨g,cap,cur,hv,hg,hh,r⟩
 ·exact .inl h
 ·exact .inr ⟨g,cap,cur,hv,hg,(hb.block g (Array.getElem?_eq_some_iff.1 hh).1).trans hh,r⟩
theorem Pg {w w1:World} {o:Obj} {row:Option Nat} (hg:(w.alloc o).grownBy w1 row):w.grownBy w1 row:=
 ⟨hg.os,hg.tape,hg.output,zr (by simp) hg.size,fun k hk hne=>(hg.block k (by simp;omega) hne).trans (Below.heap_alloc _ _ _ hk)⟩
theorem Bl {B:Nat} {w0 w w1:World} {base:Nat} {e:TypeId} {size n:Nat} {v:Value} {us:List Value} (hown:w.ownsRow base e size v n us) (hg:w.grownBy w1 v.ownBlock) (hb:Below B w0 w) (h1:B≤base) (h2:B≤w.heap.size):Below B w0 w1:=
 hb.grown hg h2 fun k hk=>by have:=(hown.lt k hk).1;omega
theorem D6 {P:Program} {ops:Array Oper} {rest:List Oper} {o:Oper} {a:Act} {W:World} {Q:Exit→Act→World→Prop} (hgd:o.guard=none) (s x:Operand) (t:TypeId)
  (ho:o.op= .call { callee:= .builtin .append,args:= #[s,x],argTypes:= #[t,t] })
  (base:Nat) (e:TypeId) {z:Value} {size bytes:Nat} (hinfo:(P.info? e).map (fun i=>(i.zero,i.size,i.bytes))=some (some z,size,bytes)) (ht:P.underlying t=some (.slice e)) (hzs:z.cells.size=size) (hsz:0 < size) (hb:bytes≤4096)
  (w:World) (v:Value) (n:Nat) (us:List Value) (hs:a.eval s=v) (hown:w.ownsRow base e size v n us)
  (news:List Value) (hW:W=w.alloc (.cells news.toArray e)) (hx:a.eval x= .slice (some ⟨w.heap.size,0,none⟩) 1 1) (hl:news.length=size) (h1:∀u∈news,u.oneCell'=true) (hn:n < 4294967296) (hbase:base≤w.heap.size)
  (h:∀v' w',w'.ownsRow base e size v' (n+1) (us++news)→w.grownBy w' v.ownBlock→wpList P ops Q rest (a.put o.dst v') w'):wpList P ops Q (o::rest) a W:=by
 subst hW;obtain⟨i,hi,hz0,hz1,hz2⟩:=info_parts hinfo;refine wpList_append_own _ hgd s x t ho base e i z size bytes ht hi hz0 hz1 hz2 hzs hsz v n us hs (hown.alloc _) ⟨w.heap.size,0,none⟩ 1 1 news hx (by simpa using hl) (fun j u hu=> ?_) h1 (by unfold maxLen;omega) ?_ (by simp;omega) (fun v' w' h2 h3 _=>h v' w' h2 (Pg h3))
 ·have:((⟨w.heap.size,0,none⟩:Addr).add j)=⟨w.heap.size,j,none⟩:=by
   unfold Addr.add
   split
   ·simp_all
   ·simp
  rw[this,World.cell?_alloc_at _ _ _ _ rfl];simpa using hu
 ·have:(n+1) * bytes≤4294967296 * 4096:=Nat.mul_le_mul (by omega) hb
  omega
def Bk (w:World) (g:Nat) (t:TypeId) (cs:Array Value):Prop:=w.heap[g]? =some (.cells cs t (0,0))
theorem Bk.lt {w:World} {g:Nat} {t:TypeId} {cs:Array Value} (h:Bk w g t cs):g < w.heap.size:=(Array.getElem?_eq_some_iff.1 h).1
theorem Bk.new (w:World) (t:TypeId) (cs:Array Value):Bk (w.alloc (.cells cs t)) w.heap.size t cs:=by
 show(w.heap.push _)[w.heap.size]? =_
 rw[Array.getElem?_push,zp rfl]
theorem Bk.cg (w:World) (t:TypeId) (cs:Array Value) {g:Nat} (h:g=w.heap.size):Bk (w.alloc (.cells cs t)) g t cs:=h▸Bk.new w t cs
theorem Bk.alloc {w:World} {g:Nat} {t:TypeId} {cs:Array Value} (h:Bk w g t cs) (o:Obj):Bk (w.alloc o) g t cs:=(Below.heap_alloc w o g h.lt).trans h
theorem Bk.cell {w:World} {g:Nat} {t:TypeId} {cs:Array Value} (h:Bk w g t cs) (i:Nat):w.cell? ⟨g,i,none⟩=cs[i]? :=by
 unfold Bk at h;simp[World.cell?,h]
theorem Bk.frozen {w:World} {g:Nat} {t:TypeId} {cs:Array Value} (h:Bk w g t cs) (i:Nat):w.frozen? ⟨g,i,none⟩=false:=by
 unfold Bk at h;simp[World.frozen?,h]
theorem Bk.below {w w':World} {B g:Nat} {t:TypeId} {cs:Array Value} (h:Bk w g t cs) (hb:Below B w w') (hg:g < B):Bk w' g t cs:=(hb.block g hg).trans h
theorem Bk.ck {w:World} {g:Nat} {t:TypeId} {cs:Array Value} (h:Bk w g t cs) (i:Nat) (u:Value):Bk (w.setCell ⟨g,i,none⟩ u) g t (cs.setIfInBounds i u):=by
 unfold Bk at h⊢;simp[World.setCell,Array.getElem?_modify,h]
theorem Bk.far {w:World} {g:Nat} {t:TypeId} {cs:Array Value} (h:Bk w g t cs) {p:Addr} (hp:g≠p.block) (u:Value):Bk (w.setCell p u) g t cs:=(Below.heap_setCell w p u g hp).trans h
theorem Bk.drewN {w:World} {g:Nat} {t:TypeId} {cs:Array Value} (h:Bk w g t cs) (n:Nat):Bk (w.drewN n) g t cs:=h
theorem Bk.grown {w w':World} {g:Nat} {t:TypeId} {cs:Array Value} {row:Option Nat} (h:Bk w g t cs) (hg:w.grownBy w' row) (hne:some g≠row):Bk w' g t cs:=(hg.block g h.lt hne).trans h
theorem Pm {P:Program} {t e:TypeId} {z:Value} {bytes:Nat} (ht:P.underlying t=some (.slice e)) (hinfo:(P.info? e).map (fun i=>(i.zero,i.size,i.bytes))=some (some z,1,bytes)) (hz1:z.cells= #[z])
  (n:Nat) (i:Int) (hi:i=(n:Int)) (hb:bytes≤4096) (hn:n≤4294967296) (w:World):
  (Instr.makeSlice t (.int .i64 i) (.int .i64 i)).run P w= .ok (.slice (some ⟨w.heap.size,0,none⟩) n n) (w.alloc (.cells (List.replicate n z).toArray e)):=by
 subst hi;have h1:bytes * n≤4096 * 4294967296:=Nat.mul_le_mul hb hn;have:=run_make_row' t e z bytes ht hinfo hz1 .i64 .i64 n (by omega) (by omega) w;rw[this]
 congr 3
 apply Array.toList_inj.1
 rw[toList_madeCells_one]
def E6 (a:Option Addr) (cap k size:Nat):Option Addr:=if cap=k then a else a.map (·.add (k * size))
theorem Lt {P:Program} {t size:Nat} (ht:P.underlying t=some (.slice (P.elem t))) (hs:∀w,(sizeOf (P.elem t)).run P w= .ok size w) (a:Option Addr) (len cap k:Nat) (i:Int) (hi:i=(k:Int)) (hk:k≤len) (w:World):
  (Instr.slice t (.slice a len cap) (some (.int .i64 i)) none none).run P w= .ok (.slice (E6 a cap k size) (len - k) (cap - k)) w:=by
 subst hi;rw[run_slice_l w t a len cap ht .i64 k (by omega) (by omega),hs];simp[sliced,E6,Result.andThen]
 try(split<;>simp_all)
theorem Sl.cut {w:World} {lo hi:Nat} {a:Option Addr} {us:List Value} (h:Sl w lo hi a us) {n cap k size:Nat} (hl:us.length=n * size) (hk:k≤n) (hc:n≤cap):Sl w lo hi (E6 a cap k size) (us.drop (k * size)):=by
 rcases h with rfl|⟨b,o,rfl,h1,h2,hcell⟩
 ·left;simp
 ·unfold E6
  split
  ·left
   apply List.drop_eq_nil_of_le
   rw[hl];exact Nat.mul_le_mul_right _ (by omega)
  ·right
   refine⟨b,o+k * size,?_,h1,h2,fun j u hu=> ?_⟩
   ·simp only[Option.map_some,Addr.add]
    split
    ·simp_all
    ·simp
   ·have:=hcell (k * size+j) u (by simpa using hu)
    rw[show o+k * size+j=o+(k * size+j) from by omega];exact this
theorem below_draws {B:Nat} {w0 w:World} (h:Below B w0 w):∀n,Below B w0 (w.drewN n)
 |0=>h
 |n+1=>(below_draws h n).drew
theorem O5 {H:Type} {d:DataW H} :∀ {l:List (DataW H)},d∈l→Rows.uptoBulk d≤Rows.uptoBulkAll l
 | [],h=>by cases h
 |x::r,h=>by
  simp only[Rows.uptoBulkAll];rcases List.mem_cons.1 h with rfl|h
  ·omega
  ·have:=O5 h;omega
theorem Abw {H:Type} (bytes:List UInt8):Rows.uptoBulk (DataW.lit (H:=H) (.string bytes))=bytes.length+1:=by
 simp[Rows.uptoBulk]
theorem Zm {H:Type} {l:List (DataW H)} (hk:Rows.uptoSmall H l=true):Rows.uptoBulkAll l≤1048576:=of_decide_eq_true hk
theorem Gs {H:Type} {l:List (DataW H)} (hk:Rows.uptoSmall H l=true) {bytes:List UInt8} (h:DataW.lit (.string bytes)∈l):bytes.length≤1048576:=by
 have h1:=O5 h;have h2:=Zm hk;rw[Abw] at h1;omega
theorem Dz {H:Type} {l:List (DataW H)} (hk:Rows.uptoSmall H l=true) {d:DataW H} (hd:d∈l):Rows.uptoBulk d≤1048576:=by
 have h1:=O5 hd;have h2:=Zm hk;omega
open Go.RowKit
structure J5 where
 name:ByteArray
 kind:Int
structure Ge where
 name:ByteArray
 bm:Int
 dead:Int
structure B4 where
 src:Int
 cd:Bool
 to:Int
 pattern:ByteArray
structure Ab where
 aj:List J5
 ag:List Ge
 binds:List B4
def Jt (p:J5):List Value:=[.string p.name,.int .i64 p.kind]
def Hc (q:Ge):List Value:=[.string q.name,.int .i64 q.bm,.int .i64 q.dead]
def D4 (b:B4):List Value:=[.int .i64 b.src,.bool b.cd,.int .i64 b.to,.string b.pattern]
theorem flat_get {α:Type} {enc:α→List Value} {size:Nat} (hs:∀x,(enc x).length=size):∀(xs:List α) (k:Nat) (hk:k < xs.length) (j:Nat),j < size→(xs.flatMap enc)[k * size+j]? =(enc xs[k])[j]?
 |x::xs,0,_,j,hj=>by
  rw[List.flatMap_cons,Nat.zero_mul,Nat.zero_add,List.getElem?_append_left (by rw[hs];exact hj)];rfl
 |x::xs,k+1,hk,j,hj=>by
  rw[List.flatMap_cons,List.getElem?_append_right (by rw[hs,Nat.succ_mul];omega),hs,show(k+1) * size+j - size=k * size+j from by rw[Nat.succ_mul];omega,
   flat_get hs xs k (by simpa using hk) j hj]
  rfl
theorem Dc {α:Type} {enc:α→List Value} {size:Nat} (hs:∀x,(enc x).length=size):∀xs:List α,(xs.flatMap enc).length=xs.length * size
 | []=>by simp
 |x::xs=>by rw[List.flatMap_cons,ze,hs,Dc hs xs,List.length_cons,Nat.succ_mul];omega
theorem Bd {α:Type} {enc:α→List Value} {size:Nat} (hs:∀x,(enc x).length=size) (h0:0 < size) {w:World} {lo hi:Nat} {a:Option Addr} {xs:List α} (h:Sl w lo hi a (xs.flatMap enc)) {k:Nat} (hk:k < xs.length):
  ∃b o,a=some ⟨b,o,none⟩∧lo≤b∧b < hi∧∀j u,(enc xs[k])[j]? =some u→w.cell? ⟨b,o+k * size+j,none⟩=some u:=by
 obtain⟨b,o,e,h1,h2,hc⟩:=h.at_ (k:=k * size) (by rw[Dc hs];exact Nat.mul_lt_mul_of_pos_right hk h0);refine⟨b,o,e,h1,h2,fun j u hu=> ?_⟩;have hj:j < size:=by rw[←hs xs[k]];exact(List.getElem?_eq_some_iff.1 hu).1
 rw[show o+k * size+j=o+(k * size+j) from by omega];exact hc _ u (by rw[flat_get hs xs k hk j hj];exact hu)
structure Az (w:World) (lo hi:Nat) (a1 a2 a3:Option Addr) (p:Ab):Prop where
 aj:Sl w lo hi a1 (p.aj.flatMap Jt)
 ag:Sl w lo hi a2 (p.ag.flatMap Hc)
 binds:Sl w lo hi a3 (p.binds.flatMap D4)
structure Ai (p:Ab):Prop where
 aj:p.aj.length≤1048576
 ag:p.ag.length≤1048576
 binds:p.binds.length≤1048576
 post:∀x∈p.aj,x.name.size≤1048576
 queue:∀x∈p.ag,x.name.size≤1048576
 bind:∀x∈p.binds,x.pattern.size≤1048576
def Bc (p:Ab) (a1 a2 a3:Option Addr) (c1 c2 c3:Nat):Value:= .agg #[.slice a1 p.aj.length c1,.slice a2 p.ag.length c2,.slice a3 p.binds.length c3]
theorem Az.below {w w':World} {lo hi B:Nat} {a1 a2 a3:Option Addr} {p:Ab} (h:Az w lo hi a1 a2 a3 p) (hb:Below B w w') (hB:hi≤B):Az w' lo hi a1 a2 a3 p:=
 ⟨h.aj.below hb hB,h.ag.below hb hB,h.binds.below hb hB⟩
theorem Az.wider {w:World} {lo hi lo' hi':Nat} {a1 a2 a3:Option Addr} {p:Ab} (h:Az w lo hi a1 a2 a3 p) (h1:lo'≤lo) (h2:hi≤hi'):Az w lo' hi' a1 a2 a3 p:=
 ⟨h.aj.wider h1 h2,h.ag.wider h1 h2,h.binds.wider h1 h2⟩
theorem Jz (x:J5):(Jt x).length=2:=rfl
theorem G3 (x:Ge):(Hc x).length=3:=rfl
theorem Ho (x:B4):(D4 x).length=4:=rfl
structure Ap where
 seq:Int
 key:ByteArray
 body:ByteArray
 again:Bool
 au:Int
structure Eh where
 tag:Int
 bg:Int
 queue:Int
 item:Ap
structure B6 where
 queue:Int
 cf:Int
structure Aj where
 queue:Int
 key:ByteArray
 body:ByteArray
 au:Int
structure Cn where
 kind:Int
 a:Int
 b:Int
 key:ByteArray
 body:ByteArray
structure Aa where
 ready:List (List Ap)
 outs:List Eh
 ae:List B6
 ah:Int
 af:Int
 aw:Int
 ar:Int
 dropped:Int
def A9 (x:Ap):List Value:=[.int .i64 x.seq,.string x.key,.string x.body,.bool x.again,.int .i64 x.au]
def Eg (x:Eh):List Value:=[.int .i64 x.tag,.int .i64 x.bg,.int .i64 x.queue,.int .i64 x.item.seq,.string x.item.key,.string x.item.body,.bool x.item.again,.int .i64 x.item.au]
def El (x:B6):List Value:=[.int .i64 x.queue,.int .i64 x.cf]
def Bm (x:Aj):List Value:=[.int .i64 x.queue,.string x.key,.string x.body,.int .i64 x.au]
def Ez (x:Cn):List Value:=[.int .i64 x.kind,.int .i64 x.a,.int .i64 x.b,.string x.key,.string x.body]
structure Bq where
 at_:Option Addr
 cap:Nat
 items:List Ap
def Nv (r:Bq):List Value:=[.slice r.at_ r.items.length r.cap]
theorem Dv (r:Bq):(Nv r).length=1:=rfl
structure Ax (w:World) (lo hi:Nat) (a1 a2 a3:Option Addr) (rows:List Bq) (s:Aa):Prop where
 same:rows.map (·.items)=s.ready
 ready:Sl w lo hi a1 (rows.flatMap Nv)
 row:∀r∈rows,Sl w lo hi r.at_ (r.items.flatMap A9)∧r.items.length≤r.cap
 outs:Sl w lo hi a2 (s.outs.flatMap Eg)
 ae:Sl w lo hi a3 (s.ae.flatMap El)
def Ag (s:Aa) (a1 a2 a3:Option Addr) (c1 c2 c3:Nat):Array Value:= #[.slice a1 s.ready.length c1,.slice a2 s.outs.length c2,.slice a3 s.ae.length c3,.int .i64 s.ah,.int .i64 s.af,.int .i64 s.aw,.int .i64 s.ar,.int .i64 s.dropped]
def Ac (s:Aa) (a1 a2 a3:Option Addr) (c1 c2 c3:Nat):Value:= .agg (Ag s a1 a2 a3 c1 c2 c3)
theorem Ax.below {w w':World} {lo hi B:Nat} {a1 a2 a3:Option Addr} {rows:List Bq} {s:Aa} (h:Ax w lo hi a1 a2 a3 rows s) (hb:Below B w w') (hB:hi≤B):Ax w' lo hi a1 a2 a3 rows s:=
 ⟨h.same,h.ready.below hb hB,fun r hr=>⟨(h.row r hr).1.below hb hB,(h.row r hr).2⟩,h.outs.below hb hB,h.ae.below hb hB⟩
theorem Ax.wider {w:World} {lo hi lo' hi':Nat} {a1 a2 a3:Option Addr} {rows:List Bq} {s:Aa} (h:Ax w lo hi a1 a2 a3 rows s) (h1:lo'≤lo) (h2:hi≤hi'):Ax w lo' hi' a1 a2 a3 rows s:=
 ⟨h.same,h.ready.wider h1 h2,fun r hr=>⟨(h.row r hr).1.wider h1 h2,(h.row r hr).2⟩,h.outs.wider h1 h2,h.ae.wider h1 h2⟩
def Ep (x:Ap):Prop:=x.key.size≤1048576∧x.body.size≤1048576∧ -9223372036854775808≤x.seq∧x.seq≤9223372036854775807∧ -9223372036854775808≤x.au∧x.au≤9223372036854775807
structure F5 (l:List Ap):Prop where
 len:l.length≤1048576
 item:∀x∈l,Ep x
structure Am (s:Aa):Prop where
 ready:s.ready.length≤1048576
 outs:s.outs.length≤1048576
 ae:s.ae.length≤1048576
 row:∀l∈s.ready,F5 l
 out:∀x∈s.outs,Ep x.item
 lying:(s.ready.map List.length).sum≤1048576
theorem Cg (x:Ap):(A9 x).length=5:=rfl
theorem Dy (x:Eh):(Eg x).length=8:=rfl
theorem Cy (x:B6):(El x).length=2:=rfl
theorem D2 (x:Aj):(Bm x).length=4:=rfl
theorem Qz (x:Cn):(Ez x).length=5:=rfl
abbrev zV (x:Aa) (a b c:Option Addr) (i j k:Nat):Array Value:= #[.slice a x.ready.length i, .slice b x.outs.length j, .slice c x.ae.length k, .int .i64 x.ah, .int .i64 x.af, .int .i64 x.aw, .int .i64 x.ar, .int .i64 x.dropped]
abbrev zP (p:Ab) (a b c:Option Addr) (i j k:Nat):Array Value:= #[.slice a p.aj.length i, .slice b p.ag.length j, .slice c p.binds.length k]
abbrev zO:Array Value:= #[.slice none 0 0, .slice none 0 0, .slice none 0 0, .int .i64 0, .int .i64 0, .int .i64 0, .int .i64 0, .int .i64 0]
abbrev zX (x:Cn):Array Value:= #[.int .i64 x.kind, .int .i64 x.a, .int .i64 x.b, .string x.key, .string x.body]
abbrev zY (x:Ap):Array Value:= #[.int .i64 x.seq, .string x.key, .string x.body, .bool x.again, .int .i64 x.au]
open Go
def odd (r:Int):Bool:= !((decide (97≤r) && decide (r≤122)) || (decide (48≤r) && decide (r≤57)))
theorem Amm (n:Nat) (h:128≤n):odd (n:Int)=true:=by
 simp[odd];omega
theorem U3 (s:ByteArray) (i:Nat) (h:(s.get! i).toNat < 128):Utf8.decode s i=((s.get! i).toNat,1):=by
 simp[Utf8.decode,h]
theorem Zq (s:ByteArray) (i:Nat) (h:128≤(s.get! i).toNat):128≤(Utf8.decode s i).1:=by
 unfold Utf8.decode;simp only[Nat.add_zero];rw[zq (by omega)]
 repeat' split
 all_goals simp_all [Utf8.runeError]
 all_goals omega
theorem get!_eq (s:ByteArray) (i:Nat) (h:i < s.size):s.get! i=s.data.toList[i]'(by simpa using h):=by
 simp only[ByteArray.get!,Array.getElem!_eq_getD,Array.getD,Array.getElem_toList];exact dif_pos h
theorem Al1 (s:ByteArray):∀(f pos:Nat),s.size≤f+pos→
  decide (0≤Lib.idxFuncFrom (fun n=>odd (n:Int)) true s f pos)=(s.data.toList.drop pos).any fun c=>odd (c.toNat:Int)
 |0,pos,h=>by
  rw[List.drop_eq_nil_of_le (by simpa using h)];simp[Lib.idxFuncFrom]
 |f+1,pos,h=>by
  unfold Lib.idxFuncFrom;by_cases hp:pos < s.size
  ·have hl:pos < s.data.toList.length:=by simpa using hp
   rw[zp hp,List.drop_eq_getElem_cons hl,List.any_cons];rcases Nat.lt_or_ge (s.get! pos).toNat 128 with hb|hb
   ·rw[U3 s pos hb]
    simp only[get!_eq s pos hp];by_cases ho:odd ((s.data.toList[pos]).toNat:Int)=true
    ·rw[zp ho,ho];simp
    ·rw[zq ho,Al1 s f (pos+1) (by omega)]
     simp only[Bool.not_eq_true] at ho;rw[ho,Bool.false_or]
   ·have h1:=Amm _ (Zq s pos hb)
    have h2:=Amm _ hb;rw[get!_eq s pos hp] at h2;rw[zp h1,h2];simp
  ·rw[zq hp,List.drop_eq_nil_of_le (by simp;omega)]
   simp
def isWord (l:List UInt8):Bool:= !l.isEmpty && !(l.any fun c=>odd (c.toNat:Int))
def E3 (l:List UInt8):Bool:=l == [42] || l == [35] || isWord l
theorem Ag5 (s:ByteArray):decide (0≤Lib.idxFunc (fun n=>odd (n:Int)) true s)=s.toList.any fun c=>odd (c.toNat:Int):=by
 rw[ByteArray.toList_eq];have:=Al1 s s.size 0 (by omega);rw[List.drop_zero] at this;exact this
def Gy:List UInt8→List (List UInt8)
 | []=>[[]]
 |x::r=>if x=46 then []::Gy r else (x::(Gy r).headD [])::(Gy r).tail
theorem Aip (l:List UInt8):Gy l≠ []:=by
 cases l with
 |nil=>simp[Gy]
 |cons x r=>unfold Gy;split<;>simp
theorem Sr (l:List UInt8):(Gy l).headD []::(Gy l).tail=Gy l:=by
 cases h:Gy l with
 |nil=>exact absurd h (Aip l)
 |cons a t=>rfl
theorem P8 (b:UInt8) (l:List UInt8):Lib.index (b::l) [46]=if b=46 then 0 else if Lib.index l [46] == -1 then -1 else Lib.index l [46]+1:=by
 rw[Lib.index];by_cases h:b=46
 ·subst h;simp[List.isPrefixOf]
 ·have:(46 == b)=false:=by simp;exact fun e=>h e.symm
  simp[List.isPrefixOf,h,this]
theorem Xx:∀l:List UInt8,Lib.splitK [46] 0 (Lib.count l [46]) l=Gy l
 | []=>by
  have:Lib.index [] [46]= -1:=rfl;rw[Lib.count_miss this];rfl
 |b::l=>by
  have ih:=Xx l;by_cases hb:b=46
  ·subst hb
   have hi:Lib.index (46::l) [46]=(0:Nat):=by rw[P8];rfl
   rw[Lib.count_hit (by simp) hi,Nat.add_comm 1,Lib.splitK,zq (by rw[hi];decide),hi];simp only[Gy,if_true,List.length_cons,List.length_nil,Nat.zero_add,Int.toNat_natCast,Nat.add_zero,List.drop_succ_cons,List.drop_zero,List.take_zero];rw[ih]
  ·rcases(show Lib.index l [46] < 0∨0≤Lib.index l [46] from by omega) with h0|h0
   ·have hm:Lib.index l [46]= -1:=by have:=Lib.index_ge l [46];omega
    have hi:Lib.index (b::l) [46]= -1:=by rw[P8,zq hb,hm];rfl
    rw[Lib.count_miss hm] at ih;rw[Lib.count_miss hi];unfold Gy;rw[zq hb,←ih];rfl
   ·obtain⟨i,hl⟩:=Int.eq_ofNat_of_zero_le h0
    have hi:Lib.index (b::l) [46]=((i+1:Nat):Int):=by
     rw[P8,zq hb,hl,zq (by simp)];rfl
    have hc:Lib.count (b::l) [46]=Lib.count l [46]:=by
     rw[Lib.count_hit (by simp) hi,Lib.count_hit (by simp) hl];rfl
    rw[hc];rw[Lib.count_hit (by simp) hl,Nat.add_comm 1] at ih⊢;rw[Lib.splitK,zq (by intro hh;rw[hl,beq_iff_eq] at hh;omega),hl] at ih;rw[Lib.splitK,zq (by intro hh;rw[hi,beq_iff_eq] at hh;omega),hi];unfold Gy;rw[zq hb,←ih];rfl
def Ny (s:ByteArray) (at_:Nat):Nat→Nat→Nat→List ByteArray
 |0,_,_=>[]
 |f+1,from_,i=>if s.size≤i then [s.extract from_ i] else if (s.get! i).toNat=at_ then s.extract from_ i::Ny s at_ f (i+1) (i+1) else Ny s at_ f from_ (i+1)
theorem Agf (s:ByteArray) (c f:Nat):Ny s c (s.size+1 - s.size) f s.size=[s.extract f s.size]++Ny s c (s.size+1 - (s.size+1)) (s.size+1) (s.size+1):=by
 rw[show s.size+1 - s.size=0+1 from by omega,Nat.sub_self];simp[Ny]
theorem Agg (s:ByteArray) (c f k:Nat) (h:k < s.size) (hc:(s[k].toNat:Int)=(c:Int)):Ny s c (s.size+1 - k) f k=[s.extract f k]++Ny s c (s.size+1 - (k+1)) (k+1) (k+1):=by
 rw[show s.size+1 - k=(s.size+1 - (k+1))+1 from by omega];have e:(s.get! k).toNat=c:=by rw[get!_eq s k h];exact Int.ofNat.inj hc
 rw[Ny,zq (by omega),zp e];rfl
theorem Ab1 (s:ByteArray) (c f k:Nat) (h:k < s.size) (hc:¬ (s[k].toNat:Int)=(c:Int)):Ny s c (s.size+1 - k) f k=Ny s c (s.size+1 - (k+1)) f (k+1):=by
 rw[show s.size+1 - k=(s.size+1 - (k+1))+1 from by omega];have e:¬ (s.get! k).toNat=c:=by rw[get!_eq s k h];exact fun h=>hc (congrArg Int.ofNat h)
 rw[Ny,zq (by omega),zq e]
theorem Aby (s:ByteArray) (k:Nat) (h:k < s.size):s.toList.drop k=s[k]::s.toList.drop (k+1):=by
 rw[ByteArray.toList_eq,List.drop_eq_getElem_cons (by simpa using h)];rfl
theorem extract_toList (s:ByteArray) (a b:Nat):(s.extract a b).toList=(s.toList.drop a).take (b - a):=by
 rw[ByteArray.toList_eq,ByteArray.toList_eq,Lib.extract_data]
theorem Aej (s:ByteArray) (f k:Nat) (hf:f≤k) (h:k < s.size):(s.extract f (k+1)).toList=(s.extract f k).toList++[s[k]]:=by
 rw[extract_toList,extract_toList,show k+1 - f=(k - f)+1 from by omega,List.take_add_one,List.getElem?_drop,show f+(k - f)=k from by omega];rw[zG (by rw[ByteArray.toList_eq];simpa using h)];simp only[ByteArray.toList_eq];rfl
theorem Vw (s:ByteArray):∀(n k f:Nat),s.size - k=n→f≤k→k≤s.size→
  (Ny s 46 (s.size+1 - k) f k).map ByteArray.toList=((s.extract f k).toList++(Gy (s.toList.drop k)).headD [])::(Gy (s.toList.drop k)).tail
 |0,k,f,hn,hf,hk=>by
  obtain rfl:k=s.size:=by omega
  have e:Gy (s.toList.drop s.size)=[[]]:=by
   rw[List.drop_eq_nil_of_le (by rw[ByteArray.toList_eq];simp)];rfl
  rw[Agf,Nat.sub_self,e];simp[Ny]
 |n+1,k,f,hn,hf,hk=>by
  have hlt:k < s.size:=by omega
  by_cases hc:(s[k].toNat:Int)=((46:Nat):Int)
  ·have hb:s[k]=46:=by
    apply UInt8.toNat_inj.1
    exact Int.ofNat.inj hc
   have e:(s.extract (k+1) (k+1)).toList=[]:=by rw[extract_toList,Nat.sub_self,List.take_zero]
   rw[Agg s 46 f k hlt hc,List.map_append,Vw s n (k+1) (k+1) (by omega) (zn _) (by omega),Aby s k hlt,hb,e];simp only[List.map_cons,List.map_nil,Gy,if_true,List.headD_cons,List.tail_cons,List.append_nil,List.nil_append,Sr,List.singleton_append]
  ·have hb:¬ s[k]=46:=fun e=>hc (by rw[e];rfl)
   rw[Ab1 s 46 f k hlt hc,Vw s n (k+1) f (by omega) (by omega) (by omega),Aby s k hlt,Aej s f k hf hlt];simp only[Gy,zq hb,List.headD_cons,List.tail_cons,List.append_assoc,List.singleton_append]
def parts (s:ByteArray):List ByteArray:=Lib.splitB ⟨#[46]⟩ 0 (Lib.countB s ⟨#[46]⟩) s
theorem I8 (s:ByteArray):(parts s).map ByteArray.toList=Gy s.toList:=by
 have:(parts s).map (·.data.toList)=Gy s.data.toList:=by
  rw[parts,Lib.splitB_data];exact Xx _
 rw[ByteArray.toList_eq,←this];exact List.map_congr_left fun x _=>ByteArray.toList_eq x
theorem toList_inj {a b:ByteArray} (h:a.toList=b.toList):a=b:=by
 rw[ByteArray.toList_eq,ByteArray.toList_eq] at h;exact WideShapes.bytes_inj h
theorem Pi:∀ {a b:List ByteArray},a.map ByteArray.toList=b.map ByteArray.toList→a=b
 | [],[],_=>rfl
 | [],b::lb,h=>by simp at h
 |a::la,[],h=>by simp at h
 |a::la,b::lb,h=>by
  simp only[List.map_cons,List.cons.injEq] at h;rw[toList_inj h.1,Pi h.2]
theorem Aj1 (s:ByteArray):Ny s 46 (s.size+1) 0 0=parts s:=by
 apply Pi
 have:=Vw s s.size 0 0 (by omega) (zn _) (by omega);rw[Nat.sub_zero,extract_toList,Nat.sub_zero,List.take_zero,List.nil_append,List.drop_zero,Sr] at this;rw[this,I8]
theorem Mv:∀(l x:List UInt8),x∈Gy l→x.length≤l.length
 | [],x,h=>by simp[Gy] at h;subst h;simp
 |b::l,x,h=>by
  unfold Gy at h
  split at h
  ·rcases List.mem_cons.1 h with rfl|h
   ·simp
   ·have:=Mv l x h;simp;omega
  ·have hh:=Sr l
   rcases List.mem_cons.1 h with rfl|h
   ·have:=Mv l ((Gy l).headD []) (by rw[←hh];exact List.mem_cons_self)
    rw[List.length_cons,List.length_cons];omega
   ·have:=Mv l x (by rw[←hh];exact List.mem_cons_of_mem _ h)
    simp;omega
theorem Aku {s:ByteArray} {k:Nat} (h:k < (parts s).length):(parts s)[k].size≤s.size:=by
 have h1:(parts s)[k].toList∈Gy s.toList:=by
  rw[←I8];exact List.mem_map.2 ⟨_,zg h,rfl⟩
 have:=Mv _ _ h1;simp only[ByteArray.toList_eq] at this;simpa using this
section
variable {P:Program} {ops:Array Oper} {Q:Exit→Act→World→Prop} {md:Region.Mode} {S:World→Prop}
def Tt (md:Region.Mode) (ops:Array Oper):Array Bool→List (Nat×Bool)→Bool
 |listed,[]=>(Region.ready md ops listed).isEmpty
 |listed,(i,true)::r=>(Region.ready md ops listed == [i]) && Tt md ops (listed.setIfInBounds i true) r
 |listed,(i,false)::r=>Region.free md ops listed i && (Region.ready md ops listed).contains i && Tt md ops (listed.setIfInBounds i true) r
def NW (P:Program) (ops:Array Oper) (Q:Exit→Act→World→Prop) (S:World→Prop):List (Nat×Bool)→Act→World→Prop
 | [],a,w=>Q .normal a w
 |(i,false)::r,a,w=>∃oi v,ops[i]? =some oi∧(∀c a w,Q (.panic c) (a.put oi.dst v) w→Q (.panic c) a w)∧YieldsIf P ops S oi v a∧NW P ops Q S r (a.put oi.dst v) w
 |(i,true)::r,a,w=>wpOp P ops Q i (fun a' w'=>S w'∧NW P ops Q S r a' w') a w
theorem NW.any (hs:Region.noSelect ops=true):∀(order:List (Nat×Bool)) (listed:Array Bool) (a:Act) (w:World),Tt md ops listed order=true→S w→NW P ops Q S order a w→wpAnyH P md ops Q S order.length listed a w
 | [],listed,a,w,hok,_,h=>wpAnyH_done (List.isEmpty_iff.1 hok) h _
 |(i,false)::r,listed,a,w,hok,hS,h=>by
  obtain⟨oi,v,hi,hQ,hy,h⟩:=h;simp only[Tt,zc] at hok;exact wpAnyH_take hi hs hok.1.1 hok.1.2 hQ hy hS (NW.any hs r _ _ w hok.2 hS h)
 |(i,true)::r,listed,a,w,hok,hS,h=>by
  simp only[Tt,zc,beq_iff_eq] at hok;refine wpAnyH_all hok.1 (by simp) fun j hj=> ?_;obtain rfl:=List.mem_singleton.1 hj;exact wpOp_mono (fun a' w' h'=>⟨h'.1,NW.any hs r _ a' w' hok.2 h'.1 h'.2⟩) h
def Ady (ops:Array Oper) (order:List (Nat×Bool)):Prop:=Region.noSelect ops=true∧Tt .any ops (Array.replicate ops.size false) order=true∧order.length=ops.size
theorem Jn (order:List (Nat×Bool)) {id:Nat} {a:Act} {w:World} (h1:(Region.noSelect ops && Tt .any ops (Array.replicate ops.size false) order && decide (order.length=ops.size))=true)
  (h:Shut (Ady ops order)→(Code.region id ops true).wp P Q a w):(Code.region id ops true).wp P Q a w:=by
 simp only[zc,zd] at h1;exact h ⟨h1.1.1,h1.1.2,h1.2⟩
theorem Ir {order:List (Nat×Bool)} {id:Nat} {a:Act} {w:World} (ho:Shut (Ady ops order)) (hm:P.follows .mixedOrders=true) (hS:S w.drew)
  (h:S w.drew→NW P ops Q S order a w.drew):(Code.region id ops true).wp P Q a w:=by
 obtain⟨h1,h2,h3⟩:=ho.out;refine wp_region_held_drew hm hS fun hS=> ?_;have:=NW.any h1 order _ a _ h2 hS (h hS);rw[h3] at this;exact this
theorem NW.take {i:Nat} {oi:Oper} {v:Value} {r:List (Nat×Bool)} {a:Act} {w:World} (hi:ops[i]? =some oi) (hQ:∀c a w,Q (.panic c) (a.put oi.dst v) w→Q (.panic c) a w) (hy:YieldsIf P ops S oi v a)
  (h:NW P ops Q S r (a.put oi.dst v) w):NW P ops Q S ((i,false)::r) a w:=⟨oi,v,hi,hQ,hy,h⟩
theorem NW.leave {i:Nat} {oi:Oper} {c:Bool} {r:List (Nat×Bool)} {a:Act} {w:World} (hi:ops[i]? =some oi) (hQ:∀c a w,Q (.panic c) (a.put oi.dst undef) w→Q (.panic c) a w) (hw:Region.wanted oi (yielded ops a.tmps)=false) (hS:S w)
  (h:NW P ops Q S r (a.put oi.dst undef) w):NW P ops Q S ((i,c)::r) a w:=by
 cases c
 ·exact⟨oi,undef,hi,hQ,.inr ⟨hw,rfl⟩,h⟩
 ·show wpOp P ops Q i _ a w
  unfold wpOp;simp only[hi,hw,Bool.false_eq_true,if_false];exact⟨hS,h⟩
theorem NW.call {i:Nat} {o:Oper} {r:List (Nat×Bool)} {a:Act} {w:World} (hi:ops[i]? =some o)
  (h:∀K':Act→World→Prop,Shut (∀a w,S w→(S w→NW P ops Q S r a w)→K' a w)→if Region.wanted o (yielded ops a.tmps)=true then Oper.wp P o a w K' Q else K' (a.put o.dst undef) w):NW P ops Q S ((i,true)::r) a w:=
 wpOp_step hi (fun K' hK=>h K' (fun a w hS hW=>hK a w ⟨hS,hW hS⟩))
/-! The same told shortly: what each step asks is shown by the same few words each time. -/
theorem zT {i:Nat} {oi:Oper} {v:Value} {r:List (Nat×Bool)} {a a':Act} {w:World} (h:NW P ops Q S r a' w) (hi:ops[i]? =some oi:=by rfl) (hQ:∀c a w,Q (.panic c) (a.put oi.dst v) w→Q (.panic c) a w:=by first|exact fun _ _ _ h=>h|exact fun _ _ _ h=>Ej (by decide) h)
  (hw:Region.wanted oi (yielded ops a.tmps)=true:=by rfl) (hv:∀w,S w→(execOp a.eval oi).run P w= .ok (.value v) w:=by(intro w hSw;(try dsimp only at hSw);go_simp;(all_goals with_reducible rfl);done)) (ha:a.put oi.dst v=a':=by(simp only[Act.put,zA,zB,zC,zD,zE,zF];with_reducible rfl)):NW P ops Q S ((i,false)::r) a w:=⟨oi,v,hi,hQ,.inl ⟨hw,hv⟩,ha▸h⟩
theorem zL {i:Nat} {oi:Oper} {c:Bool} {r:List (Nat×Bool)} {a a':Act} {w:World} (h:NW P ops Q S r a' w) (hi:ops[i]? =some oi:=by rfl) (hQ:∀c a w,Q (.panic c) (a.put oi.dst undef) w→Q (.panic c) a w:=by first|exact fun _ _ _ h=>h|exact fun _ _ _ h=>Ej (by decide) h)
  (hw:Region.wanted oi (yielded ops a.tmps)=false:=by rfl) (hS:S w:=by assumption) (ha:a.put oi.dst undef=a':=by(simp only[Act.put,zA,zB,zC,zD,zE,zF];with_reducible rfl)):NW P ops Q S ((i,c)::r) a w:=NW.leave hi hQ hw hS (ha▸h)
theorem zH (i:Nat) {oi:Oper} {v:Value} {fuel:Nat} {listed:Array Bool} {a a':Act} {w:World} (h:wpAnyH P md ops Q S fuel (listed.setIfInBounds i true) a' w) (hi:ops[i]? =some oi:=by rfl)
  (hs:Region.noSelect ops=true:=by kernel_rfl) (hf:Region.free md ops listed i=true:=by kernel_rfl) (hr:(Region.ready md ops listed).contains i=true:=by kernel_rfl) (hQ:∀c a w,Q (.panic c) (a.put oi.dst v) w→Q (.panic c) a w:=by first|exact fun _ _ _ h=>h|exact fun _ _ _ h=>Ej (by decide) h)
  (hw:Region.wanted oi (yielded ops a.tmps)=true:=by rfl) (hv:∀w,S w→(execOp a.eval oi).run P w= .ok (.value v) w:=by(intro w hSw;(try dsimp only at hSw);go_simp;(all_goals with_reducible rfl);done)) (hS:S w:=by assumption) (ha:a.put oi.dst v=a':=by(simp only[Act.put,zA,zB,zC,zD,zE,zF];with_reducible rfl)):wpAnyH P md ops Q S (fuel+1) listed a w:=wpAnyH_take hi hs hf hr hQ (.inl ⟨hw,hv⟩) hS (ha▸h)
theorem zU (i:Nat) {oi:Oper} {fuel:Nat} {listed:Array Bool} {a a':Act} {w:World} (h:wpAnyH P md ops Q S fuel (listed.setIfInBounds i true) a' w) (hi:ops[i]? =some oi:=by rfl)
  (hs:Region.noSelect ops=true:=by kernel_rfl) (hf:Region.free md ops listed i=true:=by kernel_rfl) (hr:(Region.ready md ops listed).contains i=true:=by kernel_rfl) (hQ:∀c a w,Q (.panic c) (a.put oi.dst undef) w→Q (.panic c) a w:=by first|exact fun _ _ _ h=>h|exact fun _ _ _ h=>Ej (by decide) h)
  (hw:Region.wanted oi (yielded ops a.tmps)=false:=by rfl) (hS:S w:=by assumption) (ha:a.put oi.dst undef=a':=by(simp only[Act.put,zA,zB,zC,zD,zE,zF];with_reducible rfl)):wpAnyH P md ops Q S (fuel+1) listed a w:=wpAnyH_take hi hs hf hr hQ (.inr ⟨hw,rfl⟩) hS (ha▸h)
theorem zR (i:Nat) {o:Oper} {fuel:Nat} {listed:Array Bool} {a:Act} {w:World} (h:∀K':Act→World→Prop,Shut (∀a w,S w→(S w→wpAnyH P md ops Q S fuel (listed.setIfInBounds i true) a w)→K' a w)→if Region.wanted o (yielded ops a.tmps)=true then Oper.wp P o a w K' Q else K' (a.put o.dst undef) w) (ho:ops[i]? =some o:=by rfl) (hr:Region.ready md ops listed=[i]:=by kernel_rfl):wpAnyH P md ops Q S (fuel+1) listed a w:=
 wpAnyH_ready hr (by simp) (AllReadyH.cons ho h AllReadyH.nil)
theorem zR2 (i j:Nat) {o x:Oper} {fuel:Nat} {listed:Array Bool} {a:Act} {w:World} (h:∀K':Act→World→Prop,Shut (∀a w,S w→(S w→wpAnyH P md ops Q S fuel (listed.setIfInBounds i true) a w)→K' a w)→if Region.wanted o (yielded ops a.tmps)=true then Oper.wp P o a w K' Q else K' (a.put o.dst undef) w) (h':∀K':Act→World→Prop,Shut (∀a w,S w→(S w→wpAnyH P md ops Q S fuel (listed.setIfInBounds j true) a w)→K' a w)→if Region.wanted x (yielded ops a.tmps)=true then Oper.wp P x a w K' Q else K' (a.put x.dst undef) w) (ho:ops[i]? =some o:=by rfl) (hx:ops[j]? =some x:=by rfl) (hr:Region.ready md ops listed=[i,j]:=by kernel_rfl):wpAnyH P md ops Q S (fuel+1) listed a w:=
 wpAnyH_ready hr (by simp) (AllReadyH.cons ho h (AllReadyH.cons hx h' AllReadyH.nil))
theorem zS {w:World} (hk:Go.RowKit.Hid (∀W,Go.RowKit.Below w.heap.size w W→S W)) {order:List (Nat×Bool)} {id:Nat} {a:Act} (ho:Shut (Ady ops order)) (hm:P.follows .mixedOrders=true)
  (h:S w.drew→NW P ops Q S order a w.drew):(Code.region id ops true).wp P Q a w:=Ir ho hm (hk _ (Go.RowKit.Below.refl _ _).drew) h
theorem NW.done {a:Act} {w:World} (h:Q .normal a w):NW P ops Q S [] a w:=h
end
open Go.ChangeShapes Go.WideShapes Go.ChangeAt Go.RowKit
theorem Tz {H:Type} {enc:TypeId×Value→H} {P:Program} (hl:laidOutB P=true) {W W':World} (hb:Below W.heap.size W W'):
  ∀ {ts:List TypeId} {vs:List Value} {ds:List (DataW H)} {ps:List MemPlace},(∀t∈ts,P.readableRec t=true∧t < P.types.size)→(∀x∈ps,x.block < W.heap.size)→
   DataW.TrodAll enc P W 0 (fun _=>true) true ts vs ds ps→DataW.TrodAll enc P W' 0 (fun b=>decide (b < W.heap.size)) true ts vs ds ps
 | [],vs,ds,ps,_,_,h=>by
  obtain⟨rfl,rfl,rfl⟩:=trodAll_nil h;exact trodAll_mk0
 |t::ts,vs,ds,ps,hr,hlt,h=>by
  obtain⟨v,vs',d,ds',p,p',rfl,rfl,rfl,h1,h2⟩:=trodAll_cons h;exact trodAll_cons_mk (Below.trod hl (hr t (by simp)).1 (hr t (by simp)).2 h1 hb (fun x hx=>hlt x (by simp[hx]))) (Tz hl hb (fun t' ht=>hr t' (by simp[ht])) (fun x hx=>hlt x (by simp[hx])) h2)
theorem Fp {H:Type} {enc:TypeId×Value→H} {P:Program} {f:Func} {s:ChangeSpec} {W W':World} {args:Array Value} {ds gs:List (DataW H)} {before:List MemPlace} {tb:TypeId}
  (hl:laidOutB P=true) (hts':(f.params.toList.all fun t=>P.readableRec t && decide (t < P.types.size))=true) (hv:s.vars=[]) (hres:f.resultTypes= #[tb]) (htb:P.underlying tb=some .bool)
  (hW:DataW.Whole enc P f.params.toList s.vars false W args.toList ds gs before) (hfn:s.fn H (ds++gs)= { results:=[.lit (.bool true)],args:=ds }) (hb:Below W.heap.size W W'):
  s.post enc P f false true false false W args (.bool true) W':=by
 have hts:∀t∈f.params.toList,P.readableRec t=true∧t < P.types.size:=fun t ht=>by
  have:=List.all_eq_true.1 hts' t ht;simpa using this
 have hlt:∀x∈before,x.block < W.heap.size:=fun p hp=>hW.lt p hp;have hW':=hW;obtain⟨p,q,hA,hV,rfl,hfz,hnd⟩:=hW;rw[hv] at hV;obtain⟨rfl,rfl⟩:=trodVars_none hV;rw[List.append_nil] at hlt hfn;refine⟨ds,[],_,[],p,[],hW',?_,?_,?_,hb.frame _,fun h=>by cases h⟩
 ·rw[List.append_nil,hfn,hres]
  exact trodAll_cons_mk (shut_bool htb true) trodAll_mk0
 ·rw[List.append_nil,hfn]
  exact Tz hl hb hts hlt hA
 ·rw[List.append_nil,hfn,hv]
  rfl
theorem Dg {H:Type} {enc:TypeId×Value→H} {C:Checked} {os:Os} {f:FuncId} {fn:Func} {s:OpenSpec} {laid:List (String×DataW Unit)} (modest:Bool) (args:Array Value)
  (hsh:((World.laidAll C.prog os laid).forCall (fun _ _=>0) ⟨#[],args,[]⟩).Shaped C.prog)
  (hok:Input.okWideB C.prog ((World.laidAll C.prog os laid).forCall (fun _ _=>0) ⟨#[],args,[]⟩) f ⟨#[],args,[]⟩=true)
  (hrow:s.preRow enc C.prog fn [] false laid ((World.laidAll C.prog os laid).forCall (fun _ _=>0) ⟨#[],args,[]⟩).memory args):
  ∃(w:World) (tape:Tape) (i:Input),w.os=os∧(w.forCall tape i).Shaped C.prog∧i.vars=[]∧Input.okWide C.prog (w.forCall tape i) .any w.heap.size f i∧
   s.preRow enc C.prog fn [] false laid (w.forCall tape i).memory i.args∧({ modest:=modest } :Assume).holds C.prog (lone (Frame.enter C.prog f i.args .normal) [] (w.forCall tape i)):=
 ⟨World.laidAll C.prog os laid,fun _ _=>0,⟨#[],args,[]⟩,World.laidAll_os _ _ _,hsh,(Input.okWide_of_okWideB (base:=0) hok).1,(Input.okWide_of_okWideB hok).2,hrow,by
  simp only[Assume.holds];exact⟨by simp,by simp,fun _=>Modest.zero,by simp,by simp⟩⟩
open Go.RowKit Go.ChangeShapes Go.WideShapes Go.Deep
theorem Ame {α:Type} {p:Nat→α→Prop} :∀n:Nat,(∀i,i < n→∃x,p i x)→∃xs:List α,xs.length=n∧∀i x,xs[i]? =some x→p i x
 |0,_=>⟨[],rfl,fun i x h=>by simp at h⟩
 |n+1,h=>by
  obtain⟨xs,hl,hx⟩:=Ame n fun i hi=>h i (by omega);obtain⟨x,hp⟩:=h n (by omega);refine⟨xs++[x],by simp[hl],fun i y hy=> ?_⟩;rcases Nat.lt_or_ge i n with h1|h1
  ·rw[List.getElem?_append_left (by omega)] at hy
   exact hx i y hy
  ·have:i < (xs++[x]).length:=(List.getElem?_eq_some_iff.1 hy).1
   have e:i=n:=by simp[hl] at this;omega
   subst e;rw[List.getElem?_append_right (by omega)] at hy;simp[hl] at hy;exact hy▸hp
theorem Aqu {H:Type} (d:DataW H):1≤Rows.uptoBulk d:=by
 cases d with
 |lit l=>cases l<;>simp[Rows.uptoBulk]
 |_=>simp[Rows.uptoBulk]
theorem Wy {H:Type} :∀l:List (DataW H),l.length≤Rows.uptoBulkAll l
 | []=>by simp
 |d::r=>by
  have:=Wy r;have:=Aqu d;simp only[Rows.uptoBulkAll,List.length_cons];omega
theorem Gg {H:Type} {d:DataW H} {l:List (DataW H)} (h:d∈l):Rows.uptoBulk d < Rows.uptoBulk (.agg l):=by
 have:=O5 h;simp only[Rows.uptoBulk];omega
theorem Ga {H:Type} {encH:TypeId×Value→H} {P:Program} {w:World} {base:Nat} {spare:Nat→Bool} {held:Bool} {t fuel:Nat} {fs:Array Field} {cs:List Value} {x:DataW H×List MemPlace}
  (ht:P.underlying t=some (.struct fs)) (h:DataW.trod encH P w base spare held fuel t cs=some x):
  ∃(xs:List (DataW H×List MemPlace)) (n:Nat),x.1= .agg (xs.map (·.1))∧cs.length=P.cellsOf t∧xs.length=fs.size∧∀(j:Nat) (f:Field),fs[j]? =some f→∃y,y.1∈xs.map (·.1)∧DataW.trod encH P w base spare held n f.type ((cs.drop f.offset).take (P.cellsOf f.type))=some y:=by
 obtain⟨xs,n,_,rfl,hl,hlen,hf⟩:=DataW.trod_struct ht h;refine⟨xs,n,rfl,hl,hlen,fun j f hj=> ?_⟩;have hjl:j < fs.size:=(Array.getElem?_eq_some_iff.1 hj).1;have h1:=hf j f hj;have hx:j < xs.length:=by omega
 exact⟨xs[j],List.mem_map.2 ⟨_,zg hx,rfl⟩,by rw[h1];exact zG hx⟩
theorem addr_add (b o j:Nat):(⟨b,o,none⟩:Addr).add j=⟨b,o+j,none⟩:=by
 unfold Addr.add
 split
 ·simp_all
 ·simp
theorem open_list {H α:Type} {encH:TypeId×Value→H} {P:Program} {w:World} {base:Nat} {spare:Nat→Bool} {held:Bool} {t e size fuel:Nat} {cs:List Value} {x:DataW H×List MemPlace}
  {enc:α→List Value} (rel:DataW H→α→Prop) (ht:P.underlying t=some (.slice e)) (hC:P.cellsOf e=size) (h0:0 < size) (hs:∀x,(enc x).length=size)
  (hel:∀n cs y,DataW.trod encH P w base spare held n e cs=some y→∃x,cs=enc x∧rel y.1 x)
  (h:DataW.trod encH P w base spare held fuel t cs=some x):
  ∃(a:Option Addr) (c:Nat) (xs:List α),cs=[.slice a xs.length c]∧xs.length≤c∧c≤maxLen∧Sl w 0 w.heap.size a (xs.flatMap enc)∧xs.length < Rows.uptoBulk x.1∧(∀y∈xs,∃d,rel d y∧Rows.uptoBulk d≤Rows.uptoBulk x.1)∧
   ∃ds:List (DataW H),ds.length=xs.length∧Rows.uptoBulkAll ds < Rows.uptoBulk x.1∧∀(i:Nat) (d:DataW H) (y:α),ds[i]? =some d→xs[i]? =some y→rel d y:=by
 subst hC;rcases open_slice ht h with⟨rfl,rfl⟩|⟨a,len,cap,m,n,D,Pl,rfl,hb,hl,hm,hmm,hx,hi⟩
 ·exact⟨none,0,[],rfl,zn _,by decide,Sl.nil _ _ _ _,by simp[Rows.uptoBulk],fun y hy=>by simp at hy,[],rfl,by simp[Rows.uptoBulk,Rows.uptoBulkAll],fun i d y h=>by simp at h⟩
 ·have hle:len≤m:=by rw[hmm];split<;>omega
  obtain⟨xs,hxl,hxs⟩:=Ame (p:=fun i (y:α)=>w.cells? base (a.add (i * P.cellsOf e)) (P.cellsOf e)=some (enc y)∧rel (D i) y) len fun i hi'=>by
   obtain⟨cs',h1,h2⟩:=hi i (by omega);obtain⟨y,rfl,hr⟩:=hel n cs' _ h2;exact⟨y,h1,hr⟩
  subst hxl;have hall:Rows.uptoBulkAll ((List.range xs.length).map D) < Rows.uptoBulk x.1:=by
   rw[hx];simp only[Rows.uptoBulk];omega
  refine⟨some a,cap,xs,rfl,hl,hm,?_,?_,?_,(List.range xs.length).map D,by simp,hall,fun i d y hd hy=> ?_⟩
  ·cases xs with
   |nil=>exact Sl.nil _ _ _ _
   |cons y0 ys=>
    have hcell:∀i y,(y0::ys)[i]? =some y→∀j,j < P.cellsOf e→w.cell? ((a.add (i * P.cellsOf e)).add j)=(enc y)[j]? :=fun i y hy j hj=>by
     obtain⟨_,_,hat⟩:=World.cells?_some (hxs i y hy).1;exact hat j hj
    have hc0:=hcell 0 y0 rfl 0 h0;rw[Nat.zero_mul] at hc0;have hg:∃v,(enc y0)[0]? =some v:=⟨_,zG (by rw[hs];exact h0)⟩;obtain⟨v0,hv0⟩:=hg;rw[hv0] at hc0;have e00:(a.add 0).add 0=a:=by simp[Addr.add]
    rw[e00] at hc0;have hspot:=World.cell?_spot hc0;obtain⟨b,o,spot⟩:=a;simp only at hspot;subst hspot;have hblt:b < w.heap.size:=by
     rcases Nat.lt_or_ge b w.heap.size with h1|h1
     ·exact h1
     ·simp[World.cell?,Array.getElem?_eq_none h1] at hc0
    refine .inr ⟨b,o,rfl,Nat.zero_le _,hblt,fun j u hu=> ?_⟩;have hjl:j < ((y0::ys).flatMap enc).length:=(List.getElem?_eq_some_iff.1 hu).1;rw[Dc hs] at hjl;have hq:j / P.cellsOf e < (y0::ys).length:=(Nat.div_lt_iff_lt_mul h0).2 hjl;have hr:j % P.cellsOf e < P.cellsOf e:=Nat.mod_lt _ h0;have hj:j=j / P.cellsOf e * P.cellsOf e+j % P.cellsOf e:=by
     have:=Nat.div_add_mod j (P.cellsOf e);rw[Nat.mul_comm] at this;exact this.symm
    have hg:=flat_get hs (y0::ys) _ hq _ hr;rw[←hj,hu] at hg;have hc:=hcell _ _ (zG hq) _ hr;rw[←hg,Go.Deep.add_add,←hj] at hc;rw[addr_add] at hc;exact hc
  ·have:=Wy ((List.range xs.length).map D)
   simp only[List.length_map,List.length_range] at this;omega
  ·intro y hy
   obtain⟨i,hi'⟩:=List.getElem?_of_mem hy;have hil:i < xs.length:=(List.getElem?_eq_some_iff.1 hi').1;refine⟨D i,(hxs i y hi').2,?_⟩;have hmem:D i∈(List.range xs.length).map D:=List.mem_map.2 ⟨i,List.mem_range.2 hil,rfl⟩;have:=O5 hmem;omega
  ·have hil:i < xs.length:=(List.getElem?_eq_some_iff.1 hy).1
   rw[List.getElem?_map,List.getElem?_range hil] at hd;simp only[Option.map_some,Option.some.injEq] at hd;subst hd;exact(hxs i y hy).2
theorem Af7 {H α:Type} {f:α→Nat} :∀(ds:List (DataW H)) (xs:List α),ds.length=xs.length→(∀(i:Nat) (d:DataW H) (y:α),ds[i]? =some d→xs[i]? =some y→f y≤Rows.uptoBulk d)→(xs.map f).sum≤Rows.uptoBulkAll ds
 | [],[],_,_=>by simp
 |d::ds,x::xs,hl,h=>by
  have h0:=h 0 d x rfl rfl;have ih:=Af7 (f:=f) ds xs (by simpa using hl) fun i d y hd hy=>h (i+1) d y (by simpa using hd) (by simpa using hy);simp only[List.map_cons,List.sum_cons,Rows.uptoBulkAll];omega
open Go.RowKit Go.ChangeShapes Go.WideShapes Go.Deep
def i64 (n:Int):Prop:= -9223372036854775808≤n∧n≤9223372036854775807
theorem Aw6 {n:Int} (h:(Lit.int .i64 n).wf=true):i64 n:=by
 have:=bounds_i64 h;unfold i64;omega
theorem Ayp {α:Type} {l:List α} (h:l.length=2):∃a b,l=[a,b]:=by
 match l,h with
 | [a,b],_=>exact⟨a,b,rfl⟩
theorem Axu {α:Type} {l:List α} (h:l.length=3):∃a b c,l=[a,b,c]:=by
 match l,h with
 | [a,b,c],_=>exact⟨a,b,c,rfl⟩
theorem Ay5 {α:Type} {l:List α} (h:l.length=4):∃a b c d,l=[a,b,c,d]:=by
 match l,h with
 | [a,b,c,d],_=>exact⟨a,b,c,d,rfl⟩
theorem Ayq {α:Type} {l:List α} (h:l.length=5):∃a b c d e,l=[a,b,c,d,e]:=by
 match l,h with
 | [a,b,c,d,e],_=>exact⟨a,b,c,d,e,rfl⟩
theorem Oo:Tryz.prog.cellsOf 3=1:=by kernel_rfl
theorem N1:Tryz.prog.cellsOf 9=1:=by kernel_rfl
theorem Avy:Tryz.prog.cellsOf 4=1:=by kernel_rfl
theorem Co {H:Type} {encH:TypeId×Value→H} {P:Program} {w:World} {base:Nat} {spare:Nat→Bool} {held:Bool} {m:Nat} {fs:Array Field} {cs:List Value} {ds:List (DataW H)}
  (hf:∀(j:Nat) (f:Field),fs[j]? =some f→∃y,y.1∈ds∧DataW.trod encH P w base spare held m f.type ((cs.drop f.offset).take (P.cellsOf f.type))=some y) (j:Nat) {t o k:Nat} (hj:fs[j]?.map (fun f=>(f.type,f.offset))=some (t,o)) (hk:P.cellsOf t=k):
  ∃y,y.1∈ds∧DataW.trod encH P w base spare held m t ((cs.drop o).take k)=some y:=by
 cases hfj:fs[j]? with
 |none=>rw[hfj] at hj;cases hj
 |some f=>
  rw[hfj] at hj;simp only[Option.map_some,Option.some.injEq,Prod.mk.injEq] at hj;obtain⟨rfl,rfl⟩:=hj;rw[←hk];exact hf j f hfj
section
variable {H:Type} {encH:TypeId×Value→H} {w:World} {base:Nat} {spare:Nat→Bool} {held:Bool} {n:Nat} {cs:List Value} {y:DataW H×List MemPlace}
theorem Hj {c:Value} (h:DataW.trod encH Tryz.prog w base spare held n 3 [c]=some y):∃i,c= .int .i64 i∧i64 i:=by
 obtain⟨i,hc,_,hw⟩:=DataW.trod_int Tryz.underlying3 h;simp only[List.cons.injEq,and_true] at hc;exact⟨i,hc,Aw6 hw⟩
theorem Ali {c:Value} (h:DataW.trod encH Tryz.prog w base spare held n 4 [c]=some y):∃b,c= .bool b:=by
 obtain⟨b,hc,_⟩:=DataW.trod_bool Tryz.underlying4 h;simp only[List.cons.injEq,and_true] at hc;exact⟨b,hc⟩
theorem Kg {c:Value} (h:DataW.trod encH Tryz.prog w base spare held n 9 [c]=some y):∃s:ByteArray,c= .string s∧s.size < Rows.uptoBulk y.1:=by
 obtain⟨s,hc,hy,hw⟩:=DataW.trod_string Tryz.underlying9 h;simp only[List.cons.injEq,and_true] at hc;refine⟨s,hc,?_⟩;rw[hy,Abw];simp
def Atn (d:DataW H) (x:J5):Prop:=x.name.size < Rows.uptoBulk d∧i64 x.kind
def Ana (d:DataW H) (x:Ge):Prop:=x.name.size < Rows.uptoBulk d∧i64 x.bm∧i64 x.dead
def Atm (d:DataW H) (x:B4):Prop:=x.pattern.size < Rows.uptoBulk d∧i64 x.src∧i64 x.to
theorem App (h:DataW.trod encH Tryz.prog w base spare held n 123 cs=some y):∃x,cs=Jt x∧Atn y.1 x:=by
 obtain⟨xs,m,hx,hl,hlen,hf⟩:=Ga Tryz.underlying123 h;obtain⟨c0,c1,rfl⟩:=Ayp (hl.trans (show Tryz.prog.cellsOf 123=2 by kernel_rfl));obtain⟨y0,m0,h0⟩:=Co hf 0 rfl N1;obtain⟨y1,m1,h1⟩:=Co hf 1 rfl Oo;obtain⟨s,rfl,hs⟩:=Kg h0;obtain⟨i,rfl,hi⟩:=Hj h1;rw[hx];exact⟨⟨s,i⟩,rfl,Nat.lt_trans hs (Gg m0),hi⟩
theorem Amz (h:DataW.trod encH Tryz.prog w base spare held n 104 cs=some y):∃x,cs=Hc x∧Ana y.1 x:=by
 obtain⟨xs,m,hx,hl,hlen,hf⟩:=Ga Tryz.underlying104 h;obtain⟨c0,c1,c2,rfl⟩:=Axu (hl.trans (show Tryz.prog.cellsOf 104=3 by kernel_rfl));obtain⟨y0,m0,h0⟩:=Co hf 0 rfl N1;obtain⟨y1,m1,h1⟩:=Co hf 1 rfl Oo;obtain⟨y2,m2,h2⟩:=Co hf 2 rfl Oo;obtain⟨s,rfl,hs⟩:=Kg h0;obtain⟨i,rfl,hi⟩:=Hj h1;obtain⟨j,rfl,hj⟩:=Hj h2;rw[hx];exact⟨⟨s,i,j⟩,rfl,Nat.lt_trans hs (Gg m0),hi,hj⟩
theorem Alg (h:DataW.trod encH Tryz.prog w base spare held n 127 cs=some y):∃x,cs=D4 x∧Atm y.1 x:=by
 obtain⟨xs,m,hx,hl,hlen,hf⟩:=Ga Tryz.underlying127 h;obtain⟨c0,c1,c2,c3,rfl⟩:=Ay5 (hl.trans (show Tryz.prog.cellsOf 127=4 by kernel_rfl));obtain⟨y0,m0,h0⟩:=Co hf 0 rfl Oo;obtain⟨y1,m1,h1⟩:=Co hf 1 rfl Avy;obtain⟨y2,m2,h2⟩:=Co hf 2 rfl Oo;obtain⟨y3,m3,h3⟩:=Co hf 3 rfl N1;obtain⟨i,rfl,hi⟩:=Hj h0;obtain⟨b,rfl⟩:=Ali h1;obtain⟨j,rfl,hj⟩:=Hj h2;obtain⟨s,rfl,hs⟩:=Kg h3;rw[hx];exact⟨⟨i,b,j,s⟩,rfl,Nat.lt_trans hs (Gg m3),hi,hj⟩
structure E1 (p:Ab):Prop where
 post:∀x∈p.aj,i64 x.kind
 queue:∀x∈p.ag,i64 x.bm∧i64 x.dead
 bind:∀x∈p.binds,i64 x.src∧i64 x.to
theorem Akx (h:DataW.trod encH Tryz.prog w base spare held n 26 cs=some y) (hB:Rows.uptoBulk y.1≤1048576):
  ∃(p:Ab) (a1 a2 a3:Option Addr) (c1 c2 c3:Nat),cs=[.slice a1 p.aj.length c1,.slice a2 p.ag.length c2,.slice a3 p.binds.length c3]∧Az w 0 w.heap.size a1 a2 a3 p∧Ai p∧E1 p∧
   p.aj.length≤c1∧p.ag.length≤c2∧p.binds.length≤c3:=by
 obtain⟨xs,m,hx,hl,hlen,hf⟩:=Ga Tryz.underlying26 h;obtain⟨v0,v1,v2,rfl⟩:=Axu (hl.trans (show Tryz.prog.cellsOf 26=3 by kernel_rfl));obtain⟨y0,m0,h0⟩:=Co hf 0 rfl (show Tryz.prog.cellsOf 22=1 by kernel_rfl);obtain⟨y1,m1,h1⟩:=Co hf 1 rfl (show Tryz.prog.cellsOf 23=1 by kernel_rfl);obtain⟨y2,m2,h2⟩:=Co hf 2 rfl (show Tryz.prog.cellsOf 24=1 by kernel_rfl);rw[hx] at hB;have b0:=Gg m0;have b1:=Gg m1;have b2:=Gg m2;obtain⟨a1,c1,ps,e1,k1,_,s1,n1,r1,_⟩:=open_list (enc:=Jt) Atn Tryz.underlying22 (show Tryz.prog.cellsOf 123=2 by kernel_rfl) (by decide) Jz (fun _ _ _=>App) h0;obtain⟨a2,c2,qs,e2,k2,_,s2,n2,r2,_⟩:=open_list (enc:=Hc) Ana Tryz.underlying23 (show Tryz.prog.cellsOf 104=3 by kernel_rfl) (by decide) G3 (fun _ _ _=>Amz) h1;obtain⟨a3,c3,bs,e3,k3,_,s3,n3,r3,_⟩:=open_list (enc:=D4) Atm Tryz.underlying24 (show Tryz.prog.cellsOf 127=4 by kernel_rfl) (by decide) Ho (fun _ _ _=>Alg) h2;have e1':v0= .slice a1 ps.length c1:=by simpa using e1
 have e2':v1= .slice a2 qs.length c2:=by simpa using e2
 have e3':v2= .slice a3 bs.length c3:=by simpa using e3
 subst e1' e2' e3';refine⟨⟨ps,qs,bs⟩,a1,a2,a3,c1,c2,c3,rfl,⟨s1,s2,s3⟩,⟨?_,?_,?_,?_,?_,?_⟩,⟨?_,?_,?_⟩,k1,k2,k3⟩
 ·exact zr (Nat.le_of_lt (Nat.lt_trans n1 b0)) hB
 ·exact zr (Nat.le_of_lt (Nat.lt_trans n2 b1)) hB
 ·exact zr (Nat.le_of_lt (Nat.lt_trans n3 b2)) hB
 ·intro x hx
  obtain⟨d,hd,hb⟩:=r1 x hx;have:=hd.1;omega
 ·intro x hx
  obtain⟨d,hd,hb⟩:=r2 x hx;have:=hd.1;omega
 ·intro x hx
  obtain⟨d,hd,hb⟩:=r3 x hx;have:=hd.1;omega
 ·intro x hx
  obtain⟨d,hd,hb⟩:=r1 x hx;exact hd.2
 ·intro x hx
  obtain⟨d,hd,hb⟩:=r2 x hx;exact hd.2
 ·intro x hx
  obtain⟨d,hd,hb⟩:=r3 x hx;exact hd.2
theorem Gb {r:Reach} {b0:Nat} {v:Value} {d:DataW H} {p:List MemPlace} (hv:Value.okWide Tryz.prog w r b0 26 v) (h:DataW.Trod encH Tryz.prog w base spare held 26 v d p) (hB:Rows.uptoBulk d≤1048576):
  ∃(p:Ab) (a1 a2 a3:Option Addr) (c1 c2 c3:Nat),v=Bc p a1 a2 a3 c1 c2 c3∧Az w 0 w.heap.size a1 a2 a3 p∧Ai p∧E1 p∧p.aj.length≤c1∧p.ag.length≤c2∧p.binds.length≤c3:=by
 obtain⟨cs,rfl,hsz⟩:=okWide_struct Tryz.underlying26 hv;obtain⟨fuel,hf⟩:=h;obtain⟨p,a1,a2,a3,c1,c2,c3,hc,k⟩:=Akx hf hB;refine⟨p,a1,a2,a3,c1,c2,c3,?_,k⟩;have:cs.toList=_:=hc;obtain⟨l⟩:=cs;simp only at this;subst this;rfl
end
open Go.RowKit Go.ChangeShapes Go.WideShapes Go.Deep
theorem len8 {α:Type} {l:List α} (h:l.length=8):∃a b c d e f g i,l=[a,b,c,d,e,f,g,i]:=by
 match l,h with
 | [a,b,c,d,e,f,g,i],_=>exact⟨a,b,c,d,e,f,g,i,rfl⟩
section
variable {H:Type} {encH:TypeId×Value→H} {w:World} {base:Nat} {spare:Nat→Bool} {held:Bool} {n:Nat} {cs:List Value} {y:DataW H×List MemPlace}
def Abm (d:DataW H) (x:Ap):Prop:=x.key.size < Rows.uptoBulk d∧x.body.size < Rows.uptoBulk d∧i64 x.seq∧i64 x.au
def Aqa (_:DataW H) (x:B6):Prop:=i64 x.queue∧i64 x.cf
def Aye (d:DataW H) (x:Eh):Prop:=Abm d x.item∧i64 x.tag∧i64 x.bg∧i64 x.queue
def Atu (d:DataW H) (x:Cn):Prop:=x.key.size < Rows.uptoBulk d∧x.body.size < Rows.uptoBulk d∧i64 x.kind∧i64 x.a∧i64 x.b
theorem Abm.small {d:DataW H} {x:Ap} (h:Abm d x) (hB:Rows.uptoBulk d≤1048576):Ep x:=by
 obtain⟨h1,h2,h3,h4⟩:=h;unfold i64 at h3 h4;unfold Ep;omega
theorem Aq0:Tryz.prog.cellsOf 52=5:=by kernel_rfl
theorem Ayk:Tryz.prog.cellsOf 77=8:=by kernel_rfl
theorem Aq1:Tryz.prog.cellsOf 79=2:=by kernel_rfl
theorem Aw0:Tryz.prog.cellsOf 31=8:=by kernel_rfl
theorem Awx:Tryz.prog.cellsOf 50=1:=by kernel_rfl
theorem Awz:Tryz.prog.cellsOf 27=1:=by kernel_rfl
theorem Ayl:Tryz.prog.cellsOf 28=1:=by kernel_rfl
theorem Auf:Tryz.prog.cellsOf 29=1:=by kernel_rfl
theorem Aep (h:DataW.trod encH Tryz.prog w base spare held n 52 cs=some y):∃x,cs=A9 x∧Abm y.1 x:=by
 obtain⟨xs,m,hx,hl,hlen,hf⟩:=Ga Tryz.underlying52 h;obtain⟨c0,c1,c2,c3,c4,rfl⟩:=Ayq (hl.trans Aq0);obtain⟨y0,m0,h0⟩:=Co hf 0 rfl Oo;obtain⟨y1,m1,h1⟩:=Co hf 1 rfl N1;obtain⟨y2,m2,h2⟩:=Co hf 2 rfl N1;obtain⟨y3,m3,h3⟩:=Co hf 3 rfl Avy;obtain⟨y4,m4,h4⟩:=Co hf 4 rfl Oo;obtain⟨i,rfl,hi⟩:=Hj h0;obtain⟨k,rfl,hk⟩:=Kg h1;obtain⟨b,rfl,hb⟩:=Kg h2;obtain⟨g,rfl⟩:=Ali h3;obtain⟨j,rfl,hj⟩:=Hj h4;rw[hx];exact⟨⟨i,k,b,g,j⟩,rfl,Nat.lt_trans hk (Gg m1),Nat.lt_trans hb (Gg m2),hi,hj⟩
theorem Atd (h:DataW.trod encH Tryz.prog w base spare held n 79 cs=some y):∃x,cs=El x∧Aqa y.1 x:=by
 obtain⟨xs,m,hx,hl,hlen,hf⟩:=Ga Tryz.underlying79 h;obtain⟨c0,c1,rfl⟩:=Ayp (hl.trans Aq1);obtain⟨y0,m0,h0⟩:=Co hf 0 rfl Oo;obtain⟨y1,m1,h1⟩:=Co hf 1 rfl Oo;obtain⟨i,rfl,hi⟩:=Hj h0;obtain⟨j,rfl,hj⟩:=Hj h1;exact⟨⟨i,j⟩,rfl,hi,hj⟩
theorem Axg (h:DataW.trod encH Tryz.prog w base spare held n 77 cs=some y):∃x,cs=Eg x∧Aye y.1 x:=by
 obtain⟨xs,m,hx,hl,hlen,hf⟩:=Ga Tryz.underlying77 h;obtain⟨c0,c1,c2,c3,c4,c5,c6,c7,rfl⟩:=len8 (hl.trans Ayk);obtain⟨y0,m0,h0⟩:=Co hf 0 rfl Oo;obtain⟨y1,m1,h1⟩:=Co hf 1 rfl Oo;obtain⟨y2,m2,h2⟩:=Co hf 2 rfl Oo;obtain⟨y3,m3,h3⟩:=Co hf 3 rfl Aq0;obtain⟨i,rfl,hi⟩:=Hj h0;obtain⟨j,rfl,hj⟩:=Hj h1;obtain⟨k,rfl,hk⟩:=Hj h2;obtain⟨x,hc,hr⟩:=Aep h3;have hc':[c3,c4,c5,c6,c7]=A9 x:=hc;unfold A9 at hc';simp only[List.cons.injEq,and_true] at hc';obtain⟨rfl,rfl,rfl,rfl,rfl⟩:=hc';rw[hx];have hb:=Gg m3;exact⟨⟨i,j,k,x⟩,rfl,⟨Nat.lt_trans hr.1 hb,Nat.lt_trans hr.2.1 hb,hr.2.2⟩,hi,hj,hk⟩
def At7 (w:World) (d:DataW H) (r:Bq):Prop:=r.items.length≤r.cap∧Sl w 0 w.heap.size r.at_ (r.items.flatMap A9)∧r.items.length < Rows.uptoBulk d∧∀x∈r.items,∃d':DataW H,Abm d' x∧Rows.uptoBulk d'≤Rows.uptoBulk d
theorem row_in (h:DataW.trod encH Tryz.prog w base spare held n 50 cs=some y):∃r,cs=Nv r∧At7 w y.1 r:=by
 obtain⟨a,c,xs,e,k,_,s,m,r,_⟩:=open_list (enc:=A9) Abm Tryz.underlying50 Aq0 (by decide) Cg (fun _ _ _=>Aep) h;exact⟨⟨a,c,xs⟩,e,k,s,m,r⟩
theorem At7.small {d:DataW H} {r:Bq} (h:At7 w d r) (hB:Rows.uptoBulk d≤1048576):F5 r.items:=by
 obtain⟨_,_,h3,h4⟩:=h;refine⟨by omega,fun x hx=> ?_⟩;obtain⟨d',hd,hb⟩:=h4 x hx;exact hd.small (by omega)
structure Ba (s:Aa):Prop where
 ah:i64 s.ah
 af:i64 s.af
 aw:i64 s.aw
 ar:i64 s.ar
 dropped:i64 s.dropped
 bg:∀x∈s.ae,i64 x.queue∧i64 x.cf
 out:∀x∈s.outs,i64 x.tag∧i64 x.bg∧i64 x.queue
theorem Aih (h:DataW.trod encH Tryz.prog w base spare held n 31 cs=some y) (hB:Rows.uptoBulk y.1≤1048576):
  ∃(s:Aa) (a1 a2 a3:Option Addr) (c1 c2 c3:Nat) (rows:List Bq),cs=(Ag s a1 a2 a3 c1 c2 c3).toList∧Ax w 0 w.heap.size a1 a2 a3 rows s∧Am s∧Ba s∧
   s.ready.length≤c1∧s.outs.length≤c2∧s.ae.length≤c3:=by
 obtain⟨xs,m,hx,hl,hlen,hf⟩:=Ga Tryz.underlying31 h;obtain⟨v0,v1,v2,v3,v4,v5,v6,v7,rfl⟩:=len8 (hl.trans Aw0);obtain⟨y0,m0,h0⟩:=Co hf 0 rfl Awz;obtain⟨y1,m1,h1⟩:=Co hf 1 rfl Ayl;obtain⟨y2,m2,h2⟩:=Co hf 2 rfl Auf;obtain⟨y3,m3,h3⟩:=Co hf 3 rfl Oo;obtain⟨y4,m4,h4⟩:=Co hf 4 rfl Oo;obtain⟨y5,m5,h5⟩:=Co hf 5 rfl Oo;obtain⟨y6,m6,h6⟩:=Co hf 6 rfl Oo;obtain⟨y7,m7,h7⟩:=Co hf 7 rfl Oo;rw[hx] at hB;have b0:=Gg m0;have b1:=Gg m1;have b2:=Gg m2;obtain⟨a1,c1,rs,e1,k1,_,s1,n1,r1,ds,dl,db,dr⟩:=open_list (enc:=Nv) (At7 w) Tryz.underlying27 Awx (by decide) Dv (fun _ _ _=>row_in) h0;obtain⟨a2,c2,os,e2,k2,_,s2,n2,r2,_⟩:=open_list (enc:=Eg) Aye Tryz.underlying28 Ayk (by decide) Dy (fun _ _ _=>Axg) h1;obtain⟨a3,c3,ts,e3,k3,_,s3,n3,r3,_⟩:=open_list (enc:=El) Aqa Tryz.underlying29 Aq1 (by decide) Cy (fun _ _ _=>Atd) h2;obtain⟨i3,rfl,hi3⟩:=Hj h3;obtain⟨i4,rfl,hi4⟩:=Hj h4;obtain⟨i5,rfl,hi5⟩:=Hj h5;obtain⟨i6,rfl,hi6⟩:=Hj h6;obtain⟨i7,rfl,hi7⟩:=Hj h7;have e1':v0= .slice a1 rs.length c1:=by simpa using e1
 have e2':v1= .slice a2 os.length c2:=by simpa using e2
 have e3':v2= .slice a3 ts.length c3:=by simpa using e3
 subst e1' e2' e3';have hrl:(rs.map (·.items)).length=rs.length:=List.length_map _;refine⟨⟨rs.map (·.items),os,ts,i3,i4,i5,i6,i7⟩,a1,a2,a3,c1,c2,c3,rs,by simp[Ag],⟨rfl,s1,fun r hr=> ?_,s2,s3⟩,⟨?_,?_,?_,?_,?_,?_⟩,⟨hi3,hi4,hi5,hi6,hi7,fun x hx=> ?_,fun x hx=> ?_⟩,by rw[hrl];exact k1,k2,k3⟩
 ·obtain⟨d,hd,_⟩:=r1 r hr
  exact⟨hd.2.1,hd.1⟩
 ·show(rs.map (·.items)).length≤_
  rw[hrl];exact zr (Nat.le_of_lt (Nat.lt_trans n1 b0)) hB
 ·exact zr (Nat.le_of_lt (Nat.lt_trans n2 b1)) hB
 ·exact zr (Nat.le_of_lt (Nat.lt_trans n3 b2)) hB
 ·intro l hl
  obtain⟨r,hr,rfl⟩:=List.mem_map.1 hl;obtain⟨d,hd,hb⟩:=r1 r hr;exact hd.small (by omega)
 ·intro x hx
  obtain⟨d,hd,hb⟩:=r2 x hx;exact hd.1.small (by omega)
 ·have:=Af7 (f:=fun r:Bq=>r.items.length) ds rs dl fun i d r hd hr=>Nat.le_of_lt (dr i d r hd hr).2.2.1
  show((rs.map (·.items)).map List.length).sum≤_
  rw[List.map_map];exact zr this (by omega)
 ·obtain⟨d,hd,hb⟩:=r3 x hx
  exact hd
 ·obtain⟨d,hd,hb⟩:=r2 x hx
  exact hd.2
theorem Hm {r:Reach} {b0:Nat} {v:Value} {d:DataW H} {p:List MemPlace} (hv:Value.okWide Tryz.prog w r b0 31 v) (h:DataW.Trod encH Tryz.prog w base spare held 31 v d p) (hB:Rows.uptoBulk d≤1048576):
  ∃(s:Aa) (a1 a2 a3:Option Addr) (c1 c2 c3:Nat) (rows:List Bq),v=Ac s a1 a2 a3 c1 c2 c3∧Ax w 0 w.heap.size a1 a2 a3 rows s∧Am s∧Ba s∧s.ready.length≤c1∧s.outs.length≤c2∧s.ae.length≤c3:=by
 obtain⟨cs,rfl,hsz⟩:=okWide_struct Tryz.underlying31 hv;obtain⟨fuel,hf⟩:=h;obtain⟨s,a1,a2,a3,c1,c2,c3,rows,hc,k⟩:=Aih hf hB;exact⟨s,a1,a2,a3,c1,c2,c3,rows,congrArg Value.agg (Array.toList_inj.1 hc),k⟩
end
open Go
section
variable {P:Program} {ops:Array Oper} {Q:Exit→Act→World→Prop}
def N4 (o:Oper):List Nat:=(o.after.toList.filter (Region.binds .any)).map (·.on)
theorem Arb {o:Oper} {e:Edge} (he:e∈o.after) (hb:Region.binds .any e=true):e.on∈N4 o:=
 List.mem_map.2 ⟨e,List.mem_filter.2 ⟨Array.mem_toList_iff.2 he,hb⟩,rfl⟩
theorem Als {o:Oper} {n:Nat} (h:n∈N4 o):∃e∈o.after,Region.binds .any e=true∧e.on=n:=by
 obtain⟨e,he,hn⟩:=List.mem_map.1 h;obtain⟨he,hb⟩:=List.mem_filter.1 he;exact⟨e,Array.mem_toList_iff.1 he,hb,hn⟩
def Aga (ops:Array Oper):Nat→List (Nat×Bool)→List Oper→Bool
 |_,[],[]=>true
 |i,(k,c)::r,x::xs=>Nat.beq k i && (N4 x).all (fun e=>Nat.blt e i) && (match c with
   |true=>xs.all (fun y=>(N4 y).any (fun e=>Nat.ble i e))
   |false=>xs.all (fun y=>(N4 y).any (fun e=>Nat.beq e i) || x.apart ops y)) && Aga ops (i+1) r xs
 |_,_,_=>false
theorem filter_one (p:Nat→Bool) (i:Nat):∀n,i < n→(∀j,j < n→(p j=true↔j=i))→(List.range n).filter p=[i]
 |0,h,_=>absurd h (by omega)
 |n+1,h,hp=>by
  rw[List.range_succ,List.filter_append];by_cases hi:i=n
  ·have h1:(List.range n).filter p=[]:=List.filter_eq_nil_iff.2 fun j hj hpj=>by
    have hj':=List.mem_range.1 hj;have:=(hp j (by omega)).1 hpj;omega
   have h2:p n=true:=(hp n (by omega)).2 hi.symm;rw[h1,hi];simp[h2]
  ·have h2:p n=false:=by
    rw[←Bool.not_eq_true];intro h3;exact hi ((hp n (by omega)).1 h3).symm
   rw[filter_one p i n (by omega) fun j hj=>hp j (by omega)];simp[h2]
theorem Aug:∀(order:List (Nat×Bool)) (i:Nat) (listed:Array Bool),i+order.length=ops.size→(∀j d,listed.getD j d=if j < ops.size then decide (j < i) else d)→listed.size=ops.size→Aga ops i order (ops.toList.drop i)=true→Tt .any ops listed order=true:=by
 intro order
 induction order with
 |nil=>
  intro i listed hn hl _ _;simp only[List.length_nil,Nat.add_zero] at hn
  show(Region.ready .any ops listed).isEmpty=true
  rw[List.isEmpty_iff];refine List.filter_eq_nil_iff.2 fun j hj hp=> ?_;have hj':=List.mem_range.1 hj;rw[hl,zp hj'] at hp;simp[hn,hj'] at hp
 |cons kc r ih=>
  obtain⟨k,c⟩:=kc;intro i listed hn hl hz hc;simp only[List.length_cons] at hn;have hi:i < ops.size:=by omega
  have hd:ops.toList.drop i=ops[i]::ops.toList.drop (i+1):=by
   rw[List.drop_eq_getElem_cons (by simpa using hi)];simp
  rw[hd] at hc;simp only[Aga,zc] at hc;obtain⟨⟨⟨hk,he⟩,hr⟩,hc⟩:=hc;obtain rfl:k=i:=Nat.eq_of_beq_eq_true hk;have hl':∀j d,(listed.setIfInBounds k true).getD j d=if j < ops.size then decide (j < k+1) else d:=by
   intro j d;have h:=hl j d;rw[Array.getD_eq_getD_getElem?] at h⊢;rw[Array.getElem?_setIfInBounds];by_cases hjk:k=j
   ·subst hjk
    rw[zp rfl,zp (by omega),zp hi];simp
   ·rw[zq hjk,h]
    by_cases hj:j < ops.size
    ·rw[zp hj,zp hj]
     congr 1
     simp only[eq_iff_iff];omega
    ·rw[zq hj,zq hj]
  have hnext:=ih (k+1) (listed.setIfInBounds k true) (by omega) hl' (by simpa using hz) hc;have hrk:((List.range ops.size).filter fun i=> !listed.getD i true && ((ops[i]?).map (·.after.all fun e=> !Region.binds .any e || listed.getD e.on false)).getD false)=Region.ready .any ops listed:=rfl;have hin:∀(j:Nat) (hj:j < ops.size),(ops[j].after.all fun e=> !Region.binds .any e || listed.getD e.on false)=true↔∀n∈N4 ops[j],n < k:=by
   intro j hj;rw[Array.all_eq_true_iff_forall_mem]
   constructor
   ·intro h n hn'
    obtain⟨e,he1,he2,rfl⟩:=Als hn';have:=h e he1;rw[he2,hl] at this;by_cases h3:e.on < ops.size
    ·rw[zp h3] at this
     simpa using this
    ·rw[zq h3] at this
     simp at this
   ·intro h e he1
    by_cases hb:Region.binds .any e=true
    ·have h4:=h _ (Arb he1 hb)
     rw[hl,zp (by omega)];simp[h4]
    ·simp[hb]
  have hek:∀n∈N4 ops[k],n < k:=fun n hn'=>by
   have:=List.all_eq_true.1 he n hn';exact Nat.le_of_ble_eq_true this
  have hp:∀(j:Nat) (hj:j < ops.size),(!listed.getD j true && ((ops[j]?).map (·.after.all fun e=> !Region.binds .any e || listed.getD e.on false)).getD false)=true↔(k≤j∧∀n∈N4 ops[j],n < k):=by
   intro j hj;rw[Array.getElem?_eq_getElem hj,Option.map_some,Option.getD_some,zc,hin j hj,hl,zp hj];simp
  have hmem:∀(j:Nat) (hj:j < ops.size),k < j→ops[j]∈ops.toList.drop (k+1):=by
   intro j hj hkj;rw[List.mem_drop_iff_getElem];exact⟨j - (k+1),by simp;omega,by simp[show k+1+(j - (k+1))=j by omega]⟩
  cases c with
  |true=>
   show((Region.ready .any ops listed == [k]) && Tt .any ops (listed.setIfInBounds k true) r)=true
   rw[hnext,Bool.and_true,beq_iff_eq];refine filter_one _ k _ hi fun j hj=> ?_;rw[hp j hj]
   constructor
   ·intro⟨h1,h2⟩
    by_cases hjk:j=k
    ·exact hjk
    ·have h3:=List.all_eq_true.1 hr _ (hmem j hj (by omega))
     obtain⟨n,hn1,hn2⟩:=List.any_eq_true.1 h3;have h4:=h2 n hn1;have h5:=Nat.le_of_ble_eq_true hn2;omega
   ·rintro rfl
    exact⟨zn _,hek⟩
  |false=>
   show(Region.free .any ops listed k && (Region.ready .any ops listed).contains k && Tt .any ops (listed.setIfInBounds k true) r)=true
   rw[hnext,Bool.and_true,zc]
   constructor
   ·unfold Region.free
    rw[Array.getElem?_eq_getElem hi];simp only[List.all_eq_true,List.mem_range,Bool.or_eq_true,beq_iff_eq];intro j hj;by_cases hjk:j=k
    ·exact .inl (.inl hjk)
    ·rw[hl,zp hj,Array.getElem?_eq_getElem hj]
     by_cases hlt:j < k
     ·exact .inl (.inr (by simpa using hlt))
     ·right
      have h3:=List.all_eq_true.1 hr _ (hmem j hj (by omega));simp only[Bool.or_eq_true] at h3⊢;rcases h3 with h3|h3
      ·left
       obtain⟨n,hn1,hn2⟩:=List.any_eq_true.1 h3;obtain⟨e,he1,he2,rfl⟩:=Als hn1;have h6:=Nat.eq_of_beq_eq_true hn2;exact Array.any_eq_true'.2 ⟨e,he1,by rw[he2,h6];simp⟩
      ·exact .inr h3
   ·rw[List.contains_iff_mem]
    exact List.mem_filter.2 ⟨List.mem_range.2 hi,(hp k hi).2 ⟨zn _,hek⟩⟩
theorem Au8 (order:List (Nat×Bool)) {id:Nat} {a:Act} {w:World} (h1:(Region.noSelect ops && Aga ops 0 order ops.toList && Nat.beq order.length ops.size)=true)
  (h:Shut (Ady ops order)→(Code.region id ops true).wp P Q a w):(Code.region id ops true).wp P Q a w:=by
 simp only[zc] at h1;have hl:=Nat.eq_of_beq_eq_true h1.2;refine h ⟨h1.1.1,Aug order 0 _ (by omega) (fun j d=> ?_) (by simp) h1.1.2,hl⟩;rw[Array.getD_eq_getD_getElem?,Array.getElem?_replicate];by_cases hj:j < ops.size
 ·simp[hj]
 ·simp[hj]
def Aw7:Nat→List (Nat×Bool)→Prop
 |_,[]=>True
 |i,(k,_)::r=>k=i∧Aw7 (i+1) r
theorem Agb:∀(order:List (Nat×Bool)) (i:Nat) (L:List Oper),Aga ops i order L=true→Aw7 i order
 | [],_,_,_=>trivial
 |(k,c)::r,i,[],h=>by simp[Aga] at h
 |(k,c)::r,i,x::xs,h=>by
  simp only[Aga,zc] at h;exact⟨Nat.eq_of_beq_eq_true h.1.1.1,Agb r (i+1) xs h.2⟩
def yD (D:List (Option Tmp)) (tmps:Array Value) (j:Nat):Option Bool:=
 match ((D[j]?).bind id).bind (tmps[·]?) with
 |some (.bool b)=>some b
 |_=>none
theorem Ati (tmps:Array Value):yD (ops.toList.map (·.dst)) tmps=yielded ops tmps:=by
 funext j
 unfold yD yielded;rw[List.getElem?_map,Array.getElem?_toList]
 cases ops[j]? <;>rfl
variable {S:World→Prop} {D:List (Option Tmp)}
def NWF (P:Program) (D:List (Option Tmp)) (Q:Exit→Act→World→Prop) (S:World→Prop):List Oper→List (Nat×Bool)→Act→World→Prop
 | [],[],a,w=>Q .normal a w
 |x::xs,(_,false)::r,a,w=>∃v,(∀c a w,Q (.panic c) (a.put x.dst v) w→Q (.panic c) a w)∧(Region.wanted x (yD D a.tmps)=true∧(∀w,S w→(execOp a.eval x).run P w= .ok (.value v) w)∨Region.wanted x (yD D a.tmps)=false∧v=undef)∧NWF P D Q S xs r (a.put x.dst v) w
 |x::xs,(_,true)::r,a,w=>Region.wanted x (yD D a.tmps)=true∧x.wp P a w (fun a' w'=>S w'∧NWF P D Q S xs r a' w') Q∨Region.wanted x (yD D a.tmps)=false∧S w∧NWF P D Q S xs r (a.put x.dst undef) w
 |_,_,_,_=>False
theorem Awq (hD:ops.toList.map (·.dst)=D):∀(L:List Oper) (order:List (Nat×Bool)) (i:Nat) (a:Act) (w:World),ops.toList.drop i=L→Aw7 i order→NWF P D Q S L order a w→NW P ops Q S order a w:=by
 intro L
 induction L with
 |nil=>
  intro order i a w _ _ h
  cases order with
  |nil=>exact h
  |cons o r=>exact False.elim (by unfold NWF at h;exact h)
 |cons x xs ih=>
  intro order i a w hd hi h;have hx:ops[i]? =some x:=by
   have:=congrArg List.head? hd;rw[List.head?_drop,Array.getElem?_toList] at this;exact this
  have hn:ops.toList.drop (i+1)=xs:=by
   have:=congrArg List.tail hd;rw[List.tail_drop] at this;exact this
  cases order with
  |nil=>exact False.elim (by unfold NWF at h;exact h)
  |cons kc r=>
   obtain⟨k,c⟩:=kc;obtain⟨rfl,hi⟩:=hi
   cases c with
   |false=>
    obtain⟨v,hQ,hy,h⟩:=h;rw[←hD,Ati] at hy;exact⟨x,v,hx,hQ,hy,ih r (k+1) _ _ hn hi h⟩
   |true=>
    rcases h with⟨hw,h⟩|⟨hw,hS,h⟩
    ·rw[←hD,Ati] at hw
     show wpOp P ops Q k _ a w
     unfold wpOp;simp only[hx,hw,if_true];exact .inl (Oper.wp_mono (fun a' w' h'=>⟨h'.1,ih r (k+1) a' w' hn hi h'.2⟩) h)
    ·rw[←hD,Ati] at hw
     show wpOp P ops Q k _ a w
     unfold wpOp;simp only[hx,hw,Bool.false_eq_true,if_false];exact⟨hS,ih r (k+1) _ _ hn hi h⟩
theorem Yr (order:List (Nat×Bool)) {id:Nat} {a:Act} {w:World} (h1:(Region.noSelect ops && Aga ops 0 order ops.toList && Nat.beq order.length ops.size)=true)
  (hm:P.follows .mixedOrders=true) (hS:S w.drew) {L:List Oper} (hL:ops.toList=L) (hD:L.map (·.dst)=D)
  (h:S w.drew→NWF P D Q S L order a w.drew):(Code.region id ops true).wp P Q a w:=by
 refine Au8 order h1 fun ho=>Ir (S:=S) ho hm hS fun hs=> ?_;simp only[zc] at h1;exact Awq (by rw[hL,hD]) L order 0 a _ (by rw[List.drop_zero,hL]) (Agb order 0 _ h1.1.2) (h hs)
theorem NWF.take {k:Nat} {x:Oper} {xs:List Oper} {r:List (Nat×Bool)} {v:Value} {a a':Act} {w:World} (hQ:∀c a w,Q (.panic c) (a.put x.dst v) w→Q (.panic c) a w) (hw:Region.wanted x (yD D a.tmps)=true)
  (hv:∀w,S w→(execOp a.eval x).run P w= .ok (.value v) w) (ha:a.put x.dst v=a') (h:NWF P D Q S xs r a' w):NWF P D Q S (x::xs) ((k,false)::r) a w:=⟨v,hQ,.inl ⟨hw,hv⟩,ha▸h⟩
theorem NWF.call {k:Nat} {x:Oper} {xs:List Oper} {r:List (Nat×Bool)} {a:Act} {w:World} (hw:Region.wanted x (yD D a.tmps)=true)
  (h:∀K':Act→World→Prop,Shut (∀a w,S w→(S w→NWF P D Q S xs r a w)→K' a w)→x.wp P a w K' Q):NWF P D Q S (x::xs) ((k,true)::r) a w:=
 .inl ⟨hw,h _ (fun a w hS hW=>⟨hS,hW hS⟩)⟩
theorem NWF.leave {k:Nat} {c:Bool} {x:Oper} {xs:List Oper} {r:List (Nat×Bool)} {a a':Act} {w:World} (hQ:∀c a w,Q (.panic c) (a.put x.dst undef) w→Q (.panic c) a w) (hw:Region.wanted x (yD D a.tmps)=false) (hS:S w)
  (ha:a.put x.dst undef=a') (h:NWF P D Q S xs r a' w):NWF P D Q S (x::xs) ((k,c)::r) a w:=by
 cases c
 ·exact⟨undef,hQ,.inr ⟨hw,rfl⟩,ha▸h⟩
 ·exact .inr ⟨hw,hS,ha▸h⟩
theorem NWF.done {a:Act} {w:World} (h:Q .normal a w):NWF P D Q S [] [] a w:=h
end
structure Eb (x:Cn):Prop where
 kind: -9223372036854775808≤x.kind∧x.kind≤9223372036854775807
 a: -9223372036854775808≤x.a∧x.a≤9223372036854775807
 b: -9223372036854775808≤x.b∧x.b≤9223372036854775807
 key:x.key.size≤1048576
 body:x.body.size≤1048576
open Go.RowKit Go.ChangeShapes Go.WideShapes Go.Deep
section
variable {H:Type} {encH:TypeId×Value→H} {w:World} {base:Nat} {spare:Nat→Bool} {held:Bool} {n:Nat} {cs:List Value} {y:DataW H×List MemPlace}
theorem Ayj:Tryz.prog.cellsOf 57=5:=by kernel_rfl
theorem Aqg (h:DataW.trod encH Tryz.prog w base spare held n 57 cs=some y):∃x,cs=Ez x∧Atu y.1 x:=by
 obtain⟨xs,m,hx,hl,hlen,hf⟩:=Ga Tryz.underlying57 h;obtain⟨c0,c1,c2,c3,c4,rfl⟩:=Ayq (hl.trans Ayj);obtain⟨y0,m0,h0⟩:=Co hf 0 rfl Oo;obtain⟨y1,m1,h1⟩:=Co hf 1 rfl Oo;obtain⟨y2,m2,h2⟩:=Co hf 2 rfl Oo;obtain⟨y3,m3,h3⟩:=Co hf 3 rfl N1;obtain⟨y4,m4,h4⟩:=Co hf 4 rfl N1;obtain⟨i,rfl,hi⟩:=Hj h0;obtain⟨j,rfl,hj⟩:=Hj h1;obtain⟨q,rfl,hq⟩:=Hj h2;obtain⟨k,rfl,hk⟩:=Kg h3;obtain⟨b,rfl,hb⟩:=Kg h4;rw[hx];exact⟨⟨i,j,q,k,b⟩,rfl,Nat.lt_trans hk (Gg m3),Nat.lt_trans hb (Gg m4),hi,hj,hq⟩
theorem Atu.small {d:DataW H} {x:Cn} (h:Atu d x) (hB:Rows.uptoBulk d≤1048576):Eb x:=by
 obtain⟨h1,h2,h3,h4,h5⟩:=h;unfold i64 at h3 h4 h5;exact⟨by omega,by omega,by omega,by omega,by omega⟩
theorem Acx {r:Go.Reach} {b0:Nat} {v:Value} {d:DataW H} {p:List MemPlace} (hv:Value.okWide Tryz.prog w r b0 57 v) (h:DataW.Trod encH Tryz.prog w base spare held 57 v d p) (hB:Rows.uptoBulk d≤1048576):
  ∃x:Cn,v= .agg (Ez x).toArray∧Eb x:=by
 obtain⟨cs,rfl,hsz⟩:=okWide_struct Tryz.underlying57 hv;obtain⟨fuel,hf⟩:=h;obtain⟨x,hc,hr⟩:=Aqg hf;refine⟨x,congrArg Value.agg (Array.toList_inj.1 ?_),hr.small hB⟩;exact hc
theorem Axw {r:Go.Reach} {b0:Nat} {v:Value} {d:DataW H} {p:List MemPlace} (hv:Value.okWide Tryz.prog w r b0 62 v) (h:DataW.Trod encH Tryz.prog w base spare held 62 v d p) (hB:Rows.uptoBulk d≤1048576):
  ∃(a:Option Addr) (c:Nat) (l:List Cn),v= .slice a l.length c∧l.length≤c∧Sl w 0 w.heap.size a (l.flatMap Ez)∧(∀x∈l,Eb x)∧l.length≤1048576:=by
 obtain⟨a0,len,cap,rfl⟩:=okWide_slice Tryz.underlying62 hv;obtain⟨fuel,hf⟩:=h;obtain⟨a,c,xs,e,k,_,s,m,r,_⟩:=open_list (enc:=Ez) Atu Tryz.underlying62 Ayj (by decide) Qz (fun _ _ _=>Aqg) hf;have e':Value.slice a0 len cap= .slice a xs.length c:=by simpa [Value.cells] using e
 have m1:xs.length < Rows.uptoBulk d:=m;refine⟨a,c,xs,e',k,s,fun x hx=> ?_,by omega⟩;obtain⟨d',hd,hb⟩:=r x hx;have m2:Rows.uptoBulk d'≤Rows.uptoBulk d:=hb;exact hd.small (by omega)
end
end Go.Proofs.YtaanpcjkflhomaaGreatDoor
