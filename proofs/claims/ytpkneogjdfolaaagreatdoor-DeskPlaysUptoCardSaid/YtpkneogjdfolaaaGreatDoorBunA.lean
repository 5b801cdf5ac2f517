/- Lemmas. -/
import Derived.WalkKit
import Derived.WalkSpells
import Derived.WalkLawsBesides
import Derived.Lib.Hide
import Derived.Deep.QuietTactic
import Derived.BigQuiet
import Derived.Deep.OwnRows
import Derived.Test.YtpkneogjdfolaaaGreatDoorRows
import Derived.Shelf.GgClosure.StringsIndexFunc
import Derived.Lib.Split
import Derived.Lib.CountLaws
import Derived.Lib.SplitLaws
import Derived.Laws.Strings
import Derived.WideShapes
import Derived.Deep.RegionHeld3
import Derived.ProofKit
import Derived.OpenShut
import Derived.Deep.DeepHandedRow
import Derived.Lib.LaidTab
import Derived.LaidMore
import Derived.Lay
import Derived.SevenTiedAt
import Derived.Stop.Joined
import Derived.Deep.Slices
import Derived.Deep.Fields
import Derived.ChangeSame
import Derived.Lib.SmallJoins
set_option maxHeartbeats 20000000
set_option maxRecDepth 100000
set_option linter.unusedSimpArgs false
set_option linter.unusedVariables false
namespace Go.Proofs.YtpkneogjdfolaaaGreatDoor
open Go.RowKit
abbrev zW:=_root_.Go.World
abbrev zZ:=Option _root_.Go.Addr
abbrev zN:=_root_.ByteArray
theorem zA{α:Type _}(l:List α)(i:Nat)(a:α):l.toArray.setIfInBounds i a=(l.set i a).toArray:=List.setIfInBounds_toArray l i a
theorem zB{α:Type _}{x:α}{xs:List α}{a:α} :(x::xs).set 0 a=a::xs:=rfl
theorem zC{α:Type _}{x:α}{xs:List α}{i:Nat}{a:α} :(x::xs).set (i+1) a=x::xs.set i a:=rfl
theorem zD{α:Type _}{xs:List α}{i:Nat}(h:i < xs.toArray.size):xs.toArray[i]=xs[i]:=rfl
theorem zE{α:Type _}(a:α)(xs:List α)(h:0 < (a::xs).length):(a::xs)[0]=a:=rfl
theorem zF{α:Type _}(a:α)(xs:List α)(i:Nat)(h:i+1 < (a::xs).length):(a::xs)[i+1]=xs[i]'(Nat.lt_of_succ_lt_succ h):=rfl
theorem zh{p:Prop}(h:p):Hid p:=Lib.hid h
theorem zn(n:Nat):n≤n:=Nat.le_refl n
theorem zb(B:Nat)(w:zW):Below B w w:=Below.refl B w
theorem zI{α:Type _}{xs:List α}{i:Nat} :xs.toArray[i]? =xs[i]? :=List.getElem?_toArray
theorem zJ{α:Type _}{a:α}{l:List α} :(a::l)[0]? =some a:=rfl
theorem zK{α:Type _}{a:α}{l:List α}{i:Nat} :(a::l)[i+1]? =l[i]? :=rfl
theorem zG{α:Type _}{l:List α}{i:Nat}(h:i < l.length):l[i]? =some l[i]:=List.getElem?_eq_getElem h
theorem zi{a b:Prop}(h:a)(k:b):a∧b:=⟨h, k⟩
theorem zp{c:Prop}{h:Decidable c}(hc:c){α:Sort _}{t e:α} :(ite c t e)=t:=if_pos hc
theorem zq{c:Prop}{h:Decidable c}(hc:¬ c){α:Sort _}{t e:α} :(ite c t e)=e:=if_neg hc
theorem zr{n m k:Nat}(h:n≤m)(i:m≤k):n≤k:=Nat.le_trans h i
theorem zc(a b:Bool):((a && b)=true)=(a=true∧b=true):=Bool.and_eq_true a b
theorem zd{p:Prop}[Decidable p]:(decide p=true)=p:=decide_eq_true_eq
theorem ze{α:Type _}{x y:List α} :(x++y).length=x.length+y.length:=List.length_append
theorem zg{α:Type _}{l:List α}{n:Nat}(h:n < l.length):l[n]'h∈l:=List.getElem_mem h
theorem zj{α:Type _}{l:List α}{i:Nat}(h:i < l.length):l.take (i+1)=l.take i++[l[i]]:=List.take_succ_eq_append_getElem h
abbrev gd(t:Array Value)(i:Nat):Value:=t.getD i undef
abbrev zt(g:Nat):Value:= .pointer (some ⟨g, 0, none⟩)
abbrev zM(w:zW)(g i:Nat)(v:Value):Prop:=w.cell? ⟨g, i, none⟩=some v
def fr(t:Array Value):Nat→Nat→List Value
  |_, 0=>[]
  |i, n+1=>gd t i::fr t (i+1) n
def fj(l:List (List Value)):Array Value:=l.flatten.toArray
def Sl(w:zW)(lo hi:Nat)(a:zZ)(us:List Value):Prop:=
 us=[]∨∃b o,a=some ⟨b,o,none⟩∧lo≤b∧b < hi∧∀j u,us[j]? =some u→w.cell? ⟨b,o+j,none⟩=some u
theorem Sl.nil(w:zW)(lo hi:Nat)(a:zZ):Sl w lo hi a []:= .inl rfl
theorem Sl.at_{w:zW}{lo hi:Nat}{a:zZ}{us:List Value}(h:Sl w lo hi a us){k:Nat}(hk:k < us.length):
  ∃b o,a=some ⟨b,o,none⟩∧lo≤b∧b < hi∧∀j u,us[j]? =some u→w.cell? ⟨b,o+j,none⟩=some u:=by
 rcases h with rfl|h
 ·simp at hk
 ·exact h
theorem Sl.keep{w w':zW}{lo hi:Nat}{a:zZ}{us:List Value}(h:Sl w lo hi a us)(hk:∀p:Addr,p.block < hi→w'.cell? p=w.cell? p):Sl w' lo hi a us:=by
 rcases h with h|⟨b,o,e,h1,h2,hc⟩
 ·exact .inl h
 ·exact .inr ⟨b,o,e,h1,h2,fun j u hu=>(hk _ h2).trans (hc j u hu)⟩
theorem Sl.below{w w':zW}{lo hi B:Nat}{a:zZ}{us:List Value}(h:Sl w lo hi a us)(hb:Below B w w')(hB:hi≤B):Sl w' lo hi a us:=
 h.keep fun p hp=>hb.cell (by omega)
theorem Sl.wider{w:zW}{lo hi lo' hi':Nat}{a:zZ}{us:List Value}(h:Sl w lo hi a us)(h1:lo'≤lo)(h2:hi≤hi'):Sl w lo' hi' a us:=by
 rcases h with h|⟨b,o,e,h3,h4,hc⟩
 ·exact .inl h
 ·exact .inr ⟨b,o,e,by omega,by omega,hc⟩
theorem Sl.new(w:zW)(us:List Value)(t:TypeId)(hi:Nat)(h:w.heap.size < hi):Sl (w.alloc (.cells us.toArray t)) w.heap.size hi (some ⟨w.heap.size,0,none⟩) us:=
 .inr ⟨_,0,rfl,zn _,h,fun j u hu=>by rw[World.cell?_alloc_at _ _ _ _ rfl];simpa using hu⟩
theorem Sl.drop{w:zW}{lo hi:Nat}{b o:Nat}{us:List Value}(h:Sl w lo hi (some ⟨b,o,none⟩) us)(k:Nat):Sl w lo hi (some ⟨b,o+k,none⟩) (us.drop k):=by
 rcases h with rfl|⟨b',o',e,h1,h2,hc⟩
 ·left;simp
 ·right
  simp only[Option.some.injEq,Addr.mk.injEq] at e;obtain⟨rfl,rfl,_⟩:=e;exact⟨b,o+k,rfl,h1,h2,fun j u hu=>by
   have:=hc (k+j) u (by simpa using hu);rw[show o+k+j=o+(k+j) from by omega];exact this⟩
theorem Sl.take{w:zW}{lo hi:Nat}{a:zZ}{us:List Value}(h:Sl w lo hi a us)(k:Nat):Sl w lo hi a (us.take k):=by
 rcases h with rfl|⟨b',o',e,h1,h2,hc⟩
 ·left;simp
 ·exact .inr ⟨b',o',e,h1,h2,fun j u hu=>hc j u (by
   rw[List.getElem?_take] at hu
   split at hu
   ·exact hu
   ·cases hu)⟩
theorem Sl.cu{w:zW}{base:Nat}{e:TypeId}{size n c:Nat}{a:zZ}{us:List Value}(h:w.ownsRow base e size (.slice a n c) n us):Sl w base w.heap.size a us:=by
 obtain⟨hl,h⟩:=h;rcases h with⟨_,hn⟩|⟨g,cap,cur,hv,hg,hh,hnc,hm,hcs,ht⟩
 ·left
  subst hn;exact List.eq_nil_of_length_eq_zero (by simpa using hl)
 ·right
  simp only[Value.slice.injEq] at hv;obtain⟨rfl,_,rfl⟩:=hv;have hlt:g < w.heap.size:=by
   rcases Nat.lt_or_ge g w.heap.size with h|h
   ·exact h
   ·rw[Array.getElem?_eq_none h] at hh;cases hh
  refine⟨g,0,rfl,hg,hlt,fun j u hu=> ?_⟩;simp only[World.cell?,hh,Nat.zero_add];rw[←ht,List.getElem?_take] at hu
  split at hu
  ·simpa using hu
  ·cases hu
theorem Ae{w:zW}{base:Nat}{e:TypeId}{size n:Nat}{v:Value}{us:List Value}(h:w.ownsRow base e size v n us):∃a c,v= .slice a n c∧n≤c:=by
 obtain⟨hl,h⟩:=h;rcases h with⟨rfl,rfl⟩|⟨g,cap,cur,hv,hg,hh,hnc,hm,hcs,ht⟩
 ·exact⟨none,0,rfl,zn _⟩
 ·exact⟨_,cap,hv,hnc⟩
theorem own_below{w w':zW}{base:Nat}{e:TypeId}{size n:Nat}{v:Value}{us:List Value}(h:w.ownsRow base e size v n us)(hb:Below w.heap.size w w'):w'.ownsRow base e size v n us:=by
 obtain⟨hl,h⟩:=h;refine⟨hl,?_⟩;rcases h with h|⟨g,cap,cur,hv,hg,hh,r⟩
 ·exact .inl h
 ·exact .inr ⟨g,cap,cur,hv,hg,(hb.block g (Array.getElem?_eq_some_iff.1 hh).1).trans hh,r⟩
theorem Py{w w1:zW}{o:Obj}{row:Option Nat}(hg:(w.alloc o).grownBy w1 row):w.grownBy w1 row:=
 ⟨hg.os,hg.tape,hg.output,zr (by simp) hg.size,fun k hk hne=>(hg.block k (by simp;omega) hne).trans (Below.heap_alloc _ _ _ hk)⟩
theorem Br{B:Nat}{w0 w w1:zW}{base:Nat}{e:TypeId}{size n:Nat}{v:Value}{us:List Value}(hown:w.ownsRow base e size v n us)(hg:w.grownBy w1 v.ownBlock)(hb:Below B w0 w)(h1:B≤base)(h2:B≤w.heap.size):Below B w0 w1:=
 hb.grown hg h2 fun k hk=>by have:=(hown.lt k hk).1;omega
theorem Em{P:Program}{ops:Array Oper}{rest:List Oper}{o:Oper}{a:Act}{W:zW}{Q:Exit→Act→zW→Prop}(hgd:o.guard=none)(s x:Operand)(t:TypeId)
  (ho:o.op= .call { callee:= .builtin .append,args:= #[s,x],argTypes:= #[t,t] })
  (base:Nat) (e:TypeId) {z:Value} {size bytes:Nat} (hinfo:(P.info? e).map (fun i=>(i.zero,i.size,i.bytes))=some (some z,size,bytes)) (ht:P.underlying t=some (.slice e)) (hzs:z.cells.size=size) (hsz:0 < size) (hb:bytes≤4096)
  (w:zW) (v:Value) (n:Nat) (us:List Value) (hs:a.eval s=v) (hown:w.ownsRow base e size v n us)
  (news:List Value) (hW:W=w.alloc (.cells news.toArray e)) (hx:a.eval x= .slice (some ⟨w.heap.size,0,none⟩) 1 1) (hl:news.length=size) (h1:∀u∈news,u.oneCell'=true) (hn:n < 4294967296) (hbase:base≤w.heap.size)
  (h:∀v' w',w'.ownsRow base e size v' (n+1) (us++news)→w.grownBy w' v.ownBlock→wpList P ops Q rest (a.put o.dst v') w'):wpList P ops Q (o::rest) a W:=by
 subst hW;obtain⟨i,hi,hz0,hz1,hz2⟩:=info_parts hinfo;refine wpList_append_own _ hgd s x t ho base e i z size bytes ht hi hz0 hz1 hz2 hzs hsz v n us hs (hown.alloc _) ⟨w.heap.size,0,none⟩ 1 1 news hx (by simpa using hl) (fun j u hu=> ?_) h1 (by unfold maxLen;omega) ?_ (by simp;omega) (fun v' w' h2 h3 _=>h v' w' h2 (Py h3))
 ·have:((⟨w.heap.size,0,none⟩:Addr).add j)=⟨w.heap.size,j,none⟩:=by
   unfold Addr.add
   split
   ·simp_all
   ·simp
  rw[this,World.cell?_alloc_at _ _ _ _ rfl];simpa using hu
 ·have:(n+1) * bytes≤4294967296 * 4096:=Nat.mul_le_mul (by omega) hb
  omega
def Bk(w:zW)(g:Nat)(t:TypeId)(cs:Array Value):Prop:=w.heap[g]? =some (.cells cs t (0,0))
theorem Bk.lt{w:zW}{g:Nat}{t:TypeId}{cs:Array Value}(h:Bk w g t cs):g < w.heap.size:=(Array.getElem?_eq_some_iff.1 h).1
theorem Bk.new(w:zW)(t:TypeId)(cs:Array Value):Bk (w.alloc (.cells cs t)) w.heap.size t cs:=by
 show(w.heap.push _)[w.heap.size]? =_
 rw[Array.getElem?_push,zp rfl]
theorem Bk.cg(w:zW)(t:TypeId)(cs:Array Value){g:Nat}(h:g=w.heap.size):Bk (w.alloc (.cells cs t)) g t cs:=h▸Bk.new w t cs
theorem Bk.alloc{w:zW}{g:Nat}{t:TypeId}{cs:Array Value}(h:Bk w g t cs)(o:Obj):Bk (w.alloc o) g t cs:=(Below.heap_alloc w o g h.lt).trans h
theorem Bk.cell{w:zW}{g:Nat}{t:TypeId}{cs:Array Value}(h:Bk w g t cs)(i:Nat):w.cell? ⟨g,i,none⟩=cs[i]? :=by
 unfold Bk at h;simp[World.cell?,h]
theorem Bk.frozen{w:zW}{g:Nat}{t:TypeId}{cs:Array Value}(h:Bk w g t cs)(i:Nat):w.frozen? ⟨g,i,none⟩=false:=by
 unfold Bk at h;simp[World.frozen?,h]
theorem Bk.below{w w':zW}{B g:Nat}{t:TypeId}{cs:Array Value}(h:Bk w g t cs)(hb:Below B w w')(hg:g < B):Bk w' g t cs:=(hb.block g hg).trans h
theorem Bk.ck{w:zW}{g:Nat}{t:TypeId}{cs:Array Value}(h:Bk w g t cs)(i:Nat)(u:Value):Bk (w.setCell ⟨g,i,none⟩ u) g t (cs.setIfInBounds i u):=by
 unfold Bk at h⊢;simp[World.setCell,Array.getElem?_modify,h]
theorem Bk.far{w:zW}{g:Nat}{t:TypeId}{cs:Array Value}(h:Bk w g t cs){p:Addr}(hp:g≠p.block)(u:Value):Bk (w.setCell p u) g t cs:=(Below.heap_setCell w p u g hp).trans h
theorem Bk.drewN{w:zW}{g:Nat}{t:TypeId}{cs:Array Value}(h:Bk w g t cs)(n:Nat):Bk (w.drewN n) g t cs:=h
theorem Bk.grown{w w':zW}{g:Nat}{t:TypeId}{cs:Array Value}{row:Option Nat}(h:Bk w g t cs)(hg:w.grownBy w' row)(hne:some g≠row):Bk w' g t cs:=(hg.block g h.lt hne).trans h
theorem P9{P:Program}{t e:TypeId}{z:Value}{bytes:Nat}(ht:P.underlying t=some (.slice e))(hinfo:(P.info? e).map (fun i=>(i.zero,i.size,i.bytes))=some (some z,1,bytes))(hz1:z.cells= #[z])
  (n:Nat) (i:Int) (hi:i=(n:Int)) (hb:bytes≤4096) (hn:n≤4294967296) (w:zW):
  (Instr.makeSlice t (.int .i64 i) (.int .i64 i)).run P w= .ok (.slice (some ⟨w.heap.size,0,none⟩) n n) (w.alloc (.cells (List.replicate n z).toArray e)):=by
 subst hi;have h1:bytes * n≤4096 * 4294967296:=Nat.mul_le_mul hb hn;have:=run_make_row' t e z bytes ht hinfo hz1 .i64 .i64 n (by omega) (by omega) w;rw[this]
 congr 3
 apply Array.toList_inj.1
 rw[toList_madeCells_one]
def E6(a:zZ)(cap k size:Nat):zZ:=if cap=k then a else a.map (·.add (k * size))
theorem Mk{P:Program}{t size:Nat}(ht:P.underlying t=some (.slice (P.elem t)))(hs:∀w,(sizeOf (P.elem t)).run P w= .ok size w)(a:zZ)(len cap k:Nat)(i:Int)(hi:i=(k:Int))(hk:k≤len)(w:zW):
  (Instr.slice t (.slice a len cap) (some (.int .i64 i)) none none).run P w= .ok (.slice (E6 a cap k size) (len - k) (cap - k)) w:=by
 subst hi;rw[run_slice_l w t a len cap ht .i64 k (by omega) (by omega),hs];simp[sliced,E6,Result.andThen]
 try(split<;>simp_all)
theorem Sl.cut{w:zW}{lo hi:Nat}{a:zZ}{us:List Value}(h:Sl w lo hi a us){n cap k size:Nat}(hl:us.length=n * size)(hk:k≤n)(hc:n≤cap):Sl w lo hi (E6 a cap k size) (us.drop (k * size)):=by
 rcases h with rfl|⟨b,o,rfl,h1,h2,hcell⟩
 ·left;simp
 ·unfold E6
  split
  ·left
   apply List.drop_eq_nil_of_le
   rw[hl];exact Nat.mul_le_mul_right _ (by omega)
  ·right
   refine⟨b,o+k * size,?_,h1,h2,fun j u hu=> ?_⟩
   ·simp only[Option.map_some,Addr.add]
    split
    ·simp_all
    ·simp
   ·have:=hcell (k * size+j) u (by simpa using hu)
    rw[show o+k * size+j=o+(k * size+j) from by omega];exact this
theorem below_draws{B:Nat}{w0 w:zW}(h:Below B w0 w):∀n,Below B w0 (w.drewN n)
 |0=>h
 |n+1=>(below_draws h n).drew
theorem zm{w W V:zW}(H:Hid (Below w.heap.size w W))(h:Below W.heap.size W V):Hid (Below w.heap.size w V):=zh (Below.trans H.out (h.mono H.out.size))
theorem zo{α:Sort _}(x:α):∃y,x=y:=⟨x,rfl⟩
theorem zu{w W:zW}{o:Obj}(h:w.alloc o=W):Below w.heap.size w W:=by
 rw[←h];exact(zb _ _).alloc (zn _) _
theorem zw{w W:zW}{cs:Array Value}{t:TypeId}(h:w.alloc (.cells cs t)=W):Bk W w.heap.size t cs:=by
 rw[←h];exact Bk.new _ _ _
theorem Pu{H:Type}{d:DataW H} :∀ {l:List (DataW H)},d∈l→Rows.uptoBulk d≤Rows.uptoBulkAll l
 | [],h=>by cases h
 |x::r,h=>by
  simp only[Rows.uptoBulkAll];rcases List.mem_cons.1 h with rfl|h
  ·omega
  ·have:=Pu h;omega
theorem Ad6{H:Type}(bytes:List UInt8):Rows.uptoBulk (DataW.lit (H:=H) (.string bytes))=bytes.length+1:=by
 simp[Rows.uptoBulk]
theorem Abr{H:Type}{l:List (DataW H)}(hk:Rows.uptoSmall H l=true):Rows.uptoBulkAll l≤1048576:=of_decide_eq_true hk
theorem Gi{H:Type}{l:List (DataW H)}(hk:Rows.uptoSmall H l=true){bytes:List UInt8}(h:DataW.lit (.string bytes)∈l):bytes.length≤1048576:=by
 have h1:=Pu h;have h2:=Abr hk;rw[Ad6] at h1;omega
theorem Dn{H:Type}{l:List (DataW H)}(hk:Rows.uptoSmall H l=true){d:DataW H}(hd:d∈l):Rows.uptoBulk d≤1048576:=by
 have h1:=Pu hd;have h2:=Abr hk;omega
structure I5 where
 name:zN
 kind:Int
structure F7 where
 name:zN
 bm:Int
 dead:Int
structure B9 where
 src:Int
 cd:Bool
 to:Int
 pattern:zN
structure Ab where
 aj:List I5
 ag:List F7
 binds:List B9
def I7(p:I5):List Value:=[.string p.name,.int .i64 p.kind]
def Gw(q:F7):List Value:=[.string q.name,.int .i64 q.bm,.int .i64 q.dead]
def D5(b:B9):List Value:=[.int .i64 b.src,.bool b.cd,.int .i64 b.to,.string b.pattern]
theorem flat_get{α:Type}{enc:α→List Value}{size:Nat}(hs:∀x,(enc x).length=size):∀(xs:List α)(k:Nat)(hk:k < xs.length)(j:Nat),j < size→(xs.flatMap enc)[k * size+j]? =(enc xs[k])[j]?
 |x::xs,0,_,j,hj=>by
  rw[List.flatMap_cons,Nat.zero_mul,Nat.zero_add,List.getElem?_append_left (by rw[hs];exact hj)];rfl
 |x::xs,k+1,hk,j,hj=>by
  rw[List.flatMap_cons,List.getElem?_append_right (by rw[hs,Nat.succ_mul];omega),hs,show(k+1) * size+j - size=k * size+j from by rw[Nat.succ_mul];omega,
   flat_get hs xs k (by simpa using hk) j hj]
  rfl
theorem Dd{α:Type}{enc:α→List Value}{size:Nat}(hs:∀x,(enc x).length=size):∀xs:List α,(xs.flatMap enc).length=xs.length * size
 | []=>by simp
 |x::xs=>by rw[List.flatMap_cons,ze,hs,Dd hs xs,List.length_cons,Nat.succ_mul];omega
theorem Bf{α:Type}{enc:α→List Value}{size:Nat}(hs:∀x,(enc x).length=size)(h0:0 < size){w:zW}{lo hi:Nat}{a:zZ}{xs:List α}(h:Sl w lo hi a (xs.flatMap enc)){k:Nat}(hk:k < xs.length):
  ∃b o,a=some ⟨b,o,none⟩∧lo≤b∧b < hi∧∀j u,(enc xs[k])[j]? =some u→w.cell? ⟨b,o+k * size+j,none⟩=some u:=by
 obtain⟨b,o,e,h1,h2,hc⟩:=h.at_ (k:=k * size) (by rw[Dd hs];exact Nat.mul_lt_mul_of_pos_right hk h0);refine⟨b,o,e,h1,h2,fun j u hu=> ?_⟩;have hj:j < size:=by rw[←hs xs[k]];exact(List.getElem?_eq_some_iff.1 hu).1
 rw[show o+k * size+j=o+(k * size+j) from by omega];exact hc _ u (by rw[flat_get hs xs k hk j hj];exact hu)
structure Au (w:zW) (lo hi:Nat) (a1 a2 a3:zZ) (p:Ab):Prop where
 aj:Sl w lo hi a1 (p.aj.flatMap I7)
 ag:Sl w lo hi a2 (p.ag.flatMap Gw)
 binds:Sl w lo hi a3 (p.binds.flatMap D5)
structure Ai (p:Ab):Prop where
 aj:p.aj.length≤1048576
 ag:p.ag.length≤1048576
 binds:p.binds.length≤1048576
 post:∀x∈p.aj,x.name.size≤1048576
 queue:∀x∈p.ag,x.name.size≤1048576
 bind:∀x∈p.binds,x.pattern.size≤1048576
def Ay(p:Ab)(a1 a2 a3:zZ)(c1 c2 c3:Nat):Value:= .agg #[.slice a1 p.aj.length c1,.slice a2 p.ag.length c2,.slice a3 p.binds.length c3]
theorem Au.below{w w':zW}{lo hi B:Nat}{a1 a2 a3:zZ}{p:Ab}(h:Au w lo hi a1 a2 a3 p)(hb:Below B w w')(hB:hi≤B):Au w' lo hi a1 a2 a3 p:=
 ⟨h.aj.below hb hB,h.ag.below hb hB,h.binds.below hb hB⟩
theorem Au.wider{w:zW}{lo hi lo' hi':Nat}{a1 a2 a3:zZ}{p:Ab}(h:Au w lo hi a1 a2 a3 p)(h1:lo'≤lo)(h2:hi≤hi'):Au w lo' hi' a1 a2 a3 p:=
 ⟨h.aj.wider h1 h2,h.ag.wider h1 h2,h.binds.wider h1 h2⟩
theorem J9(x:I5):(I7 x).length=2:=rfl
theorem Hg(x:F7):(Gw x).length=3:=rfl
theorem Ia(x:B9):(D5 x).length=4:=rfl
structure Ao where
 seq:Int
 key:zN
 body:zN
 again:Bool
 au:Int
structure D8 where
 tag:Int
 bg:Int
 queue:Int
 item:Ao
structure Cf where
 queue:Int
 cf:Int
structure Aj where
 queue:Int
 key:zN
 body:zN
 au:Int
structure Aa where
 ready:List (List Ao)
 outs:List D8
 ae:List Cf
 ah:Int
 af:Int
 aw:Int
 ar:Int
 dropped:Int
def Ax(x:Ao):List Value:=[.int .i64 x.seq,.string x.key,.string x.body,.bool x.again,.int .i64 x.au]
def D6(x:D8):List Value:=[.int .i64 x.tag,.int .i64 x.bg,.int .i64 x.queue,.int .i64 x.item.seq,.string x.item.key,.string x.item.body,.bool x.item.again,.int .i64 x.item.au]
def Ez(x:Cf):List Value:=[.int .i64 x.queue,.int .i64 x.cf]
def Bp(x:Aj):List Value:=[.int .i64 x.queue,.string x.key,.string x.body,.int .i64 x.au]
structure Bm where
 at_:zZ
 cap:Nat
 items:List Ao
def M4(r:Bm):List Value:=[.slice r.at_ r.items.length r.cap]
theorem El(r:Bm):(M4 r).length=1:=rfl
structure Av (w:zW) (lo hi:Nat) (a1 a2 a3:zZ) (rows:List Bm) (s:Aa):Prop where
 same:rows.map (·.items)=s.ready
 ready:Sl w lo hi a1 (rows.flatMap M4)
 row:∀r∈rows,Sl w lo hi r.at_ (r.items.flatMap Ax)∧r.items.length≤r.cap
 outs:Sl w lo hi a2 (s.outs.flatMap D6)
 ae:Sl w lo hi a3 (s.ae.flatMap Ez)
def Ag(s:Aa)(a1 a2 a3:zZ)(c1 c2 c3:Nat):Array Value:= #[.slice a1 s.ready.length c1,.slice a2 s.outs.length c2,.slice a3 s.ae.length c3,.int .i64 s.ah,.int .i64 s.af,.int .i64 s.aw,.int .i64 s.ar,.int .i64 s.dropped]
def Ad(s:Aa)(a1 a2 a3:zZ)(c1 c2 c3:Nat):Value:= .agg (Ag s a1 a2 a3 c1 c2 c3)
theorem Av.below{w w':zW}{lo hi B:Nat}{a1 a2 a3:zZ}{rows:List Bm}{s:Aa}(h:Av w lo hi a1 a2 a3 rows s)(hb:Below B w w')(hB:hi≤B):Av w' lo hi a1 a2 a3 rows s:=
 ⟨h.same,h.ready.below hb hB,fun r hr=>⟨(h.row r hr).1.below hb hB,(h.row r hr).2⟩,h.outs.below hb hB,h.ae.below hb hB⟩
theorem Av.wider{w:zW}{lo hi lo' hi':Nat}{a1 a2 a3:zZ}{rows:List Bm}{s:Aa}(h:Av w lo hi a1 a2 a3 rows s)(h1:lo'≤lo)(h2:hi≤hi'):Av w lo' hi' a1 a2 a3 rows s:=
 ⟨h.same,h.ready.wider h1 h2,fun r hr=>⟨(h.row r hr).1.wider h1 h2,(h.row r hr).2⟩,h.outs.wider h1 h2,h.ae.wider h1 h2⟩
def Er(x:Ao):Prop:=x.key.size≤1048576∧x.body.size≤1048576∧ -9223372036854775808≤x.seq∧x.seq≤9223372036854775807∧ -9223372036854775808≤x.au∧x.au≤9223372036854775807
structure Gb (l:List Ao):Prop where
 len:l.length≤1048576
 item:∀x∈l,Er x
structure Ap (s:Aa):Prop where
 ready:s.ready.length≤1048576
 outs:s.outs.length≤1048576
 ae:s.ae.length≤1048576
 row:∀l∈s.ready,Gb l
 out:∀x∈s.outs,Er x.item
 lying:(s.ready.map List.length).sum≤1048576
theorem Cu(x:Ao):(Ax x).length=5:=rfl
theorem Dx(x:D8):(D6 x).length=8:=rfl
theorem Dg(x:Cf):(Ez x).length=2:=rfl
theorem D4(x:Aj):(Bp x).length=4:=rfl
abbrev zV(x:Aa)(a b c:zZ)(i j k:Nat):Array Value:= #[.slice a x.ready.length i, .slice b x.outs.length j, .slice c x.ae.length k, .int .i64 x.ah, .int .i64 x.af, .int .i64 x.aw, .int .i64 x.ar, .int .i64 x.dropped]
abbrev zP(p:Ab)(a b c:zZ)(i j k:Nat):Array Value:= #[.slice a p.aj.length i, .slice b p.ag.length j, .slice c p.binds.length k]
abbrev zO:Array Value:= #[.slice none 0 0, .slice none 0 0, .slice none 0 0, .int .i64 0, .int .i64 0, .int .i64 0, .int .i64 0, .int .i64 0]
abbrev zY(x:Ao):Array Value:= #[.int .i64 x.seq, .string x.key, .string x.body, .bool x.again, .int .i64 x.au]
open Go
def odd(r:Int):Bool:= !((decide (97≤r) && decide (r≤122)) || (decide (48≤r) && decide (r≤57)))
theorem Anw(n:Nat)(h:128≤n):odd (n:Int)=true:=by
 simp[odd];omega
theorem Wl(s:zN)(i:Nat)(h:(s.get! i).toNat < 128):Utf8.decode s i=((s.get! i).toNat,1):=by
 simp[Utf8.decode,h]
theorem Abt(s:zN)(i:Nat)(h:128≤(s.get! i).toNat):128≤(Utf8.decode s i).1:=by
 unfold Utf8.decode;simp only[Nat.add_zero];rw[zq (by omega)]
 repeat' split
 all_goals simp_all [Utf8.runeError]
 all_goals omega
theorem get!_eq(s:zN)(i:Nat)(h:i < s.size):s.get! i=s.data.toList[i]'(by simpa using h):=by
 simp only[ByteArray.get!,Array.getElem!_eq_getD,Array.getD,Array.getElem_toList];exact dif_pos h
theorem Anf(s:zN):∀(f pos:Nat),s.size≤f+pos→
  decide (0≤Lib.idxFuncFrom (fun n=>odd (n:Int)) true s f pos)=(s.data.toList.drop pos).any fun c=>odd (c.toNat:Int)
 |0,pos,h=>by
  rw[List.drop_eq_nil_of_le (by simpa using h)];simp[Lib.idxFuncFrom]
 |f+1,pos,h=>by
  unfold Lib.idxFuncFrom;by_cases hp:pos < s.size
  ·have hl:pos < s.data.toList.length:=by simpa using hp
   rw[zp hp,List.drop_eq_getElem_cons hl,List.any_cons];rcases Nat.lt_or_ge (s.get! pos).toNat 128 with hb|hb
   ·rw[Wl s pos hb]
    simp only[get!_eq s pos hp];by_cases ho:odd ((s.data.toList[pos]).toNat:Int)=true
    ·rw[zp ho,ho];simp
    ·rw[zq ho,Anf s f (pos+1) (by omega)]
     simp only[Bool.not_eq_true] at ho;rw[ho,Bool.false_or]
   ·have h1:=Anw _ (Abt s pos hb)
    have h2:=Anw _ hb;rw[get!_eq s pos hp] at h2;rw[zp h1,h2];simp
  ·rw[zq hp,List.drop_eq_nil_of_le (by simp;omega)]
   simp
def isWord(l:List UInt8):Bool:= !l.isEmpty && !(l.any fun c=>odd (c.toNat:Int))
def E1(l:List UInt8):Bool:=l == [42] || l == [35] || isWord l
theorem Air(s:zN):decide (0≤Lib.idxFunc (fun n=>odd (n:Int)) true s)=s.toList.any fun c=>odd (c.toNat:Int):=by
 rw[ByteArray.toList_eq];have:=Anf s s.size 0 (by omega);rw[List.drop_zero] at this;exact this
def G8:List UInt8→List (List UInt8)
 | []=>[[]]
 |x::r=>if x=46 then []::G8 r else (x::(G8 r).headD [])::(G8 r).tail
theorem Akb(l:List UInt8):G8 l≠ []:=by
 cases l with
 |nil=>simp[G8]
 |cons x r=>unfold G8;split<;>simp
theorem Tz(l:List UInt8):(G8 l).headD []::(G8 l).tail=G8 l:=by
 cases h:G8 l with
 |nil=>exact absurd h (Akb l)
 |cons a t=>rfl
theorem Qs(b:UInt8)(l:List UInt8):Lib.index (b::l) [46]=if b=46 then 0 else if Lib.index l [46] == -1 then -1 else Lib.index l [46]+1:=by
 rw[Lib.index];by_cases h:b=46
 ·subst h;simp[List.isPrefixOf]
 ·have:(46 == b)=false:=by simp;exact fun e=>h e.symm
  simp[List.isPrefixOf,h,this]
theorem Aaa:∀l:List UInt8,Lib.splitK [46] 0 (Lib.count l [46]) l=G8 l
 | []=>by
  have:Lib.index [] [46]= -1:=rfl;rw[Lib.count_miss this];rfl
 |b::l=>by
  have ih:=Aaa l;by_cases hb:b=46
  ·subst hb
   have hi:Lib.index (46::l) [46]=(0:Nat):=by rw[Qs];rfl
   rw[Lib.count_hit (by simp) hi,Nat.add_comm 1,Lib.splitK,zq (by rw[hi];decide),hi];simp only[G8,if_true,List.length_cons,List.length_nil,Nat.zero_add,Int.toNat_natCast,Nat.add_zero,List.drop_succ_cons,List.drop_zero,List.take_zero];rw[ih]
  ·rcases(show Lib.index l [46] < 0∨0≤Lib.index l [46] from by omega) with h0|h0
   ·have hm:Lib.index l [46]= -1:=by have:=Lib.index_ge l [46];omega
    have hi:Lib.index (b::l) [46]= -1:=by rw[Qs,zq hb,hm];rfl
    rw[Lib.count_miss hm] at ih;rw[Lib.count_miss hi];unfold G8;rw[zq hb,←ih];rfl
   ·obtain⟨i,hl⟩:=Int.eq_ofNat_of_zero_le h0
    have hi:Lib.index (b::l) [46]=((i+1:Nat):Int):=by
     rw[Qs,zq hb,hl,zq (by simp)];rfl
    have hc:Lib.count (b::l) [46]=Lib.count l [46]:=by
     rw[Lib.count_hit (by simp) hi,Lib.count_hit (by simp) hl];rfl
    rw[hc];rw[Lib.count_hit (by simp) hl,Nat.add_comm 1] at ih⊢;rw[Lib.splitK,zq (by intro hh;rw[hl,beq_iff_eq] at hh;omega),hl] at ih;rw[Lib.splitK,zq (by intro hh;rw[hi,beq_iff_eq] at hh;omega),hi];unfold G8;rw[zq hb,←ih];rfl
def Oh(s:zN)(at_:Nat):Nat→Nat→Nat→List zN
 |0,_,_=>[]
 |f+1,from_,i=>if s.size≤i then [s.extract from_ i] else if (s.get! i).toNat=at_ then s.extract from_ i::Oh s at_ f (i+1) (i+1) else Oh s at_ f from_ (i+1)
theorem Aib(s:zN)(c f:Nat):Oh s c (s.size+1 - s.size) f s.size=[s.extract f s.size]++Oh s c (s.size+1 - (s.size+1)) (s.size+1) (s.size+1):=by
 rw[show s.size+1 - s.size=0+1 from by omega,Nat.sub_self];simp[Oh]
theorem Aic(s:zN)(c f k:Nat)(h:k < s.size)(hc:(s[k].toNat:Int)=(c:Int)):Oh s c (s.size+1 - k) f k=[s.extract f k]++Oh s c (s.size+1 - (k+1)) (k+1) (k+1):=by
 rw[show s.size+1 - k=(s.size+1 - (k+1))+1 from by omega];have e:(s.get! k).toNat=c:=by rw[get!_eq s k h];exact Int.ofNat.inj hc
 rw[Oh,zq (by omega),zp e];rfl
theorem Aeb(s:zN)(c f k:Nat)(h:k < s.size)(hc:¬ (s[k].toNat:Int)=(c:Int)):Oh s c (s.size+1 - k) f k=Oh s c (s.size+1 - (k+1)) f (k+1):=by
 rw[show s.size+1 - k=(s.size+1 - (k+1))+1 from by omega];have e:¬ (s.get! k).toNat=c:=by rw[get!_eq s k h];exact fun h=>hc (congrArg Int.ofNat h)
 rw[Oh,zq (by omega),zq e]
theorem Ad8(s:zN)(k:Nat)(h:k < s.size):s.toList.drop k=s[k]::s.toList.drop (k+1):=by
 rw[ByteArray.toList_eq,List.drop_eq_getElem_cons (by simpa using h)];rfl
theorem extract_toList(s:zN)(a b:Nat):(s.extract a b).toList=(s.toList.drop a).take (b - a):=by
 rw[ByteArray.toList_eq,ByteArray.toList_eq,Lib.extract_data]
theorem Agh(s:zN)(f k:Nat)(hf:f≤k)(h:k < s.size):(s.extract f (k+1)).toList=(s.extract f k).toList++[s[k]]:=by
 rw[extract_toList,extract_toList,show k+1 - f=(k - f)+1 from by omega,List.take_add_one,List.getElem?_drop,show f+(k - f)=k from by omega];rw[zG (by rw[ByteArray.toList_eq];simpa using h)];simp only[ByteArray.toList_eq];rfl
theorem X9(s:zN):∀(n k f:Nat),s.size - k=n→f≤k→k≤s.size→
  (Oh s 46 (s.size+1 - k) f k).map ByteArray.toList=((s.extract f k).toList++(G8 (s.toList.drop k)).headD [])::(G8 (s.toList.drop k)).tail
 |0,k,f,hn,hf,hk=>by
  obtain rfl:k=s.size:=by omega
  have e:G8 (s.toList.drop s.size)=[[]]:=by
   rw[List.drop_eq_nil_of_le (by rw[ByteArray.toList_eq];simp)];rfl
  rw[Aib,Nat.sub_self,e];simp[Oh]
 |n+1,k,f,hn,hf,hk=>by
  have hlt:k < s.size:=by omega
  by_cases hc:(s[k].toNat:Int)=((46:Nat):Int)
  ·have hb:s[k]=46:=by
    apply UInt8.toNat_inj.1
    exact Int.ofNat.inj hc
   have e:(s.extract (k+1) (k+1)).toList=[]:=by rw[extract_toList,Nat.sub_self,List.take_zero]
   rw[Aic s 46 f k hlt hc,List.map_append,X9 s n (k+1) (k+1) (by omega) (zn _) (by omega),Ad8 s k hlt,hb,e];simp only[List.map_cons,List.map_nil,G8,if_true,List.headD_cons,List.tail_cons,List.append_nil,List.nil_append,Tz,List.singleton_append]
  ·have hb:¬ s[k]=46:=fun e=>hc (by rw[e];rfl)
   rw[Aeb s 46 f k hlt hc,X9 s n (k+1) f (by omega) (by omega) (by omega),Ad8 s k hlt,Agh s f k hf hlt];simp only[G8,zq hb,List.headD_cons,List.tail_cons,List.append_assoc,List.singleton_append]
def parts(s:zN):List zN:=Lib.splitB ⟨#[46]⟩ 0 (Lib.countB s ⟨#[46]⟩) s
theorem Jn(s:zN):(parts s).map ByteArray.toList=G8 s.toList:=by
 have:(parts s).map (·.data.toList)=G8 s.data.toList:=by
  rw[parts,Lib.splitB_data];exact Aaa _
 rw[ByteArray.toList_eq,←this];exact List.map_congr_left fun x _=>ByteArray.toList_eq x
theorem toList_inj{a b:zN}(h:a.toList=b.toList):a=b:=by
 rw[ByteArray.toList_eq,ByteArray.toList_eq] at h;exact WideShapes.bytes_inj h
theorem P3:∀ {a b:List zN},a.map ByteArray.toList=b.map ByteArray.toList→a=b
 | [],[],_=>rfl
 | [],b::lb,h=>by simp at h
 |a::la,[],h=>by simp at h
 |a::la,b::lb,h=>by
  simp only[List.map_cons,List.cons.injEq] at h;rw[toList_inj h.1,P3 h.2]
theorem Alb(s:zN):Oh s 46 (s.size+1) 0 0=parts s:=by
 apply P3
 have:=X9 s s.size 0 0 (by omega) (zn _) (by omega);rw[Nat.sub_zero,extract_toList,Nat.sub_zero,List.take_zero,List.nil_append,List.drop_zero,Tz] at this;rw[this,Jn]
theorem Na:∀(l x:List UInt8),x∈G8 l→x.length≤l.length
 | [],x,h=>by simp[G8] at h;subst h;simp
 |b::l,x,h=>by
  unfold G8 at h
  split at h
  ·rcases List.mem_cons.1 h with rfl|h
   ·simp
   ·have:=Na l x h;simp;omega
  ·have hh:=Tz l
   rcases List.mem_cons.1 h with rfl|h
   ·have:=Na l ((G8 l).headD []) (by rw[←hh];exact List.mem_cons_self)
    rw[List.length_cons,List.length_cons];omega
   ·have:=Na l x (by rw[←hh];exact List.mem_cons_of_mem _ h)
    simp;omega
theorem Al0{s:zN}{k:Nat}(h:k < (parts s).length):(parts s)[k].size≤s.size:=by
 have h1:(parts s)[k].toList∈G8 s.toList:=by
  rw[←Jn];exact List.mem_map.2 ⟨_,zg h,rfl⟩
 have:=Na _ _ h1;simp only[ByteArray.toList_eq] at this;simpa using this
section
variable {P:Program} {ops:Array Oper} {Q:Exit→Act→zW→Prop} {md:Region.Mode} {S:zW→Prop}
def Xv(md:Region.Mode)(ops:Array Oper):Array Bool→List (Nat×Bool)→Bool
 |listed,[]=>(Region.ready md ops listed).isEmpty
 |listed,(i,true)::r=>(Region.ready md ops listed == [i]) && Xv md ops (listed.setIfInBounds i true) r
 |listed,(i,false)::r=>Region.free md ops listed i && (Region.ready md ops listed).contains i && Xv md ops (listed.setIfInBounds i true) r
def NW(P:Program)(ops:Array Oper)(Q:Exit→Act→zW→Prop)(S:zW→Prop):List (Nat×Bool)→Act→zW→Prop
 | [],a,w=>Q .normal a w
 |(i,false)::r,a,w=>∃oi v,ops[i]? =some oi∧(∀c a w,Q (.panic c) (a.put oi.dst v) w→Q (.panic c) a w)∧YieldsIf P ops S oi v a∧NW P ops Q S r (a.put oi.dst v) w
 |(i,true)::r,a,w=>wpOp P ops Q i (fun a' w'=>S w'∧NW P ops Q S r a' w') a w
theorem NW.any(hs:Region.noSelect ops=true):∀(order:List (Nat×Bool))(listed:Array Bool)(a:Act)(w:zW),Xv md ops listed order=true→S w→NW P ops Q S order a w→wpAnyH P md ops Q S order.length listed a w
 | [],listed,a,w,hok,_,h=>wpAnyH_done (List.isEmpty_iff.1 hok) h _
 |(i,false)::r,listed,a,w,hok,hS,h=>by
  obtain⟨oi,v,hi,hQ,hy,h⟩:=h;simp only[Xv,zc] at hok;exact wpAnyH_take hi hs hok.1.1 hok.1.2 hQ hy hS (NW.any hs r _ _ w hok.2 hS h)
 |(i,true)::r,listed,a,w,hok,hS,h=>by
  simp only[Xv,zc,beq_iff_eq] at hok;refine wpAnyH_all hok.1 (by simp) fun j hj=> ?_;obtain rfl:=List.mem_singleton.1 hj;exact wpOp_mono (fun a' w' h'=>⟨h'.1,NW.any hs r _ a' w' hok.2 h'.1 h'.2⟩) h
def Ac7(ops:Array Oper)(order:List (Nat×Bool)):Prop:=Region.noSelect ops=true∧Xv .any ops (Array.replicate ops.size false) order=true∧order.length=ops.size
theorem Kl(order:List (Nat×Bool)){id:Nat}{a:Act}{w:zW}(h1:(Region.noSelect ops && Xv .any ops (Array.replicate ops.size false) order && decide (order.length=ops.size))=true)
  (h:Shut (Ac7 ops order)→(Code.region id ops true).wp P Q a w):(Code.region id ops true).wp P Q a w:=by
 simp only[zc,zd] at h1;exact h ⟨h1.1.1,h1.1.2,h1.2⟩
theorem Rt{order:List (Nat×Bool)}{id:Nat}{a:Act}{w:zW}(ho:Shut (Ac7 ops order))(hm:P.follows .mixedOrders=true)(hS:S w.drew)
  (h:S w.drew→NW P ops Q S order a w.drew):(Code.region id ops true).wp P Q a w:=by
 obtain⟨h1,h2,h3⟩:=ho.out;refine wp_region_held_drew hm hS fun hS=> ?_;have:=NW.any h1 order _ a _ h2 hS (h hS);rw[h3] at this;exact this
theorem NW.take{i:Nat}{oi:Oper}{v:Value}{r:List (Nat×Bool)}{a:Act}{w:zW}(hi:ops[i]? =some oi)(hQ:∀c a w,Q (.panic c) (a.put oi.dst v) w→Q (.panic c) a w)(hy:YieldsIf P ops S oi v a)
  (h:NW P ops Q S r (a.put oi.dst v) w):NW P ops Q S ((i,false)::r) a w:=⟨oi,v,hi,hQ,hy,h⟩
theorem NW.leave{i:Nat}{oi:Oper}{c:Bool}{r:List (Nat×Bool)}{a:Act}{w:zW}(hi:ops[i]? =some oi)(hQ:∀c a w,Q (.panic c) (a.put oi.dst undef) w→Q (.panic c) a w)(hw:Region.wanted oi (yielded ops a.tmps)=false)(hS:S w)
  (h:NW P ops Q S r (a.put oi.dst undef) w):NW P ops Q S ((i,c)::r) a w:=by
 cases c
 ·exact⟨oi,undef,hi,hQ,.inr ⟨hw,rfl⟩,h⟩
 ·show wpOp P ops Q i _ a w
  unfold wpOp;simp only[hi,hw,Bool.false_eq_true,if_false];exact⟨hS,h⟩
theorem NW.call{i:Nat}{o:Oper}{r:List (Nat×Bool)}{a:Act}{w:zW}(hi:ops[i]? =some o)
  (h:∀K':Act→zW→Prop,Shut (∀a w,S w→(S w→NW P ops Q S r a w)→K' a w)→if Region.wanted o (yielded ops a.tmps)=true then Oper.wp P o a w K' Q else K' (a.put o.dst undef) w):NW P ops Q S ((i,true)::r) a w:=
 wpOp_step hi (fun K' hK=>h K' (fun a w hS hW=>hK a w ⟨hS,hW hS⟩))
/-! The same told shortly: what each step asks is shown by the same few words each time. -/
theorem zT{i:Nat}{oi:Oper}{v:Value}{r:List (Nat×Bool)}{a a':Act}{w:zW}(h:NW P ops Q S r a' w)(hi:ops[i]? =some oi:=by rfl)(hQ:∀c a w,Q (.panic c) (a.put oi.dst v) w→Q (.panic c) a w:=by first|exact fun _ _ _ h=>h|exact fun _ _ _ h=>Aai (by decide) h)
  (hw:Region.wanted oi (yielded ops a.tmps)=true:=by rfl) (hv:∀w,S w→(execOp a.eval oi).run P w= .ok (.value v) w:=by(intro w hSw;(try dsimp only at hSw);go_simp;(all_goals with_reducible rfl);done)) (ha:a.put oi.dst v=a':=by(simp only[Act.put,zA,zB,zC,zD,zE,zF];with_reducible rfl)):NW P ops Q S ((i,false)::r) a w:=⟨oi,v,hi,hQ,.inl ⟨hw,hv⟩,ha▸h⟩
theorem zL{i:Nat}{oi:Oper}{c:Bool}{r:List (Nat×Bool)}{a a':Act}{w:zW}(h:NW P ops Q S r a' w)(hi:ops[i]? =some oi:=by rfl)(hQ:∀c a w,Q (.panic c) (a.put oi.dst undef) w→Q (.panic c) a w:=by first|exact fun _ _ _ h=>h|exact fun _ _ _ h=>Aai (by decide) h)
  (hw:Region.wanted oi (yielded ops a.tmps)=false:=by rfl) (hS:S w:=by assumption) (ha:a.put oi.dst undef=a':=by(simp only[Act.put,zA,zB,zC,zD,zE,zF];with_reducible rfl)):NW P ops Q S ((i,c)::r) a w:=NW.leave hi hQ hw hS (ha▸h)
theorem zH(i:Nat){oi:Oper}{v:Value}{fuel:Nat}{listed:Array Bool}{a a':Act}{w:zW}(h:wpAnyH P md ops Q S fuel (listed.setIfInBounds i true) a' w)(hi:ops[i]? =some oi:=by rfl)
  (hs:Region.noSelect ops=true:=by kernel_rfl) (hf:Region.free md ops listed i=true:=by kernel_rfl) (hr:(Region.ready md ops listed).contains i=true:=by kernel_rfl) (hQ:∀c a w,Q (.panic c) (a.put oi.dst v) w→Q (.panic c) a w:=by first|exact fun _ _ _ h=>h|exact fun _ _ _ h=>Aai (by decide) h)
  (hw:Region.wanted oi (yielded ops a.tmps)=true:=by rfl) (hv:∀w,S w→(execOp a.eval oi).run P w= .ok (.value v) w:=by(intro w hSw;(try dsimp only at hSw);go_simp;(all_goals with_reducible rfl);done)) (hS:S w:=by assumption) (ha:a.put oi.dst v=a':=by(simp only[Act.put,zA,zB,zC,zD,zE,zF];with_reducible rfl)):wpAnyH P md ops Q S (fuel+1) listed a w:=wpAnyH_take hi hs hf hr hQ (.inl ⟨hw,hv⟩) hS (ha▸h)
theorem zU(i:Nat){oi:Oper}{fuel:Nat}{listed:Array Bool}{a a':Act}{w:zW}(h:wpAnyH P md ops Q S fuel (listed.setIfInBounds i true) a' w)(hi:ops[i]? =some oi:=by rfl)
  (hs:Region.noSelect ops=true:=by kernel_rfl) (hf:Region.free md ops listed i=true:=by kernel_rfl) (hr:(Region.ready md ops listed).contains i=true:=by kernel_rfl) (hQ:∀c a w,Q (.panic c) (a.put oi.dst undef) w→Q (.panic c) a w:=by first|exact fun _ _ _ h=>h|exact fun _ _ _ h=>Aai (by decide) h)
  (hw:Region.wanted oi (yielded ops a.tmps)=false:=by rfl) (hS:S w:=by assumption) (ha:a.put oi.dst undef=a':=by(simp only[Act.put,zA,zB,zC,zD,zE,zF];with_reducible rfl)):wpAnyH P md ops Q S (fuel+1) listed a w:=wpAnyH_take hi hs hf hr hQ (.inr ⟨hw,rfl⟩) hS (ha▸h)
theorem zR(i:Nat){o:Oper}{fuel:Nat}{listed:Array Bool}{a:Act}{w:zW}(h:∀K':Act→zW→Prop,Shut (∀a w,S w→(S w→wpAnyH P md ops Q S fuel (listed.setIfInBounds i true) a w)→K' a w)→if Region.wanted o (yielded ops a.tmps)=true then Oper.wp P o a w K' Q else K' (a.put o.dst undef) w)(ho:ops[i]? =some o:=by rfl)(hr:Region.ready md ops listed=[i]:=by kernel_rfl):wpAnyH P md ops Q S (fuel+1) listed a w:=
 wpAnyH_ready hr (by simp) (AllReadyH.cons ho h AllReadyH.nil)
theorem zR2(i j:Nat){o x:Oper}{fuel:Nat}{listed:Array Bool}{a:Act}{w:zW}(h:∀K':Act→zW→Prop,Shut (∀a w,S w→(S w→wpAnyH P md ops Q S fuel (listed.setIfInBounds i true) a w)→K' a w)→if Region.wanted o (yielded ops a.tmps)=true then Oper.wp P o a w K' Q else K' (a.put o.dst undef) w)(h':∀K':Act→zW→Prop,Shut (∀a w,S w→(S w→wpAnyH P md ops Q S fuel (listed.setIfInBounds j true) a w)→K' a w)→if Region.wanted x (yielded ops a.tmps)=true then Oper.wp P x a w K' Q else K' (a.put x.dst undef) w)(ho:ops[i]? =some o:=by rfl)(hx:ops[j]? =some x:=by rfl)(hr:Region.ready md ops listed=[i,j]:=by kernel_rfl):wpAnyH P md ops Q S (fuel+1) listed a w:=
 wpAnyH_ready hr (by simp) (AllReadyH.cons ho h (AllReadyH.cons hx h' AllReadyH.nil))
theorem zS{w:zW}(hk:Go.RowKit.Hid (∀W,Go.RowKit.Below w.heap.size w W→S W)){order:List (Nat×Bool)}{id:Nat}{a:Act}(ho:Shut (Ac7 ops order))(hm:P.follows .mixedOrders=true)
  (h:S w.drew→NW P ops Q S order a w.drew):(Code.region id ops true).wp P Q a w:=Rt ho hm (hk _ (Go.RowKit.Below.refl _ _).drew) h
theorem zk{X K:Act→zW→Prop}{a a':Act}{w:zW}(hK:Shut (∀a w,S w→(S w→X a w)→K a w))(hS:S w)(h:S w→X a' w)(ha:a=a':=by first|(simp only[Act.put,zA,zB,zC,zD,zE,zF];with_reducible rfl)|with_reducible rfl):K a w:=hK.out a w hS (ha▸h)
theorem zx{fuel:Nat}{listed:Array Bool}{a:Act}{w:zW}(h:Q .normal a w)(hr:Region.ready md ops listed=[]:=by kernel_rfl):wpAnyH P md ops Q S fuel listed a w:=wpAnyH_done hr h _
theorem NW.done{a:Act}{w:zW}(h:Q .normal a w):NW P ops Q S [] a w:=h
end
open Go.ChangeShapes Go.WideShapes Go.ChangeAt Go.RowKit
theorem U6{H:Type}{enc:TypeId×Value→H}{P:Program}(hl:laidOutB P=true){W W':zW}(hb:Below W.heap.size W W'):
  ∀ {ts:List TypeId} {vs:List Value} {ds:List (DataW H)} {ps:List MemPlace},(∀t∈ts,P.readableRec t=true∧t < P.types.size)→(∀x∈ps,x.block < W.heap.size)→
   DataW.TrodAll enc P W 0 (fun _=>true) true ts vs ds ps→DataW.TrodAll enc P W' 0 (fun b=>decide (b < W.heap.size)) true ts vs ds ps
 | [],vs,ds,ps,_,_,h=>by
  obtain⟨rfl,rfl,rfl⟩:=trodAll_nil h;exact trodAll_mk0
 |t::ts,vs,ds,ps,hr,hlt,h=>by
  obtain⟨v,vs',d,ds',p,p',rfl,rfl,rfl,h1,h2⟩:=trodAll_cons h;exact trodAll_cons_mk (Below.trod hl (hr t (by simp)).1 (hr t (by simp)).2 h1 hb (fun x hx=>hlt x (by simp[hx]))) (U6 hl hb (fun t' ht=>hr t' (by simp[ht])) (fun x hx=>hlt x (by simp[hx])) h2)
theorem E9{H:Type}{enc:TypeId×Value→H}{P:Program}{f:Func}{s:ChangeSpec}{W W':zW}{args:Array Value}{ds gs:List (DataW H)}{before:List MemPlace}{tb:TypeId}
  (hl:laidOutB P=true) (hts':(f.params.toList.all fun t=>P.readableRec t && decide (t < P.types.size))=true) (hv:s.vars=[]) (hres:f.resultTypes= #[tb]) (htb:P.underlying tb=some .bool)
  (hW:DataW.Whole enc P f.params.toList s.vars false W args.toList ds gs before) (hfn:s.fn H (ds++gs)= { results:=[.lit (.bool true)],args:=ds }) (hb:Below W.heap.size W W'):
  s.post enc P f false true false false W args (.bool true) W':=by
 have hts:∀t∈f.params.toList,P.readableRec t=true∧t < P.types.size:=fun t ht=>by
  have:=List.all_eq_true.1 hts' t ht;simpa using this
 have hlt:∀x∈before,x.block < W.heap.size:=fun p hp=>hW.lt p hp;have hW':=hW;obtain⟨p,q,hA,hV,rfl,hfz,hnd⟩:=hW;rw[hv] at hV;obtain⟨rfl,rfl⟩:=trodVars_none hV;rw[List.append_nil] at hlt hfn;refine⟨ds,[],_,[],p,[],hW',?_,?_,?_,hb.frame _,fun h=>by cases h⟩
 ·rw[List.append_nil,hfn,hres]
  exact trodAll_cons_mk (shut_bool htb true) trodAll_mk0
 ·rw[List.append_nil,hfn]
  exact U6 hl hb hts hlt hA
 ·rw[List.append_nil,hfn,hv]
  rfl
theorem Dc{H:Type}{enc:TypeId×Value→H}{C:Checked}{os:Os}{f:FuncId}{fn:Func}{s:OpenSpec}{laid:List (String×DataW Unit)}(modest:Bool)(args:Array Value)
  (hsh:((World.laidAll C.prog os laid).forCall (fun _ _=>0) ⟨#[],args,[]⟩).Shaped C.prog)
  (hok:Input.okWideB C.prog ((World.laidAll C.prog os laid).forCall (fun _ _=>0) ⟨#[],args,[]⟩) f ⟨#[],args,[]⟩=true)
  (hrow:s.preRow enc C.prog fn [] false laid ((World.laidAll C.prog os laid).forCall (fun _ _=>0) ⟨#[],args,[]⟩).memory args):
  ∃(w:zW)(tape:Tape)(i:Input),w.os=os∧(w.forCall tape i).Shaped C.prog∧i.vars=[]∧Input.okWide C.prog (w.forCall tape i) .any w.heap.size f i∧
   s.preRow enc C.prog fn [] false laid (w.forCall tape i).memory i.args∧({ modest:=modest } :Assume).holds C.prog (lone (Frame.enter C.prog f i.args .normal) [] (w.forCall tape i)):=
 ⟨World.laidAll C.prog os laid,fun _ _=>0,⟨#[],args,[]⟩,World.laidAll_os _ _ _,hsh,(Input.okWide_of_okWideB (base:=0) hok).1,(Input.okWide_of_okWideB hok).2,hrow,by
  simp only[Assume.holds];exact⟨by simp,by simp,fun _=>Modest.zero,by simp,by simp⟩⟩
open Go.RowKit Go.ChangeShapes Go.WideShapes Go.Deep
theorem Ano{α:Type}{p:Nat→α→Prop} :∀n:Nat,(∀i,i < n→∃x,p i x)→∃xs:List α,xs.length=n∧∀i x,xs[i]? =some x→p i x
 |0,_=>⟨[],rfl,fun i x h=>by simp at h⟩
 |n+1,h=>by
  obtain⟨xs,hl,hx⟩:=Ano n fun i hi=>h i (by omega);obtain⟨x,hp⟩:=h n (by omega);refine⟨xs++[x],by simp[hl],fun i y hy=> ?_⟩;rcases Nat.lt_or_ge i n with h1|h1
  ·rw[List.getElem?_append_left (by omega)] at hy
   exact hx i y hy
  ·have:i < (xs++[x]).length:=(List.getElem?_eq_some_iff.1 hy).1
   have e:i=n:=by simp[hl] at this;omega
   subst e;rw[List.getElem?_append_right (by omega)] at hy;simp[hl] at hy;exact hy▸hp
theorem Asg{H:Type}(d:DataW H):1≤Rows.uptoBulk d:=by
 cases d with
 |lit l=>cases l<;>simp[Rows.uptoBulk]
 |_=>simp[Rows.uptoBulk]
theorem Zg{H:Type} :∀l:List (DataW H),l.length≤Rows.uptoBulkAll l
 | []=>by simp
 |d::r=>by
  have:=Zg r;have:=Asg d;simp only[Rows.uptoBulkAll,List.length_cons];omega
theorem G4{H:Type}{d:DataW H}{l:List (DataW H)}(h:d∈l):Rows.uptoBulk d < Rows.uptoBulk (.agg l):=by
 have:=Pu h;simp only[Rows.uptoBulk];omega
theorem Gp{H:Type}{encH:TypeId×Value→H}{P:Program}{w:zW}{base:Nat}{spare:Nat→Bool}{held:Bool}{t fuel:Nat}{fs:Array Field}{cs:List Value}{x:DataW H×List MemPlace}
  (ht:P.underlying t=some (.struct fs)) (h:DataW.trod encH P w base spare held fuel t cs=some x):
  ∃(xs:List (DataW H×List MemPlace))(n:Nat),x.1= .agg (xs.map (·.1))∧cs.length=P.cellsOf t∧xs.length=fs.size∧∀(j:Nat)(f:Field),fs[j]? =some f→∃y,y.1∈xs.map (·.1)∧DataW.trod encH P w base spare held n f.type ((cs.drop f.offset).take (P.cellsOf f.type))=some y:=by
 obtain⟨xs,n,_,rfl,hl,hlen,hf⟩:=DataW.trod_struct ht h;refine⟨xs,n,rfl,hl,hlen,fun j f hj=> ?_⟩;have hjl:j < fs.size:=(Array.getElem?_eq_some_iff.1 hj).1;have h1:=hf j f hj;have hx:j < xs.length:=by omega
 exact⟨xs[j],List.mem_map.2 ⟨_,zg hx,rfl⟩,by rw[h1];exact zG hx⟩
theorem addr_add(b o j:Nat):(⟨b,o,none⟩:Addr).add j=⟨b,o+j,none⟩:=by
 unfold Addr.add
 split
 ·simp_all
 ·simp
theorem open_list{H α:Type}{encH:TypeId×Value→H}{P:Program}{w:zW}{base:Nat}{spare:Nat→Bool}{held:Bool}{t e size fuel:Nat}{cs:List Value}{x:DataW H×List MemPlace}
  {enc:α→List Value} (rel:DataW H→α→Prop) (ht:P.underlying t=some (.slice e)) (hC:P.cellsOf e=size) (h0:0 < size) (hs:∀x,(enc x).length=size)
  (hel:∀n cs y,DataW.trod encH P w base spare held n e cs=some y→∃x,cs=enc x∧rel y.1 x)
  (h:DataW.trod encH P w base spare held fuel t cs=some x):
  ∃(a:zZ)(c:Nat)(xs:List α),cs=[.slice a xs.length c]∧xs.length≤c∧c≤maxLen∧Sl w 0 w.heap.size a (xs.flatMap enc)∧xs.length < Rows.uptoBulk x.1∧(∀y∈xs,∃d,rel d y∧Rows.uptoBulk d≤Rows.uptoBulk x.1)∧
   ∃ds:List (DataW H),ds.length=xs.length∧Rows.uptoBulkAll ds < Rows.uptoBulk x.1∧∀(i:Nat)(d:DataW H)(y:α),ds[i]? =some d→xs[i]? =some y→rel d y:=by
 subst hC;rcases open_slice ht h with⟨rfl,rfl⟩|⟨a,len,cap,m,n,D,Pl,rfl,hb,hl,hm,hmm,hx,hi⟩
 ·exact⟨none,0,[],rfl,zn _,by decide,Sl.nil _ _ _ _,by simp[Rows.uptoBulk],fun y hy=>by simp at hy,[],rfl,by simp[Rows.uptoBulk,Rows.uptoBulkAll],fun i d y h=>by simp at h⟩
 ·have hle:len≤m:=by rw[hmm];split<;>omega
  obtain⟨xs,hxl,hxs⟩:=Ano (p:=fun i (y:α)=>w.cells? base (a.add (i * P.cellsOf e)) (P.cellsOf e)=some (enc y)∧rel (D i) y) len fun i hi'=>by
   obtain⟨cs',h1,h2⟩:=hi i (by omega);obtain⟨y,rfl,hr⟩:=hel n cs' _ h2;exact⟨y,h1,hr⟩
  subst hxl;have hall:Rows.uptoBulkAll ((List.range xs.length).map D) < Rows.uptoBulk x.1:=by
   rw[hx];simp only[Rows.uptoBulk];omega
  refine⟨some a,cap,xs,rfl,hl,hm,?_,?_,?_,(List.range xs.length).map D,by simp,hall,fun i d y hd hy=> ?_⟩
  ·cases xs with
   |nil=>exact Sl.nil _ _ _ _
   |cons y0 ys=>
    have hcell:∀i y,(y0::ys)[i]? =some y→∀j,j < P.cellsOf e→w.cell? ((a.add (i * P.cellsOf e)).add j)=(enc y)[j]? :=fun i y hy j hj=>by
     obtain⟨_,_,hat⟩:=World.cells?_some (hxs i y hy).1;exact hat j hj
    have hc0:=hcell 0 y0 rfl 0 h0;rw[Nat.zero_mul] at hc0;have hg:∃v,(enc y0)[0]? =some v:=⟨_,zG (by rw[hs];exact h0)⟩;obtain⟨v0,hv0⟩:=hg;rw[hv0] at hc0;have e00:(a.add 0).add 0=a:=by simp[Addr.add]
    rw[e00] at hc0;have hspot:=World.cell?_spot hc0;obtain⟨b,o,spot⟩:=a;simp only at hspot;subst hspot;have hblt:b < w.heap.size:=by
     rcases Nat.lt_or_ge b w.heap.size with h1|h1
     ·exact h1
     ·simp[World.cell?,Array.getElem?_eq_none h1] at hc0
    refine .inr ⟨b,o,rfl,Nat.zero_le _,hblt,fun j u hu=> ?_⟩;have hjl:j < ((y0::ys).flatMap enc).length:=(List.getElem?_eq_some_iff.1 hu).1;rw[Dd hs] at hjl;have hq:j / P.cellsOf e < (y0::ys).length:=(Nat.div_lt_iff_lt_mul h0).2 hjl;have hr:j % P.cellsOf e < P.cellsOf e:=Nat.mod_lt _ h0;have hj:j=j / P.cellsOf e * P.cellsOf e+j % P.cellsOf e:=by
     have:=Nat.div_add_mod j (P.cellsOf e);rw[Nat.mul_comm] at this;exact this.symm
    have hg:=flat_get hs (y0::ys) _ hq _ hr;rw[←hj,hu] at hg;have hc:=hcell _ _ (zG hq) _ hr;rw[←hg,Go.Deep.add_add,←hj] at hc;rw[addr_add] at hc;exact hc
  ·have:=Zg ((List.range xs.length).map D)
   simp only[List.length_map,List.length_range] at this;omega
  ·intro y hy
   obtain⟨i,hi'⟩:=List.getElem?_of_mem hy;have hil:i < xs.length:=(List.getElem?_eq_some_iff.1 hi').1;refine⟨D i,(hxs i y hi').2,?_⟩;have hmem:D i∈(List.range xs.length).map D:=List.mem_map.2 ⟨i,List.mem_range.2 hil,rfl⟩;have:=Pu hmem;omega
  ·have hil:i < xs.length:=(List.getElem?_eq_some_iff.1 hy).1
   rw[List.getElem?_map,List.getElem?_range hil] at hd;simp only[Option.map_some,Option.some.injEq] at hd;subst hd;exact(hxs i y hy).2
def i64(n:Int):Prop:= -9223372036854775808≤n∧n≤9223372036854775807
theorem Azg{n:Int}(h:(Lit.int .i64 n).wf=true):i64 n:=by
 have:=bounds_i64 h;unfold i64;omega
theorem A02{α:Type}{l:List α}(h:l.length=2):∃a b,l=[a,b]:=by
 match l,h with
 | [a,b],_=>exact⟨a,b,rfl⟩
theorem Az2{α:Type}{l:List α}(h:l.length=3):∃a b c,l=[a,b,c]:=by
 match l,h with
 | [a,b,c],_=>exact⟨a,b,c,rfl⟩
theorem A1i{α:Type}{l:List α}(h:l.length=4):∃a b c d,l=[a,b,c,d]:=by
 match l,h with
 | [a,b,c,d],_=>exact⟨a,b,c,d,rfl⟩
theorem Qb:Tryz.prog.cellsOf 3=1:=by kernel_rfl
theorem Ql:Tryz.prog.cellsOf 9=1:=by kernel_rfl
theorem Axw:Tryz.prog.cellsOf 4=1:=by kernel_rfl
theorem C9{H:Type}{encH:TypeId×Value→H}{P:Program}{w:zW}{base:Nat}{spare:Nat→Bool}{held:Bool}{m:Nat}{fs:Array Field}{cs:List Value}{ds:List (DataW H)}
  (hf:∀(j:Nat)(f:Field),fs[j]? =some f→∃y,y.1∈ds∧DataW.trod encH P w base spare held m f.type ((cs.drop f.offset).take (P.cellsOf f.type))=some y) (j:Nat) {t o k:Nat} (hj:fs[j]?.map (fun f=>(f.type,f.offset))=some (t,o)) (hk:P.cellsOf t=k):
  ∃y,y.1∈ds∧DataW.trod encH P w base spare held m t ((cs.drop o).take k)=some y:=by
 cases hfj:fs[j]? with
 |none=>rw[hfj] at hj;cases hj
 |some f=>
  rw[hfj] at hj;simp only[Option.map_some,Option.some.injEq,Prod.mk.injEq] at hj;obtain⟨rfl,rfl⟩:=hj;rw[←hk];exact hf j f hfj
section
variable {H:Type} {encH:TypeId×Value→H} {w:zW} {base:Nat} {spare:Nat→Bool} {held:Bool} {n:Nat} {cs:List Value} {y:DataW H×List MemPlace}
theorem Il{c:Value}(h:DataW.trod encH Tryz.prog w base spare held n 3 [c]=some y):∃i,c= .int .i64 i∧i64 i:=by
 obtain⟨i,hc,_,hw⟩:=DataW.trod_int Tryz.underlying3 h;simp only[List.cons.injEq,and_true] at hc;exact⟨i,hc,Azg hw⟩
theorem Amv{c:Value}(h:DataW.trod encH Tryz.prog w base spare held n 4 [c]=some y):∃b,c= .bool b:=by
 obtain⟨b,hc,_⟩:=DataW.trod_bool Tryz.underlying4 h;simp only[List.cons.injEq,and_true] at hc;exact⟨b,hc⟩
theorem L9{c:Value}(h:DataW.trod encH Tryz.prog w base spare held n 9 [c]=some y):∃s:zN,c= .string s∧s.size < Rows.uptoBulk y.1:=by
 obtain⟨s,hc,hy,hw⟩:=DataW.trod_string Tryz.underlying9 h;simp only[List.cons.injEq,and_true] at hc;refine⟨s,hc,?_⟩;rw[hy,Ad6];simp
def Au8(d:DataW H)(x:I5):Prop:=x.name.size < Rows.uptoBulk d∧i64 x.kind
def Aoq(d:DataW H)(x:F7):Prop:=x.name.size < Rows.uptoBulk d∧i64 x.bm∧i64 x.dead
def Au7(d:DataW H)(x:B9):Prop:=x.pattern.size < Rows.uptoBulk d∧i64 x.src∧i64 x.to
theorem Ard(h:DataW.trod encH Tryz.prog w base spare held n 67 cs=some y):∃x,cs=I7 x∧Au8 y.1 x:=by
 obtain⟨xs,m,hx,hl,hlen,hf⟩:=Gp Tryz.underlying67 h;obtain⟨c0,c1,rfl⟩:=A02 (hl.trans (show Tryz.prog.cellsOf 67=2 by kernel_rfl));obtain⟨y0,m0,h0⟩:=C9 hf 0 rfl Ql;obtain⟨y1,m1,h1⟩:=C9 hf 1 rfl Qb;obtain⟨s,rfl,hs⟩:=L9 h0;obtain⟨i,rfl,hi⟩:=Il h1;rw[hx];exact⟨⟨s,i⟩,rfl,Nat.lt_trans hs (G4 m0),hi⟩
theorem Aoc(h:DataW.trod encH Tryz.prog w base spare held n 71 cs=some y):∃x,cs=Gw x∧Aoq y.1 x:=by
 obtain⟨xs,m,hx,hl,hlen,hf⟩:=Gp Tryz.underlying71 h;obtain⟨c0,c1,c2,rfl⟩:=Az2 (hl.trans (show Tryz.prog.cellsOf 71=3 by kernel_rfl));obtain⟨y0,m0,h0⟩:=C9 hf 0 rfl Ql;obtain⟨y1,m1,h1⟩:=C9 hf 1 rfl Qb;obtain⟨y2,m2,h2⟩:=C9 hf 2 rfl Qb;obtain⟨s,rfl,hs⟩:=L9 h0;obtain⟨i,rfl,hi⟩:=Il h1;obtain⟨j,rfl,hj⟩:=Il h2;rw[hx];exact⟨⟨s,i,j⟩,rfl,Nat.lt_trans hs (G4 m0),hi,hj⟩
theorem Amu(h:DataW.trod encH Tryz.prog w base spare held n 83 cs=some y):∃x,cs=D5 x∧Au7 y.1 x:=by
 obtain⟨xs,m,hx,hl,hlen,hf⟩:=Gp Tryz.underlying83 h;obtain⟨c0,c1,c2,c3,rfl⟩:=A1i (hl.trans (show Tryz.prog.cellsOf 83=4 by kernel_rfl));obtain⟨y0,m0,h0⟩:=C9 hf 0 rfl Qb;obtain⟨y1,m1,h1⟩:=C9 hf 1 rfl Axw;obtain⟨y2,m2,h2⟩:=C9 hf 2 rfl Qb;obtain⟨y3,m3,h3⟩:=C9 hf 3 rfl Ql;obtain⟨i,rfl,hi⟩:=Il h0;obtain⟨b,rfl⟩:=Amv h1;obtain⟨j,rfl,hj⟩:=Il h2;obtain⟨s,rfl,hs⟩:=L9 h3;rw[hx];exact⟨⟨i,b,j,s⟩,rfl,Nat.lt_trans hs (G4 m3),hi,hj⟩
structure Fc (p:Ab):Prop where
 post:∀x∈p.aj,i64 x.kind
 queue:∀x∈p.ag,i64 x.bm∧i64 x.dead
 bind:∀x∈p.binds,i64 x.src∧i64 x.to
theorem Al5(h:DataW.trod encH Tryz.prog w base spare held n 26 cs=some y)(hB:Rows.uptoBulk y.1≤1048576):
  ∃(p:Ab)(a1 a2 a3:zZ)(c1 c2 c3:Nat),cs=[.slice a1 p.aj.length c1,.slice a2 p.ag.length c2,.slice a3 p.binds.length c3]∧Au w 0 w.heap.size a1 a2 a3 p∧Ai p∧Fc p∧
   p.aj.length≤c1∧p.ag.length≤c2∧p.binds.length≤c3:=by
 obtain⟨xs,m,hx,hl,hlen,hf⟩:=Gp Tryz.underlying26 h;obtain⟨v0,v1,v2,rfl⟩:=Az2 (hl.trans (show Tryz.prog.cellsOf 26=3 by kernel_rfl));obtain⟨y0,m0,h0⟩:=C9 hf 0 rfl (show Tryz.prog.cellsOf 22=1 by kernel_rfl);obtain⟨y1,m1,h1⟩:=C9 hf 1 rfl (show Tryz.prog.cellsOf 23=1 by kernel_rfl);obtain⟨y2,m2,h2⟩:=C9 hf 2 rfl (show Tryz.prog.cellsOf 24=1 by kernel_rfl);rw[hx] at hB;have b0:=G4 m0;have b1:=G4 m1;have b2:=G4 m2;obtain⟨a1,c1,ps,e1,k1,_,s1,n1,r1,_⟩:=open_list (enc:=I7) Au8 Tryz.underlying22 (show Tryz.prog.cellsOf 67=2 by kernel_rfl) (by decide) J9 (fun _ _ _=>Ard) h0;obtain⟨a2,c2,qs,e2,k2,_,s2,n2,r2,_⟩:=open_list (enc:=Gw) Aoq Tryz.underlying23 (show Tryz.prog.cellsOf 71=3 by kernel_rfl) (by decide) Hg (fun _ _ _=>Aoc) h1;obtain⟨a3,c3,bs,e3,k3,_,s3,n3,r3,_⟩:=open_list (enc:=D5) Au7 Tryz.underlying24 (show Tryz.prog.cellsOf 83=4 by kernel_rfl) (by decide) Ia (fun _ _ _=>Amu) h2;have e1':v0= .slice a1 ps.length c1:=by simpa using e1
 have e2':v1= .slice a2 qs.length c2:=by simpa using e2
 have e3':v2= .slice a3 bs.length c3:=by simpa using e3
 subst e1' e2' e3';refine⟨⟨ps,qs,bs⟩,a1,a2,a3,c1,c2,c3,rfl,⟨s1,s2,s3⟩,⟨?_,?_,?_,?_,?_,?_⟩,⟨?_,?_,?_⟩,k1,k2,k3⟩
 ·exact zr (Nat.le_of_lt (Nat.lt_trans n1 b0)) hB
 ·exact zr (Nat.le_of_lt (Nat.lt_trans n2 b1)) hB
 ·exact zr (Nat.le_of_lt (Nat.lt_trans n3 b2)) hB
 ·intro x hx
  obtain⟨d,hd,hb⟩:=r1 x hx;have:=hd.1;omega
 ·intro x hx
  obtain⟨d,hd,hb⟩:=r2 x hx;have:=hd.1;omega
 ·intro x hx
  obtain⟨d,hd,hb⟩:=r3 x hx;have:=hd.1;omega
 ·intro x hx
  obtain⟨d,hd,hb⟩:=r1 x hx;exact hd.2
 ·intro x hx
  obtain⟨d,hd,hb⟩:=r2 x hx;exact hd.2
 ·intro x hx
  obtain⟨d,hd,hb⟩:=r3 x hx;exact hd.2
theorem Fj{r:Reach}{b0:Nat}{v:Value}{d:DataW H}{p:List MemPlace}(hv:Value.okWide Tryz.prog w r b0 26 v)(h:DataW.Trod encH Tryz.prog w base spare held 26 v d p)(hB:Rows.uptoBulk d≤1048576):
  ∃(p:Ab)(a1 a2 a3:zZ)(c1 c2 c3:Nat),v=Ay p a1 a2 a3 c1 c2 c3∧Au w 0 w.heap.size a1 a2 a3 p∧Ai p∧Fc p∧p.aj.length≤c1∧p.ag.length≤c2∧p.binds.length≤c3:=by
 obtain⟨cs,rfl,hsz⟩:=okWide_struct Tryz.underlying26 hv;obtain⟨fuel,hf⟩:=h;obtain⟨p,a1,a2,a3,c1,c2,c3,hc,k⟩:=Al5 hf hB;refine⟨p,a1,a2,a3,c1,c2,c3,?_,k⟩;have:cs.toList=_:=hc;obtain⟨l⟩:=cs;simp only at this;subst this;rfl
end
section
variable {H:Type} {encH:TypeId×Value→H} {w:zW} {base:Nat} {spare:Nat→Bool} {held:Bool} {n:Nat} {cs:List Value} {y:DataW H×List MemPlace}
def Adz(d:DataW H)(x:Ao):Prop:=x.key.size < Rows.uptoBulk d∧x.body.size < Rows.uptoBulk d∧i64 x.seq∧i64 x.au
theorem Adz.small{d:DataW H}{x:Ao}(h:Adz d x)(hB:Rows.uptoBulk d≤1048576):Er x:=by
 obtain⟨h1,h2,h3,h4⟩:=h;unfold i64 at h3 h4;unfold Er;omega
def Avs(w:zW)(d:DataW H)(r:Bm):Prop:=r.items.length≤r.cap∧Sl w 0 w.heap.size r.at_ (r.items.flatMap Ax)∧r.items.length < Rows.uptoBulk d∧∀x∈r.items,∃d':DataW H,Adz d' x∧Rows.uptoBulk d'≤Rows.uptoBulk d
theorem Avs.small{d:DataW H}{r:Bm}(h:Avs w d r)(hB:Rows.uptoBulk d≤1048576):Gb r.items:=by
 obtain⟨_,_,h3,h4⟩:=h;refine⟨by omega,fun x hx=> ?_⟩;obtain⟨d',hd,hb⟩:=h4 x hx;exact hd.small (by omega)
structure A9 (s:Aa):Prop where
 ah:i64 s.ah
 af:i64 s.af
 aw:i64 s.aw
 ar:i64 s.ar
 dropped:i64 s.dropped
 bg:∀x∈s.ae,i64 x.queue∧i64 x.cf
 out:∀x∈s.outs,i64 x.tag∧i64 x.bg∧i64 x.queue
end
end Go.Proofs.YtpkneogjdfolaaaGreatDoor
