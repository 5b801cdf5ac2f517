/- Lemmas. -/
import Derived.Test.YtpkneogjdfolaaaGreatDoorBunN
import Derived.Test.YtpkneogjdfolaaaGreatDoorBunF
import Derived.OrdersHeld
import Derived.OrdersIn
import Derived.TacticsIn
set_option maxHeartbeats 20000000
set_option maxRecDepth 100000
set_option linter.unusedSimpArgs false
set_option linter.unusedVariables false
namespace Go.Proofs.YtpkneogjdfolaaaGreatDoor
open Go Go.RowKit Go.Shelf Go.Sort
attribute [local go_sem] Oper.semAt_some
def RQ0(Q:Exit→Act→zW→Prop):Exit→Act→zW→Prop
 | .panic _,_,_=>False
 |e,a,W=>Q e a W
theorem RQ0.normal{Q:Exit→Act→zW→Prop}{a:Act}{W:zW}(h:Q .normal a W):RQ0 Q .normal a W:=h
theorem Jo{P:Program}{id:Nat}{ops:Array Oper}{b:Bool}{Q:Exit→Act→zW→Prop}{a:Act}{w:zW}(h:(Code.region id ops b).wp P (RQ0 Q) a w):(Code.region id ops b).wp P Q a w:=
 Code.wp_mono (fun e a W h=>by cases e<;>first|exact h.elim|exact h) h
theorem Au.keep'{w w':zW}{B:Nat}{a1 a2 a3:zZ}{p:Ab}(h:Au w 0 B a1 a2 a3 p)(hc:∀q:Addr,q.block < B→w'.cell? q=w.cell? q):Au w' 0 B a1 a2 a3 p:=⟨h.aj.keep hc,h.ag.keep hc,h.binds.keep hc⟩
theorem Cs.grown'{w w':zW}{base:Nat}{v:Value}{xs:List Int}(h:Cs w base v xs)(hb:Below w.heap.size w w'):Cs w' base v xs:=by
 refine⟨h.1,?_⟩;rcases h.2 with h1|⟨g,cap,cur,h1,h2,h3,h4⟩
 ·exact .inl h1
 ·exact .inr ⟨g,cap,cur,h1,h2,(hb.block g (Array.getElem?_eq_some_iff.1 h3).1).trans h3,h4⟩
theorem Bk.row{w w':zW}{g:Nat}{t:TypeId}{cs:Array Value}{row:Option Nat}(h:Bk w g t cs)(hg:w.grownBy w' row)(hr:∀r,row=some r→∃o:Obj,w.heap[r]? =some o∧o.isCells=false):Bk w' g t cs:=
 h.grown hg fun e=>by
  obtain⟨o,ho,hc⟩:=hr g e.symm;rw[show w.heap[g]? =_ from h] at ho
  cases ho
  cases hc
theorem Cs.row{w w':zW}{base:Nat}{v:Value}{xs:List Int}{row:Option Nat}(h:Cs w base v xs)(hg:w.grownBy w' row)(hr:∀r,row=some r→∃o:Obj,w.heap[r]? =some o∧o.isCells=false):Cs w' base v xs:=by
 refine⟨h.1,?_⟩;rcases h.2 with h1|⟨g,cap,cur,h1,h2,h3,h4⟩
 ·exact .inl h1
 ·refine .inr ⟨g,cap,cur,h1,h2,(hg.block g (Array.getElem?_eq_some_iff.1 h3).1 fun e=> ?_).trans h3,h4⟩
  obtain⟨o,ho,hc⟩:=hr g e.symm;rw[h3] at ho
  cases ho
  cases hc
theorem Aji(p:Ab)(x:Int)(key:zN):∀j,(I1 p x key j).length≤j
 |0=>by simp[I1]
 |j+1=>by
  have:=Aji p x key j;rw[I1]
  split
  ·split
   ·simp;omega
   ·omega
  ·omega
theorem Ag3(p:Ab)(x:Int)(key:zN):(onL p x key).length≤p.binds.length:=Aji p x key _
def Col(base bo bp B1:Nat)(Rd:Nat→Prop)(w:zW)(P:Array Value)(Ds:List Nat)(xs:List Int)(W:zW):Prop:=
 ∃v,Bk W bp 26 P∧Bk W bo 92 #[v]∧Cs W base v xs∧(∀r,v.ownBlock=some r→¬ Rd r)∧Below base w W∧D1 base W Ds∧B1≤W.heap.size
theorem Col.size{base bo bp B1:Nat}{Rd:Nat→Prop}{w W:zW}{P:Array Value}{Ds:List Nat}{xs:List Int}(h:Col base bo bp B1 Rd w P Ds xs W):B1≤W.heap.size:=by
 obtain⟨v,_,_,_,_,_,_,h⟩:=h;exact h
theorem Amy{base bo bp B1:Nat}{Rd:Nat→Prop}{w W W':zW}{P:Array Value}{Ds:List Nat}{xs:List Int}{row:Option Nat}(h:Col base bo bp B1 Rd w P Ds xs W)(hbB:base≤B1)(hD:∀D∈Ds,D < B1)(hg:W.grownBy W' row)
  (hr:∀r,row=some r→B1≤r∧∃o:Obj,W.heap[r]? =some o∧o.isCells=false):Col base bo bp B1 Rd w P Ds xs W':=by
 obtain⟨v,h1,h2,h3,h4,h5,h6,h7⟩:=h;refine⟨v,h1.row hg fun r e=>(hr r e).2,h2.row hg fun r e=>(hr r e).2,h3.row hg fun r e=>(hr r e).2,h4,h5.grown hg (by omega) (fun r e=>zr hbB (hr r e).1),h6.grown hg fun D hD' e=>by have:=(hr D e.symm).1;have:=hD D hD';omega,zr h7 hg.size⟩
theorem Av2{α:Type}{base bo bp B1:Nat}{Rd:Nat→Prop}{w:zW}{P:Array Value}{Ds:List Nat}(hbB:base≤B1)(hD:∀D∈Ds,D < B1)(f:α→List Int):OwnFrom B1 (fun s W=>Col base bo bp B1 Rd w P Ds (f s) W):=
 fun s W W' row h hg hr=>Amy h hbB hD hg hr
theorem Col.alloc{base bo bp B1:Nat}{Rd:Nat→Prop}{w W:zW}{P:Array Value}{Ds:List Nat}{xs:List Int}(h:Col base bo bp B1 Rd w P Ds xs W)(hbB:base≤B1)(o:Obj):Col base bo bp B1 Rd w P Ds xs (W.alloc o):=by
 obtain⟨v,h1,h2,h3,h4,h5,h6,h7⟩:=h;exact⟨v,h1.alloc o,h2.alloc o,World.ownsRow.alloc h3 o,h4,h5.alloc (by omega) o,h6.below ((zb _ W).alloc (zn _) o) (zn _),by simp;omega⟩
theorem Js:(Tryz.prog.info? 3).map (fun i=>(i.zero,i.size,i.bytes))=some (some (.int .i64 0),1,8):=by kernel_rfl
theorem Pd{P:Program}{F:Fence}{nF:Nat}{ops:Array Oper}{rest:List Oper}{o:Oper}{a:Act}{W:zW}{Q:Exit→Act→zW→Prop}(hgd:o.guard=none)(s x:Operand)(t:TypeId)
  (ho:o.op= .call { callee:= .builtin .append,args:= #[s,x],argTypes:= #[t,t] })
  (base:Nat) (e:TypeId) {z:Value} {size bytes:Nat} (hinfo:(P.info? e).map (fun i=>(i.zero,i.size,i.bytes))=some (some z,size,bytes)) (ht:P.underlying t=some (.slice e)) (hzs:z.cells.size=size) (hsz:0 < size) (hb:bytes≤4096)
  (w:zW) (v:Value) (n:Nat) (us:List Value) (hs:a.eval s=v) (hown:w.ownsRow base e size v n us)
  (news:List Value) (hW:W=w.alloc (.cells news.toArray e)) (hx:a.eval x= .slice (some ⟨w.heap.size,0,none⟩) 1 1) (hl:news.length=size) (h1:∀u∈news,u.oneCell'=true) (hn:n < 4294967296) (hbase:base≤w.heap.size)
  (h:∀v' w',w'.ownsRow base e size v' (n+1) (us++news)→w.grownBy w' v.ownBlock→(v'.ownBlock=v.ownBlock∨v'.ownBlock=some (w.heap.size+1))→wpListIn F nF P ops Q rest (a.put o.dst v') w'):wpListIn F nF P ops Q (o::rest) a W:=by
 subst hW;obtain⟨i,hi,hz0,hz1,hz2⟩:=info_parts hinfo;refine wpListIn_append_own_at _ hgd s x t ho base e i z size bytes ht hi hz0 hz1 hz2 hzs hsz v n us hs (hown.alloc _) ⟨w.heap.size,0,none⟩ 1 1 news hx (by simpa using hl) (fun j u hu=> ?_) h1 (by unfold maxLen;omega) ?_ (by simp;omega) (fun v' w' h2 h3 _ h4=>h v' w' h2 (Py h3) (by simpa using h4))
 ·have:((⟨w.heap.size,0,none⟩:Addr).add j)=⟨w.heap.size,j,none⟩:=by
   unfold Addr.add
   split
   ·simp_all
   ·simp
  rw[this,World.cell?_alloc_at _ _ _ _ rfl];simpa using hu
 ·have:(n+1) * bytes≤4294967296 * 4096:=Nat.mul_le_mul (by omega) hb
  omega
theorem Cs.ne{W:zW}{base g:Nat}{t:TypeId}{cs:Array Value}{v:Value}{xs:List Int}(h:Cs W base v xs)(hb:Bk W g t cs)(ht:t≠3):some g≠v.ownBlock:=by
 rcases h.2 with⟨rfl,_⟩|⟨g2,cap,cur,rfl,_,h3,_⟩
 ·simp[Value.ownBlock]
 ·intro e
  obtain rfl:g=g2:=by simpa [Value.ownBlock] using e
  have:=(show W.heap[g]? =_ from hb).symm.trans h3;simp at this;exact ht this.2
theorem Cs.cellsAt{W:zW}{base:Nat}{v:Value}{xs:List Int}(h:Cs W base v xs)(r:Nat)(hr:v.ownBlock=some r):∃o:Obj,W.heap[r]? =some o∧o.isCells=true:=by
 rcases h.2 with⟨rfl,_⟩|⟨g2,cap,cur,rfl,_,h3,_⟩
 ·simp[Value.ownBlock] at hr
 ·obtain rfl:g2=r:=by simpa [Value.ownBlock] using hr
  exact⟨_,h3,rfl⟩
theorem Col.app{base bo bp B1:Nat}{Rd:Nat→Prop}{w W w1:zW}{P:Array Value}{Ds:List Nat}{xs:List Int}{v v':Value}{x:Int}
  (h1:Bk W bp 26 P) (h2:Bk W bo 92 #[v]) (h3:Cs W base v xs) (h4:∀r,v.ownBlock=some r→¬ Rd r) (h5:Below base w W) (h6:D1 base W Ds) (h7:B1≤W.heap.size)
  (hRd:∀r,Rd r→r < B1) (hbo:¬ Rd bo) (hbb:base≤bo) (hbp:bp≠bo) (hBb:base≤B1)
  (g1:Cs w1 base v' (xs++[x])) (g2:W.grownBy w1 v.ownBlock) (g3:v'.ownBlock=v.ownBlock∨v'.ownBlock=some (W.heap.size+1)):
  Bk w1 bo 92 #[v]∧Col base bo bp B1 Rd w P Ds (xs++[x]) (w1.setCell ⟨bo,0,none⟩ v')∧KeepsFrom B1 W (w1.setCell ⟨bo,0,none⟩ v')∧KpS Rd W (w1.setCell ⟨bo,0,none⟩ v'):=by
 have b2:Bk w1 bo 92 #[v]:=h2.grown g2 (h3.ne h2 (by decide));have b1:Bk w1 bp 26 P:=h1.grown g2 (h3.ne h1 (by decide));have hset:w1.grownBy (w1.setCell ⟨bo,0,none⟩ v') (some bo):=grownBy_setCell' w1 bo v';refine⟨b2,⟨v',b1.grown hset (by simpa using hbp),?_,?_,?_,?_,?_,?_⟩,?_,?_,?_⟩
 ·exact b2.ck 0 v'
 ·exact World.ownsRow.kept g1 hset (.inr fun e=>g1.ne b2 (by decide) e.symm)
 ·intro r hr hrd
  rcases g3 with e|e
  ·exact h4 r (e▸hr) hrd
  ·rw[e] at hr
   cases hr
   have:=hRd _ hrd;omega
 ·exact(Br h3 g2 h5 (zn _) (by omega)).setCell (p:=⟨bo,0,none⟩) hbb v'
 ·refine(h6.grown g2 fun D hD e=> ?_).grown hset fun D hD e=> ?_
  ·obtain⟨o,ho,hc⟩:=h3.cellsAt D e.symm
   rw[(h6.2 D hD).2] at ho
   cases ho
   cases hc
  ·cases e
   have:=(h6.2 _ hD).2;rw[show W.heap[bo]? =_ from h2] at this
   cases this
 ·have:=g2.size
  have:=hset.size;omega
 ·refine((KeepsOthers.of_grownBy g2 fun j o ej hj=> ?_).trans (KeepsOthers.setCell _ _ _)).from _
  obtain⟨o',ho,hc⟩:=h3.cellsAt j ej;rw[hj] at ho
  cases ho
  exact hc
 ·intro r hrd
  have hlt:=hRd r hrd;have e1:w1.heap[r]? =W.heap[r]? :=g2.block r (by omega) fun e=>h4 r e.symm hrd;exact(hset.block r (by have:=g2.size;omega) (fun e=>hbo (by cases e;exact hrd))).trans e1
 ·exact zr g2.size hset.size
theorem Ae2(p:Ab)(k:Int)(key:zN):∀j,0 < (outAt p k key j).length
 |0=>by simp[outAt]
 |j+1=>by
  have h:=Ae2 p k key j;rw[outAt]
  split
  ·have:=(Qo (outAt p k key j) (onL p (by assumption) key)).2
   omega
  ·exact h
def A0l(p:Ab)(k:Nat)(key:zN)(P:Array Value)(w:zW)(i:Value)(ds:List Deferred)(wr:zW):Prop:=
 ∃(j:Nat)(v:Value)(Ds:List Nat),i= .int .i64 (j:Int)∧ds=Ds.map mark∧j≤(outAt p k key j).length∧
  Bk wr w.heap.size 26 P∧Bk wr (w.heap.size+1+1) 92 #[v]∧Cs wr w.heap.size v (outAt p k key j)∧Below w.heap.size w wr∧D1 w.heap.size wr Ds
theorem Akd(p:Ab)(k:Nat)(key:zN)(a1 a2 a3:zZ)(c1 c2 c3 B0:Nat)(w:zW)(hk:k < p.aj.length)(hr:B8 p)(hkey:key.size≤1048576)(hps:Ai p)
  (hpl:Au w 0 B0 a1 a2 a3 p) (hv:Og B0 w) (hB0:B0≤w.heap.size):
  Calls Tryz.prog 207 #[.agg (zP p a1 a2 a3 c1 c2 c3),.int .i64 (k:Int),.string key] w fun e w'=>
   ∃v,e= .returned v∧Cs w' w.heap.size v (E2 (outs p k key))∧Below w.heap.size w w':=by
 refine(callsIn_wide (n:=4)).1 ?_;refine callsIn_of_wp_marks Tryz.func207 rfl trivial ?_ rfl;simp only[Tryz.ntmps207,List.size_toArray,List.length_cons,List.length_nil,Nat.reduceAdd,Nat.reduceSub,Array.replicate_succ,Array.replicate_zero,List.push_toArray,List.append_toArray,List.nil_append,List.cons_append];have HB:=zh (zi hpl (zi hv hB0));have HR:=zh hr;have HKK:=zh hk;clear hpl hv hB0 hr hk;refine wpIn_wide.2 ?_
 go_wp2
 refine wp_loop (fun a' wr=>∃(u8 u10 u13 u14 u15 u16 u17 u18 u19 u20 u21 u22 u23 u24 u25 u26 u27 u28 u29 u30 u31 u32 u33 u34 u35 u36 u37 u38 u39 u40 u41:Value)(ds:List Deferred),A0l p k key (zP p a1 a2 a3 c1 c2 c3) w u8 ds wr∧a'=⟨#[.agg (zP p a1 a2 a3 c1 c2 c3),.int .i64 (k:Int),.string key,zt w.heap.size,undef,undef,.slice none 0 0,zt (w.heap.size+1+1),u8,undef,u10,.int .i64 (k:Int),.slice (some ⟨w.heap.size+1,0,none⟩) 1 1,u13,u14,u15,u16,u17,u18,u19,u20,u21,u22,u23,u24,u25,u26,u27,u28,u29,u30,u31,u32,u33,u34,u35,u36,u37,u38,u39,u40,u41,undef,undef,undef],ds⟩) (fun a' _=>p.aj.length - (intOf (a'.tmps.getD 8 undef)).toNat) ?_ ?_
 ·(repeat apply Exists.intro)
  refine⟨?_,rfl⟩;refine⟨0,_,[],rfl,rfl,Nat.zero_le _,((Bk.new _ _ _).alloc _).alloc _,Bk.cg _ _ _ (by simp),?_,Azz w _ _ _,D1.nil _ _⟩;refine⟨by simp[outAt],.inr ⟨w.heap.size+1,1,#[.int .i64 (k:Int)],rfl,by omega,(Bk.cg _ _ _ (by simp)).alloc _,by simp[outAt],by unfold maxLen;omega,by simp,by simp[outAt]⟩⟩
 ·rintro a' wr ⟨_,u10,u13,u14,u15,u16,u17,u18,u19,u20,u21,u22,u23,u24,u25,u26,u27,u28,u29,u30,u31,u32,u33,u34,u35,u36,u37,u38,u39,u40,u41,ds,⟨j,v,Ds,rfl,rfl,hj,hP,hO,hI,hB,hM⟩,rfl⟩
  have hok:=N5 HR.out HKK.out (key:=key) j;have hl:=hok.len;have hp4:=HR.out.aj;rcases M1 hI with⟨_,h0⟩|⟨g,C,rfl⟩
  ·have:=Ae2 p k key j
   rw[h0] at this;simp at this
  have d0:=hP.cell 0;have d1:=hP.cell 1;have d2:=hP.cell 2;have d3:=hO.cell 0;simp only[zI,zJ,zK] at d0 d1 d2 d3;by_cases hlt:j < (outAt p k key j).length
  ·obtain⟨x,hx,hxp,hxl⟩:∃x:Nat,(outAt p k key j)[j]? =some (x:Int)∧x < p.aj.length∧outAt p k key (j+1)=cw (outAt p k key j) (onL p x key):=by
    have h1:=hok.2 _ (zg hlt);refine⟨((outAt p k key j)[j]).toNat,?_,by omega,?_⟩
    ·rw[zG hlt];congr 1;omega
    ·rw[outAt,zG hlt]
     simp only
     congr 2
     omega
   have d4:wr.cell? ⟨g,j,none⟩=some (.int .i64 (x:Int)):=by
    rw[(U2 hI j hlt).1,List.getElem?_map,hx];rfl
   have HS:=zh (show zM wr w.heap.size 0 (.slice a1 p.aj.length c1)∧zM wr w.heap.size 1 (.slice a2 p.ag.length c2)∧zM wr w.heap.size 2 (.slice a3 p.binds.length c3)∧zM wr (w.heap.size+1+1) 0 (.slice (some ⟨g,0,none⟩) (outAt p k key j).length C)∧wr.cell? ⟨g,j,none⟩=some (.int .i64 (x:Int)) from⟨d0,d1,d2,d3,d4⟩);have HF:=zh (zi hP (zi hO (zi hI (zi hB hM))));have HCUT:Hid (∀W2,Below wr.heap.size wr W2→zM W2 w.heap.size 0 (.slice a1 p.aj.length c1)∧zM W2 w.heap.size 1 (.slice a2 p.ag.length c2)∧zM W2 w.heap.size 2 (.slice a3 p.binds.length c3)∧zM W2 (w.heap.size+1+1) 0 (.slice (some ⟨g,0,none⟩) (outAt p k key j).length C)∧zM W2 g j (.int .i64 (x:Int))):=fun W2 h=>by
    have hgl:=World.block_lt_of_cell? _ _ d4;exact⟨(h.cell (p:=⟨w.heap.size,0,none⟩) hP.lt).trans d0,(h.cell (p:=⟨w.heap.size,1,none⟩) hP.lt).trans d1,(h.cell (p:=⟨w.heap.size,2,none⟩) hP.lt).trans d2,(h.cell (p:=⟨w.heap.size+1+1,0,none⟩) hO.lt).trans d3,(h.cell (p:=⟨g,j,none⟩) hgl).trans d4⟩
   have HX:=zh hxp;have HXL:=zh hxl;have HOK:=zh (zi hok (zi hl hp4));clear hx hxp hxl hok hl hp4 hP hO hI hB hM d4
   go_wp2
   clear d0 d1 d2 d3;refine Jo ?_;refine wp_region_held_drew (S:=(fun W=>zM W w.heap.size 0 (.slice a1 p.aj.length c1)∧zM W w.heap.size 1 (.slice a2 p.ag.length c2)∧zM W w.heap.size 2 (.slice a3 p.binds.length c3)∧zM W (w.heap.size+1+1) 0 (.slice (some ⟨g,0,none⟩) (outAt p k key j).length C)∧zM W g j (.int .i64 (x:Int)))) (by kernel_rfl) (by exact HS.out) (fun hHeld=> ?_);refine zH 0 ?_;refine zH 1 ?_;refine zH 2 ?_;refine zH 3 ?_;refine zH 4 ?_;refine zH 5 ?_
   refine zR 6 fun K hK=> ?_
   go_simp
   go_at_call 208
   (with_reducible refine(Ap5 _ _ _ _ _ wr.drew ⟨_,rfl⟩).mono ?_)
   rintro e W2 ⟨rfl,n1,n2,n3,hb⟩;have hb':Below wr.heap.size wr W2:=⟨hb.os,hb.tape,hb.output,hb.size,hb.block⟩;have HN:=zh (zi n1 (zi n2 (zi n3 hb')));clear n1 n2 n3 hb hb';refine zk hK (by exact HCUT.out _ HN.out.2.2.2) (fun hHeld=> ?_);clear hK K
   refine zx ?_;refine RQ0.normal ?_
   go_wp2
   have HN2:Hid (Bk W2 wr.heap.size 26 (zP p a1 a2 a3 c1 c2 c3)∧Bk W2 (wr.heap.size+1) 3 #[.int .i64 (x:Int)]∧Bk W2 (wr.heap.size+2) 9 #[.string key]∧Below wr.heap.size wr W2):=⟨HN.out.1,HN.out.2.1,HN.out.2.2.1,HN.out.2.2.2⟩;clear HN;obtain⟨Rd,hRd⟩:∃Rd,Rd=Un B0 wr.heap.size (wr.heap.size+1) (wr.heap.size+2):=⟨_,rfl⟩;have HRd:Hid (∀r,Rd r→r < W2.heap.size):=by
    intro r h;have h1:=HN2.out.1.lt;have h2:=HN2.out.2.1.lt;have h3:=HN2.out.2.2.1.lt;have h4:=HN2.out.2.2.2.size;have h5:=HF.out.2.2.2.1.size;have h6:=HB.out.2.2;rw[hRd] at h;unfold Un at h;omega
   have HOld:Hid (∀r,w.heap.size≤r→r < wr.heap.size→¬ Rd r):=by
    intro r h1 h2 h;have h6:=HB.out.2.2;rw[hRd] at h;unfold Un at h;omega
   have HST:=zh (Ajj 3 (by decide) p x key a1 a2 a3 c1 c2 c3 B0 wr.heap.size (wr.heap.size+1) (wr.heap.size+2) W2 HX.out hps hkey HN2.out.1 HN2.out.2.1 HN2.out.2.2.1
    (Au.keep' HB.out.1 fun q hq=>(HF.out.2.2.2.1.trans (HN2.out.2.2.2.mono HF.out.2.2.2.1.size)).cell (p:=q) (Nat.lt_of_lt_of_le hq HB.out.2.2))
    (HB.out.2.1.keep fun q hq=>(HF.out.2.2.2.1.trans (HN2.out.2.2.2.mono HF.out.2.2.2.1.size)).cell (p:=q) (Nat.lt_of_lt_of_le hq HB.out.2.2))
    (zr HB.out.2.2 (zr HF.out.2.2.2.1.size HN2.out.2.2.2.size)))
   rw[←hRd] at HST;have HC0:Hid (Col w.heap.size (w.heap.size+1+1) w.heap.size W2.heap.size Rd w (zP p a1 a2 a3 c1 c2 c3) Ds (cw (outAt p k key j) []) W2):=by
    refine⟨_,HF.out.1.below HN2.out.2.2.2 HF.out.1.lt,HF.out.2.1.below HN2.out.2.2.2 HF.out.2.1.lt,HF.out.2.2.1.grown' HN2.out.2.2.2,fun r hr=> ?_,HF.out.2.2.2.1.trans (HN2.out.2.2.2.mono HF.out.2.2.2.1.size),HF.out.2.2.2.2.below HN2.out.2.2.2 (zn _),zn _⟩;have:=World.ownsRow.lt HF.out.2.2.1 r hr;exact HOld.out r this.1 this.2
   have HDs:Hid (∀D∈Ds,D < W2.heap.size):=fun D hD=>Nat.lt_of_lt_of_le (HF.out.2.2.2.2.lt hD) HN2.out.2.2.2.size;have HBB:Hid (w.heap.size≤W2.heap.size):=zr HF.out.2.2.2.1.size HN2.out.2.2.2.size;have HBO:Hid (¬ Rd (w.heap.size+1+1)∧w.heap.size+1+1 < W2.heap.size):=⟨HOld.out _ (by omega) HF.out.2.1.lt,Nat.lt_of_lt_of_le HF.out.2.1.lt HN2.out.2.2.2.size⟩;refine(wpIn_wide (n:=4)).1 ?_;refine wpIn_rangeFunc_ownH rfl (by decide) (gf:=218) (lb:= #[zt wr.heap.size,zt (wr.heap.size+1),zt (wr.heap.size+2)]) rfl trivial (enters_of Tryz.func218 (by kernel_rfl) rfl)
    HST.out (fun h k=>KpS.trans h k) (fun W l o o' hl _ _ _=>⟨G3.putObj (B:=W2.heap.size) HRd.out W l o' hl,by simp⟩) (zb _ _) (fun _=>rfl)
    (fun pre W=>Col w.heap.size (w.heap.size+1+1) w.heap.size W2.heap.size Rd w (zP p a1 a2 a3 c1 c2 c3) Ds (cw (outAt p k key j) pre) W) (fun _ _ _=>False) (Av2 HBB.out HDs.out _) (fun _ _ _ _ _ h _ _=>h) HC0.out
    (fun y a' W=>∃bb,W2.heap.size≤bb∧Bk W bb 83 #[.int .i64 y.2.src,.bool y.2.cd,.int .i64 y.2.to,.string y.2.pattern]∧a'= { tmps:= #[.agg (zP p a1 a2 a3 c1 c2 c3),.int .i64 (k:Int),.string key,zt w.heap.size,undef,undef,.slice none 0 0,zt (w.heap.size+1+1),.int .i64 (j:Int),undef,zt bb,.int .i64 (k:Int),.slice (some ⟨w.heap.size+1,0,none⟩) 1 1,.int .i64 (j:Int),.slice (some ⟨g,0,none⟩) (outAt p k key j).length C,.int .i64 ((outAt p k key j).length:Int),.bool true,u17,u18,.agg (zP p a1 a2 a3 c1 c2 c3),.slice (some ⟨g,0,none⟩) (outAt p k key j).length C,.int .i64 (j:Int),.pointer (some ⟨g,j,none⟩),.int .i64 (x:Int),.string key,.func (.func 218) #[] #[zt wr.heap.size,zt (wr.heap.size+1),zt (wr.heap.size+2)],.int .i64 (y.1:Int),.agg #[.int .i64 y.2.src,.bool y.2.cd,.int .i64 y.2.to,.string y.2.pattern],u28,u29,u30,u31,u32,u33,u34,u35,u36,u37,u38,u39,u40,u41,undef,undef,undef],defers:=[] }) ?ax ?assign ?body ?done ?stop
   case stop=>
    rintro D c pre W _ _ h _;exact h.elim
   case ax=>
    rintro y a' _ A B row ⟨bb,h1,h2,h3⟩ hg hrow;exact⟨bb,h1,h2.row hg (fun r e=>(hrow r e).2),h3⟩
   case assign=>
    intro l pre y W K hC hK;unfold D5
    gi_wp2
    refine hK _ _ ?_ ?_ ?_ ⟨W.heap.size,hC.size,Bk.new _ _ _,rfl⟩
    ·exact(KeepsOthers.alloc W _).from _
    ·exact⟨(G3.refl _ _).alloc HRd.out hC.size _,by simp⟩
    ·exact hC.alloc HBB.out _
   case body=>
    rintro l pre y a' W hl - hC ⟨bb,hb1,hb2,rfl⟩ hlen;obtain⟨v,q1,q2,q3,q4,q5,q6,q7⟩:=hC;have e0:=hb2.cell 1;have e1:=hb2.cell 2;have e2:=q2.cell 0;simp only[zI,zJ,zK] at e0 e1 e2;have hg1:=(Qo (outAt p k key j) pre).1;have hg2:=(Qo (outAt p k key j) pre).2;have hon:=Ag3 p x key;have hbn:=HR.out.binds;have hol:=HOK.out.2;have hsn:=Ain (outAt p k key j) pre y;obtain⟨C2,g2,rfl⟩:∃C2 g2,v= .slice (some ⟨g2,0,none⟩) (cw (outAt p k key j) pre).length C2:=by
     rcases M1 q3 with⟨_,h0⟩|⟨g2,C2,h0⟩
     ·rw[h0] at hg2
      simp only[List.length_nil] at hg2;omega
     ·exact⟨C2,g2,h0⟩
    cases ht:y.2.cd
    ·rw[ht] at e0
     have hA:J0 (cw (outAt p k key j) pre) y=cw (outAt p k key j) pre:=by simp[J0,ht]
     have HE:=zh (hsn.trans hA);have HQ:=zh (zi q1 (zi q2 (zi q3 (zi q4 (zi q5 (zi q6 q7))))));clear ht hA hsn q1 q2 q3 q4 q5 q6 q7 hg1 hg2 hon hbn hol hlen
     gi_wp2
     refine⟨trivial,?_⟩
     gi_wp2
     refine⟨KeepsFrom.refl _ _,KpS.refl _ _,?_⟩;dsimp only;rw[HE.out];exact⟨_,HQ.out.1,HQ.out.2.1,HQ.out.2.2.1,HQ.out.2.2.2.1,HQ.out.2.2.2.2.1,HQ.out.2.2.2.2.2.1,HQ.out.2.2.2.2.2.2⟩
    ·rw[ht] at e0
     have hct:∃b:Bool,b=decide (y.2.to∈cw (outAt p k key j) pre)∧Calls Tryz.prog 217 #[.slice (some ⟨g2,0,none⟩) (cw (outAt p k key j) pre).length C2,.int .i64 y.2.to] W fun e w'=>e= .returned (.bool b)∧w'=W:=by
      refine⟨_,rfl,?_⟩;have:=Tryz.slices_Contains_int g2 0 (cw (outAt p k key j) pre).length C2 (cw (outAt p k key j) pre) y.2.to W (zn _) (by omega) (fun i hi=>by
       rw[Nat.zero_add,(U2 q3 i hi).1,List.getElem?_map,zG hi,List.getD_eq_getElem?_getD,zG hi];rfl)
      rw[List.take_length,List.contains_eq_mem] at this;exact this
     obtain⟨b,hbd,hct⟩:=hct;have HCT:=zh hct;have HQ:=zh (zi q1 (zi q2 (zi q3 (zi q4 (zi q5 (zi q6 q7))))));have HLT:=zh (show(cw (outAt p k key j) pre).length < 4294967296 by omega);have HTM:=zh ht;have HSN:=zh hsn;have HBD:=zh hbd;clear hct ht hsn hbd q1 q2 q3 q4 q5 q6 q7 hg1 hg2 hon hbn hol hlen
     cases b
     ·have HE:Hid (cw (outAt p k key j) (pre++[y])=cw (outAt p k key j) pre++[y.2.to]):=by
       refine HSN.out.trans ?_;unfold J0;rw[zp ⟨HTM.out,of_decide_eq_false HBD.out.symm⟩]
      clear HSN HTM HBD
      gi_wp2_with (first|(refine⟨trivial,?_⟩;gi_at_call 217;refine(CallsIn.inRound l (callsIn_wide.2 HCT.out)).mono ?_;rintro e w' ⟨rfl,hw⟩;(have hw2:=hw.symm);subst hw2)|(gi_at_builtin;refine Pd rfl _ _ 92 rfl w.heap.size 3 Js Tryz.underlying92 rfl (by decide) (by decide) W _ _ _ rfl HQ.out.2.2.1 [.int .i64 y.2.to] rfl rfl rfl (by simp[Value.oneCell']) HLT.out (zr HBB.out HQ.out.2.2.2.2.2.2) ?_;intro v3 w3 hown' hgrow hat;obtain⟨a3,C3,rfl,_⟩:=Ae hown';obtain⟨m0,m3⟩:=Col.app (x:=y.2.to) (Rd:=Rd) (B1:=W2.heap.size) HQ.out.1 HQ.out.2.1 HQ.out.2.2.1 HQ.out.2.2.2.1 HQ.out.2.2.2.2.1 HQ.out.2.2.2.2.2.1 HQ.out.2.2.2.2.2.2 HRd.out HBO.out.1 (by omega) (by omega) HBB.out (show Cs w3 w.heap.size _ (cw (outAt p k key j) pre++[y.2.to]) by unfold Cs;rw[ze,List.map_append];exact hown') hgrow hat;have m1:=m0.cell 0;have m2:=m0.frozen 0;simp only[zI,zJ] at m1;have HAP:=zh m3;clear hown' hgrow hat m0 m3))
      refine⟨HAP.out.2.1,HAP.out.2.2,?_⟩;dsimp only;rw[HE.out];exact HAP.out.1
     ·have HE:Hid (cw (outAt p k key j) (pre++[y])=cw (outAt p k key j) pre):=by
       refine HSN.out.trans ?_;unfold J0;rw[zq fun h=>h.2 (of_decide_eq_true HBD.out.symm)]
      clear HSN HTM HBD
      gi_wp2_with (refine⟨trivial,?_⟩;gi_at_call 217;refine(CallsIn.inRound l (callsIn_wide.2 HCT.out)).mono ?_;rintro e w' ⟨rfl,hw⟩;(have hw2:=hw.symm);subst hw2)
      refine⟨KeepsFrom.refl _ _,KpS.refl _ _,?_⟩;dsimp only;rw[HE.out];exact⟨_,HQ.out.1,HQ.out.2.1,HQ.out.2.2.1,HQ.out.2.2.2.1,HQ.out.2.2.2.2.1,HQ.out.2.2.2.2.2.1,HQ.out.2.2.2.2.2.2⟩
   case done=>
    rintro D ys W hD rfl hC hDe;obtain⟨v,q1,q2,q3,q4,q5,q6,q7⟩:=hC;have HQ:=zh (zi q1 (zi q2 (zi q3 (zi q4 (zi q5 (zi q6 q7))))));have HDE:=zh hDe;have HDD:=zh hD;have hol:=HOK.out.2;clear q1 q2 q3 q4 q5 q6 q7 hDe hD
    go_wp2
    refine⟨?_,?_⟩
    ·(repeat apply Exists.intro)
     refine⟨?_,rfl⟩;refine⟨j+1,v,D::Ds,by go_num,rfl,?_,HQ.out.1,HQ.out.2.1,by rw[HXL.out];exact HQ.out.2.2.1,HQ.out.2.2.2.2.1,?_⟩
     ·have:=(Qo (outAt p k key j) (onL p x key)).2
      rw[HXL.out];omega
     ·refine HQ.out.2.2.2.2.2.1.cons ?_ ?_ HDE.out
      ·have:=HBO.out.2
       have:=HDD.out;omega
      ·intro h
       have:=HDs.out D h;have:=HDD.out;omega
    ·have:=HOK.out.2.1
     simp[intOf];omega
  ·have he:=Aw2 (show(outAt p k key j).length≤j by omega) (show j≤p.aj.length by omega)
   have HE:=zh he;have HF:=zh (zi hP (zi hO (zi hI (zi hB hM))));have HSO:=zh (Ajz w.heap.size _ _ wr hI (by omega));clear he hok hl hp4 hP hO hI hB hM;go_wp2_with (go_at_call 209;refine HSO.out.mono ?_;rintro e W2 ⟨rfl,n1,n2⟩;have n3:Bk W2 (w.heap.size+1+1) 92 _:=HF.out.2.1.grown n2 (HF.out.2.2.1.ne HF.out.2.1 (by decide));have n4:=n3.cell 0;simp only[zI,zJ] at n4;have HN:=zh (zi n1 n2);clear n1 n2 n3)
   refine Ic Ds W2 (HF.out.2.2.2.2.grown HN.out.2 fun D hD e=> ?_) fun W3 hs=>⟨_,results_tmp rfl _ _ _,_,rfl,?_,?_⟩
   ·obtain⟨o,ho,hc⟩:=HF.out.2.2.1.cellsAt D e.symm
    rw[(HF.out.2.2.2.2.2 D hD).2] at ho
    cases ho
    cases hc
   ·rw[HE.out]
    exact hs.own HN.out.1
   ·exact(Br HF.out.2.2.1 HN.out.2 HF.out.2.2.2.1 (zn _) HF.out.2.2.2.1.size).trans hs.below
attribute [local go_sem] Oper.semAt_some
def Ie(out:List Int)(y:Nat×B9):List Int:=if y.2.cd=true then out else out++[y.2.to]
def Fh(out:List Int)(bs:List (Nat×B9)):List Int:=bs.foldl Ie out
theorem Agb(out:List Int)(bs:List (Nat×B9))(y:Nat×B9):Fh out (bs++[y])=Ie (Fh out bs) y:=by simp[Fh,List.foldl_append]
def Fg(p:Ab)(key:zN)(ps:List Int):Nat→List Int
 |0=>[]
 |j+1=>match ps[j]? with
  |some x=>Fh (Fg p key ps j) (onL p x key)
  |none=>Fg p key ps j
def ofL(p:Ab)(k:Int)(key:zN):List Int:=Lib.compact (E2 (Fg p key (E2 (outs p k key)) (E2 (outs p k key)).length))
theorem Zj(out:List Int)(bs:List (Nat×B9)):(Fh out bs).length≤out.length+bs.length:=by
 induction bs generalizing out with
 |nil=>simp[Fh]
 |cons y bs ih=>
  have h1:=ih (Ie out y);have h2:(Ie out y).length≤out.length+1:=by unfold Ie;split<;>simp
  simp only[Fh,List.foldl_cons,List.length_cons] at *;omega
theorem Aey(p:Ab)(key:zN)(ps:List Int):∀j,(Fg p key ps j).length≤j * p.binds.length
 |0=>by simp[Fg]
 |j+1=>by
  have h:=Aey p key ps j;rw[Fg,Nat.succ_mul]
  split
  ·rename_i x _
   have h1:=Zj (Fg p key ps j) (onL p x key);have h2:=Ag3 p x key;omega
  ·omega
theorem Ll{zs:List Int}{x:Int} :x∈E2 zs↔x∈zs:=List.mem_mergeSort
def A1m(p:Ab)(key:zN)(P:Array Value)(ps:List Int)(w W0:zW)(vp:Value)(i:Value)(ds:List Deferred)(wr:zW):Prop:=
 ∃(j:Nat)(v:Value)(Ds:List Nat),i= .int .i64 (j:Int)∧ds=Ds.map mark∧j≤ps.length∧
  Bk wr w.heap.size 26 P∧Bk wr (w.heap.size+1) 92 #[v]∧Cs wr w.heap.size v (Fg p key ps j)∧Below w.heap.size w wr∧D1 w.heap.size wr Ds∧
  Cs wr w.heap.size vp ps∧(∀r,v.ownBlock=some r→vp.ownBlock≠some r)∧W0.heap.size≤wr.heap.size
theorem Aml(p:Ab)(k:Nat)(key:zN)(a1 a2 a3:zZ)(c1 c2 c3 B0:Nat)(w:zW)(hk:k < p.aj.length)(hr:B8 p)(hkey:key.size≤1048576)(hps:Ai p)
  (hpl:Au w 0 B0 a1 a2 a3 p) (hv:Og B0 w) (hB0:B0≤w.heap.size):
  Calls Tryz.prog 196 #[.agg (zP p a1 a2 a3 c1 c2 c3),.int .i64 (k:Int),.string key] w fun e w'=>
   ∃v,e= .returned v∧Cs w' w.heap.size v (ofL p k key)∧Below w.heap.size w w':=by
 refine(callsIn_wide (n:=4)).1 ?_;refine callsIn_of_wp_marks Tryz.func196 rfl trivial ?_ rfl;simp only[Tryz.ntmps196,List.size_toArray,List.length_cons,List.length_nil,Nat.reduceAdd,Nat.reduceSub,Array.replicate_succ,Array.replicate_zero,List.push_toArray,List.append_toArray,List.nil_append,List.cons_append];have HB:=zh (zi hpl (zi hv hB0));have HR:=zh hr;have HKK:=zh hk;have hposts:Hid (∀W,Below w.heap.size w W→Calls Tryz.prog 207 #[.agg (zP p a1 a2 a3 c1 c2 c3),.int .i64 (k:Int),.string key] W fun e w'=>
   ∃v,e= .returned v∧Cs w' W.heap.size v (E2 (outs p k key))∧Below W.heap.size W w'):=fun W hW=>
  Akd p k key a1 a2 a3 c1 c2 c3 B0 W hk hr hkey hps (Au.keep' hpl fun q hq=>hW.cell (p:=q) (Nat.lt_of_lt_of_le hq hB0)) (hv.keep fun q hq=>hW.cell (p:=q) (Nat.lt_of_lt_of_le hq hB0)) (zr hB0 hW.size)
 clear hpl hv hB0 hr hk;refine wpIn_wide.2 ?_;obtain⟨W1,hW1⟩:=zo ((w.alloc (.cells (zP p a1 a2 a3 c1 c2 c3) 26)).alloc (.cells #[.slice none 0 0] 92));have k1:Bk W1 w.heap.size 26 (zP p a1 a2 a3 c1 c2 c3):=by rw[←hW1];exact(Bk.new _ _ _).alloc _
 have k2:Bk W1 (w.heap.size+1) 92 #[.slice none 0 0]:=by rw[←hW1];exact Bk.cg _ _ _ (by simp)
 have k3:Below w.heap.size w W1:=by rw[←hW1];exact((zb _ w).alloc (zn _) _).alloc (by simp) _
 have k4:w.heap.size+2≤W1.heap.size:=by rw[←hW1];simp
 have HK1:=zh (zi k1 (zi k2 (zi k3 k4)));have m0:=k1.cell 0;have m1:=k1.cell 1;have m2:=k1.cell 2;simp only[zI,zJ,zK] at m0 m1 m2;clear k1 k2 k3 k4;go_wp2_with (go_at_call 207;go_loud (refine(hposts.out W1 HK1.out.2.2.1).mono ?_;rintro e W0 ⟨vp,rfl,n1,n2⟩;obtain⟨ap,cp,rfl,_⟩:=Ae n1;have HN:=zh (zi n1 n2);clear n1 n2))
 clear hW1 m0 m1 m2;generalize hnp:(E2 (outs p k key)).length=np at *;refine wp_loop (fun a' wr=>∃(u9 u11 u17 u18 u19 u20 u21 u22 u23 u24 u25 u26 u27 u28 u29 u30 u31 u32 u33 u34 u35:Value)(ds:List Deferred),A1m p key (zP p a1 a2 a3 c1 c2 c3) (E2 (outs p k key)) w W0 (.slice ap np cp) u17 ds wr∧a'=⟨#[.agg (zP p a1 a2 a3 c1 c2 c3),.int .i64 (k:Int),.string key,zt w.heap.size,undef,undef,.slice none 0 0,zt (w.heap.size+1),undef,u9,undef,u11,.agg (zP p a1 a2 a3 c1 c2 c3),.int .i64 (k:Int),.string key,.slice ap np cp,.int .i64 (np:Int),u17,u18,u19,u20,u21,u22,u23,u24,u25,u26,u27,u28,u29,u30,u31,u32,u33,u34,u35,undef,undef,undef,undef],ds⟩) (fun a' _=>np - (intOf (a'.tmps.getD 17 undef)).toNat) ?_ ?_
 ·(repeat apply Exists.intro)
  refine⟨?_,rfl⟩;have hz:=HK1.out.2.2.2;have hn1:Cs W0 w.heap.size (.slice ap np cp) (E2 (outs p k key)):=by
   obtain⟨q1,q2⟩:=HN.out.1;refine⟨q1,?_⟩;rcases q2 with q2|⟨g,cap,cur,r1,r2,r3⟩
   ·exact .inl q2
   ·exact .inr ⟨g,cap,cur,r1,by omega,r3⟩
  refine⟨0,.slice none 0 0,[],rfl,rfl,Nat.zero_le _,HK1.out.1.below HN.out.2 HK1.out.1.lt,HK1.out.2.1.below HN.out.2 HK1.out.2.1.lt,World.ownsRow_nil _ _ _ _,HK1.out.2.2.1.trans (HN.out.2.mono HK1.out.2.2.1.size),D1.nil _ _,hn1,(fun r h=>by cases h),zn _⟩
 ·rintro a' wr ⟨u9,u11,_,u18,u19,u20,u21,u22,u23,u24,u25,u26,u27,u28,u29,u30,u31,u32,u33,u34,u35,ds,⟨j,v,Ds,rfl,rfl,hj,hP,hO,hI,hB,hM,hVP,hne,hsz⟩,rfl⟩
  have hok:=N5 HR.out HKK.out (key:=key) p.aj.length;have hl:=hok.len;have hp4:=HR.out.aj;have hb10:=HR.out.binds;have hsl:=Np (outs p k key);have hol:=Aey p key (E2 (outs p k key)) j;have hoo:(outs p k key).length≤p.aj.length:=hl;have hj4:j * p.binds.length≤4 * 10:=Nat.mul_le_mul (by omega) hb10;have d0:=hP.cell 0;have d1:=hP.cell 1;have d2:=hP.cell 2;simp only[zI,zJ,zK] at d0 d1 d2;by_cases hlt:j < np
  ·obtain⟨x,hx,hxp,hxl⟩:∃x:Nat,(E2 (outs p k key))[j]? =some (x:Int)∧x < p.aj.length∧Fg p key (E2 (outs p k key)) (j+1)=Fh (Fg p key (E2 (outs p k key)) j) (onL p x key):=by
    have hlt2:j < (E2 (outs p k key)).length:=by omega
    have h1:=hok.2 _ (Ll.1 (zg hlt2));refine⟨((E2 (outs p k key))[j]).toNat,?_,by omega,?_⟩
    ·rw[zG hlt2];congr 1;omega
    ·rw[Fg,zG hlt2]
     simp only
     congr 2
     omega
   obtain⟨gp,rfl⟩:∃gp,ap=some ⟨gp,0,none⟩:=by
    rcases M1 hVP with⟨h0,h1⟩|⟨gp,C,h0⟩
    ·rw[h1] at hnp
     simp at hnp;omega
    ·cases h0
     exact⟨gp,rfl⟩
   have d4:wr.cell? ⟨gp,j,none⟩=some (.int .i64 (x:Int)):=by
    have h1:=hVP;unfold Cs at h1;rw[hnp] at h1;rw[(U2 h1 j hlt).1,List.getElem?_map,hx];rfl
   have HF:=zh (zi hP (zi hO (zi hI (zi hB (zi hM (zi hVP (zi hne hsz)))))));have HX:=zh hxp;have HXL:=zh hxl;have HOL:Hid ((Fg p key (E2 (outs p k key)) j).length≤40∧np≤4):=⟨by omega,by omega⟩;have hnp4:np≤4:=by omega
   clear hx hxp hxl hok hl hp4 hP hO hI hB hM hVP hne hsz hsl hol hoo hj4 hb10;go_wp2_with (go_at_call 208;(with_reducible refine(Ap5 _ _ _ _ _ wr ⟨_,rfl⟩).mono ?_);rintro e W2 ⟨rfl,n1,n2,n3,hb⟩;have HN2:=zh (zi n1 (zi n2 (zi n3 hb)));clear n1 n2 n3 hb)
   clear d0 d1 d2 d4;obtain⟨Rd,hRd⟩:∃Rd,Rd=fun r=>Un B0 wr.heap.size (wr.heap.size+1) (wr.heap.size+2) r∨r=gp:=⟨_,rfl⟩;have hgp:w.heap.size≤gp∧gp < wr.heap.size:=World.ownsRow.lt HF.out.2.2.2.2.2.1 gp rfl;have HRd:Hid (∀r,Rd r→r < W2.heap.size):=by
    intro r h;have h1:=HN2.out.1.lt;have h2:=HN2.out.2.1.lt;have h3:=HN2.out.2.2.1.lt;have h4:=HN2.out.2.2.2.size;have h5:=HF.out.2.2.2.1.size;have h6:=HB.out.2.2;rw[hRd] at h;simp only[Un] at h;omega
   have HOld:Hid (∀r,w.heap.size≤r→r < wr.heap.size→r≠gp→¬ Rd r):=by
    intro r h1 h2 h3 h;have h6:=HB.out.2.2;rw[hRd] at h;simp only[Un] at h;omega
   have HON:Hid (∀A B,KpS Rd A B→KpS (Un B0 wr.heap.size (wr.heap.size+1) (wr.heap.size+2)) A B):=fun A B h=>⟨fun r hr=>h.1 r (by rw[hRd];exact .inl hr),h.2⟩;have HGP:Hid (Rd gp∧gp < wr.heap.size):=⟨by rw[hRd];exact .inr rfl,hgp.2⟩;have HST:=zh (Ajj 3 (by decide) p x key a1 a2 a3 c1 c2 c3 B0 wr.heap.size (wr.heap.size+1) (wr.heap.size+2) W2 HX.out hps hkey HN2.out.1 HN2.out.2.1 HN2.out.2.2.1
    (Au.keep' HB.out.1 fun q hq=>(HF.out.2.2.2.1.trans (HN2.out.2.2.2.mono HF.out.2.2.2.1.size)).cell (p:=q) (Nat.lt_of_lt_of_le hq HB.out.2.2))
    (HB.out.2.1.keep fun q hq=>(HF.out.2.2.2.1.trans (HN2.out.2.2.2.mono HF.out.2.2.2.1.size)).cell (p:=q) (Nat.lt_of_lt_of_le hq HB.out.2.2))
    (zr HB.out.2.2 (zr HF.out.2.2.2.1.size HN2.out.2.2.2.size)))
   have HBO:Hid (¬ Rd (w.heap.size+1)∧w.heap.size+1 < W2.heap.size):=⟨HOld.out _ (by omega) HF.out.2.1.lt (fun e=>by
     have h1:=HF.out.2.1;rw[e] at h1;exact HF.out.2.2.2.2.2.1.ne h1 (by decide) rfl),Nat.lt_of_lt_of_le HF.out.2.1.lt HN2.out.2.2.2.size⟩
   clear hRd hgp;have HC0:Hid (Col w.heap.size (w.heap.size+1) w.heap.size W2.heap.size Rd w (zP p a1 a2 a3 c1 c2 c3) Ds (Fh (Fg p key (E2 (outs p k key)) j) []) W2∧G3 Rd W2 W2):=by
    refine⟨⟨_,HF.out.1.below HN2.out.2.2.2 HF.out.1.lt,HF.out.2.1.below HN2.out.2.2.2 HF.out.2.1.lt,HF.out.2.2.1.grown' HN2.out.2.2.2,fun r hr=> ?_,HF.out.2.2.2.1.trans (HN2.out.2.2.2.mono HF.out.2.2.2.1.size),HF.out.2.2.2.2.1.below HN2.out.2.2.2 (zn _),zn _⟩,G3.refl _ _⟩;have:=World.ownsRow.lt HF.out.2.2.1 r hr;exact HOld.out r this.1 this.2 (fun e=>HF.out.2.2.2.2.2.2.1 r hr (by rw[e];rfl))
   have HDs:Hid (∀D∈Ds,D < W2.heap.size):=fun D hD=>Nat.lt_of_lt_of_le (HF.out.2.2.2.2.1.lt hD) HN2.out.2.2.2.size;have HBB:Hid (w.heap.size≤W2.heap.size):=zr HF.out.2.2.2.1.size HN2.out.2.2.2.size;refine(wpIn_wide (n:=4)).1 ?_;refine wpIn_rangeFunc_ownH rfl (by decide) (gf:=218) (lb:= #[zt wr.heap.size,zt (wr.heap.size+1),zt (wr.heap.size+2)]) rfl trivial (enters_of Tryz.func218 (by kernel_rfl) rfl)
    HST.out (fun h k=>KpS.trans h k) (fun W l o o' hl _ _ _=>HON.out _ _ ⟨G3.putObj (B:=W2.heap.size) HRd.out W l o' hl,by simp⟩) (zb _ _) (fun _=>rfl)
    (fun pre W=>Col w.heap.size (w.heap.size+1) w.heap.size W2.heap.size Rd w (zP p a1 a2 a3 c1 c2 c3) Ds (Fh (Fg p key (E2 (outs p k key)) j) pre) W∧G3 Rd W2 W) (fun _ _ _=>False)
    (fun pre A B row h hg hr=>⟨Amy h.1 HBB.out HDs.out hg hr,fun r hrd=>(hg.block r (by have:=HRd.out r hrd;have:=h.1.size;omega) (fun e=>by have:=HRd.out r hrd;have:=(hr r e.symm).1;omega)).trans (h.2 r hrd)⟩) (fun _ _ _ _ _ h _ _=>h) HC0.out
    (fun y a' W=>∃bb,W2.heap.size≤bb∧Bk W bb 83 #[.int .i64 y.2.src,.bool y.2.cd,.int .i64 y.2.to,.string y.2.pattern]∧a'= { tmps:= #[.agg (zP p a1 a2 a3 c1 c2 c3),.int .i64 (k:Int),.string key,zt w.heap.size,undef,undef,.slice none 0 0,zt (w.heap.size+1),undef,.int .i64 (x:Int),undef,zt bb,.agg (zP p a1 a2 a3 c1 c2 c3),.int .i64 (k:Int),.string key,.slice (some ⟨gp,0,none⟩) np cp,.int .i64 (np:Int),.int .i64 (j:Int),.bool true,.pointer (some ⟨gp,j,none⟩),.int .i64 (x:Int),.agg (zP p a1 a2 a3 c1 c2 c3),.int .i64 (x:Int),.string key,.func (.func 218) #[] #[zt wr.heap.size,zt (wr.heap.size+1),zt (wr.heap.size+2)],.int .i64 (y.1:Int),.agg #[.int .i64 y.2.src,.bool y.2.cd,.int .i64 y.2.to,.string y.2.pattern],u27,u28,u29,u30,u31,u32,u33,u34,u35,undef,undef,undef,undef],defers:=[] }) ?ax ?assign ?body ?done ?stop
   case stop=>
    rintro D c pre W _ _ h _;exact h.elim
   case ax=>
    rintro y a' _ A B row ⟨bb,h1,h2,h3⟩ hg hrow;exact⟨bb,h1,h2.row hg (fun r e=>(hrow r e).2),h3⟩
   case assign=>
    intro l pre y W K hC hK;unfold D5
    gi_wp2
    refine hK _ _ ?_ ?_ ?_ ⟨W.heap.size,hC.1.size,Bk.new _ _ _,rfl⟩
    ·exact(KeepsOthers.alloc W _).from _
    ·exact HON.out _ _ ⟨(G3.refl _ _).alloc HRd.out hC.1.size _,by simp⟩
    ·exact⟨hC.1.alloc HBB.out _,hC.2.alloc HRd.out hC.1.size _⟩
   case body=>
    rintro l pre y a' W hl - ⟨hC,hKP⟩ ⟨bb,hb1,hb2,rfl⟩ hlen;obtain⟨v,q1,q2,q3,q4,q5,q6,q7⟩:=hC;obtain⟨av,cv,rfl,_⟩:=Ae q3;have e0:=hb2.cell 1;have e1:=hb2.cell 2;have e2:=q2.cell 0;simp only[zI,zJ,zK] at e0 e1 e2;have hg1:=Zj (Fg p key (E2 (outs p k key)) j) pre;have hon:=Ag3 p x key;have hbn:=HR.out.binds;have hol:=HOL.out.1;have hsn:=Agb (Fg p key (E2 (outs p k key)) j) pre y;have HLT:=zh (show(Fh (Fg p key (E2 (outs p k key)) j) pre).length < 4294967296 by omega);have HQ:=zh (zi q1 (zi q2 (zi q3 (zi q4 (zi q5 (zi q6 q7))))));have HKP:=zh hKP
    cases ht:y.2.cd
    ·rw[ht] at e0
     have hA:Ie (Fh (Fg p key (E2 (outs p k key)) j) pre) y=Fh (Fg p key (E2 (outs p k key)) j) pre++[y.2.to]:=by simp[Ie,ht]
     have HE:=zh (hsn.trans hA);clear ht hA hsn q1 q2 q3 q4 q5 q6 q7 hg1 hon hbn hol hlen hKP
     gi_wp2_with (gi_at_builtin;refine Pd rfl _ _ 92 rfl w.heap.size 3 Js Tryz.underlying92 rfl (by decide) (by decide) W _ _ _ rfl HQ.out.2.2.1 [.int .i64 y.2.to] rfl rfl rfl (by simp[Value.oneCell']) HLT.out (zr HBB.out HQ.out.2.2.2.2.2.2) ?_;intro v3 w3 hown' hgrow hat;obtain⟨a3,C3,rfl,_⟩:=Ae hown';obtain⟨m0,m3⟩:=Col.app (x:=y.2.to) (Rd:=Rd) (B1:=W2.heap.size) HQ.out.1 HQ.out.2.1 HQ.out.2.2.1 HQ.out.2.2.2.1 HQ.out.2.2.2.2.1 HQ.out.2.2.2.2.2.1 HQ.out.2.2.2.2.2.2 HRd.out HBO.out.1 (by omega) (by omega) HBB.out (show Cs w3 w.heap.size _ (Fh (Fg p key (E2 (outs p k key)) j) pre++[y.2.to]) by unfold Cs;rw[ze,List.map_append];exact hown') hgrow hat;have m1:=m0.cell 0;have m2:=m0.frozen 0;simp only[zI,zJ] at m1;have HAP:=zh m3;clear hown' hgrow hat m0 m3)
     refine⟨HAP.out.2.1,HON.out _ _ HAP.out.2.2,?_,HKP.out.trans HAP.out.2.2.1⟩;rw[HE.out];exact HAP.out.1
    ·rw[ht] at e0
     have hA:Ie (Fh (Fg p key (E2 (outs p k key)) j) pre) y=Fh (Fg p key (E2 (outs p k key)) j) pre:=by simp[Ie,ht]
     have HE:=zh (hsn.trans hA);clear ht hA hsn q1 q2 q3 q4 q5 q6 q7 hg1 hon hbn hol hlen hKP
     gi_wp2
     refine⟨KeepsFrom.refl _ _,KpS.refl _ _,?_,HKP.out⟩;rw[HE.out];exact⟨_,HQ.out.1,HQ.out.2.1,HQ.out.2.2.1,HQ.out.2.2.2.1,HQ.out.2.2.2.2.1,HQ.out.2.2.2.2.2.1,HQ.out.2.2.2.2.2.2⟩
   case done=>
    rintro D ys W hD rfl ⟨hC,hKP⟩ hDe;obtain⟨v,q1,q2,q3,q4,q5,q6,q7⟩:=hC;have HQ:=zh (zi q1 (zi q2 (zi q3 (zi q4 (zi q5 (zi q6 q7))))));have HDE:=zh hDe;have HDD:=zh hD;have HKP:=zh hKP;clear q1 q2 q3 q4 q5 q6 q7 hDe hD hKP
    go_wp2
    refine⟨?_,?_⟩
    ·(repeat apply Exists.intro)
     refine⟨?_,rfl⟩;refine⟨j+1,v,D::Ds,by go_num,rfl,by omega,HQ.out.1,HQ.out.2.1,by rw[HXL.out];exact HQ.out.2.2.1,HQ.out.2.2.2.2.1,?_,?_,?_,?_⟩
     ·refine HQ.out.2.2.2.2.2.1.cons ?_ ?_ HDE.out
      ·have:=HBO.out.2
       have:=HDD.out;omega
      ·intro h
       have:=HDs.out D h;have:=HDD.out;omega
     ·refine⟨HF.out.2.2.2.2.2.1.1,?_⟩
      rcases HF.out.2.2.2.2.2.1.2 with h1|⟨g,cap,cur,h1,h2,h3,h4⟩
      ·exact .inl h1
      ·cases h1
       exact .inr ⟨gp,_,cur,rfl,h2,((HKP.out gp HGP.out.1).trans (HN2.out.2.2.2.block gp HGP.out.2)).trans h3,h4⟩
     ·intro r hr e
      cases e
      exact HQ.out.2.2.2.1 _ hr HGP.out.1
     ·exact zr HF.out.2.2.2.2.2.2.2 (zr HN2.out.2.2.2.size HQ.out.2.2.2.2.2.2)
    ·simp[intOf]
     omega
  ·have hjj:Fg p key (E2 (outs p k key)) j=Fg p key (E2 (outs p k key)) (E2 (outs p k key)).length:=by
    congr 1
    omega
   have HE:=zh hjj;have hl40:(Fg p key (E2 (outs p k key)) j).length≤40:=by omega
   have HF:=zh (zi hP (zi hO (zi hI (zi hB hM))));have hsol:=Np (Fg p key (E2 (outs p k key)) j);have HSO:=zh (Ajz w.heap.size _ _ wr hI (by omega));have HCO:Hid (∀W,Cs W w.heap.size v (E2 (Fg p key (E2 (outs p k key)) j))→_):=fun W h=>Ah9 w.heap.size v _ W h (by omega);have hvs:=Ae hI;obtain⟨av,cv,rfl,_⟩:=hvs;have d5:=hO.cell 0;simp only[zI,zJ] at d5;clear hjj hok hl hp4 hP hO hI hB hM hVP hne hsz hsl hol hoo hj4 hb10 hsol;go_wp2_with (first|(go_at_call 209;refine HSO.out.mono ?_;rintro e W2 ⟨rfl,n1,n2⟩;have n3:Bk W2 (w.heap.size+1) 92 _:=HF.out.2.1.grown n2 (HF.out.2.2.1.ne HF.out.2.1 (by decide));have n4:=n3.cell 0;simp only[zI,zJ] at n4;have HN2:=zh (zi n1 n2);clear n1 n2 n3)|(go_at_call 210;refine(HCO.out W2 HN2.out.1).mono ?_;rintro e W3 ⟨v3,rfl,n1,n2⟩;have HN3:=zh (zi n1 n2);clear n1 n2))
   have hg3:wr.grownBy W3 (Value.ownBlock (.slice av (Fg p key (E2 (outs p k key)) j).length cv)):=⟨HN3.out.2.os.trans HN2.out.2.os,HN3.out.2.tape.trans HN2.out.2.tape,HN3.out.2.output.trans HN2.out.2.output,zr HN2.out.2.size HN3.out.2.size,
    fun r h1 h2=>(HN3.out.2.block r (Nat.lt_of_lt_of_le h1 HN2.out.2.size) h2).trans (HN2.out.2.block r h1 h2)⟩
   refine Ic Ds W3 (HF.out.2.2.2.2.grown hg3 fun D hD e=> ?_) fun W4 hs=>⟨_,results_tmp rfl _ _ _,_,rfl,?_,?_⟩
   ·obtain⟨o,ho,hc⟩:=HF.out.2.2.1.cellsAt D e.symm
    rw[(HF.out.2.2.2.2.2 D hD).2] at ho
    cases ho
    cases hc
   ·unfold ofL
    rw[←HE.out];exact hs.own HN3.out.1
   ·exact(Br HF.out.2.2.1 hg3 HF.out.2.2.2.1 (zn _) HF.out.2.2.2.1.size).trans hs.below
def Bn(p:Ab)(x:Int)(key:zN):Int:=if Bc p≠0 then Bc p else if x < 0∨(p.aj.length:Int)≤x then 5 else Be isWord key
theorem Za(p:Ab)(n:Int)(key:zN)(a1 a2 a3:zZ)(c1 c2 c3 lo:Nat)(w:zW)(hv:Env w)(hp:Au w lo w.heap.size a1 a2 a3 p)(hs:Ai p)(h2:key.size≤1048576):
  Calls Tryz.prog 195 #[Ay p a1 a2 a3 c1 c2 c3,.int .i64 n,.string key] w fun e w'=>e= .returned (.int .i64 (Bn p n key))∧Below w.heap.size w w':=by
 have hnl:=hs.aj;have HS:=zh hs;clear hs
 have hbx:=Gm hp c1 c2 c3 26;have hz0:(w.alloc (.cells (zP p a1 a2 a3 c1 c2 c3) 26)).heap.size=w.heap.size+1:=by simp
 unfold Ay;have HV:=zh hv;clear hv hp
 go_enter Tryz.func195,Tryz.ntmps195
 obtain⟨m20,m21,m22⟩:=(hbx _ (zb _ _)).2.1;have HBX:=zh hbx;clear hbx
 go_wp2_with fail
 generalize w.alloc (.cells (zP p a1 a2 a3 c1 c2 c3) 26)=W0 at *;refine(J6 p a1 a2 a3 c1 c2 c3 0 W0 (Ba (HBX.out W0 (zb _ _)).2.2 HV.out) ((HBX.out W0 (zb _ _)).1) HS.out).mono ?_;rintro e W1 ⟨rfl,hB1⟩;have HB1:=zh hB1;clear hB1 m20 m21 m22 hz0
 obtain⟨m20,m21,m22⟩:=(HBX.out _ HB1.out).2.1;by_cases hc:Bc p=0
 ·have b1:(Bc p != 0)=false:=by simp[hc]
  by_cases hn:n < 0∨(p.aj.length:Int)≤n
  ·have HR:Hid (Bn p n key=5):=by
    have:Bn p n key=5:=by simp[Bn,hc,hn]
    exact(this:Bn p n key=5)
   clear hc;by_cases hn0:n < 0
   ·clear hn
    go_wp2_with fail
    go_ret
    exact⟨by rw[HR.out];rfl,(HBX.out _ HB1.out).2.2⟩
   ·have hn1:(p.aj.length:Int)≤n:=by omega
    clear hn;go_wp2_with fail
    go_ret
    exact⟨by rw[HR.out];rfl,(HBX.out _ HB1.out).2.2⟩
  ·have hn0:0≤n:=by omega
   have hn1:n < p.aj.length:=by omega
   have HF:Hid (Bn p n key=Be isWord key):=by
    have:Bn p n key=Be isWord key:=by
     unfold Bn;rw[zq (by simp[hc]),zq hn]
    exact(this:Bn p n key=Be isWord key)
   clear hc hn;go_wp2_with fail
   refine(Pr key W1 (by omega) (Ba (HBX.out _ HB1.out).2.2 HV.out)).mono ?_;rintro e W2 ⟨sa,sc,rfl,_,_,hB2⟩;have HB2:=zm HB1 hB2;clear hB2 m20 m21 m22 HB1
   go_wp2_with fail
   go_ret
   exact⟨by rw[HF.out];rfl,(HBX.out _ HB2.out).2.2⟩
 ·have b1:(Bc p != 0)=true:=by simp[hc]
  have HR:Hid (Bn p n key=Bc p):=by
   have:Bn p n key=Bc p:=by simp[Bn,hc]
   exact(this:Bn p n key=Bc p)
  clear hc;go_wp2_with fail
  go_ret
  exact⟨by rw[HR.out];rfl,(HBX.out _ HB1.out).2.2⟩
theorem Cs.lower{w:zW}{b b':Nat}{v:Value}{xs:List Int}(h:Cs w b v xs)(hb:b'≤b):Cs w b' v xs:=by
 refine⟨h.1,?_⟩;rcases h.2 with h1|⟨g,cap,cur,h1,h2,h3⟩
 ·exact .inl h1
 ·exact .inr ⟨g,cap,cur,h1,by omega,h3⟩
theorem Hr{p:Ab}{x:Int}{key:zN}(h:Bn p x key=0):B8 p∧∃k:Nat,x=k∧k < p.aj.length∧Be isWord key=0:=by
 unfold Bn at h
 split at h
 ·exact absurd h (by assumption)
 ·rename_i h1
  split at h
  ·cases h
  ·rename_i h2
   obtain⟨k,rfl⟩:=Int.eq_ofNat_of_zero_le (show 0≤x by omega);exact⟨Cp (by simpa using h1),k,rfl,by omega,h⟩
def Cx(p:Ab)(x:Int)(key:zN):List Int:=if Bn p x key=0 then ofL p x key else []
theorem O8(p:Ab)(n:Int)(key:zN)(a1 a2 a3:zZ)(c1 c2 c3:Nat)(w:zW)(hv:Env w)(hp:Au w 0 w.heap.size a1 a2 a3 p)(hs:Ai p)(h2:key.size≤1048576):
  Calls Tryz.prog 168 #[Ay p a1 a2 a3 c1 c2 c3,.int .i64 n,.string key] w fun e w'=>∃v,e= .returned (.tuple #[v,.int .i64 (Bn p n key)])∧Cs w' w.heap.size v (Cx p n key)∧Below w.heap.size w w':=by
 have HS:=zh hs;clear hs
 have hbx:=Gm hp c1 c2 c3 26;have hz0:(w.alloc (.cells (zP p a1 a2 a3 c1 c2 c3) 26)).heap.size=w.heap.size+1:=by simp
 unfold Ay;have HP:=zh hp;have HV:=zh hv;clear hv hp
 go_enter Tryz.func168,Tryz.ntmps168
 obtain⟨m20,m21,m22⟩:=(hbx _ (zb _ _)).2.1;have HBX:=zh hbx;clear hbx
 go_wp2_with fail
 generalize w.alloc (.cells (zP p a1 a2 a3 c1 c2 c3) 26)=W0 at *;have HAS:=zh (Za p n key a1 a2 a3 c1 c2 c3 0 W0 (Ba (HBX.out W0 (zb _ _)).2.2 HV.out) ((HBX.out W0 (zb _ _)).1) HS.out h2);unfold Ay at HAS;refine HAS.out.mono ?_;clear HAS;rintro e W1 ⟨rfl,hB1⟩;have HB1:=zh hB1;clear hB1 m20 m21 m22 hz0
 obtain⟨⟨m20,m21,m22⟩,hb1⟩:=(HBX.out _ HB1.out).2;by_cases hc:Bn p n key=0
 ·have b1:(Bn p n key != 0)=false:=by simp[hc]
  have HR:Hid (Cx p n key=ofL p n key∧Bn p n key=0):=⟨by simp[Cx,hc],hc⟩;obtain⟨hr,k,rfl,hk,_⟩:=Hr hc;clear hc;have HW:=zh hb1;have HCP:=zh (Aml p k key a1 a2 a3 c1 c2 c3 w.heap.size W1 hk hr h2 HS.out (Au.keep' HP.out fun q hq=>hb1.cell (p:=q) hq) ((Og.mk' HV.out).keep fun q hq=>hb1.cell (p:=q) hq) hb1.size);clear hb1;go_wp2_with (go_at_call 196;refine HCP.out.mono ?_;rintro e W2 ⟨v,rfl,n1,n2⟩;have HN:=zh (zi n1 n2);clear n1 n2)
  go_ret2
  refine⟨v,by rw[HR.out.2];rfl,?_,HW.out.trans (HN.out.2.mono HW.out.size)⟩;rw[HR.out.1];exact Cs.lower HN.out.1 HW.out.size
 ·have b1:(Bn p n key != 0)=true:=by simp[hc]
  have HR:Hid (Cx p n key=[]):=by
   have:Cx p n key=[]:=by simp[Cx,hc]
   exact(this:Cx p n key=[])
  have HW:=zh hb1;clear hc hb1;go_wp2_with fail
  go_ret2
  exact⟨_,rfl,by rw[HR.out];exact World.ownsRow_nil _ _ _ _,HW.out⟩
abbrev Road:=Int×List Int
def stepW(l:List Int)(s:List Int×List Road)(y:Nat×B9):List Int×List Road:=
 if y.2.cd=true∧y.2.to∉s.1 then (s.1++[y.2.to],s.2++[(y.2.to,l++[(y.1:Int)])]) else s
structure Rn (p:Ab) (n:Nat) (s:List Int×List Road):Prop where
 ok:Rm p s.1
 len:s.1.length=n+s.2.length
 at_:∀r∈s.2,0≤r.1∧r.1 < (p.aj.length:Int)
theorem Rn.step{p:Ab}(hr:B8 p){n:Nat}{s:List Int×List Road}(h:Rn p n s){l:List Int}{y:Nat×B9}(hy:y.2∈p.binds):Rn p n (stepW l s y):=by
 have hb:=hr.bind _ hy;unfold stepW
 split
 ·rename_i hc
  rw[zp hc.1] at hb;refine⟨?_,?_,fun r hr'=> ?_⟩
  ·have:=h.ok.add hr (y:=y) hy
   rwa [J0,zp hc] at this
  ·have:=h.len
   simp only[ze,List.length_cons,List.length_nil];omega
  ·rcases List.mem_append.1 hr' with h'|h'
   ·exact h.at_ r h'
   ·obtain rfl:r=(y.2.to,l++[(y.1:Int)]):=by simpa using h'
    exact⟨hb.2.2.1,hb.2.2.2⟩
 ·exact h
open Go Go.RowKit
def Ox:Code→List Code
 | .loop c=>[c]
 | .seq a b=>Ox a++Ox b
 | .block _ c=>Ox c
 | .scope c=>Ox c
 | .cond _ a b=>Ox a++Ox b
 |_=>[]
noncomputable def It(f:Func)(n:Nat):Code:=((f.body.map Ox).getD []).getD n .skip
noncomputable def Alt(c:Code)(n:Nat):Code:=(Ox c).getD n .skip
theorem Ahd{l n:Nat}{P:Program}{row:String}{args:Array Value}{w:zW}{R:Value→zW→Prop}(h:Rows P row args w R):RowsIn (Fence.wide.inRound l) n P row args w R:=
 fun c cs _=>let ⟨v,w',r,s⟩:=h c cs;⟨v,w',r,stepsIn_wide.2 s⟩
def S1(ops:Array Oper):Bool:=ops.all fun o=>match o.op with| .defer _=>false|_=>true
theorem Ajf{ops:Array Oper}(h:S1 ops=true){i:Nat}{o:Oper}(ho:ops[i]? =some o)(c):o.op≠ .defer c:=by
 unfold S1 at h;rw[Array.all_eq_true] at h;obtain⟨hi,rfl⟩:=Array.getElem?_eq_some_iff.1 ho;have:=h i hi;intro e;rw[e] at this
 cases this
theorem Aly{l n i:Nat}{P:Program}{ops:Array Oper}{Q:Exit→Act→zW→Prop}{K:Act→zW→Prop}{a:Act}{w:zW}(hd:S1 ops=true)(hq:¬ LetsOut Q)(h:wpOp P ops Q i K a w):wpOpIn (Fence.wide.inRound l) n P ops Q i K a w:=by
 unfold wpOp at h;unfold wpOpIn
 cases ho:ops[i]? with
 |none=>simp only[ho] at h⊢;exact h
 |some o=>
  simp only[ho] at h⊢
  split
  ·rename_i hw
   rw[zp hw] at h;rcases h with h|h
   ·refine⟨fun f _=>trivial,?_⟩
    unfold Oper.wp at h;rw[Fence.inRound_round,Oper.semAt_some _ _ _ (fun c=>Ajf hd ho c)];generalize (execOp a.eval o).run P w=r at *
    cases r with
    |ok x w'=>
     cases x<;>simp only[Oper.upon,Oper.uponIn] at h⊢ <;>first
      |exact h
      |exact⟨fun h=>(by cases h),(callsIn_wide.2 h).mono fun e w'' he=>(by cases e<;>exact he)⟩
      |exact⟨fun h=>(by cases h),Ahd h⟩
    |halt x w'=>cases x<;>simp only[Oper.upon,Oper.uponIn] at h⊢ <;>exact h
   ·exact absurd h.2 hq
  ·rename_i hw
   rw[zq hw] at h;exact⟨fun f _=>trivial,h⟩
theorem Ze{l n:Nat}{P:Program}{md:Region.Mode}{ops:Array Oper}{Q:Exit→Act→zW→Prop}(hd:S1 ops=true)(hq:¬ LetsOut Q):∀(fuel:Nat)(listed:Array Bool)(a:Act)(w:zW),wpAny P md ops Q fuel listed a w→wpAnyIn (Fence.wide.inRound l) n P md ops Q fuel listed a w
 |0,_,_,_,h=>h
 |fuel+1,_,_,_,h=>⟨h.1,fun i hi=>Aly hd hq (wpOp_mono (fun a' w' h'=>Ze hd hq fuel _ a' w' h') (h.2 i hi))⟩
def RQ1(Q:Exit→Act→zW→Prop):Exit→Act→zW→Prop
 | .normal,a,W=>Q .normal a W
 |_,_,_=>False
theorem RQ1.lets(Q:Exit→Act→zW→Prop):¬ LetsOut (RQ1 Q):=fun⟨_,_,h⟩=>h
theorem RQ1.normal{Q:Exit→Act→zW→Prop}{a:Act}{W:zW}(h:Q .normal a W):RQ1 Q .normal a W:=h
theorem Ag9{l n:Nat}{P:Program}{ops:Array Oper}{Q:Exit→Act→zW→Prop}{S:zW→Prop}{id:Nat}{a:Act}{w:zW}(hm:P.follows .mixedOrders=true)(hd:S1 ops=true)(hS:S w.drew)
  (h:S w.drew→wpAnyH P .any ops (RQ1 Q) S ops.size (Array.replicate ops.size false) a w.drew):(Code.region id ops true).wpIn (Fence.wide.inRound l) n P Q a w:=
 wpIn_mono (wpIn_region_any (Q:=RQ1 Q) hm (Ze hd (RQ1.lets Q) _ _ _ _ (wpAny_of_held _ _ _ _ (h hS)))) fun e a w h=>by cases e<;>first|exact h|exact h.elim
inductive Reach (p:Ab) (key:zN) (k:Int):Int→Prop where
 |start:Reach p key k k
 |step {b:B9} :Reach p key k b.src→b∈p.binds→b.cd=true→byP p b key=true→Reach p key k b.to
theorem onTo_mem'{p:Ab}{key:zN} :∀ {j i:Nat} {b:B9},i < j→p.binds[i]? =some b→byP p b key=true→(i,b)∈I1 p b.src key j
 |j+1,i,b,hi,hb,hf=>by
  rcases Nat.lt_or_ge i j with h|h
  ·exact(Ae0 p b.src key j).subset (onTo_mem' h hb hf)
  ·obtain rfl:i=j:=by omega
   unfold I1;rw[hb];simp only[hf,and_self,if_true];simp
theorem Aa3{p:Ab}{key:zN}{x:Int}{y:Nat×B9} :y∈onL p x key↔p.binds[y.1]? =some y.2∧y.2.src=x∧byP p y.2 key=true:=by
 constructor
 ·exact fun h=>(Ru h).2
 ·rintro⟨h1,rfl,h3⟩
  exact onTo_mem' (List.getElem?_eq_some_iff.1 h1).1 h1 h3
theorem Alx{p:Ab}{key:zN}{b:B9}(h:b∈p.binds)(hf:byP p b key=true):∃i,(i,b)∈onL p b.src key:=by
 obtain⟨i,hi⟩:=List.getElem?_of_mem h;exact⟨i,Aa3.2 ⟨hi,rfl,hf⟩⟩
theorem Aow{out:List Int}{y:Nat×B9}{z:Int} :z∈J0 out y↔z∈out∨(y.2.cd=true∧y.2.to=z):=by
 unfold J0
 split
 ·rename_i h
  rw[List.mem_append,List.mem_singleton];exact⟨fun h1=>h1.imp id fun e=>⟨h.1,e.symm⟩,fun h1=>h1.imp id fun e=>e.2.symm⟩
 ·rename_i h
  constructor
  ·exact .inl
  ·rintro(h1|⟨h1,rfl⟩)
   ·exact h1
   ·exact Decidable.byContradiction fun h2=>h ⟨h1,h2⟩
theorem Vh{z:Int} :∀ {bs:List (Nat×B9)} {out:List Int},z∈cw out bs↔z∈out∨∃y∈bs,y.2.cd=true∧y.2.to=z
 | [],out=>by simp[cw]
 |y::bs,out=>by
  show z∈cw (J0 out y) bs↔_
  rw[Vh,Aow];simp only[List.mem_cons,exists_eq_or_imp];exact or_assoc
theorem Af3(out:List Int)(y:Nat×B9):out <+:J0 out y:=by
 unfold J0
 split
 ·exact List.prefix_append _ _
 ·exact List.prefix_rfl
theorem Uw:∀(bs:List (Nat×B9))(out:List Int),out <+:cw out bs
 | [],_=>List.prefix_rfl
 |y::bs,out=>(Af3 out y).trans (Uw bs _)
theorem Xi(p:Ab)(k:Int)(key:zN)(j:Nat):outAt p k key j <+:outAt p k key (j+1):=by
 show _ <+:(match (outAt p k key j)[j]? with|some x=>cw (outAt p k key j) (onL p x key)|none=>outAt p k key j)
 split
 ·exact Uw _ _
 ·exact List.prefix_rfl
theorem Oy(p:Ab)(k:Int)(key:zN):∀j,∀x∈outAt p k key j,Reach p key k x
 |0,x,h=>by
  obtain rfl:x=k:=by simpa [outAt] using h
  exact .start
 |j+1,x,h=>by
  unfold outAt at h
  split at h
  ·rename_i z hz
   rcases Vh.1 h with h|⟨y,hy,h1,rfl⟩
   ·exact Oy p k key j x h
   ·obtain⟨h2,h3,h4⟩:=Aa3.1 hy
    refine .step ?_ (List.mem_of_getElem? h2) h1 h4;rw[h3];exact Oy p k key j z (List.mem_of_getElem? hz)
  ·exact Oy p k key j x h
theorem Xh(p:Ab)(k:Int)(key:zN):∀(j i:Nat)(x:Int),i < j→(outAt p k key j)[i]? =some x→∀y∈onL p x key,y.2.cd=true→y.2.to∈outAt p k key j
 |j+1,i,x,hi,hx,y,hy,hp=>by
  have hpre:=Xi p k key j;rcases Nat.lt_or_ge i (outAt p k key j).length with hl|hl
  ·have hx':(outAt p k key j)[i]? =some x:=by
    obtain⟨t,ht⟩:=hpre;rw[←ht,List.getElem?_append_left hl] at hx;exact hx
   rcases Nat.lt_or_ge i j with h|h
   ·exact hpre.subset (Xh p k key j i x h hx' y hy hp)
   ·obtain rfl:i=j:=by omega
    show _∈(match (outAt p k key i)[i]? with|some x=>cw (outAt p k key i) (onL p x key)|none=>outAt p k key i)
    rw[hx'];exact Vh.2 (.inr ⟨y,hy,hp,rfl⟩)
  ·exfalso
   have:outAt p k key (j+1)=outAt p k key j:=S2 (j:=j) (by omega) 1;rw[this,List.getElem?_eq_none hl] at hx
   cases hx
theorem Zz{p:Ab}(hr:B8 p){k:Nat}(hk:k < p.aj.length){key:zN}{x:Int} :x∈outs p k key↔Reach p key k x:=by
 constructor
 ·exact Oy p k key _ x
 ·intro h
  induction h with
  |start=>
   have:∀j,outAt p k key 0 <+:outAt p k key j:=fun j=>by
    induction j with
    |zero=>exact List.prefix_rfl
    |succ j ih=>exact ih.trans (Xi p k key j)
   exact(this _).subset (by simp[outAt])
  | @step b h1 h2 h3 h4 ih=>
   obtain⟨i,hi⟩:=Alx h2 h4;obtain⟨m,hm⟩:=List.getElem?_of_mem ih;have hl:=(N5 hr hk p.aj.length (key:=key)).len;have hml:=(List.getElem?_eq_some_iff.1 hm).1;exact Xh p k key _ m _ (Nat.lt_of_lt_of_le hml hl) hm _ hi h3
theorem U8{l r:List Int}(hl:l.Pairwise (· < ·))(hr:r.Pairwise (· < ·))(h:∀x,x∈l↔x∈r):l=r:=by
 have nd:∀ {l:List Int},l.Pairwise (· < ·)→l.Nodup:=fun h=>h.imp fun h=>by omega
 have hp:l.Perm r:=(List.perm_ext_iff_of_nodup (nd hl) (nd hr)).2 h;exact hp.eq_of_pairwise (fun a b _ _ h1 h2=>by omega) hl hr
theorem Acv(zs:List Int):(E2 zs).Pairwise (· ≤ ·):=by
 have:=List.pairwise_mergeSort (le:=fun x y:Int=>decide (x≤y)) (fun a b c h1 h2=>by simp only[zd] at *;omega) (fun a b=>by simp only[Bool.or_eq_true,zd];omega) zs;exact this.imp fun h=>by simpa using h
theorem Yy{zs:List Int}(h:zs.Nodup):(E2 zs).Pairwise (· < ·):=by
 have h1:=Acv zs;have h2:(E2 zs).Nodup:=(List.mergeSort_perm zs _).nodup_iff.2 h;exact(h1.and h2).imp fun⟨h,k⟩=>by omega
section
open Go.Lib
theorem Zm{zs:List Int}(h:zs.Pairwise (· ≤ ·)){x:Int} :x∈compact zs↔x∈zs:=by
 have key:∀m,m≤zs.length→(x∈compactUpTo zs.toArray m↔x∈zs.take m):=by
  intro m
  induction m with
  |zero=>intro _;simp[compactUpTo]
  |succ m ih=>
   intro hm;have hm':m < zs.toArray.size:=by simp;omega
   rw[compactUpTo_succ,List.mem_append,ih (by omega),zj (by omega),List.mem_append,List.mem_singleton,getElem!_pos _ m hm'];by_cases hk:keeps zs.toArray m=true
   ·rw[zp hk];simp
   ·rw[zq hk]
    unfold keeps at hk;simp only[zd,not_or,Decidable.not_not] at hk;obtain⟨h0,h1⟩:=hk;rw[getElem!_pos _ m hm',getElem!_pos _ (m - 1) (by simp;omega)] at h1;simp only[zD] at h1⊢;simp only[List.not_mem_nil,or_false]
    constructor
    ·exact .inl
    ·rintro(h2|rfl)
     ·exact h2
     ·rw[h1]
      rw[List.mem_take_iff_getElem];exact⟨m - 1,by omega,rfl⟩
 have:=key zs.length (zn _);rwa [List.take_length] at this
theorem Zl{zs:List Int}(h:zs.Pairwise (· ≤ ·)):(compact zs).Pairwise (· < ·):=by
 have key:∀m,m≤zs.length→(compactUpTo zs.toArray m).Pairwise (· < ·)∧∀x∈compactUpTo zs.toArray m,∀hm:0 < m,∃hz:m - 1 < zs.length,x≤zs[m - 1]:=by
  intro m
  induction m with
  |zero=>intro _;simp[compactUpTo]
  |succ m ih=>
   intro hm;have hm':m < zs.toArray.size:=by simp;omega
   obtain⟨h1,h2⟩:=ih (by omega);rw[compactUpTo_succ,getElem!_pos _ m hm'];simp only[zD,Nat.add_sub_cancel];have hlast:∀x∈compactUpTo zs.toArray m,x≤zs[m]:=fun x hx=>by
    rcases Nat.eq_zero_or_pos m with rfl|h0
    ·simp[compactUpTo] at hx
    ·obtain⟨hz,hle⟩:=h2 x hx h0
     have:=List.pairwise_iff_getElem.1 h (m - 1) m hz (by omega) (by omega);omega
   by_cases hk:keeps zs.toArray m=true
   ·rw[zp hk]
    refine⟨List.pairwise_append.2 ⟨h1,by simp,fun a ha b hb=> ?_⟩,fun x hx _=>⟨by omega,?_⟩⟩
    ·obtain rfl:b=zs[m]:=by simpa using hb
     have h3:0 < m:=by
      rcases Nat.eq_zero_or_pos m with rfl|h0
      ·simp[compactUpTo] at ha
      ·exact h0
     obtain⟨hz,hle⟩:=h2 a ha h3;have hle2:=List.pairwise_iff_getElem.1 h (m - 1) m hz (by omega) (by omega);unfold keeps at hk;simp only[zd] at hk;rw[getElem!_pos _ m hm',getElem!_pos _ (m - 1) (by simp;omega)] at hk;simp only[zD] at hk;omega
    ·rcases List.mem_append.1 hx with hx|hx
     ·exact hlast x hx
     ·obtain rfl:x=zs[m]:=by simpa using hx
      omega
   ·rw[zq hk,List.append_nil]
    exact⟨h1,fun x hx _=>⟨by omega,hlast x hx⟩⟩
 exact(key zs.length (zn _)).1
end
theorem Zk{z:Int} :∀ {bs:List (Nat×B9)} {out:List Int},z∈Fh out bs↔z∈out∨∃y∈bs,y.2.cd=false∧y.2.to=z
 | [],out=>by simp[Fh]
 |y::bs,out=>by
  show z∈Fh (Ie out y) bs↔_
  rw[Zk];have:z∈Ie out y↔z∈out∨(y.2.cd=false∧y.2.to=z):=by
   unfold Ie
   cases y.2.cd<;>simp[eq_comm]
  rw[this];simp only[List.mem_cons,exists_eq_or_imp];exact or_assoc
theorem Aez(p:Ab)(key:zN)(ps:List Int)(z:Int):∀j,j≤ps.length→(z∈Fg p key ps j↔∃x∈ps.take j,∃y∈onL p x key,y.2.cd=false∧y.2.to=z)
 |0,_=>by simp[Fg]
 |j+1,hj=>by
  have hj':j < ps.length:=by omega
  unfold Fg;rw[zG hj',zj hj'];simp only;rw[Zk,Aez p key ps z j (by omega)];simp only[List.mem_append,List.mem_singleton,or_and_right,exists_or,exists_eq_left]
theorem Y7{p:Ab}(hr:B8 p){k:Nat}(hk:k < p.aj.length){key:zN}{z:Int} :z∈ofL p k key↔∃b∈p.binds,b.cd=false∧b.to=z∧byP p b key=true∧Reach p key k b.src:=by
 unfold ofL;rw[Zm (Acv _),Ll,Aez _ _ _ _ _ (zn _),List.take_length]
 constructor
 ·rintro⟨x,hx,y,hy,h1,h2⟩
  obtain⟨h3,h4,h5⟩:=Aa3.1 hy;exact⟨y.2,List.mem_of_getElem? h3,h1,h2,h5,by rw[h4];exact(Zz hr hk).1 (Ll.1 hx)⟩
 ·rintro⟨b,hb,h1,h2,h3,h4⟩
  obtain⟨i,hi⟩:=Alx hb h3;exact⟨b.src,Ll.2 ((Zz hr hk).2 h4),(i,b),hi,h1,h2⟩
theorem T8(p:Ab)(k:Int)(key:zN):(ofL p k key).Pairwise (· < ·):=Zl (Acv _)
theorem Aam{p:Ab}(hr:B8 p){k:Nat}(hk:k < p.aj.length){key:zN}{z:Int}(h:z∈ofL p k key):0≤z∧z < (p.ag.length:Int):=by
 obtain⟨b,hb,h1,rfl,_⟩:=(Y7 hr hk).1 h;have:=hr.bind _ hb;rw[h1] at this;simp only[Bool.false_eq_true,if_false] at this;omega
def Jh(f:Nat→Bool)(n:Nat):List Int:=((List.range n).filter f).map fun(i:Nat)=>(i:Int)
theorem Acg(f:Nat→Bool)(n:Nat):Jh f (n+1)=if f n=true then Jh f n++[(n:Int)] else Jh f n:=by
 unfold Jh;rw[List.range_succ,List.filter_append,List.map_append]
 split<;>rename_i h<;>simp[h]
theorem Ae9(f:Nat→Bool)(n:Nat):(Jh f n).Pairwise (· < ·):=by
 unfold Jh;rw[List.pairwise_map];exact(List.pairwise_lt_range.filter _).imp fun h=>by omega
theorem Afa{f:Nat→Bool}{n:Nat}{x:Int} :x∈Jh f n↔∃i:Nat,i < n∧f i=true∧x=(i:Int):=by
 unfold Jh;simp only[List.mem_map,List.mem_filter,List.mem_range];exact⟨fun⟨i,⟨h1,h2⟩,h3⟩=>⟨i,h1,h2,h3.symm⟩,fun⟨i,h1,h2,h3⟩=>⟨i,⟨h1,h2⟩,h3.symm⟩⟩
theorem Yu(f:Nat→Bool)(n:Nat):(Jh f n).length≤n:=by
 unfold Jh;rw[List.length_map];exact zr (List.length_filter_le _ _) (by simp)
def G6(p:Ab)(key:zN)(l:List Bool)(b:B9):List Bool:=
 if b.cd=true∧(l[b.src.toNat]?).getD false=true∧byP p b key=true then l.set b.to.toNat true else l
def Ea(p:Ab)(key:zN)(l:List Bool)(j:Nat):List Bool:=(p.binds.take j).foldl (G6 p key) l
def Dz(p:Ab)(key:zN)(k:Nat):Nat→List Bool
 |0=>(List.replicate p.aj.length false).set k true
 |r+1=>Ea p key (Dz p key k r) p.binds.length
theorem Aha{p:Ab}{key:zN}{l:List Bool}{j:Nat}{b:B9}(h:p.binds[j]? =some b):Ea p key l (j+1)=G6 p key (Ea p key l j) b:=by
 obtain⟨hj,rfl⟩:=List.getElem?_eq_some_iff.1 h;unfold Ea;rw[zj hj,List.foldl_append];rfl
theorem Ap2(p:Ab)(key:zN)(l:List Bool)(b:B9):(G6 p key l b).length=l.length:=by
 unfold G6
 split<;>simp
theorem Ael(p:Ab)(key:zN):∀(bs:List B9)(l:List Bool),(bs.foldl (G6 p key) l).length=l.length
 | [],l=>rfl
 |b::bs,l=>by rw[List.foldl_cons,Ael p key bs,Ap2]
theorem Z8(p:Ab)(key:zN)(l:List Bool)(j:Nat):(Ea p key l j).length=l.length:=Ael p key _ l
theorem Mq(p:Ab)(key:zN)(k r:Nat):(Dz p key k r).length=p.aj.length:=by
 induction r with
 |zero=>simp[Dz]
 |succ r ih=>rw[Dz,Z8,ih]
theorem Afi:∀(l:List Bool)(i:Nat),l.set i true=l∨l.count true < (l.set i true).count true
 | [],i=> .inl rfl
 |b::l,0=>by
  cases b
  ·right;simp
  ·left;rfl
 |b::l,i+1=>by
  rcases Afi l i with h|h
  ·left;rw[zC,h]
  ·right;rw[zC,List.count_cons,List.count_cons];omega
theorem Ai8(p:Ab)(key:zN)(l:List Bool)(b:B9):G6 p key l b=l∨l.count true < (G6 p key l b).count true:=by
 unfold G6
 split
 ·exact Afi l _
 ·exact .inl rfl
theorem Sq(p:Ab)(key:zN):∀(bs:List B9)(l:List Bool),(bs.foldl (G6 p key) l=l∧∀b∈bs,G6 p key l b=l)∨l.count true < (bs.foldl (G6 p key) l).count true
 | [],l=> .inl ⟨rfl,fun b h=>by cases h⟩
 |b::bs,l=>by
  rw[List.foldl_cons];rcases Ai8 p key l b with h|h
  ·rw[h]
   rcases Sq p key bs l with⟨h1,h2⟩|h1
   ·exact .inl ⟨h1,fun c hc=>by
     rcases List.mem_cons.1 hc with rfl|hc
     ·exact h
     ·exact h2 c hc⟩
   ·exact .inr h1
  ·right
   rcases Sq p key bs (G6 p key l b) with⟨h1,_⟩|h1
   ·rw[h1];exact h
   ·omega
theorem Xo(p:Ab)(key:zN)(k:Nat)(hk:k < p.aj.length):∀r,(∀b∈p.binds,G6 p key (Dz p key k r) b=Dz p key k r)∨r+1≤(Dz p key k r).count true
 |0=>by
  right
  have:(Dz p key k 0)[k]? =some true:=by simp[Dz,hk]
  have:=List.mem_of_getElem? this;have:=List.count_pos_iff.2 this;omega
 |r+1=>by
  have hs:Dz p key k (r+1)=p.binds.foldl (G6 p key) (Dz p key k r):=by
   show Ea _ _ _ _=_
   rw[Ea,List.take_length]
  rcases Sq p key p.binds (Dz p key k r) with⟨h1,h2⟩|h1
  ·left
   rw[hs,h1];exact h2
  ·rcases Xo p key k hk r with h|h
   ·left
    have h3:∀(bs:List B9),(∀b∈bs,G6 p key (Dz p key k r) b=Dz p key k r)→bs.foldl (G6 p key) (Dz p key k r)=Dz p key k r:=by
     intro bs
     induction bs with
     |nil=>intro _;rfl
     |cons b bs ih=>intro h;rw[List.foldl_cons,h b List.mem_cons_self];exact ih fun c hc=>h c (List.mem_cons_of_mem _ hc)
    rw[hs,h3 _ h];exact h
   ·right
    rw[hs];omega
theorem Ajs(p:Ab)(key:zN)(k:Nat)(hk:k < p.aj.length):∀b∈p.binds,G6 p key (Dz p key k p.aj.length) b=Dz p key k p.aj.length:=by
 rcases Xo p key k hk p.aj.length with h|h
 ·exact h
 ·have h1:=List.count_le_length (a:=true) (l:=Dz p key k p.aj.length)
  rw[Mq] at h1;omega
theorem Zs{p:Ab}(hr:B8 p){key:zN}{k:Int} :∀(bs:List B9)(l:List Bool),(∀b∈bs,b∈p.binds)→(∀i:Nat,l[i]? =some true→Reach p key k i)→∀i:Nat,(bs.foldl (G6 p key) l)[i]? =some true→Reach p key k i
 | [],l,_,h,i,hi=>h i hi
 |b::bs,l,hb,h,i,hi=>by
  refine Zs hr bs (G6 p key l b) (fun c hc=>hb c (List.mem_cons_of_mem _ hc)) (fun j hj=> ?_) i hi;unfold G6 at hj
  split at hj
  ·rename_i hc
   obtain⟨h1,h2,h3⟩:=hc;have hbb:=hb b List.mem_cons_self;have hbr:=hr.bind b hbb;rw[zp h1] at hbr;by_cases e:b.to.toNat=j
   ·have e':(j:Int)=b.to:=by omega
    rw[e'];refine .step ?_ hbb h1 h3;have:=h b.src.toNat (by
     cases hx:l[b.src.toNat]? with
     |none=>rw[hx] at h2;cases h2
     |some v=>rw[hx] at h2;simp at h2;rw[h2])
    rwa [show((b.src.toNat:Nat):Int)=b.src by omega] at this
   ·rw[List.getElem?_set_ne e] at hj
    exact h j hj
  ·exact h j hj
theorem U3{p:Ab}(hr:B8 p){key:zN}{k:Nat} :∀(r i:Nat),(Dz p key k r)[i]? =some true→Reach p key k i
 |0,i,h=>by
  rw[Dz,List.getElem?_set] at h
  split at h
  ·rename_i e;subst e;exact .start
  ·rw[List.getElem?_replicate] at h
   split at h<;>cases h
 |r+1,i,h=>by
  rw[Dz,Ea,List.take_length] at h;exact Zs hr p.binds _ (fun b hb=>hb) (U3 hr r) i h
theorem Adu(p:Ab)(key:zN)(k:Nat)(hk:k < p.aj.length):∀r,(Dz p key k r)[k]? =some true:=by
 have keep:∀(bs:List B9)(l:List Bool)(i:Nat),l[i]? =some true→(bs.foldl (G6 p key) l)[i]? =some true:=by
  intro bs
  induction bs with
  |nil=>intro l i h;exact h
  |cons b bs ih=>
   intro l i h;rw[List.foldl_cons];refine ih _ i ?_;unfold G6
   split
   ·rw[List.getElem?_set]
    split
    ·rename_i e;subst e
     rw[zp (List.getElem?_eq_some_iff.1 h).1]
    ·exact h
   ·exact h
 intro r
 induction r with
 |zero=>simp[Dz,hk]
 |succ r ih=>exact keep _ _ _ ih
theorem Adt{p:Ab}(hr:B8 p){key:zN}{k:Nat}(hk:k < p.aj.length){x:Int}(h:Reach p key k x):0≤x∧(Dz p key k p.aj.length)[x.toNat]? =some true:=by
 induction h with
 |start=>exact⟨by omega,Adu p key k hk _⟩
 | @step b h1 h2 h3 h4 ih=>
  have hbr:=hr.bind b h2;rw[zp h3] at hbr;have hf:=Ajs p key k hk b h2;unfold G6 at hf;rw[zp ⟨h3,by rw[ih.2];rfl,h4⟩] at hf;refine⟨by omega,?_⟩;rw[←hf,List.getElem?_set,zp rfl,zp (by rw[Mq];omega)]
def Lv(p:Ab)(key:zN)(k:Nat):List Int:=Jh (fun i=>((Dz p key k p.aj.length)[i]?).getD false) p.aj.length
theorem Apq{o:Option Bool}(h:o.getD false=true):o=some true:=by
 cases o with
 |none=>cases h
 |some v=>simp at h;rw[h]
theorem Re{p:Ab}(hr:B8 p){key:zN}{k:Nat}(hk:k < p.aj.length){x:Int} :x∈Lv p key k↔Reach p key k x:=by
 unfold Lv;rw[Afa]
 constructor
 ·rintro⟨i,h1,h2,rfl⟩
  exact U3 hr _ i (Apq h2)
 ·intro h
  obtain⟨h1,h2⟩:=Adt hr hk h;have h3:=(List.getElem?_eq_some_iff.1 h2).1;rw[Mq] at h3;exact⟨x.toNat,h3,by rw[h2];rfl,by omega⟩
def Ff(p:Ab)(key:zN)(ps:List Int)(q:Nat)(b:B9):Bool:= !b.cd && decide (b.to=(q:Int)) && ps.contains b.src && byP p b key
def Rx(p:Ab)(key:zN)(k:Nat):List Int:=Jh (fun q=>p.binds.any (Ff p key (Lv p key k) q)) p.ag.length
theorem Ud{p:Ab}(hr:B8 p){key:zN}{k:Nat}(hk:k < p.aj.length):Rx p key k=ofL p k key:=by
 refine U8 (Ae9 _ _) (T8 _ _ _) fun x=> ?_;unfold Rx;rw[Afa]
 constructor
 ·rintro⟨i,h1,h2,rfl⟩
  rw[List.any_eq_true] at h2;obtain⟨b,hb,h3⟩:=h2;unfold Ff at h3;simp only[zc,Bool.not_eq_true',zd,List.contains_iff_mem] at h3;obtain⟨⟨⟨h4,h5⟩,h6⟩,h7⟩:=h3;exact(Y7 hr hk).2 ⟨b,hb,h4,h5,h7,(Re hr hk).1 h6⟩
 ·intro h
  have hl:=Aam hr hk h;obtain⟨b,hb,h1,h2,h3,h4⟩:=(Y7 hr hk).1 h;refine⟨x.toNat,by omega,?_,by omega⟩;rw[List.any_eq_true];refine⟨b,hb,?_⟩;unfold Ff;simp only[zc,Bool.not_eq_true',zd,List.contains_iff_mem];exact⟨⟨⟨h1,by omega⟩,(Re hr hk).2 h4⟩,h3⟩
theorem Nh{w:zW}{lo hi:Nat}{a:zZ}{xs:List Int}(h:Sl w lo hi a (xs.map (Value.int .i64))){k:Nat}(hk:k < xs.length):∃b o,a=some ⟨b,o,none⟩∧b < hi∧w.cell? ⟨b,o+k,none⟩=some (.int .i64 xs[k]):=by
 obtain⟨b,o,rfl,_,h2,hc⟩:=h.at_ (by simpa using hk);exact⟨b,o,rfl,h2,hc k _ (by simp[hk])⟩
theorem Nb{w:zW}{base n c:Nat}{a:zZ}{xs:List Int}(h:Cs w base (.slice a n c) xs):n=xs.length∧Sl w 0 w.heap.size a (xs.map (Value.int .i64)):=by
 have hn:n=xs.length:=by
  rcases h.2 with⟨h1,h2⟩|⟨g,cap,cur,h1,_⟩
  ·simp only[Value.slice.injEq] at h1;omega
  ·simp only[Value.slice.injEq] at h1;omega
 subst hn;exact⟨rfl,(Sl.cu (n:=xs.length) h).wider (Nat.zero_le _) (zn _)⟩
theorem Iu{l:List Int}(h:l.Pairwise (· < ·)):E2 l=l:=
 U8 (Yy (h.imp fun h=>by omega)) h fun x=>Ll
theorem Mh{l:List Int}(h:l.Pairwise (· < ·)):Lib.compact l=l:=
 U8 (Zl (h.imp fun h=>by omega)) h fun x=>Zm (h.imp fun h=>by omega)
theorem Kq(p:Ab)(b:B9)(key:zN):byP p b key=if Ab4 p b=1 then (b.pattern.data.toList == key.data.toList) else if Ab4 p b=3 then Eb (G8 b.pattern.data.toList) (G8 key.data.toList) else true:=by
 unfold byP byK;rw[Aej,ByteArray.toList_eq,ByteArray.toList_eq]
abbrev kXY:zN:=⟨#[120,46,121]⟩
theorem Azm:onL Ac 0 kXY=[(0,⟨0,false,0,⟨#[120,46,35]⟩⟩),(1,⟨0,true,1,⟨#[42,46,121]⟩⟩)]:=by
 have h0:byP Ac ⟨0,false,0,⟨#[120,46,35]⟩⟩ kXY=true:=by rw[Kq];decide
 have h1:byP Ac ⟨0,true,1,⟨#[42,46,121]⟩⟩ kXY=true:=by rw[Kq];decide
 have e:Ac.binds=[⟨0,false,0,⟨#[120,46,35]⟩⟩,⟨0,true,1,⟨#[42,46,121]⟩⟩,⟨1,false,1,⟨#[35]⟩⟩,⟨1,true,0,⟨#[35]⟩⟩,⟨2,false,2,⟨#[120,46,121]⟩⟩]:=rfl;unfold onL;simp[I1,e,h0,h1]
theorem Atv(key:zN):onL Ac 1 key=[(2,⟨1,false,1,⟨#[35]⟩⟩),(3,⟨1,true,0,⟨#[35]⟩⟩)]:=by
 have h0:byP Ac ⟨1,false,1,⟨#[35]⟩⟩ key=true:=by rw[Kq];rfl
 have h1:byP Ac ⟨1,true,0,⟨#[35]⟩⟩ key=true:=by rw[Kq];rfl
 have e:Ac.binds=[⟨0,false,0,⟨#[120,46,35]⟩⟩,⟨0,true,1,⟨#[42,46,121]⟩⟩,⟨1,false,1,⟨#[35]⟩⟩,⟨1,true,0,⟨#[35]⟩⟩,⟨2,false,2,⟨#[120,46,121]⟩⟩]:=rfl;unfold onL;simp[I1,e,h0,h1]
theorem Ax8:outs Ac 0 kXY=[0,1]:=by
 have e:Ac.aj.length=3:=rfl;unfold outs;rw[e];simp[outAt,Azm,Atv,cw,J0]
theorem Y6{key:zN}(h:J8 isWord key.data.toList=0):Be isWord key=0:=by rw[Gs,ByteArray.toList_eq,h]
theorem R6:Bn Ac 0 kXY=0:=by
 unfold Bn;rw[zq (by rw[Dy];decide),zq (by decide),Y6 (by decide)]
theorem Q4:Cx Ac 0 kXY=[0,1]:=by
 unfold Cx ofL;rw[zp R6,Ax8,Iu (by decide:([0,1]:List Int).Pairwise (· < ·))];have:Fg Ac kXY [0,1] ([0,1]:List Int).length=[0,1]:=by simp[Fg,Azm,Atv,Fh,Ie]
 rw[this,Iu (by decide),Mh (by decide)]
end Go.Proofs.YtpkneogjdfolaaaGreatDoor
