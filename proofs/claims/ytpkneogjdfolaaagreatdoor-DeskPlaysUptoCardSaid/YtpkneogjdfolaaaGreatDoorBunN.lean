/- Lemmas. -/
import Derived.Test.YtpkneogjdfolaaaGreatDoorBunD
import Derived.StillTailTactics
import Derived.Maps.OwnIn
import Derived.Test.YtpkneogjdfolaaaGreatDoorShelfR
set_option maxHeartbeats 20000000
set_option maxRecDepth 100000
set_option linter.unusedSimpArgs false
set_option linter.unusedVariables false
namespace Go.Proofs.YtpkneogjdfolaaaGreatDoor
open Go.RowKit
def byK(kind:Int)(pat key:zN):Bool:=if kind=1 then (pat.toList == key.toList) else if kind=3 then Adl pat key else true
def Ab4(p:Ab)(b:B9):Int:=match p.aj[b.src.toNat]? with
 |some x=>x.kind
 |none=>0
def byP(p:Ab)(b:B9)(key:zN):Bool:=byK (Ab4 p b) b.pattern key
def fitsAt(p:Ab)(n:Int)(key:zN):Bool:=match p.binds[n.toNat]? with
 |some b=>byP p b key
 |none=>false
theorem Avg(p:Ab)(b:B9)(key:zN)(a1 a2 a3:zZ)(c1 c2 c3 lo:Nat)(w:zW)(hv:Env w)(hp:Sl w lo w.heap.size a1 (p.aj.flatMap I7))(k:Nat)(hk:k < p.aj.length)(_hl:p.aj.length≤4194304)(hb:b.src=k)
  (h1:b.pattern.size≤1048576) (h2:key.size≤1048576):
  Calls Tryz.prog 219 #[Ay p a1 a2 a3 c1 c2 c3,.agg (D5 b).toArray,.string key] w fun e w'=>e= .returned (.bool (byP p b key))∧Below w.heap.size w w':=by
 obtain⟨src,tp,dst,pat⟩:=b;simp only at hb;subst hb;obtain⟨g,o,ha,_,hg,hc⟩:=Bf J9 (by decide) hp hk;subst ha;have hbl:∀o1 o2,Below w.heap.size w ((w.alloc o1).alloc o2):=fun o1 o2=>((zb _ w).alloc (zn _) o1).alloc (by simp) o2;have e1:∀o1 o2,((w.alloc o1).alloc o2).cell? ⟨g,o+k * 2+1,none⟩=some (.int .i64 p.aj[k].kind):=fun o1 o2=>((hbl o1 o2).cell (p:=⟨g,_,none⟩) hg).trans (hc 1 _ rfl);have hby:byP p ⟨k,tp,dst,pat⟩ key=byK p.aj[k].kind pat key:=by
  simp[byP,Ab4,hk]
 have HBY:=zh hby;clear hby hc hp;unfold Ay D5;generalize p.aj[k].kind=kd at *;have hve:∀o1 o2,Env ((w.alloc o1).alloc o2):=fun o1 o2=>Ba (hbl o1 o2) hv;have HVE:=zh hve;have HBL:=zh hbl;clear hve hv hbl;by_cases hk1:kd=1
 ·subst hk1
  have HR:Hid (byP p ⟨k,tp,dst,pat⟩ key=(pat.toList == key.toList)):=HBY.out.trans (by simp[byK]);go_enter Tryz.func219,Tryz.ntmps219
  go_wp2_with fail
  go_ret
  exact⟨by rw[HR.out];rfl,HBL.out _ _⟩
 ·by_cases hk3:kd=3
  ·subst hk3
   have HR:Hid (byP p ⟨k,tp,dst,pat⟩ key=Adl pat key):=HBY.out.trans (by simp[byK]);clear hk1;go_enter Tryz.func219,Tryz.ntmps219
   go_wp2_with fail
   obtain⟨m,hm⟩:=HVE.out (.cells (zP p (some ⟨g,o,none⟩) a2 a3 c1 c2 c3) 26) (.cells #[Value.int .i64 k,.bool tp,.int .i64 dst,.string pat] 83);refine(Aq3 pat key m _ (by omega) (by omega) hm).mono ?_;rintro e w1 ⟨rfl,hb1⟩;have H1:=zh ((HBL.out _ _).trans (hb1.mono (HBL.out _ _).size));clear hb1 hm
   go_wp2_with fail
   go_ret
   exact⟨by rw[HR.out];rfl,H1.out⟩
  ·have HR:Hid (byP p ⟨k,tp,dst,pat⟩ key=true):=HBY.out.trans (by simp[byK,hk1,hk3])
   have b1:(kd == 1)=false:=by simp[hk1]
   have b3:(kd == 3)=false:=by simp[hk3]
   clear hk1 hk3;go_enter Tryz.func219,Tryz.ntmps219
   go_wp2_with fail
   go_ret
   exact⟨by rw[HR.out];rfl,HBL.out _ _⟩
open Go Go.RowKit Go.Shelf
attribute [local go_sem] Oper.semAt_some
def I1(p:Ab)(x:Int)(key:zN):Nat→List (Nat×B9)
 |0=>[]
 |k+1=>match p.binds[k]? with
  |some b=>if b.src=x∧byP p b key=true then I1 p x key k++[(k,b)] else I1 p x key k
  |none=>I1 p x key k
def onL(p:Ab)(x:Int)(key:zN):List (Nat×B9):=I1 p x key p.binds.length
theorem Anx{p:Ab}{x:Int}{key:zN}{j:Nat}(h:j < p.binds.length)(h1:p.binds[j].src=x)(h2:byP p p.binds[j] key=true):I1 p x key (j+1)=I1 p x key j++[(j,p.binds[j])]:=by
 rw[I1,zG h];simp only;rw[zp ⟨h1,h2⟩]
theorem Arc{p:Ab}{x:Int}{key:zN}{j:Nat}(h:j < p.binds.length)(h1:¬ (p.binds[j].src=x∧byP p p.binds[j] key=true)):I1 p x key (j+1)=I1 p x key j:=by
 rw[I1,zG h];simp only;rw[zq h1]
theorem Ae0(p:Ab)(x:Int)(key:zN)(j:Nat):I1 p x key j <+:I1 p x key (j+1):=by
 rw[I1]
 split
 ·split
  ·exact List.prefix_append _ _
  ·exact List.prefix_rfl
 ·exact List.prefix_rfl
theorem Adf(p:Ab)(x:Int)(key:zN){i j:Nat}(h:i≤j):I1 p x key i <+:I1 p x key j:=by
 induction j with
 |zero=>
  obtain rfl:i=0:=by omega
  exact List.prefix_rfl
 |succ j ih=>
  rcases Nat.lt_or_ge j i with h1|h1
  ·obtain rfl:i=j+1:=by omega
   exact List.prefix_rfl
  ·exact(ih h1).trans (Ae0 p x key j)
def KpS(Rd:Nat→Prop)(W W':zW):Prop:=G3 Rd W W'∧W.heap.size≤W'.heap.size
theorem KpS.refl(Rd:Nat→Prop)(W:zW):KpS Rd W W:=⟨G3.refl Rd W,zn _⟩
theorem KpS.trans{Rd:Nat→Prop}{A B C:zW}(h:KpS Rd A B)(k:KpS Rd B C):KpS Rd A C:=⟨h.1.trans k.1,zr h.2 k.2⟩
theorem KpS.below{Rd:Nat→Prop}{W W':zW}{B:Nat}(hR:∀r,Rd r→r < B)(hB:B≤W.heap.size)(h:Below W.heap.size W W'):KpS Rd W W':=
 ⟨fun r hr=>h.block r (by have:=hR r hr;omega),h.size⟩
theorem KpS.bk{Rd:Nat→Prop}{W W':zW}{g:Nat}{t:TypeId}{cs:Array Value}(h:KpS Rd W W')(hg:Rd g)(hb:Bk W g t cs):Bk W' g t cs:=(h.1 g hg).trans hb
def Un(B0 bp bq bk:Nat)(r:Nat):Prop:=r < B0∨r=bp∨r=bq∨r=bk
def A0j(p:Ab)(x:Int)(key:zN)(Rd:Nat→Prop)(W:zW)(J:List (Nat×B9)→zW→Prop)(i:Value)(wr:zW):Prop:=
 ∃j:Nat,j≤p.binds.length∧i= .int .i64 j∧KpS Rd W wr∧J (I1 p x key j) wr
theorem Ak2{wr:zW}{b o k:Nat}{x:B9}(hc:∀j u,(D5 x)[j]? =some u→wr.cell? ⟨b,o+k * 4+j,none⟩=some u):
  zM wr b (o+k * 4) (.int .i64 x.src)∧zM wr b (o+k * 4+1) (.bool x.cd)∧zM wr b (o+k * 4+2) (.int .i64 x.to)∧zM wr b (o+k * 4+3) (.string x.pattern):=⟨hc 0 _ rfl,hc 1 _ rfl,hc 2 _ rfl,hc 3 _ rfl⟩
theorem grown_below'{w w':zW}(h:Below w.heap.size w w')(row:Option Nat):w.grownBy w' row:=⟨h.os,h.tape,h.output,h.size,fun k hk _=>h.block k hk⟩
def Og(B0:Nat)(w:zW):Prop:=Env w∧0 < B0
theorem Og.keep{B0:Nat}{w w':zW}(h:Og B0 w)(hk:∀p:Addr,p.block < B0→w'.cell? p=w.cell? p):Og B0 w':=by
 obtain⟨⟨m,hm⟩,hg⟩:=h;exact⟨⟨m,(hk ⟨0,0,none⟩ hg).trans hm⟩,hg⟩
theorem Og.mk'{w:zW}(h:Env w):Og w.heap.size w:=by
 obtain⟨m,hm⟩:=h;exact⟨⟨m,hm⟩,lt_of_cell hm⟩
theorem Aty(n:Nat)(hn:1≤n)(l:Nat)(p:Ab)(k:Nat)(key:zN)(a1 a2 a3:zZ)(c1 c2 c3 B0 bp bq bk:Nat)(J Jx:List (Nat×B9)→zW→Prop)(W:zW)
  (hk:k < p.aj.length) (hps:Ai p) (hkey:key.size≤1048576) (hP:Bk W bp 26 (zP p a1 a2 a3 c1 c2 c3)) (hQ:Bk W bq 3 #[.int .i64 (k:Int)]) (hK:Bk W bk 9 #[.string key])
  (hpl:Au W 0 B0 a1 a2 a3 p) (hv:Og B0 W) (hB0:B0≤W.heap.size) (hJ:AbidesFrom W.heap.size J)
  (hY:∀pre y W1,y∈onL p k key→J pre W1→pre.length < (onL p k key).length→YieldAt Fence.wide (n - 1) Tryz.prog l #[.int .i64 ((y:Nat×B9).1:Int),.agg (D5 y.2).toArray] W1 fun e W'=>
   (e= .returned (.bool true)∧J (pre++[y]) W'∧KpS (Un B0 bp bq bk) W1 W')∨(e= .returned (.bool false)∧Jx (pre++[y]) W'))
  (h0:J [] W):
  CallsIn Fence.wide n Tryz.prog 218 #[.func (.yield l) #[] #[],zt bp,zt bq,zt bk] W fun e W'=>
   (∃v,e= .returned v)∧((∃xs,xs=onL p k key∧J xs W')∨(∃pre,pre <+:onL p k key∧Jx pre W')):=by
 have HRB:Hid (∀r,Un B0 bp bq bk r→r < W.heap.size):=fun r hr=>by
  have h1:=hP.lt;have h2:=hQ.lt;have h3:=hK.lt;unfold Un at hr;omega
 have HW:Hid (∀wr,KpS (Un B0 bp bq bk) W wr→Bk wr bp 26 (zP p a1 a2 a3 c1 c2 c3)∧Bk wr bq 3 #[.int .i64 (k:Int)]∧Bk wr bk 9 #[.string key]∧Au wr 0 B0 a1 a2 a3 p∧Og B0 wr∧B0≤wr.heap.size):=fun wr h=>by
  have hc:∀q:Addr,q.block < B0→wr.cell? q=W.cell? q:=fun q hq=>h.1.cell (p:=q) (.inl hq);exact⟨h.bk (.inr (.inl rfl)) hP,h.bk (.inr (.inr (.inl rfl))) hQ,h.bk (.inr (.inr (.inr rfl))) hK,⟨hpl.aj.keep hc,hpl.ag.keep hc,hpl.binds.keep hc⟩,hv.keep hc,zr hB0 h.2⟩
 have HY:=zh hY;have HJ:=zh hJ;have HK:=zh hk;have HPS:=zh hps;have hbl:=hps.binds;have m2:=hP.cell 2;rw[show((zP p a1 a2 a3 c1 c2 c3):Array Value)[2]? =some (.slice a3 p.binds.length c3) from rfl] at m2;clear hY hJ hk hP hQ hK hpl hv hB0 hps;refine callsIn_of_wp Tryz.func218 rfl trivial ?_ rfl;simp only[Tryz.ntmps218,List.size_toArray,List.length_cons,List.length_nil,Nat.reduceAdd,Nat.reduceSub,Array.replicate_succ,Array.replicate_zero,List.push_toArray,List.append_toArray,List.nil_append,List.cons_append]
 gi_wp2
 clear m2
 gi_loopw [10] (fun i wr=>A0j p k key (Un B0 bp bq bk) W J i wr) (fun i _=>p.binds.length - (intOf i).toNat)
 case atStart=>exact⟨0,Nat.zero_le _,rfl,KpS.refl _ _,h0⟩
 case round=>
  clear h0;obtain⟨j,hj,rfl,hkp,hjs⟩:=hrel;by_cases hjl:j < p.binds.length
  ·obtain⟨hP,hQ,hK,hpl,hv,hB0⟩:=HW.out _ hkp
   obtain⟨bb,bo,rfl,_,hbb,hcl⟩:=Bf Ia (by decide) hpl.binds hjl;obtain⟨e0,e1,e2,e3⟩:=Ak2 (wr:=wr) hcl;have d0:=hP.cell 0;have d1:=hP.cell 1;have d2:=hP.cell 2;have dq:=hQ.cell 0;have dk:=hK.cell 0;simp only[zI,zJ,zK] at d0 d1 d2 dq dk;have hyes:=Anx (x:=(k:Int)) (key:=key) hjl;have hno:=Arc (x:=(k:Int)) (key:=key) hjl;have hpz:p.binds[j].pattern.size≤1048576:=HPS.out.bind _ (zg hjl);have HYES:=zh hyes;have HNO:=zh hno;have hz:Bk (wr.alloc (.cells #[.int .i64 p.binds[j].src,.bool p.binds[j].cd,.int .i64 p.binds[j].to,.string p.binds[j].pattern] 83)) wr.heap.size 83 #[.int .i64 p.binds[j].src,.bool p.binds[j].cd,.int .i64 p.binds[j].to,.string p.binds[j].pattern]:=Bk.new _ _ _;have z0:=hz.cell 0;have z1:=hz.cell 1;have z2:=hz.cell 2;have z3:=hz.cell 3;have y0:=(hP.alloc (.cells #[.int .i64 p.binds[j].src,.bool p.binds[j].cd,.int .i64 p.binds[j].to,.string p.binds[j].pattern] 83)).cell 0;have y1:=(hP.alloc (.cells #[.int .i64 p.binds[j].src,.bool p.binds[j].cd,.int .i64 p.binds[j].to,.string p.binds[j].pattern] 83)).cell 1;have y2:=(hP.alloc (.cells #[.int .i64 p.binds[j].src,.bool p.binds[j].cd,.int .i64 p.binds[j].to,.string p.binds[j].pattern] 83)).cell 2;have yq:=(hQ.alloc (.cells #[.int .i64 p.binds[j].src,.bool p.binds[j].cd,.int .i64 p.binds[j].to,.string p.binds[j].pattern] 83)).cell 0;have yk:=(hK.alloc (.cells #[.int .i64 p.binds[j].src,.bool p.binds[j].cd,.int .i64 p.binds[j].to,.string p.binds[j].pattern] 83)).cell 0;simp only[zI,zJ,zK] at z0 z1 z2 z3 y0 y1 y2 yq yk;have HZ:=zh hz;clear hz;have HP2:=zh (zi hpl (zi hv hB0));have HKP:=zh hkp;have HJS:=zh hjs;clear hyes hno hcl hpl hv hB0 hkp hjs hP hQ hK;generalize hb:p.binds[j]=b at *;clear hb;by_cases hs:b.src=(k:Int)
   ·have hsb:(b.src == (k:Int))=true:=by simp[hs]
    have HS:=zh hs;clear hs
    gi_wp2
    refine⟨trivial,?_⟩;have hby:=Avg p b key a1 a2 (some ⟨bb,bo,none⟩) c1 c2 c3 0 (wr.alloc (.cells #[.int .i64 b.src,.bool b.cd,.int .i64 b.to,.string b.pattern] 83)) (HP2.out.2.1.keep fun q hq=>World.cell?_alloc_lt _ _ q (Nat.lt_of_lt_of_le hq HP2.out.2.2)).1 ((HP2.out.1.aj.keep fun q hq=>World.cell?_alloc_lt _ _ q (Nat.lt_of_lt_of_le hq HP2.out.2.2)).wider (zn _) (by have:=HP2.out.2.2;simp;omega)) k HK.out (by have:=HPS.out.aj;omega) HS.out hpz hkey;unfold Ay D5 at hby;refine(callsIn_wide.2 hby).mono ?_;clear hby;rintro e w2 ⟨rfl,hb2⟩;have hX:Below wr.heap.size wr w2:=((zb _ _).alloc (zn _) _).trans (hb2.mono (by simp));have HKP2:Hid (KpS (Un B0 bp bq bk) W w2):=HKP.out.trans (KpS.below HRB.out HKP.out.2 hX);have HJ2:Hid (J (I1 p k key j) w2):=HJ.out _ _ _ none HJS.out (grown_below' hX none) (fun r e=>by cases e);have hzb:=HZ.out.below hb2 HZ.out.lt;have v0:=hzb.cell 0;have v1:=hzb.cell 1;have v2:=hzb.cell 2;have v3:=hzb.cell 3;simp only[zI,zJ,zK] at v0 v1 v2 v3;clear hX hb2 hzb d0 d1 d2 dq dk e0 e1 e2 e3 z0 z1 z2 z3 y0 y1 y2 yq yk HZ
    cases hby:byP p b key
    ·have HE:=zh (HNO.out (fun h=>by rw[hby] at h;exact absurd h.2 (by decide)))
     clear hby
     gi_wp2
     refine⟨fun _ h=>(by cases h),?_⟩
     gi_wp2
     exact⟨⟨j+1,hjl,by go_num,HKP2.out,by rw[HE.out];exact HJ2.out⟩,by simp[intOf];omega⟩
    ·have HE:=zh (HYES.out HS.out hby)
     have HPR:=zh (Adf p k key (show j+1≤p.binds.length from hjl));rw[HE.out] at HPR;have hlen:(I1 p k key j).length < (onL p k key).length:=by
      have:=HPR.out.length_le;rw[ze] at this;exact this
     obtain⟨fn,tmps,assign,body,hy,hR⟩:=HY.out _ (j,b) w2 (HPR.out.subset (by simp)) HJ2.out hlen;dsimp only at hy;unfold D5 at hy;clear hby hlen
     gi_wp2
     refine hR.mono ?_;rintro e W3 (⟨rfl,hJ3,hk3⟩|⟨rfl,hJx3⟩)
     ·have HJ3:=zh hJ3
      have HK3:=zh hk3;clear hJ3 hk3
      gi_wp2
      exact⟨⟨j+1,hjl,by go_num,HKP2.out.trans HK3.out,by rw[HE.out];exact HJ3.out⟩,by simp[intOf];omega⟩
     ·have HJX:=zh hJx3
      clear hJx3
      gi_wp2
      refine bodyPost_ret (results_none rfl _ _ _) rfl ?_;exact⟨⟨_,rfl⟩,.inr ⟨_,HPR.out,HJX.out⟩⟩
   ·have hsb:(b.src == (k:Int))=false:=by simp[hs]
    have hE:=HNO.out (fun h=>hs h.1);have HE:=zh hE;clear hE hs
    gi_wp2
    refine⟨trivial,?_⟩
    gi_wp2
    refine⟨fun _ h=>(by cases h),?_⟩
    gi_wp2
    exact⟨⟨j+1,hjl,by go_num,HKP.out.trans (KpS.below HRB.out HKP.out.2 ((zb _ _).alloc (zn _) _)),by rw[HE.out];exact HJ.out _ _ _ none HJS.out (World.grownBy_alloc _ _ none) (fun r e=>by cases e)⟩,by simp[intOf];omega⟩
  ·obtain rfl:j=p.binds.length:=by omega
   gi_wp2
   go_end0
   exact⟨⟨_,rfl⟩,.inl ⟨_,rfl,hjs⟩⟩
open Go Go.RowKit Go.Shelf Go.Sort
attribute [local go_sem] Oper.semAt_some
def Cs(w:zW)(base:Nat)(v:Value)(xs:List Int):Prop:=w.ownsRow base 3 1 v xs.length (xs.map (Value.int .i64))
theorem Aa4{w:zW}{base e g n C:Nat}{xs:List Value}(h:w.ownsRow base e 1 (.slice (some ⟨g,0,none⟩) n C) n xs):
  ∃cur,base≤g∧w.heap[g]? =some (.cells cur e (0,0))∧n≤C∧C≤maxLen∧cur.size=C∧cur.toList.take n=xs:=by
 obtain⟨h1,h2⟩:=h;rcases h2 with⟨h2,_⟩|⟨g',cap,cur,h3,h4,h5,h6,h7,h8,h9⟩
 ·cases h2
 ·cases h3
  exact⟨cur,h4,h5,h6,h7,by omega,by simpa using h9⟩
theorem U2{w:zW}{base e g n C:Nat}{xs:List Value}(h:w.ownsRow base e 1 (.slice (some ⟨g,0,none⟩) n C) n xs)(j:Nat)(hj:j < n):
  w.cell? ⟨g,j,none⟩=xs[j]? ∧w.frozen? ⟨g,j,none⟩=false:=by
 obtain⟨cur,_,h2,_,_,_,h6⟩:=Aa4 h;have:xs[j]? =cur[j]? :=by rw[←h6,List.getElem?_take,zp hj,Array.getElem?_toList]
 constructor
 ·rw[this]
  simp[World.cell?,h2]
 ·simp[World.frozen?,h2]
theorem Ae7{w:zW}{base g C:Nat}{zs:List Int}(h:Cs w base (.slice (some ⟨g,0,none⟩) zs.length C) zs):Holds (Value.int .i64) w g 0 zs.toArray:=by
 intro j hj;have hj':j < zs.length:=by simpa using hj
 obtain⟨h1,h2⟩:=U2 h j hj';rw[Nat.zero_add];refine⟨h1.trans ?_,h2⟩;rw[List.getElem?_map,zG hj',getElem!_pos _ j hj];simp
theorem An8{w:zW}{base g n C q:Nat}{zs:List Int}{d:List Int}{os:Array Obj}(h:Cs w base (.slice (some ⟨g,0,none⟩) zs.length C) zs)(hd:d.length=zs.length)(hn:n≤d.length):
  Cs (grow (putRow (Value.int .i64) (Sort.ahead w q) g 0 d.toArray) os) base (.slice (some ⟨g,0,none⟩) n C) (d.take n)∧w.grownBy (grow (putRow (Value.int .i64) (Sort.ahead w q) g 0 d.toArray) os) (some g):=by
 obtain⟨cur,h1,h2,h3,h4,h5,h6⟩:=Aa4 h;have hg:g < w.heap.size:=(Array.getElem?_eq_some_iff.1 h2).1;have hl:(d.take n).length=n:=by rw[List.length_take];omega
 refine⟨⟨by simp,.inr ⟨g,C,putCells (Value.int .i64) 0 d.toArray cur,by rw[hl],h1,?_,by omega,h4,by simp[putCells];omega,?_⟩⟩,⟨rfl,rfl,rfl,?_,?_⟩⟩
 ·rw[heap_grow_old _ _ (by simp[putRow,mapBlock,hg])]
  simp[putRow,mapBlock,Array.getElem?_modify,h2,onCells]
 ·rw[hl]
  apply List.ext_getElem?
  intro j;rw[List.getElem?_take];by_cases hj:j < n
  ·have hjd:j < d.length:=by omega
   rw[zp (by omega),List.getElem?_map,List.getElem?_take,zp hj,Array.getElem?_toList];have hjc:j < cur.size:=by omega
   simp only[putCells,Array.getElem?_mapIdx,Array.getElem?_eq_getElem hjc,Option.map_some];rw[zp ⟨Nat.zero_le _,by simpa using hjd⟩,zG hjd];simp[getElem!_pos,hjd]
  ·rw[zq (by omega),List.getElem?_map,List.getElem?_take,zq hj]
   rfl
 ·simp[putRow,mapBlock]
 ·intro k hk hne
  rw[heap_grow_old _ _ (by simpa [putRow,mapBlock] using hk)];simp only[putRow,mapBlock,Array.getElem?_modify];rw[zq (fun e=>hne (by rw[e]))];rfl
theorem M1{w:zW}{base:Nat}{v:Value}{zs:List Int}(h:Cs w base v zs):(v= .slice none 0 0∧zs=[])∨∃g C,v= .slice (some ⟨g,0,none⟩) zs.length C:=by
 rcases h.2 with⟨h1,h2⟩|⟨g,cap,cur,rfl,_⟩
 ·exact .inl ⟨h1,List.eq_nil_of_length_eq_zero h2⟩
 ·exact .inr ⟨g,cap,rfl⟩
def E2(zs:List Int):List Int:=zs.mergeSort fun x y=>decide (x≤y)
theorem Np(zs:List Int):(E2 zs).length=zs.length:=List.length_mergeSort _
theorem Ajz(base:Nat)(v:Value)(zs:List Int)(w:zW)(h:Cs w base v zs)(hz:zs.length≤1048576):
  Calls Tryz.prog 209 #[v] w fun e w'=>e= .returned (.tuple #[])∧Cs w' base v (E2 zs)∧w.grownBy w' v.ownBlock:=by
 rcases M1 h with⟨rfl,rfl⟩|⟨g,C,rfl⟩
 ·refine(Tryz.slices_Sort_int_none none 0 w).mono ?_
  rintro e w' ⟨rfl,rfl⟩;exact⟨rfl,by simpa [E2] using h,⟨rfl,rfl,rfl,zn _,fun _ _ _=>rfl⟩⟩
 ·refine(Tryz.slices_Sort_int g 0 C zs w (Ae7 h) (by obtain⟨cur,_,h2,_⟩:=Aa4 h;exact(Array.getElem?_eq_some_iff.1 h2).1) (by omega)).mono ?_
  rintro e w' ⟨rfl,q,os,rfl⟩;obtain⟨h1,h2⟩:=An8 (q:=q) (os:=os) (n:=zs.length) h (Np zs) (Nat.le_of_eq (Np zs).symm);rw[List.take_of_length_le (Nat.le_of_eq (Np zs))] at h1;exact⟨rfl,h1,h2⟩
theorem Ah9(base:Nat)(v:Value)(zs:List Int)(w:zW)(h:Cs w base v zs)(hz:zs.length≤1048576):
  Calls Tryz.prog 210 #[v] w fun e w'=>∃v',e= .returned v'∧Cs w' base v' (Lib.compact zs)∧w.grownBy w' v.ownBlock:=by
 rcases M1 h with⟨rfl,rfl⟩|⟨g,C,rfl⟩
 ·refine(Tryz.slices_Compact_int_empty none 0 w).mono ?_
  rintro e w' ⟨rfl,rfl⟩;exact⟨_,rfl,h,⟨rfl,rfl,rfl,zn _,fun _ _ _=>rfl⟩⟩
 ·have hle:(Lib.compact zs).length≤zs.length:=Lib.compact_length_le zs
  refine(Tryz.slices_Compact_int g 0 C zs w (Ae7 h) (by omega) (by obtain⟨cur,_,_,h3,_⟩:=Aa4 h;exact h3)).mono ?_;rintro e w' ⟨rfl,q,rfl⟩;obtain⟨h1,h2⟩:=An8 (q:=q) (os:= #[]) (n:=(Lib.compact zs).length) (d:=Lib.compact zs++List.replicate (zs.length - (Lib.compact zs).length) 0) h (by simp;omega) (by simp);rw[List.take_left,grow_empty] at h1;rw[grow_empty] at h2;exact⟨_,rfl,h1,h2⟩
theorem Azz(w:zW)(o1 o2 o3:Obj):Below w.heap.size w (((w.alloc o1).alloc o2).alloc o3):=(((zb _ w).alloc (zn _) _).alloc (by simp) _).alloc (by simp;omega) _
theorem Ap5(v1 v2 v3:Value)(x:Value)(key:zN)(w:zW)(hx:∃k:Int,x= .int .i64 k):
  Calls Tryz.prog 208 #[.agg #[v1,v2,v3],x,.string key] w fun e w'=>e= .returned (.func (.func 218) #[] #[zt w.heap.size,zt (w.heap.size+1),zt (w.heap.size+2)])∧
   Bk w' w.heap.size 26 #[v1,v2,v3]∧Bk w' (w.heap.size+1) 3 #[x]∧Bk w' (w.heap.size+2) 9 #[.string key]∧Below w.heap.size w w':=by
 obtain⟨k,rfl⟩:=hx;have hmf:∀(fn:Fn)(first cap:Array Value)(w:zW),(Instr.makeFunc fn first cap).run Tryz.prog w= .ok (.func fn first cap) w:=fun _ _ _ _=>rfl;go_enter Tryz.func208,Tryz.ntmps208
 go_wp2
 go_ret
 exact⟨rfl,((Bk.new w _ _).alloc _).alloc _,(Bk.cg _ _ _ (by simp)).alloc _,Bk.cg _ _ _ (by simp),Azz w _ _ _⟩
theorem Ajj(n:Nat)(hn:1≤n)(p:Ab)(k:Nat)(key:zN)(a1 a2 a3:zZ)(c1 c2 c3 B0 bp bq bk:Nat)(w:zW)
  (hk:k < p.aj.length) (hps:Ai p) (hkey:key.size≤1048576) (hP:Bk w bp 26 (zP p a1 a2 a3 c1 c2 c3)) (hQ:Bk w bq 3 #[.int .i64 (k:Int)]) (hK:Bk w bk 9 #[.string key])
  (hpl:Au w 0 B0 a1 a2 a3 p) (hv:Og B0 w) (hB0:B0≤w.heap.size):
  SeqStopsK Fence.wide n Tryz.prog 218 #[zt bp,zt bq,zt bk] (fun y:Nat×B9=> #[.int .i64 (y.1:Int),.agg (D5 y.2).toArray]) (KpS (Un B0 bp bq bk)) (fun xs=>xs=onL p k key) (fun pre=>pre <+:onL p k key) (onL p k key).length w:=
 fun l J Jx W hW hJ _ hY h0=>by
  have hc:∀q:Addr,q.block < B0→W.cell? q=w.cell? q:=fun q hq=>hW.cell (p:=q) (by omega);exact Aty n hn l p k key a1 a2 a3 c1 c2 c3 B0 bp bq bk J Jx W hk hps hkey (hP.below hW hP.lt) (hQ.below hW hQ.lt) (hK.below hW hK.lt) ⟨hpl.aj.keep hc,hpl.ag.keep hc,hpl.binds.keep hc⟩ (hv.keep hc) (zr hB0 hW.size) hJ (fun pre y W1 _ h=>hY pre y W1 h) h0
attribute [local go_sem] Oper.semAt_some
def mark(D:Nat):Deferred:= { target:= .collected D,args:= #[] }
structure Shut (B:Nat) (W W':zW):Prop where
 cells:∀(g:Nat)(o:Obj),W.heap[g]? =some o→o.isCells=true→W'.heap[g]? =some o
 below:Below B W W'
theorem Shut.refl(B:Nat)(W:zW):Shut B W W:=⟨fun _ _ h _=>h,zb _ _⟩
theorem Shut.trans{B:Nat}{X Y Z:zW}(h:Shut B X Y)(k:Shut B Y Z):Shut B X Z:=⟨fun g o hg ho=>k.cells g o (h.cells g o hg ho) ho,h.below.trans k.below⟩
theorem Shut.bk{B:Nat}{W W':zW}(h:Shut B W W'){g:Nat}{t:TypeId}{cs:Array Value}(hb:Bk W g t cs):Bk W' g t cs:=h.cells g _ hb rfl
theorem Shut.own{B:Nat}{W W':zW}(h:Shut B W W'){base:Nat}{e:TypeId}{size n:Nat}{v:Value}{xs:List Value}(hb:W.ownsRow base e size v n xs):W'.ownsRow base e size v n xs:=by
 refine⟨hb.1,?_⟩;rcases hb.2 with h1|⟨g,cap,cur,h1,h2,h3,h4⟩
 ·exact .inl h1
 ·exact .inr ⟨g,cap,cur,h1,h2,h.cells g _ h3 rfl,h4⟩
def D1(B:Nat)(W:zW)(Ds:List Nat):Prop:=Ds.Nodup∧∀D∈Ds,B≤D∧W.heap[D]? =some (.deferred (some []))
theorem D1.nil(B:Nat)(W:zW):D1 B W []:=⟨List.nodup_nil,fun D h=>by cases h⟩
theorem D1.lt{B:Nat}{W:zW}{Ds:List Nat}(h:D1 B W Ds){D:Nat}(hD:D∈Ds):D < W.heap.size:=(Array.getElem?_eq_some_iff.1 (h.2 D hD).2).1
theorem D1.kept{B:Nat}{W W':zW}{Ds:List Nat}(h:D1 B W Ds)(hk:∀D∈Ds,W'.heap[D]? =W.heap[D]?):D1 B W' Ds:=⟨h.1,fun D hD=>⟨(h.2 D hD).1,(hk D hD).trans (h.2 D hD).2⟩⟩
theorem D1.cons{B:Nat}{W:zW}{Ds:List Nat}(h:D1 B W Ds){D:Nat}(hB:B≤D)(hn:D∉Ds)(hD:W.heap[D]? =some (.deferred (some []))):D1 B W (D::Ds):=
 ⟨List.nodup_cons.2 ⟨hn,h.1⟩,fun E hE=>by exact(List.mem_cons.1 hE).elim (fun e=>e▸⟨hB,hD⟩) (h.2 E)⟩
theorem D1.below{B C:Nat}{W W':zW}{Ds:List Nat}(h:D1 B W Ds)(hb:Below C W W')(hC:W.heap.size≤C):D1 B W' Ds:=h.kept fun D hD=>hb.block D (by have:=h.lt hD;omega)
theorem D1.grown{B:Nat}{W W':zW}{row:Option Nat}{Ds:List Nat}(h:D1 B W Ds)(hg:W.grownBy W' row)(hr:∀D∈Ds,some D≠row):D1 B W' Ds:=h.kept fun D hD=>hg.block D (h.lt hD) (hr D hD)
theorem Ic{P:Program}{F:Fence}{n:Nat}{fn:Func}{tmps:Array Value}{R:Ending→zW→Prop}{B:Nat} :∀(Ds:List Nat)(W:zW),D1 B W Ds→
  (∀W',Shut B W W'→∃v,(results fn tmps).run P W'= .ok v W'∧R (.returned v) W')→LeavesInM F n P fn tmps R (Ds.map mark) .returning W
 | [],W,_,h=>h W (Shut.refl B W)
 |D::Ds,W,hM,h=>by
  have hD:=hM.2 D List.mem_cons_self;have hg:=grownBy_putObj' W D (.deferred none);have hs:Shut B W (W.putObj D (.deferred none)):=⟨fun g o hg' ho=>(World.putObj_heap_other (fun e=>by subst e;rw[hD.2] at hg';cases hg';cases ho)).trans hg',
   (zb B W).grown hg (by have:=(Array.getElem?_eq_some_iff.1 hD.2).1;omega) (fun r e=>by cases e;exact hD.1)⟩
  refine⟨by simp,.inl ⟨D,_,rfl,run_takeDeferred hD.2,?_⟩⟩;refine Ic Ds _ ⟨(List.nodup_cons.1 hM.1).2,fun E hE=>⟨(hM.2 E (List.mem_cons_of_mem _ hE)).1,?_⟩⟩ fun W' hW'=>h W' (hs.trans hW');exact(World.putObj_heap_other (fun e=>(List.nodup_cons.1 hM.1).1 (by rw[e] at hE;exact hE))).trans (hM.2 E (List.mem_cons_of_mem _ hE)).2
def J0(out:List Int)(y:Nat×B9):List Int:=if y.2.cd=true∧y.2.to∉out then out++[y.2.to] else out
def cw(out:List Int)(bs:List (Nat×B9)):List Int:=bs.foldl J0 out
theorem Ain(out:List Int)(bs:List (Nat×B9))(y:Nat×B9):cw out (bs++[y])=J0 (cw out bs) y:=by simp[cw,List.foldl_append]
def outAt(p:Ab)(k:Int)(key:zN):Nat→List Int
 |0=>[k]
 |j+1=>match (outAt p k key j)[j]? with
  |some x=>cw (outAt p k key j) (onL p x key)
  |none=>outAt p k key j
theorem Aov(out:List Int)(y:Nat×B9):(J0 out y).length≤out.length+1∧out.length≤(J0 out y).length:=by
 unfold J0
 split<;>simp
theorem Qo(out:List Int)(bs:List (Nat×B9)):(cw out bs).length≤out.length+bs.length∧out.length≤(cw out bs).length:=by
 induction bs generalizing out with
 |nil=>simp[cw]
 |cons y bs ih=>
  have:=ih (J0 out y);have:=Aov out y;simp only[cw,List.foldl_cons,List.length_cons] at *;omega
theorem Ru{p:Ab}{x:Int}{key:zN} :∀ {j:Nat} {y:Nat×B9},y∈I1 p x key j→y.1 < j∧p.binds[y.1]? =some y.2∧y.2.src=x∧byP p y.2 key=true
 |0,y,h=>by cases h
 |j+1,y,h=>by
  unfold I1 at h
  split at h
  ·rename_i b hb
   split at h
   ·rename_i hc
    rcases List.mem_append.1 h with h|h
    ·obtain⟨h1,h2⟩:=Ru h
     exact⟨by omega,h2⟩
    ·obtain rfl:y=(j,b):=by simpa using h
     exact⟨by simp,hb,hc⟩
   ·obtain⟨h1,h2⟩:=Ru h
    exact⟨by omega,h2⟩
  ·obtain⟨h1,h2⟩:=Ru h
   exact⟨by omega,h2⟩
def Rm(p:Ab)(out:List Int):Prop:=out.Nodup∧∀x∈out,0≤x∧x < (p.aj.length:Int)
theorem Rm.add{p:Ab}(hr:B8 p){out:List Int}(h:Rm p out){y:Nat×B9}(hy:y.2∈p.binds):Rm p (J0 out y):=by
 unfold J0
 split
 ·rename_i hc
  have hb:=hr.bind _ hy;rw[zp hc.1] at hb;refine⟨List.nodup_append.2 ⟨h.1,by simp,fun a ha b hb' e=> ?_⟩,fun x hx=> ?_⟩
  ·obtain rfl:b=y.2.to:=by simpa using hb'
   exact hc.2 (e▸ha)
  ·rcases List.mem_append.1 hx with hx|hx
   ·exact h.2 x hx
   ·obtain rfl:x=y.2.to:=by simpa using hx
    exact⟨hb.2.2.1,hb.2.2.2⟩
 ·exact h
theorem Rm.cw{p:Ab}(hr:B8 p){x:Int}{key:zN} :∀(bs:List (Nat×B9)){out:List Int},Rm p out→(∀y∈bs,y.2∈p.binds)→Rm p (cw out bs)
 | [],out,h,_=>h
 |y::bs,out,h,hm=>Rm.cw (x:=x) (key:=key) hr bs (h.add hr (hm y List.mem_cons_self)) fun z hz=>hm z (List.mem_cons_of_mem _ hz)
theorem N5{p:Ab}(hr:B8 p){k:Nat}(hk:k < p.aj.length){key:zN} :∀j,Rm p (outAt p k key j)
 |0=>⟨by simp[outAt],fun x hx=>by
  obtain rfl:x=k:=by simpa [outAt] using hx
  omega⟩
 |j+1=>by
  unfold outAt
  split
  ·exact Rm.cw (x:=0) (key:=key) hr _ (N5 hr hk j) fun y hy=>List.mem_of_getElem? (Ru hy).2.1
  ·exact N5 hr hk j
theorem Lq:∀(n:Nat){l:List Int},l.Nodup→(∀x∈l,0≤x∧x < (n:Int))→l.length≤n
 |0,l,_,h=>by
  cases l with
  |nil=>simp
  |cons x l=>have:=h x List.mem_cons_self;omega
 |n+1,l,hn,h=>by
  by_cases hm:(n:Int)∈l
  ·have h1:=Lq n (hn.erase (n:Int)) fun x hx=>by
    have h2:=(hn.mem_erase_iff).1 hx;have h3:=h x h2.2;have h4:=h2.1;omega
   rw[List.length_erase_of_mem hm] at h1;omega
  ·have h1:=Lq n hn fun x hx=>by
    have h3:=h x hx;have h4:x≠(n:Int):=fun e=>hm (e▸hx);omega
   omega
theorem Rm.len{p:Ab}{out:List Int}(h:Rm p out):out.length≤p.aj.length:=Lq _ h.1 h.2
def outs(p:Ab)(k:Int)(key:zN):List Int:=outAt p k key p.aj.length
theorem S2{p:Ab}{k:Int}{key:zN}{j:Nat}(h:(outAt p k key j).length≤j):∀i,outAt p k key (j+i)=outAt p k key j
 |0=>rfl
 |i+1=>by
  have:=S2 h i;rw[←Nat.add_assoc,outAt,this,List.getElem?_eq_none (by omega)]
theorem Aw2{p:Ab}{k:Int}{key:zN}{j:Nat}(h:(outAt p k key j).length≤j)(hj:j≤p.aj.length):outs p k key=outAt p k key j:=by
 have:=S2 h (p.aj.length - j);rwa [show j+(p.aj.length - j)=p.aj.length by omega] at this
end Go.Proofs.YtpkneogjdfolaaaGreatDoor
