/- Lemmas. -/
import Derived.Test.YtpkneogjdfolaaaGreatDoorBunKD
set_option maxHeartbeats 20000000
set_option maxRecDepth 100000
set_option linter.unusedSimpArgs false
set_option linter.unusedVariables false
namespace Go.Proofs.YtpkneogjdfolaaaGreatDoor
open Go Go.RowKit Go.Shelf
attribute [local go_sem] Oper.semAt_some
def TyK(W W':zW)(r:Nat):Prop:=∀t cs,Bk W r t cs→∃cs',Bk W' r t cs'
def Afv{β:Type}(Bx:Nat→Prop)(B:Nat)(J:β→zW→Prop):Prop:=
 ∀s W W' row,J s W→W.grownBy W' row→(∀r,row=some r→(Bx r∧TyK W W' r)∨(B≤r∧∃o:Obj,W.heap[r]? =some o∧o.isWalk=true))→J s W'
def Adg{β:Type}(Bx:Nat→Prop)(B:Nat)(I:β→zW→Prop):Prop:=
 ∀s W W' row,I s W→W.grownBy W' row→(∀r,row=some r→(Bx r∧TyK W W' r)∨(B≤r∧∃o:Obj,W.heap[r]? =some o∧o.isCells=false))→I s W'
def Amn{α:Type}(F:Fence)(n:Nat)(P:Program)(g:Nat)(lb:Array Value)(encs:α→Array Value)(Bx:Nat→Prop)(Kp:zW→zW→Prop)(S Sp:List α→Prop)(Ok:List α→α→Prop)(w:zW):Prop:=
 ∀(l:Nat)(J Jx:List α→zW→Prop)(W:zW),Below w.heap.size w W→Afv Bx W.heap.size J→Afv Bx W.heap.size Jx→
  (∀pre x W1,J pre W1→Ok pre x→YieldAt F (n - 1) P l (encs x) W1 fun e W'=>
   (e= .returned (.bool true)∧J (pre++[x]) W'∧Kp W1 W')∨(e= .returned (.bool false)∧Jx (pre++[x]) W'))→
  J [] W→
  CallsIn F n P g (#[.func (.yield l) #[] #[]]++lb) W fun e W'=>(∃v,e= .returned v)∧((∃xs,S xs∧J xs W')∨(∃pre,Sp pre∧Jx pre W'))
theorem Adg.putObj{β:Type}{Bx:Nat→Prop}{B:Nat}{I:β→zW→Prop}(h:Adg Bx B I){s:β}{W:zW}{l:Nat}{o:Obj}(o':Obj)(hs:I s W)(hB:B≤l)(hl:W.heap[l]? =some o)(ho:o.isCells=false):I s (W.putObj l o'):=
 h s W _ (some l) hs (grownBy_putObj' W l o') (fun r e=>by cases e;exact .inr ⟨hB,o,hl,ho⟩)
theorem Adg.alloc{β:Type}{Bx:Nat→Prop}{B:Nat}{I:β→zW→Prop}(h:Adg Bx B I){s:β}{W:zW}(o:Obj)(hs:I s W):I s (W.alloc o):=
 h s W _ none hs (World.grownBy_alloc W o none) (fun r e=>by cases e)
theorem Adg.and{β:Type}{Bx:Nat→Prop}{B:Nat}{I I':β→zW→Prop}(h:Adg Bx B I)(h':Adg Bx B I'):Adg Bx B (fun s W=>I s W∧I' s W):=fun s W W' row hs hg hr=>⟨h s W W' row hs.1 hg hr,h' s W W' row hs.2 hg hr⟩
theorem T6{W W':zW}{row:Option Nat}{Bx:Nat→Prop}{B:Nat}(hg:W.grownBy W' row)(hrow:∀r,row=some r→(Bx r∧TyK W W' r)∨(B≤r∧∃o:Obj,W.heap[r]? =some o∧o.isWalk=true))
  {k:Nat} {o:Obj} (hk:W.heap[k]? =some o) (hw:o.isWalk=false) (hnb:¬ Bx k):W'.heap[k]? =W.heap[k]? :=by
 refine hg.block k (Array.getElem?_eq_some_iff.1 hk).1 ?_;intro e;rcases hrow k e.symm with hb|⟨_,o',ho',hw'⟩
 ·exact hnb hb.1
 ·rw[hk] at ho';cases ho';rw[hw] at hw';cases hw'
variable {F:Fence} {n:Nat} {P:Program}
theorem Aao{α:Type}{g:Operand}{ps:Array Tmp}{assign body:Code}{Q:Exit→Act→zW→Prop}{a:Act}{w:zW}
  (hro:F.round=none) (h1:1≤n) {gf:Nat} {lb:Array Value} (hg:a.eval g= .func (.func gf) #[] lb) (hFg:F.fn gf) (eg:∀args w,(callFunc gf args).run P w= .ok (.enter gf args) w)
  {encs:α→Array Value} {Bx:Nat→Prop} {Kp:zW→zW→Prop} {S Sp:List α→Prop} {Ok:List α→α→Prop} {w0:zW} (hseq:Amn F (n - 1) P gf lb encs Bx Kp S Sp Ok w0)
  (hBx:∀r,Bx r→r < w.heap.size)
  (hKt:∀ {A B C:zW},Kp A B→Kp B C→Kp A C) (hKb:∀(W:zW)(l:Nat)(o o':Obj),w.heap.size≤l→W.heap[l]? =some o→o.isCells=false→o.isWalk=false→Kp W (W.putObj l o')) (hb0:Below w0.heap.size w0 w) (hps:∀x,(encs x).size=ps.size)
  (I:List α→zW→Prop) (Ix:Code→List α→zW→Prop) (hI:Adg Bx w.heap.size I) (hIx:∀c,Adg Bx w.heap.size (Ix c)) (h0:I [] w)
  (hround:∀(l:Nat)(pre:List α)(x:α)(W:zW)(K:Act→zW→Prop),Ok pre x→
   (∀a₁,(∀W2,I pre W2→body.wpIn (F.inRound l) (n - 1 - 1) P (ownPostK Kp I Ix (pre++[x]) W2) a₁ W2)→K a₁ W)→
   assign.wpIn (F.inRound l) (n - 1 - 1) P (Exit.then K (fun _ _ _=>False)) { tmps:=(ps.zip (encs x)).foldl (fun t (p,v)=>t.setIfInBounds p v) a.tmps,defers:=[] } W)
  (hdone:∀(D:Nat)(xs:List α)(W:zW),w.heap.size≤D→S xs→I xs W→W.heap[D]? =some (.deferred (some []))→Q .normal { a with defers:= { target:= .collected D,args:= #[] } ::a.defers } W)
  (hstop:∀(D:Nat)(c:Code)(pre:List α)(W:zW),w.heap.size≤D→Sp pre→Ix c pre W→W.heap[D]? =some (.deferred (some []))→c.wpIn F n P Q { a with defers:= { target:= .collected D,args:= #[] } ::a.defers } W):
  (Code.rangeFunc g ps assign body).wpIn F n P Q a w:=by
 refine wpIn_rangeFunc ?_;intro fn hfn;rw[hro];obtain⟨rec,hrec⟩:∃rec:LoopState→Option Code→Loop,rec=fun st pe=> { state:=st,pending:=pe,fn,tmps:=a.tmps,params:=ps,assign,body,defers:=w.heap.size } :=⟨_,rfl⟩;obtain⟨W1,hW1⟩:=zo ((w.alloc (.deferred (some []))).alloc (.loop (rec .ready none)));have hL1:W1.heap[w.heap.size+1]? =some (.loop (rec .ready none)):=by
  rw[←hW1];have:=World.alloc_heap_new (w.alloc (.deferred (some []))) (.loop (rec .ready none));rwa [World.size_alloc] at this
 have hK1:W1.heap[w.heap.size]? =some (.deferred (some [])):=by
  rw[←hW1];exact(Below.heap_alloc _ _ _ (by simp)).trans (World.alloc_heap_new w _)
 have hI1:I [] W1:=by rw[←hW1];exact hI.alloc _ (hI.alloc _ h0)
 have hb1:Below w0.heap.size w0 W1:=by
  rw[←hW1];exact hb0.trans ((((zb _ w).alloc (zn _) _).alloc (by simp) _).mono hb0.size)
 have hz1:W1.heap.size=w.heap.size+2:=by rw[←hW1];simp
 have hnl:¬ Bx (w.heap.size+1):=fun h=>by have:=hBx _ h;omega
 have hnk:¬ Bx w.heap.size:=fun h=>by have:=hBx _ h;omega
 refine⟨w.heap.size+1,[{ target:= .collected w.heap.size,args:= #[] }],W1,{ target:= .fn (.func gf) lb,args:= #[.func (.yield (w.heap.size+1)) #[] #[]] },W1,gf,
  #[.func (.yield (w.heap.size+1)) #[] #[]]++lb,W1,?_,?_,?_,?_,fun _=>h1,?_⟩
 ·rw[←hW1,hrec];exact run_enterLoop_outer _ _ _ _ _
 ·simp only[resolve,hg]
  simp[go_sem]
 ·intro f' hf';simp[Target.leads] at hf';subst hf';exact hFg
 ·simp[invoke,go_sem,eg]
 ·have hnw:∀ {A B:zW} {row:Option Nat},(∀r,row=some r→(Bx r∧TyK A B r)∨(W1.heap.size≤r∧∃o:Obj,A.heap[r]? =some o∧o.isWalk=true))→(∀r,row=some r→(Bx r∧TyK A B r)∨(w.heap.size≤r∧∃o:Obj,A.heap[r]? =some o∧o.isCells=false)):=
   fun hr r e=>by
    rcases hr r e with hb|⟨hB,o,ho,hw⟩
    ·exact .inl hb
    ·exact .inr ⟨by omega,o,ho,Obj.not_cells_of_walk hw⟩
  refine(hseq (w.heap.size+1)
   (fun pre W=>I pre W∧W.heap[w.heap.size+1]? =some (.loop (rec .ready none))∧W.heap[w.heap.size]? =some (.deferred (some [])))
   (fun pre W=>∃c,Ix c pre W∧W.heap[w.heap.size+1]? =some (.loop (rec .done (some c)))∧W.heap[w.heap.size]? =some (.deferred (some [])))
   W1 hb1
   (fun s A B row hs hg' hr=>⟨hI s A B row hs.1 hg' (hnw hr),(T6 hg' hr hs.2.1 rfl hnl).trans hs.2.1,(T6 hg' hr hs.2.2 rfl hnk).trans hs.2.2⟩)
   (fun s A B row hs hg' hr=>by
    obtain⟨c,hc,hl,hk⟩:=hs;exact⟨c,hIx c s A B row hc hg' (hnw hr),(T6 hg' hr hl rfl hnl).trans hl,(T6 hg' hr hk rfl hnk).trans hk⟩)
   ?_ ⟨hI1,hL1,hK1⟩).mono ?_
  ·rintro pre x W ⟨hi,hl,hk⟩ hlen
   have hlt:w.heap.size+1 < W.heap.size:=(Array.getElem?_eq_some_iff.1 hl).1;have hy:=run_yield (P:=P) (args:=encs x) hl (by rw[hrec];exact hps x);rw[hrec] at hy;refine⟨fn,_,assign,body,hy,roundIn_of_wpIn hfn (hround _ pre x W _ hlen fun a₁ hbody=>⟨_,run_beginRound hl (by rw[hrec]),?_⟩)⟩;have hl2:(W.putObj (w.heap.size+1) (.loop { rec .ready none with state:= .busy })).heap[w.heap.size+1]? =some (.loop { rec .ready none with state:= .busy }):=World.putObj_heap_same hlt;have hk2:(W.putObj (w.heap.size+1) (.loop { rec .ready none with state:= .busy })).heap[w.heap.size]? =some (.deferred (some [])):=(World.putObj_heap_other (by omega)).trans hk;have hw2:Kp W (W.putObj (w.heap.size+1) (.loop { rec .ready none with state:= .busy })):=hKb _ _ _ _ (by omega) hl rfl rfl;refine wpIn_mono (hbody _ (hI.putObj _ hi (by omega) hl rfl)) ?_;have fin:∀(jump:Option Code)(W3:zW),KeepsOthers (W.putObj (w.heap.size+1) (.loop { rec .ready none with state:= .busy })) W3→
     (Instr.endRound (w.heap.size+1) jump).run P W3= .ok (.bool jump.isNone) (W3.putObj (w.heap.size+1) (.loop (rec (if jump.isNone then .ready else .done) jump)))∧
     W3.heap[w.heap.size+1]? =some (.loop { rec .ready none with state:= .busy })∧
     (W3.putObj (w.heap.size+1) (.loop (rec (if jump.isNone then .ready else .done) jump))).heap[w.heap.size+1]? =some (.loop (rec (if jump.isNone then .ready else .done) jump))∧
     (W3.putObj (w.heap.size+1) (.loop (rec (if jump.isNone then .ready else .done) jump))).heap[w.heap.size]? =some (.deferred (some [])):=fun jump W3 hk3=>by
    have hl3:=hk3.same _ _ hl2 rfl;have:=run_endRound (P:=P) jump hl3;rw[hrec] at this⊢;exact⟨this,by rw[hrec] at hl3;exact hl3,World.putObj_heap_same (Array.getElem?_eq_some_iff.1 hl3).1,(World.putObj_heap_other (by omega)).trans (hk3.same _ _ hk2 rfl)⟩
   rintro e a3 W3 hp
   cases e with
   |normal=>
    obtain⟨hk3,hkp3,hi3⟩:=hp;obtain⟨hr,hl3,hl4,hk4⟩:=fin none W3 hk3;exact⟨_,_,hr,.inl ⟨rfl,⟨hI.putObj _ hi3 (by omega) hl3 rfl,hl4,hk4⟩,hKt (hKt hw2 hkp3) (hKb _ _ _ _ (by omega) hl3 rfl rfl)⟩⟩
   |ret=>
    obtain⟨hk3,hi3⟩:=hp;obtain⟨hr,hl3,hl4,hk4⟩:=fin (some .ret) W3 hk3;exact⟨_,_,hr,.inr ⟨rfl,.ret,(hIx _).putObj _ hi3 (by omega) hl3 rfl,hl4,hk4⟩⟩
   |exit id=>
    obtain⟨hk3,hi3⟩:=hp;obtain⟨hr,hl3,hl4,hk4⟩:=fin (some (.exit id)) W3 hk3;exact⟨_,_,hr,.inr ⟨rfl,.exit id,(hIx _).putObj _ hi3 (by omega) hl3 rfl,hl4,hk4⟩⟩
   |goto t=>
    obtain⟨hk3,hi3⟩:=hp;obtain⟨hr,hl3,hl4,hk4⟩:=fin (some (.goto t)) W3 hk3;exact⟨_,_,hr,.inr ⟨rfl,.goto t,(hIx _).putObj _ hi3 (by omega) hl3 rfl,hl4,hk4⟩⟩
   |panic ch=>exact hp.elim
   |outgrown=>exact hp.elim
  ·rintro e W2 ⟨⟨v,rfl⟩,(⟨xs,hS,hi,hl,hk⟩|⟨pre,hSp,c,hi,hl,hk⟩)⟩
   ·exact⟨none,_,by have:=run_endLoop (P:=P) hl (by rw[hrec];simp);rw[hrec] at this;exact this,hdone _ xs _ (zn _) hS (hI.putObj _ hi (by omega) hl rfl) ((World.putObj_heap_other (by omega)).trans hk)⟩
   ·exact⟨some c,_,by have:=run_endLoop (P:=P) hl (by rw[hrec];simp);rw[hrec] at this;exact this,hstop _ c pre _ (zn _) hSp ((hIx c).putObj _ hi (by omega) hl rfl) ((World.putObj_heap_other (by omega)).trans hk)⟩
def Hq:List UInt8→List UInt8→List (List UInt8)
 |acc,[]=>if acc=[] then [] else [acc]
 |acc,b::r=>if b=10 then (acc++[b])::Hq [] r else Hq (acc++[b]) r
theorem Ach:∀(a acc r:List UInt8),(10:UInt8)∉a→Hq acc (a++10::r)=(acc++a++[10])::Hq [] r
 | [],acc,r,_=>by
  show(if (10:UInt8)=10 then _ else _)=_
  rw[zp rfl,List.append_nil]
 |b::a,acc,r,h=>by
  have hb:b≠10:=fun e=>h (by rw[e];exact List.mem_cons_self ..)
  show(if b=10 then _ else Hq (acc++[b]) (a++10::r))=_
  rw[zq hb,Ach a _ r fun hm=>h (List.mem_cons_of_mem _ hm)];simp
theorem Z6:∀(a acc:List UInt8),(10:UInt8)∉a→Hq acc a=if acc++a=[] then [] else [acc++a]
 | [],acc,_=>by simp[Hq]
 |b::a,acc,h=>by
  have hb:b≠10:=fun e=>h (by rw[e];exact List.mem_cons_self ..)
  show(if b=10 then _ else Hq (acc++[b]) a)=_
  rw[zq hb,Z6 a _ fun hm=>h (List.mem_cons_of_mem _ hm)];simp
theorem Rb:∀(r acc:List UInt8),(r=[]→acc=[])→(r≠ []→r.getLast? =some 10)→Hq acc r=(Hz acc r).map (· ++[10])
 | [],acc,h,_=>by rw[h rfl];rfl
 |b::r,acc,_,h=>by
  unfold Hq Hz;by_cases hb:b=10
  ·subst hb
   rw[zp rfl,zp rfl,List.map_cons,Rb r [] (fun _=>rfl) fun hr=>by
    have:=h (by simp);rwa [List.getLast?_cons,show r.getLast?.getD 10=_ from rfl,←List.getLast?_cons,List.getLast?_cons_of_ne_nil hr] at this]
  ·rw[zq hb,zq hb]
   have hr:r≠ []:=fun e=>by
    subst e;have:=h (by simp);simp at this;exact hb this
   exact Rb r _ (fun e=>absurd e hr) fun _=>by
    have:=h (by simp);rwa [List.getLast?_cons_of_ne_nil hr] at this
theorem Wy:∀l:List UInt8,(Lib.indexByte l 10= -1∧(10:UInt8)∉l)∨∃a r,l=a++10::r∧(10:UInt8)∉a∧Lib.indexByte l 10=(a.length:Int)
 | []=> .inl ⟨rfl,by simp⟩
 |b::l=>by
  by_cases hb:b=10
  ·subst hb
   exact .inr ⟨[],l,rfl,by simp,rfl⟩
  ·have hq:(b == 10)=false:=by simpa using hb
   rcases Wy l with⟨h1,h2⟩|⟨a,r,rfl,h2,h3⟩
   ·refine .inl ⟨by rw[Lib.indexByte,hq,h1];rfl,?_⟩
    rw[List.mem_cons,not_or];exact⟨fun e=>hb e.symm,h2⟩
   ·refine .inr ⟨b::a,r,rfl,?_,?_⟩
    ·rw[List.mem_cons,not_or]
     exact⟨fun e=>hb e.symm,h2⟩
    ·rw[Lib.indexByte,hq,h3]
     simp
def Fy(s:zN):List zN:=(Hq [] s.toList).map bs
theorem Ai5{s:zN}(h:Lib.indexByte s.data.toList 10= -1)(h0:0 < s.size):Fy s=[s]:=by
 rw[←ByteArray.toList_eq] at h;rcases Wy s.toList with⟨_,h2⟩|⟨a,r,_,_,h3⟩
 ·unfold Fy
  rw[Z6 _ _ h2,List.nil_append,zq (fun e=>by have:=Eo s;rw[e] at this;simp at this;omega)]
  show [bs s.toList]=_
  rw[Agw]
 ·omega
theorem Als{s:zN}{i:Nat}(h:Lib.indexByte s.data.toList 10=(i:Int)):Fy s=s.extract 0 (i+1)::Fy (s.extract (i+1) s.size)∧i < s.size:=by
 rw[←ByteArray.toList_eq] at h;rcases Wy s.toList with⟨h1,_⟩|⟨a,r,h1,h2,h3⟩
 ·omega
 ·have hi:i=a.length:=by omega
  subst hi;have hl:=Eo s;rw[h1,ze,List.length_cons] at hl;refine⟨?_,by omega⟩;have e1:s.extract 0 (a.length+1)=bs (a++[10]):=by rw[Aik,h1];congr 1;simp[List.take_append,List.take_of_length_le]
  have e2:s.extract (a.length+1) s.size=bs r:=by rw[Ail,h1];congr 1;simp[List.drop_append]
  unfold Fy;rw[e1,e2,h1,Ach _ _ _ h2,Di];rfl
theorem Ab8{s:zN}(h:s.size=0):Fy s=[]:=by
 unfold Fy;have:s.toList=[]:=List.eq_nil_of_length_eq_zero (by rw[Eo,h]);rw[this];rfl
def Ays(s:zN)(b:Nat)(J:List zN→zW→Prop)(wr:zW):Prop:=
 ∃(pre:List zN)(t:zN),Fy s=pre++Fy t∧t.size≤s.size∧Bk wr b 9 #[.string t]∧J pre wr
theorem Aom(W:zW)(b i:Nat)(v:Value):TyK W (W.setCell ⟨b,i,none⟩ v) b:=fun t cs h=>⟨_,h.ck i v⟩
theorem Apz(n:Nat)(hn:1≤n)(l b:Nat)(s:zN)(hsz:s.size≤1048576)(J Jx:List zN→zW→Prop)(W:zW)
  (hJ:Afv (fun r=>r=b) W.heap.size J)
  (hY:∀pre x W1,J pre W1→(pre++[x]) <+:Fy s→YieldAt Fence.wide (n - 1) Tryz.prog l #[.string x] W1 fun e W'=>
   (e= .returned (.bool true)∧J (pre++[x]) W'∧G3 (fun r=>r=b) W1 W')∨(e= .returned (.bool false)∧Jx (pre++[x]) W'))
  (hb:Bk W b 9 #[.string s]) (h0:J [] W):
  CallsIn Fence.wide n Tryz.prog 42 #[.func (.yield l) #[] #[],zt b] W fun e W'=>
   (∃v,e= .returned v)∧((∃xs,xs=Fy s∧J xs W')∨(∃pre,True∧Jx pre W')):=by
 have HY:=zh hY;clear hY
 have HJ:=zh hJ;clear hJ
 refine callsIn_of_wp Tryz.func42 rfl trivial ?_ rfl;simp only[Tryz.ntmps42,List.size_toArray,List.length_cons,List.length_nil,Nat.reduceAdd,Nat.reduceSub,Array.replicate_succ,Array.replicate_zero,List.push_toArray,List.append_toArray,List.nil_append,List.cons_append]
 gi_wp2
 gi_loopw [3,4] (fun _ _ wr=>Ays s b J wr) (fun _ _ wr=>Je b wr)
 case atStart=>exact⟨[],s,rfl,zn _,hb,h0⟩
 case round=>
  obtain⟨pre,t,hp,ht,hbk,hJs⟩:=hrel;have HP:=zh hp;clear hp
  have HJs:=zh hJs;clear hJs
  have HBK:=zh hbk;have d1:wr.cell? ⟨b,0,none⟩=some (.string t):=hbk.cell 0;have f1:=hbk.frozen 0;have l1:=hbk.lt;clear hbk;by_cases h0:t.size=0
  ·have ht0:t.size=0:=h0
   have HE:Hid (Fy s=pre):=zh (by rw[HP.out,Ab8 h0,List.append_nil]);have hz:¬ (0:Int) < (t.size:Int):=by omega
   clear h0
   gi_wp2
   go_end0
   exact⟨⟨_,rfl⟩,.inl (by rw[HE.out];exact HJs.out)⟩
  have hz:(0:Int) < (t.size:Int):=by omega
  rcases(by rcases Wy t.toList with⟨h1,_⟩|⟨a,_,_,_,h1⟩;exact .inl h1;exact .inr ⟨a.length,h1⟩:Lib.indexByte t.toList 10= -1∨∃i:Nat,Lib.indexByte t.toList 10=(i:Int)) with hm|⟨i,hm⟩
  ·rw[ByteArray.toList_eq] at hm
   have hpc:=Ai5 hm (by omega);have HPC:Hid (Fy t=[t]++Fy ⟨#[]⟩):=zh (by rw[hpc,Ab8 rfl];rfl);have hlen:(pre++[t]) <+:Fy s:=⟨[],by rw[HP.out,hpc];simp⟩;have hbv:Bk (wr.setCell ⟨b,0,none⟩ (.string ⟨#[]⟩)) b 9 #[.string ⟨#[]⟩]:=by simpa using HBK.out.ck 0 (.string ⟨#[]⟩)
   have HBV:=zh hbv;have hJ1:=HJ.out pre wr (wr.setCell ⟨b,0,none⟩ (.string ⟨#[]⟩)) (some b) HJs.out (grownBy_setCell _ _ _) (fun r e=>by cases e;exact .inl ⟨rfl,Aom _ _ _ _⟩);obtain⟨fn,tmps,assign,body,hy,hR⟩:=HY.out pre (t) _ hJ1 hlen;clear hbv hJ1 hlen;have HI:=zh hm;clear hm hpc h0
   gi_wp2_with (refine⟨trivial,?_⟩;gi_at_call 43;refine(callsIn_wide.2 (Tryz.strings_IndexByte t 10 _)).mono ?_;rw[show(Int.toNat 10).toUInt8=10 from rfl,HI.out];rintro e w' ⟨rfl,rfl⟩)
   refine hR.mono ?_;rintro e W3 (⟨rfl,hJ3,hk3⟩|⟨rfl,hJx3⟩)
   ·have hb3:Bk W3 b 9 #[.string ⟨#[]⟩]:=(hk3 b rfl).trans HBV.out
    have HB3:=zh hb3;have HJ3:=zh hJ3;clear hb3 hJ3 hk3
    gi_wp2
    go_roundw
    case rel=>exact⟨pre++[t],⟨#[]⟩,by rw[HP.out,HPC.out,List.append_assoc],Nat.zero_le _,HB3.out,HJ3.out⟩
    case measure=>
     have m1:Je b w'=t.size:=by simp[Je,d1]
     have m2:Je b W3=(⟨#[]⟩:zN).size:=by
      have:=HB3.out.cell 0;simp only[zI,zJ] at this;simp[Je,this]
     rw[m1,m2]
     show 0 < t.size
     omega
   ·gi_wp2
    refine bodyPost_ret (results_none rfl _ _ _) rfl ?_;exact⟨⟨_,rfl⟩,.inr ⟨_,trivial,hJx3⟩⟩
  ·rw[ByteArray.toList_eq] at hm
   obtain⟨hpc,hlt⟩:=Als hm;have HPC:=zh hpc;have hlen:(pre++[t.extract 0 (i+1)]) <+:Fy s:=⟨Fy (t.extract (i+1) t.size),by rw[HP.out,hpc];simp⟩;have hbv:Bk (wr.setCell ⟨b,0,none⟩ (.string (t.extract (i+1) t.size))).drew b 9 #[.string (t.extract (i+1) t.size)]:=by
    have:Bk (wr.setCell ⟨b,0,none⟩ (.string (t.extract (i+1) t.size))) b 9 #[.string (t.extract (i+1) t.size)]:=by simpa using HBK.out.ck 0 (.string (t.extract (i+1) t.size))
    exact this
   have HBV:=zh hbv;have hJ1:=HJ.out pre wr (wr.setCell ⟨b,0,none⟩ (.string (t.extract (i+1) t.size))).drew (some b) HJs.out ⟨rfl,rfl,rfl,(grownBy_setCell wr ⟨b,0,none⟩ (.string (t.extract (i+1) t.size))).size,(grownBy_setCell wr ⟨b,0,none⟩ (.string (t.extract (i+1) t.size))).block⟩ (fun r e=>by cases e;exact .inl ⟨rfl,Aom _ _ _ _⟩);obtain⟨fn,tmps,assign,body,hy,hR⟩:=HY.out pre (t.extract 0 (i+1)) _ hJ1 hlen;clear hbv hJ1 hlen;have HI:=zh hm;clear hm hpc h0
   have hi1:wrap64 ((i:Int)+1)=(i:Int)+1:=by unfold wrap64;omega
   have hi2:IntKind.i64.wrap ((i:Int)+1)=(i:Int)+1:=by rw[IntKind.wrap_i64];omega
   have hi3:(i:Int)+1≤(t.size:Int):=by omega
   have hi4:(0:Int)≤(i:Int)+1:=by omega
   gi_upto_region 4 with(refine⟨trivial,?_⟩;gi_at_call 43;refine(callsIn_wide.2 (Tryz.strings_IndexByte t 10 _)).mono ?_;rw[show(Int.toNat 10).toUInt8=10 from rfl,HI.out];rintro e w' ⟨rfl,rfl⟩)
   refine wpIn_wide.2 ?_;refine wp_region_held_drew (S:=fun _=>True) (by kernel_rfl) trivial (fun hHeld=> ?_);refine zH 1 ?_;refine zH 2 ?_;refine zH 5 ?_;refine zH 6 ?_;refine zR2 0 4 (fun K hK=> ?_) (fun K hK=> ?_)
   ·go_simp
    refine hK.out _ _ trivial (fun hHeld=> ?_);clear hK K
    try simp only[Act.put,zA,zB,zC,zD,zE,zF]
    refine zH 3 ?_;refine zH 8 ?_;refine zR 4 fun K hK=> ?_
    go_simp
    refine hK.out _ _ trivial (fun hHeld=> ?_);clear hK K
    try simp only[Act.put,zA,zB,zC,zD,zE,zF]
    refine zH 7 ?_;refine zR 9 fun K hK=> ?_
    go_simp
    refine hK.out _ _ trivial (fun hHeld=> ?_);clear hK K
    try simp only[Act.put,zA,zB,zC,zD,zE,zF]
    refine zx ?_
    gi_wp2
    refine hR.mono ?_;rintro e W3 (⟨rfl,hJ3,hk3⟩|⟨rfl,hJx3⟩)
    ·have hb3:Bk W3 b 9 #[.string (t.extract (i+1) t.size)]:=(hk3 b rfl).trans HBV.out
     have HB3:=zh hb3;have HJ3:=zh hJ3;clear hb3 hJ3 hk3
     gi_wp2
     go_roundw
     case rel=>exact⟨pre++[t.extract 0 (i+1)],t.extract (i+1) t.size,by rw[HP.out,HPC.out,List.append_assoc];rfl,by rw[ByteArray.size_extract];omega,HB3.out,HJ3.out⟩
     case measure=>
      have m1:Je b w'=t.size:=by simp[Je,d1]
      have m2:Je b W3=(t.extract (i+1) t.size).size:=by
       have:=HB3.out.cell 0;simp only[zI,zJ] at this;simp[Je,this]
      rw[m1,m2,ByteArray.size_extract];omega
    ·gi_wp2
     refine bodyPost_ret (results_none rfl _ _ _) rfl ?_;exact⟨⟨_,rfl⟩,.inr ⟨_,trivial,hJx3⟩⟩
   ·go_simp
    refine hK.out _ _ trivial (fun hHeld=> ?_);clear hK K
    try simp only[Act.put,zA,zB,zC,zD,zE,zF]
    refine zH 7 ?_;refine zR 0 fun K hK=> ?_
    go_simp
    refine hK.out _ _ trivial (fun hHeld=> ?_);clear hK K
    try simp only[Act.put,zA,zB,zC,zD,zE,zF]
    refine zH 3 ?_;refine zH 8 ?_;refine zR 9 fun K hK=> ?_
    go_simp
    refine hK.out _ _ trivial (fun hHeld=> ?_);clear hK K
    try simp only[Act.put,zA,zB,zC,zD,zE,zF]
    refine zx ?_
    gi_wp2
    refine hR.mono ?_;rintro e W3 (⟨rfl,hJ3,hk3⟩|⟨rfl,hJx3⟩)
    ·have hb3:Bk W3 b 9 #[.string (t.extract (i+1) t.size)]:=(hk3 b rfl).trans HBV.out
     have HB3:=zh hb3;have HJ3:=zh hJ3;clear hb3 hJ3 hk3
     gi_wp2
     go_roundw
     case rel=>exact⟨pre++[t.extract 0 (i+1)],t.extract (i+1) t.size,by rw[HP.out,HPC.out,List.append_assoc];rfl,by rw[ByteArray.size_extract];omega,HB3.out,HJ3.out⟩
     case measure=>
      have m1:Je b w'=t.size:=by simp[Je,d1]
      have m2:Je b W3=(t.extract (i+1) t.size).size:=by
       have:=HB3.out.cell 0;simp only[zI,zJ] at this;simp[Je,this]
      rw[m1,m2,ByteArray.size_extract];omega
    ·gi_wp2
     refine bodyPost_ret (results_none rfl _ _ _) rfl ?_;exact⟨⟨_,rfl⟩,.inr ⟨_,trivial,hJx3⟩⟩
open Go Go.RowKit
theorem Ya:∀(k n:Nat),n < 10 ^ (k+1)→(Lib.decDigits n).length≤k+1
 |k,n,h=>by
  by_cases h1:n < 10
  ·rw[Lib.decDigits,dif_pos h1]
   simp
  ·cases k with
   |zero=>simp at h;omega
   |succ k=>
    rw[Lib.decDigits,dif_neg h1,ze,List.length_singleton];have:=Ya k (n / 10) (by rw[Nat.pow_succ] at h;omega);omega
theorem Nw{n:Int}(h1: -1000000000000 < n)(h2:n < 1000000000000):(Lib.itoa n).length≤13:=by
 unfold Lib.itoa
 split
 ·have:=Ya 11 n.natAbs (by rw[show(10:Nat) ^ (11+1)=1000000000000 from rfl];omega)
  rw[List.length_cons];omega
 ·have:=Ya 11 n.toNat (by rw[show(10:Nat) ^ (11+1)=1000000000000 from rfl];omega)
  omega
theorem Q3:∀l:List Int,(∀x∈l,0≤x∧x < 1000000000000)→(Dr l).length≤14 * l.length
 | [],_=>by simp[Dr]
 | [n],h=>by
  have:=h n (by simp);have:=Nw (n:=n) (by omega) (by omega)
  show(Lib.itoa n).length≤14
  omega
 |n::m::r,h=>by
  have:=h n (by simp);have:=Nw (n:=n) (by omega) (by omega);have ih:=Q3 (m::r) fun x hx=>h x (List.mem_cons_of_mem _ hx)
  show(Lib.itoa n++32::Dr (m::r)).length≤_
  rw[ze,List.length_cons];simp only[List.length_cons] at ih⊢;omega
theorem Qa{s n:Aa}{o:List UInt8}{e:Int}{k:Nat}(h:e=0→o.length≤k):(Ew s n o e).2.1.length≤k:=by
 unfold Ew
 split
 ·rename_i h0;exact h h0
 ·exact Nat.zero_le _
theorem Ab7{p:Ab}{s:Aa}(hr:Bw p s)(l:List UInt8):(Lu p s l).length≤134217728:=by
 have hs:=hr.small;unfold Lu
 split
 ·rename_i h0
  clear h0;unfold Ee
  split
  ·have:=Q3 (Ka s) fun x hx=>by
    unfold Ka at hx;rw[List.mem_map] at hx;obtain⟨y,hy,rfl⟩:=hx;have:=(hs.row y hy).len;exact⟨by omega,by omega⟩
   have h1:=hs.ready;have h2:(Ka s).length=s.ready.length:=by simp[Ka]
   show(Dr (Ka s)).length≤_
   omega
  split
  ·have h1:=Gz hr.aw
   have h2:=Gz hr.ar;have h3:=Gz hr.dropped;have:=Q3 [s.aw,s.ar,s.dropped] fun x hx=>by
    simp only[List.mem_cons,List.not_mem_nil,or_false] at hx;rcases hx with rfl|rfl|rfl<;>exact⟨by omega,by omega⟩
   exact zr this (by simp)
  split
  ·exact Nat.zero_le _
  unfold opL
  split
  ·unfold Lw
   split
   ·exact Nat.zero_le _
   split
   ·exact Nat.zero_le _
   split
   ·exact Nat.zero_le _
   ·exact Qa fun _=>zr (Nw (Int.lt_of_lt_of_le (by decide) (Nf p s _ _ _).1) (Int.lt_of_le_of_lt (Nf p s _ _ _).2 (by decide))) (by decide)
  split
  ·unfold Ld
   split
   ·exact Nat.zero_le _
   split
   ·exact Nat.zero_le _
   split
   ·exact Nat.zero_le _
   ·have h2:∀q m,(Lib.itoa (Ge p s q m)).length≤13:=fun q m=>by
     have:=Yh hr q m;exact Nw (by omega) (by omega)
    exact Qa fun _=>zr (h2 _ _) (by decide)
  split
  ·unfold Jd
   split
   ·exact Nat.zero_le _
   split
   ·exact Nat.zero_le _
   ·exact Qa fun h0=>by
     obtain⟨m,y,_,_,_,e,h1,h2,h3,_⟩:=Vj hr h0;rw[e];have:=Q3 [Ch p s (Cl p _),y.bg] fun x hx=>by
      simp only[List.mem_cons,List.not_mem_nil,or_false] at hx;rcases hx with rfl|rfl
      ·exact h2
      ·exact h1
     simp only[ze,List.length_cons,List.length_nil] at this⊢;have hb:y.item.body.data.toList.length=y.item.body.size:=Array.length_toList;rw[hb]
     cases y.item.again<;>simp<;>omega
  split
  ·split
   ·exact Nat.zero_le _
   split
   ·exact Qa fun _=>by simp[wOk]
   split
   ·exact Qa fun _=>by simp[wOk]
   ·exact Qa fun _=>by simp[wOk]
  ·exact Nat.zero_le _
 ·have:=Agv hr l
  unfold Sm at this;have:=Nw (n:=(Ee p s l).2.2) (by omega) (by omega);simp only[ze,Rj,List.length_cons,List.length_nil];omega
def Aum(p:Ab)(x:Aa×List UInt8)(l:List UInt8):Aa×List UInt8:=(N3 p x.1 l,x.2++(Lu p x.1 l++[10]))
theorem Acr(p:Ab):∀(ls:List (List UInt8))(s:Aa)(o:List UInt8),(ls.foldl (Aum p) (s,o)).2=o++Oz p s ls
 | [],s,o=>by simp[Oz]
 |l::ls,s,o=>by
  rw[List.foldl_cons]
  show(ls.foldl (Aum p) (N3 p s l,o++(Lu p s l++[10]))).2=_
  rw[Acr p ls];simp[Oz]
def Lk(x:zN):List UInt8:=Lib.trimSuffix x.data.toList [10]
theorem Ahi(l:List UInt8):Lk (bs (l++[10]))=l:=by
 show Lib.trimSuffix (l++[10]).toArray.toList [10]=l
 simp[Lib.trimSuffix,Lib.hasSuffix]
theorem Amd{t:zN}(h:t.size≠0→t.toList.getLast? =some 10):(Fy t).map Lk=Hz [] t.toList:=by
 unfold Fy;rw[Rb t.toList [] (fun _=>rfl) fun hr=>h fun e=>hr (List.eq_nil_of_length_eq_zero (by rw[Eo,e]))];rw[List.map_map,List.map_map]
 conv=>rhs;rw[←List.map_id (Hz [] t.toList)]
 exact List.map_congr_left fun x _=>Ahi x
theorem Tb:∀(r acc:List UInt8),(Hq acc r).flatten=acc++r
 | [],acc=>by unfold Hq;split<;>simp_all
 |b::r,acc=>by
  unfold Hq
  split
  ·rename_i h
   subst h;rw[List.flatten_cons,Tb r []];simp
  ·rw[Tb r]
   simp
theorem Vm:∀(r acc:List UInt8),(Hq acc r).length≤r.length+1
 | [],acc=>by unfold Hq;split<;>simp
 |b::r,acc=>by
  unfold Hq
  split
  ·have:=Vm r []
   simp only[List.length_cons];omega
  ·have:=Vm r (acc++[b])
   simp only[List.length_cons];omega
theorem Awq{s:zN}{pre:List zN}{x:zN}(h:(pre++[x]) <+:Fy s):x.size≤s.size∧pre.length≤s.size:=by
 have hm:x∈Fy s:=h.subset (by simp);have hl:=h.length_le;unfold Fy at hm hl;have h1:=Vm s.toList [];rw[List.length_map,ze,List.length_singleton] at hl;rw[Eo] at h1;refine⟨?_,by omega⟩;rw[List.mem_map] at hm;obtain⟨y,hy,rfl⟩:=hm;have h2:=(List.sublist_flatten_of_mem hy).length_le;rw[Tb,List.nil_append,Eo] at h2;rw[D7];exact h2
def runs(p:Ab)(pre:List zN):Aa×List UInt8:=(pre.map Lk).foldl (Aum p) (B5 p,[])
theorem Yw(p:Ab)(pre:List zN)(x:zN):runs p (pre++[x])=Aum p (runs p pre) (Lk x):=by
 unfold runs;rw[List.map_append,List.foldl_append];rfl
theorem Acs{p:Ab}(h:Bw p (B5 p))(pre:List zN):Bw p (runs p pre).1∧(runs p pre).2.length≤134217729 * pre.length:=by
 have key:∀n (pre:List zN),pre.length=n→Bw p (runs p pre).1∧(runs p pre).2.length≤134217729 * pre.length:=by
  intro n
  induction n with
  |zero=>
   intro pre hl;obtain rfl:=List.eq_nil_of_length_eq_zero hl;exact⟨h,Nat.zero_le _⟩
  |succ n ih=>
   intro pre hl;obtain⟨pre',x,rfl⟩:∃pre' x,pre=pre'++[x]:=⟨pre.dropLast,pre.getLast (fun e=>by rw[e] at hl;simp at hl),(List.dropLast_concat_getLast _).symm⟩;have h0:pre'.length=n:=by simpa using hl
   obtain⟨h1,h2⟩:=ih pre' h0;have h3:=Ab7 h1 (Lk x);rw[Yw];refine⟨Agu _ h1,?_⟩
   show((runs p pre').2++(Lu p (runs p pre').1 (Lk x)++[10])).length≤_
   simp only[ze,List.length_singleton];omega
 exact key _ _ rfl
theorem Aqd{p:Ab}{t:zN}(h:t.size≠0→t.toList.getLast? =some 10):(runs p (Fy t)).2=Oz p (B5 p) (Hz [] t.toList):=by
 unfold runs;rw[Amd h,Acr];rfl
theorem Au3(B b:Nat)(l:List UInt8)(s:zN)(w:zW)(h:Lib.IsBuilderF 48 5 B b (Lib.byteCells l) w)(hlen:l.length+s.size≤140737488355328)(hBw:B≤w.heap.size):
  Calls Tryz.prog 12 #[zt b,.string s] w fun e w'=>e= .returned (.tuple #[.int .i64 s.size,.nilIface])∧(Lib.IsBuilderF 48 5 B b (Lib.byteCells (l++s.data.toList)) w'∧Below B w w'∧Lib.OthersKept 5 (some b) w w'):=by
 refine(Any.Builder_WriteString_k (P:=Tryz.prog) (ρ:=Tryz.lays156_ren) { Tryz.lays156 with } Tryz.Builder_Extra_156 B b (Lib.byteCells l) s w h (by rw[Lib.byteCells_length];exact hlen) hBw).mono ?_;rintro e w' ⟨rfl,h1,h2,h3⟩;exact⟨rfl,.inr (by rw[show Lib.byteCells (l++s.data.toList)=Lib.byteCells l++Lib.strCells s from List.map_append];exact h1),h2,h3⟩
theorem Aop(s:zN)(w:zW):
  Calls Tryz.prog 11 #[.string s] w fun e w'=>e= .returned (.func (.func 42) #[] #[zt w.heap.size])∧w'=w.alloc (.cells #[.string s] 9):=by
 have hmf:∀(fn:Fn)(first cap:Array Value)(w:zW),(Instr.makeFunc fn first cap).run Tryz.prog w= .ok (.func fn first cap) w:=fun _ _ _ _=>rfl;go_enter Tryz.func11,Tryz.ntmps11
 go_wp2
 go_ret
 exact⟨rfl,rfl⟩
theorem Ai6(n:Nat)(hn:1≤n)(b:Nat)(s:zN)(hsz:s.size≤1048576)(w:zW)(h:Bk w b 9 #[.string s]):
  Amn Fence.wide n Tryz.prog 42 #[zt b] (fun x:zN=> #[.string x]) (fun r=>r=b) (G3 fun r=>r=b) (fun xs=>xs=Fy s) (fun _=>True) (fun pre x=>(pre++[x]) <+:Fy s) w:=
 fun l J Jx W hW hJ _ hY h0=>Apz n hn l b s hsz J Jx W hJ hY (h.below hW h.lt) h0
theorem Vg{T e:TypeId}{B b:Nat}{bs:List Value}{V V':zW}{row:Option Nat}(h:Lib.IsBuilderF T e B b bs V)(hg:V.grownBy V' row)(hr:∀r,row=some r→r≠b∧∀c fz,V.heap[r]? ≠some (.cells c e fz)):Lib.IsBuilderF T e B b bs V':=by
 have key:∀q,Lib.BuilderAtF T e B b q bs V→Lib.BuilderAtF T e B b q bs V':=by
  intro q h;have hlt:=h.lt;obtain⟨hB,v,hb,hown,hne⟩:=h;refine⟨hB,v,(hg.block b hlt (fun e=>(hr b e.symm).1 rfl)).trans hb,hown.kept hg ?_,hne⟩;rcases hown.2 with⟨rfl,_⟩|⟨g,cap,cur,fz,rfl,_,hgc,_⟩
  ·exact .inl rfl
  ·exact .inr fun e=>(hr g e.symm).2 cur fz hgc
 exact h.elim (fun x=> .inl (key _ x)) (fun x=> .inr (key _ x))
theorem Ns{T e:TypeId}{B b:Nat}{bs:List Value}{V:zW}(h:Lib.IsBuilderF T e B b bs V):∃cs,Bk V b T cs:=by
 rcases h with h|h<;>(obtain⟨_,v,hb,_⟩:=h;exact⟨_,hb⟩)
structure PlJ (W0:zW) (pb bb bx:Nat) (p:Ab) (p1 p2 p3:zZ) (q1 q2 q3:Nat) (s:Aa) (o:List UInt8) (V:zW):Prop where
 st:TbS W0 V p p1 p2 p3 q1 q2 q3 s
 bd:Lib.IsBuilderF 48 5 bb bb (Lib.byteCells o) V
 pt:Bk V pb 35 #[zt W0.heap.size]
 box:∃cs,Bk V bx 9 cs
section
variable {W0 V V':zW} {pb bb bx:Nat} {p:Ab} {p1 p2 p3:zZ} {q1 q2 q3:Nat} {s:Aa} {o:List UInt8}
theorem PlJ.below(h:PlJ W0 pb bb bx p p1 p2 p3 q1 q2 q3 s o V):Below W0.heap.size W0 V:=by
 obtain⟨_,_,_,_,_,_,_,h⟩:=h.st;exact h.below
theorem PlJ.tab(h:PlJ W0 pb bb bx p p1 p2 p3 q1 q2 q3 s o V):∃cs,Bk V W0.heap.size 42 cs:=by
 obtain⟨_,_,_,_,_,_,_,h⟩:=h.st;exact⟨_,h.bk⟩
theorem PlJ.own{row:Option Nat}{B:Nat}(hB:W0.heap.size≤B)(hx:W0.heap.size≤bx)(h:PlJ W0 pb bb bx p p1 p2 p3 q1 q2 q3 s o V)(hg:V.grownBy V' row)(hr:∀r,row=some r→(r=bx∧TyK V V' r)∨(B≤r∧∃o:Obj,V.heap[r]? =some o∧o.isCells=false)):
  PlJ W0 pb bb bx p p1 p2 p3 q1 q2 q3 s o V':=by
 obtain⟨cx,hcx⟩:=h.box;have hnc:∀r t cs,row=some r→t≠9→¬ Bk V r t cs:=fun r t cs e ht hb=>by
  rcases hr r e with⟨rfl,_⟩|⟨_,o',ho,hc⟩
  ·exact ht (hb.ty hcx)
  ·unfold Bk at hb
   rw[hb] at ho
   cases ho
   cases hc
 have hk:Ah [9] V V':=fun b t cs ht hb=>hb.grown hg fun e=>hnc b t cs e.symm (fun e=>ht (List.mem_singleton.2 e)) hb;have hrow:∀r,row=some r→W0.heap.size≤r:=fun r e=>by
  rcases hr r e with⟨rfl,_⟩|⟨hb,_⟩<;>omega
 refine⟨h.st.typed hk (h.below.grown hg h.below.size hrow),Vg h.bd hg fun r e=>⟨fun e'=> ?_,fun c fz hc=> ?_⟩,hk _ _ _ (by decide) h.pt,?_⟩
 ·obtain⟨cs,hb⟩:=Ns h.bd
  exact hnc r _ cs e (by decide) (e'▸hb)
 ·rcases hr r e with⟨rfl,_⟩|⟨_,o',ho,hcc⟩
  ·unfold Bk at hcx
   rw[hcx] at hc
   cases hc
  ·rw[hc] at ho
   cases ho
   cases hcc
 ·by_cases e:row=some bx
  ·rcases hr bx e with⟨_,ht⟩|⟨_,o',ho,hc⟩
   ·exact ht _ _ hcx
   ·unfold Bk at hcx
    rw[hcx] at ho
    cases ho
    cases hc
  ·exact⟨_,hcx.grown hg fun e'=>e e'.symm⟩
theorem PlJ.line{l:List UInt8}{e:Ending}(h:PlJ W0 pb bb bx p p1 p2 p3 q1 q2 q3 s o V)(hl:R8 W0 V p p1 p2 p3 q1 q2 q3 (Ee p s l) e V'):
  e= .returned (.string (bs (Lu p s l)))∧PlJ W0 pb bb bx p p1 p2 p3 q1 q2 q3 (N3 p s l) o V'∧KeepsOthers V V'∧G3 (fun r=>r=bx) V V':=by
 obtain⟨hg,ht,rfl⟩:=hl;obtain⟨ct,hct⟩:=h.tab;obtain⟨cx,hcx⟩:=h.box;obtain⟨cb,hcb⟩:=Ns h.bd;have hne:∀ {r t cs},Bk V r t cs→t≠42→some r≠some W0.heap.size:=fun hb htt e=>by
  cases e
  exact htt (hb.ty hct)
 refine⟨rfl,⟨ht,Vg h.bd hg fun r e=> ?_,h.pt.grown hg (hne h.pt (by decide)),⟨_,hcx.grown hg (hne hcx (by decide))⟩⟩,?_,?_⟩
 ·cases e
  refine⟨fun e=>hne hcb (by decide) (by rw[e]),fun c fz hc=> ?_⟩;unfold Bk at hct;rw[hct] at hc
  cases hc
 ·exact KeepsOthers.of_grownBy hg fun j o e ho=>by
   cases e
   unfold Bk at hct;rw[hct] at ho
   cases ho
   rfl
 ·rintro r rfl
  exact hg.block _ hcx.lt (hne hcx (by decide))
theorem PlJ.write{x:List UInt8}(h:PlJ W0 pb bb bx p p1 p2 p3 q1 q2 q3 s o V)(hB:W0.heap.size≤bb)(h1:Lib.IsBuilderF 48 5 bb bb (Lib.byteCells x) V')(h2:Below bb V V')(h3:Lib.OthersKept 5 (some bb) V V'):
  PlJ W0 pb bb bx p p1 p2 p3 q1 q2 q3 s x V'∧KeepsOthers V V'∧G3 (fun r=>r=bx) V V':=by
 obtain⟨cx,hcx⟩:=h.box;obtain⟨cb,hcb⟩:=Ns h.bd;have hk:Ah [48,5] V V':=fun b t cs ht hb=>h3 b _ hb (fun e=>by
   cases e
   exact ht (by rw[hb.ty hcb];exact List.mem_cons_self ..)) fun c fz e=>by
   cases e
   exact ht (List.mem_cons_of_mem _ (List.mem_singleton.2 rfl))
 have hx:=hk _ _ _ (by decide) hcx;refine⟨⟨h.st.typed hk (h.below.trans (h2.mono hB)),h1,hk _ _ _ (by decide) h.pt,_,hx⟩,⟨h2.size,fun k o' ho hc=>h3 k o' ho (fun e=> ?_) fun c fz e=> ?_⟩,?_⟩
 ·cases e
  unfold Bk at hcb;rw[hcb] at ho
  cases ho
  cases hc
 ·cases e
  cases hc
 ·rintro r rfl
  exact Eq.trans hx (Eq.symm hcx)
end
end Go.Proofs.YtpkneogjdfolaaaGreatDoor
