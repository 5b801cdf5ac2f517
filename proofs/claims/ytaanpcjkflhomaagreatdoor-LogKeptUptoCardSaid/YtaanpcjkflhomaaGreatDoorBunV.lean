/-
  Rows of ints that are read, in all that comes.
-/
import Derived.Test.YtaanpcjkflhomaaGreatDoorBunO
import Derived.Test.YtaanpcjkflhomaaGreatDoorBunN
import Derived.Test.YtaanpcjkflhomaaGreatDoorBunB
import Derived.Test.YtaanpcjkflhomaaGreatDoorBunD
set_option maxHeartbeats 20000000
set_option maxRecDepth 100000
set_option linter.unusedSimpArgs false
set_option linter.unusedVariables false
namespace Go.Proofs.YtaanpcjkflhomaaGreatDoor
open Go Go.RowKit
def IntsIn (W0:World) (v:Value) (xs:List Int):Prop:=∃a c,v= .slice a xs.length c∧xs.length≤1048576∧Sl W0 0 W0.heap.size a (xs.map (Value.int .i64))
theorem IntsIn.at_ {W0 W:World} {a:Option Addr} {c:Nat} {xs:List Int} (h:Sl W0 0 W0.heap.size a (xs.map (Value.int .i64))) (hb:Below W0.heap.size W0 W) {j:Nat} (hj:j < xs.length):∃b o,a=some ⟨b,o,none⟩∧∀i,(hi:i < xs.length)→W.cell? ⟨b,o+i,none⟩=some (.int .i64 xs[i]):=by
 obtain⟨b,o,rfl,h1,h2⟩:=M0 h hj;refine⟨b,o,rfl,fun i hi=> ?_⟩;obtain⟨b',o',e,h3,h4⟩:=M0 h hi;simp only[Option.some.injEq,Addr.mk.injEq] at e;obtain⟨rfl,rfl,_⟩:=e;exact(hb.cell (p:=⟨b,o+i,none⟩) h1).trans h4
theorem IntsIn.since {W0 W:World} {v:Value} {xs:List Int} (h:IntsIn W0 v xs) (hb:Below W0.heap.size W0 W):IntsIn W v xs:=by
 obtain⟨a,c,e,h1,h2⟩:=h;exact⟨a,c,e,h1,(h2.below hb (zn _)).wider (zn _) hb.size⟩
theorem O1 {w:World} {base:Nat} {v:Value} {xs:List Int} (h:Ch w base v xs) (hl:xs.length≤1048576):IntsIn w v xs:=by
 obtain⟨a,c,rfl,_⟩:=Ad h;exact⟨a,c,rfl,hl,(Sl.cu (n:=xs.length) h).wider (Nat.zero_le _) (zn _)⟩
theorem Z8 {xs:List Int} {j:Nat} (hj:j < xs.length) (q:Int):decide (q∈xs.take (j+1))=(decide (q∈xs.take j) || decide (xs[j]=q)):=by
 rw[zj hj];simp only[List.mem_append,List.mem_singleton,Bool.decide_or]
 congr 1
 simp[eq_comm]
open Go.RowKit
theorem R0 (p:Ab) (n:Nat) (hn:n < p.binds.length) (key:ByteArray) (a1 a2 a3:Option Addr) (c1 c2 c3 lo:Nat) (w:World) (hp:Az w lo w.heap.size a1 a2 a3 p) (hps:Ai p) (k:Nat) (hk:k < p.aj.length) (hb:p.binds[n].src=k) (h2:key.size≤1048576):
  Calls Tryz.prog 141 #[Bc p a1 a2 a3 c1 c2 c3,.int .i64 n,.string key] w fun e w'=>e= .returned (.bool (fitsAt p n key))∧Below w.heap.size w w':=by
 obtain⟨g,o,ha,_,hg,hc⟩:=Bd Jz (by decide) hp.aj hk;obtain⟨g2,o2,ha2,_,hg2,hc2⟩:=Bd Ho (by decide) hp.binds hn;subst ha ha2;have hpat:=hps.bind _ (zg hn);have hnl:=hps.binds;have hkl:=hps.aj;have hbl1:∀o1,Below w.heap.size w (w.alloc o1):=fun o1=>(zb _ w).alloc (zn _) o1;have hbl:∀o1 o2,Below w.heap.size w ((w.alloc o1).alloc o2):=fun o1 o2=>((zb _ w).alloc (zn _) o1).alloc (by simp) o2;have e1:∀o1 o2,((w.alloc o1).alloc o2).cell? ⟨g,o+k * 2+1,none⟩=some (.int .i64 p.aj[k].kind):=fun o1 o2=>((hbl o1 o2).cell (p:=⟨g,_,none⟩) hg).trans (hc 1 _ rfl);have d0:∀o1,(w.alloc o1).cell? ⟨g2,o2+n * 4,none⟩=some (.int .i64 p.binds[n].src):=fun o1=>((hbl1 o1).cell (p:=⟨g2,_,none⟩) hg2).trans (hc2 0 _ rfl);have d1:∀o1,(w.alloc o1).cell? ⟨g2,o2+n * 4+1,none⟩=some (.bool p.binds[n].cd):=fun o1=>((hbl1 o1).cell (p:=⟨g2,_,none⟩) hg2).trans (hc2 1 _ rfl);have d2:∀o1,(w.alloc o1).cell? ⟨g2,o2+n * 4+2,none⟩=some (.int .i64 p.binds[n].to):=fun o1=>((hbl1 o1).cell (p:=⟨g2,_,none⟩) hg2).trans (hc2 2 _ rfl);have d3:∀o1,(w.alloc o1).cell? ⟨g2,o2+n * 4+3,none⟩=some (.string p.binds[n].pattern):=fun o1=>((hbl1 o1).cell (p:=⟨g2,_,none⟩) hg2).trans (hc2 3 _ rfl);have hby:fitsAt p n key=byK p.aj[k].kind p.binds[n].pattern key:=by
  simp[fitsAt,byP,Zz,hn,hb,hk]
 have HBY:=zh hby;have HBL:=zh hbl;clear hby hc hc2 hp hps hbl hbl1;unfold Bc;rw[hb] at d0;clear hb;generalize p.aj[k].kind=kd at *;generalize p.binds[n].pattern=pat at *;generalize p.binds[n].cd=tp at *;generalize p.binds[n].to=dst at *;by_cases hk1:kd=1
 ·subst hk1
  have HR:Hid (fitsAt p n key=(pat.toList == key.toList)):=HBY.out.trans (by simp[byK]);go_enter Tryz.func141,Tryz.ntmps141
  go_wp2_with fail
  go_ret
  exact⟨by rw[HR.out];rfl,HBL.out _ _⟩
 ·by_cases hk3:kd=3
  ·subst hk3
   have HR:Hid (fitsAt p n key=Aa9 pat key):=HBY.out.trans (by simp[byK]);clear hk1;go_enter Tryz.func141,Tryz.ntmps141
   go_wp2_with fail
   refine(Ae4 pat key _ (by omega) (by omega)).mono ?_;rintro e w1 ⟨rfl,hb1⟩;have H1:=zh ((HBL.out _ _).trans (hb1.mono (HBL.out _ _).size));clear hb1
   go_wp2_with fail
   go_ret
   exact⟨by rw[HR.out];rfl,H1.out⟩
  ·have HR:Hid (fitsAt p n key=true):=HBY.out.trans (by simp[byK,hk1,hk3])
   have b1:(kd == 1)=false:=by simp[hk1]
   have b3:(kd == 3)=false:=by simp[hk3]
   clear hk1 hk3;go_enter Tryz.func141,Tryz.ntmps141
   go_wp2_with fail
   go_ret
   exact⟨by rw[HR.out];rfl,HBL.out _ _⟩
end Go.Proofs.YtaanpcjkflhomaaGreatDoor
namespace Go.Proofs.YtaanpcjkflhomaaGreatDoor
open Go.RowKit
open Go Go.RowKit
def Awn (xs:List Int) (n:Int) (w:World) (i:Value):Prop:=∃k:Nat,k≤xs.length∧i= .int .i64 k∧n∉xs.take k
theorem Aov (a:Option Addr) (c:Nat) (xs:List Int) (n:Int) (w:World) (lo:Nat) (hx:Sl w lo w.heap.size a (xs.map (Value.int .i64))) (hl:xs.length≤1048576):
  Calls Tryz.prog 140 #[.slice a xs.length c,.int .i64 n] w fun e w'=>e= .returned (.bool (decide (n∈xs)))∧w'=w:=by
 have HX:=zh hx;clear hx
 go_enter Tryz.func140,Tryz.ntmps140
 go_wp2
 go_loop [5] (fun i=>Awn xs n w i) (fun i=>xs.length - (intOf i).toNat)
 case atStart=>exact⟨0,by omega,rfl,by simp⟩
 case round=>
  obtain⟨k,hk,rfl,hn⟩:=hrel;by_cases hlt:k < xs.length
  ·obtain⟨b,o,rfl,hb,hc⟩:=M0 HX.out hlt
   have hj2:(k:Int) < (xs.length:Int):=by omega
   have hst:=Z8 hlt n;have hmem:=zg hlt;generalize xs[k]=y at *;by_cases he:y=n
   ·have heb:(y == n)=true:=by simp[he]
    subst he;have HM:=zh hmem;clear hst hmem hn
    go_wp2
    go_ret
    exact⟨by rw[decide_eq_true HM.out];rfl,rfl⟩
   ·have heb:(y == n)=false:=by simp[he]
    have HN:Hid (n∉xs.take (k+1)):=zh (by
     intro h;rw[decide_eq_true h,decide_eq_false hn,decide_eq_false he] at hst
     cases hst)
    clear hst hmem he hn
    go_wp2
    go_round
    case rel=>exact⟨k+1,by omega,by go_num,HN.out⟩
    case measure=>simp[intOf];omega
  ·have HN:Hid (n∉xs):=zh (by rwa [List.take_of_length_le (by omega)] at hn)
   clear hn
   go_wp2
   go_ret
   exact⟨by rw[decide_eq_false HN.out];rfl,rfl⟩
theorem Ahz {key:ByteArray} {X g m:Nat} {r:Nat} {t:Array Value} (h:t= #[gd t 0,gd t 1,.string key,.pointer (some ⟨X,0,none⟩),gd t 4,gd t 5,.slice none 0 0,.slice (some ⟨g,0,none⟩) m m,.int .i64 (r:Int),gd t 9,gd t 10,gd t 11,gd t 12,gd t 13,gd t 14,gd t 15,gd t 16,gd t 17,gd t 18,gd t 19,gd t 20,gd t 21,gd t 22,gd t 23,gd t 24,gd t 25,gd t 26,gd t 27,gd t 28,gd t 29,gd t 30,gd t 31,gd t 32,gd t 33,gd t 34,gd t 35,gd t 36,gd t 37,gd t 38,gd t 39,gd t 40,gd t 41,gd t 42,gd t 43,gd t 44,gd t 45,gd t 46,gd t 47,gd t 48,gd t 49,gd t 50,gd t 51,gd t 52,gd t 53,gd t 54,gd t 55,gd t 56,gd t 57,gd t 58,gd t 59,gd t 60,gd t 61,gd t 62,gd t 63,gd t 64,gd t 65,gd t 66,gd t 67,gd t 68,gd t 69,gd t 70,gd t 71,gd t 72]):∃u:Nat→Value,t= #[u 0,u 1,.string key,.pointer (some ⟨X,0,none⟩),u 4,u 5,.slice none 0 0,.slice (some ⟨g,0,none⟩) m m,.int .i64 (r:Int),u 9,u 10,u 11,u 12,u 13,u 14,u 15,u 16,u 17,u 18,u 19,u 20,u 21,u 22,u 23,u 24,u 25,u 26,u 27,u 28,u 29,u 30,u 31,u 32,u 33,u 34,u 35,u 36,u 37,u 38,u 39,u 40,u 41,u 42,u 43,u 44,u 45,u 46,u 47,u 48,u 49,u 50,u 51,u 52,u 53,u 54,u 55,u 56,u 57,u 58,u 59,u 60,u 61,u 62,u 63,u 64,u 65,u 66,u 67,u 68,u 69,u 70,u 71,u 72]:=⟨fun i=>t.getD i undef,h⟩
theorem Ah0 {key:ByteArray} {X g m:Nat} {r j:Nat} {t:Array Value} (h:t= #[gd t 0,gd t 1,.string key,.pointer (some ⟨X,0,none⟩),gd t 4,gd t 5,.slice none 0 0,.slice (some ⟨g,0,none⟩) m m,.int .i64 (r:Int),.int .i64 (j:Int),gd t 10,gd t 11,gd t 12,gd t 13,gd t 14,gd t 15,gd t 16,gd t 17,gd t 18,gd t 19,gd t 20,gd t 21,gd t 22,gd t 23,gd t 24,gd t 25,gd t 26,gd t 27,gd t 28,gd t 29,gd t 30,gd t 31,gd t 32,gd t 33,gd t 34,gd t 35,gd t 36,gd t 37,gd t 38,gd t 39,gd t 40,gd t 41,gd t 42,gd t 43,gd t 44,gd t 45,gd t 46,gd t 47,gd t 48,gd t 49,gd t 50,gd t 51,gd t 52,gd t 53,gd t 54,gd t 55,gd t 56,gd t 57,gd t 58,gd t 59,gd t 60,gd t 61,gd t 62,gd t 63,gd t 64,gd t 65,gd t 66,gd t 67,gd t 68,gd t 69,gd t 70,gd t 71,gd t 72]):∃u:Nat→Value,t= #[u 0,u 1,.string key,.pointer (some ⟨X,0,none⟩),u 4,u 5,.slice none 0 0,.slice (some ⟨g,0,none⟩) m m,.int .i64 (r:Int),.int .i64 (j:Int),u 10,u 11,u 12,u 13,u 14,u 15,u 16,u 17,u 18,u 19,u 20,u 21,u 22,u 23,u 24,u 25,u 26,u 27,u 28,u 29,u 30,u 31,u 32,u 33,u 34,u 35,u 36,u 37,u 38,u 39,u 40,u 41,u 42,u 43,u 44,u 45,u 46,u 47,u 48,u 49,u 50,u 51,u 52,u 53,u 54,u 55,u 56,u 57,u 58,u 59,u 60,u 61,u 62,u 63,u 64,u 65,u 66,u 67,u 68,u 69,u 70,u 71,u 72]:=⟨fun i=>t.getD i undef,h⟩
def po3_T (g m i:Nat) (v:Value) (t:Array Value):Array Value:=fj [fr t 0 6,[.slice none 0 0,.slice (some ⟨g,0,none⟩) m m,gd t 8,gd t 9,gd t 10,v,.int .i64 (i:Int)],fr t 13 60]
theorem Ah1 {g m i:Nat} {v:Value} {t:Array Value} (h:t=(po3_T g m i v t)):∃u:Nat→Value,t= #[u 0,u 1,u 2,u 3,u 4,u 5,.slice none 0 0,.slice (some ⟨g,0,none⟩) m m,u 8,u 9,u 10,v,.int .i64 (i:Int),u 13,u 14,u 15,u 16,u 17,u 18,u 19,u 20,u 21,u 22,u 23,u 24,u 25,u 26,u 27,u 28,u 29,u 30,u 31,u 32,u 33,u 34,u 35,u 36,u 37,u 38,u 39,u 40,u 41,u 42,u 43,u 44,u 45,u 46,u 47,u 48,u 49,u 50,u 51,u 52,u 53,u 54,u 55,u 56,u 57,u 58,u 59,u 60,u 61,u 62,u 63,u 64,u 65,u 66,u 67,u 68,u 69,u 70,u 71,u 72]:=⟨fun i=>t.getD i undef,h⟩
def Mj (W:World) (g:Nat) (l:List Bool):Prop:=Bk W g 4 (l.map Value.bool).toArray
theorem Mj.cell {W:World} {g:Nat} {l:List Bool} (h:Mj W g l) {i:Nat} (hi:i < l.length):W.cell? ⟨g,i,none⟩=some (.bool l[i]):=by
 have:=Bk.cell h i;rw[this];simp[hi]
theorem Mj.set {W:World} {g:Nat} {l:List Bool} (h:Mj W g l) (i:Nat) (b:Bool):Mj (W.setCell ⟨g,i,none⟩ (.bool b)) g (l.set i b):=by
 have:=Bk.ck h i (.bool b);unfold Mj;rw[List.map_set];simpa using this
structure T6 (w:World) (p:Ab) (P:Array Value) (g:Nat) (l:List Bool) (W:World):Prop where
 box:Bk W w.heap.size 26 P
 is:Mj W g l
 below:Below w.heap.size w W
 g:w.heap.size < g
theorem T6.on {w W W':World} {p:Ab} {P:Array Value} {g:Nat} {l:List Bool} (h:T6 w p P g l W) (hb:Below W.heap.size W W'):T6 w p P g l W':=
 ⟨h.box.below hb h.box.lt,Bk.below h.is hb (Bk.lt h.is),h.below.trans (hb.mono h.below.size),h.g⟩
theorem T6.set {w W:World} {p:Ab} {P:Array Value} {g:Nat} {l:List Bool} (h:T6 w p P g l W) (i:Nat):T6 w p P g (l.set i true) (W.setCell ⟨g,i,none⟩ (.bool true)):=
 ⟨h.box.far (p:=⟨g,i,none⟩) (by have:=h.g;show w.heap.size≠g;omega) _,h.is.set i true,h.below.setCell (p:=⟨g,i,none⟩) (by have:=h.g;show w.heap.size≤g;omega) _,h.g⟩
noncomputable def Amt:Code:=Ik Tryz.f139 0
noncomputable def Avf:Code:=Akl Amt 0
noncomputable def Avg:Code:=Ik Tryz.f139 1
theorem Uo {W:World} {lo hi:Nat} {a:Option Addr} {bs:List B4} (h:Sl W lo hi a (bs.flatMap D4)) {i:Nat} {b:B4} (hb:bs[i]? =some b):∃g o,a=some ⟨g,o,none⟩∧W.cell? ⟨g,o+i * 4,none⟩=some (.int .i64 b.src)∧W.cell? ⟨g,o+i * 4+1,none⟩=some (.bool b.cd)∧W.cell? ⟨g,o+i * 4+2,none⟩=some (.int .i64 b.to)∧W.cell? ⟨g,o+i * 4+3,none⟩=some (.string b.pattern):=by
 have hi:=(List.getElem?_eq_some_iff.1 hb).1;obtain⟨g,o,rfl,_,_,hx⟩:=Bd Ho (by decide) h hi;rw[(List.getElem?_eq_some_iff.1 hb).2] at hx;exact⟨g,o,rfl,hx 0 _ rfl,hx 1 _ rfl,hx 2 _ rfl,hx 3 _ rfl⟩
def Amr (w:World) (p:Ab) (key:ByteArray) (P:Array Value) (g m r:Nat) (l:List Bool) (a:Act) (wr:World):Prop:=
 ∃(t:Array Value) (j:Nat),t= #[gd t 0,gd t 1,.string key,.pointer (some ⟨w.heap.size,0,none⟩),gd t 4,gd t 5,.slice none 0 0,.slice (some ⟨g,0,none⟩) m m,.int .i64 (r:Int),.int .i64 (j:Int),gd t 10,gd t 11,gd t 12,gd t 13,gd t 14,gd t 15,gd t 16,gd t 17,gd t 18,gd t 19,gd t 20,gd t 21,gd t 22,gd t 23,gd t 24,gd t 25,gd t 26,gd t 27,gd t 28,gd t 29,gd t 30,gd t 31,gd t 32,gd t 33,gd t 34,gd t 35,gd t 36,gd t 37,gd t 38,gd t 39,gd t 40,gd t 41,gd t 42,gd t 43,gd t 44,gd t 45,gd t 46,gd t 47,gd t 48,gd t 49,gd t 50,gd t 51,gd t 52,gd t 53,gd t 54,gd t 55,gd t 56,gd t 57,gd t 58,gd t 59,gd t 60,gd t 61,gd t 62,gd t 63,gd t 64,gd t 65,gd t 66,gd t 67,gd t 68,gd t 69,gd t 70,gd t 71,gd t 72]∧j≤p.binds.length∧T6 w p P g (D9 p key l j) wr∧a=⟨t,[]⟩
theorem Asp (p:Ab) (hr:Bz p) (hs:Ai p) (key:ByteArray) (hkey:key.size≤1048576) (a1 a2 a3:Option Addr) (c1 c2 c3:Nat) (w:World) (g m r:Nat) (l:List Bool) (hlm:l.length=m) (hm:m=p.aj.length)
  (hpl:Az w 0 w.heap.size a1 a2 a3 p) (Q0:Exit→Act→World→Prop)
  (hend:∀(t:Array Value) (j:Nat) (W:World),t= #[gd t 0,gd t 1,.string key,.pointer (some ⟨w.heap.size,0,none⟩),gd t 4,gd t 5,.slice none 0 0,.slice (some ⟨g,0,none⟩) m m,.int .i64 (r:Int),.int .i64 (j:Int),gd t 10,gd t 11,gd t 12,gd t 13,gd t 14,gd t 15,gd t 16,gd t 17,gd t 18,gd t 19,gd t 20,gd t 21,gd t 22,gd t 23,gd t 24,gd t 25,gd t 26,gd t 27,gd t 28,gd t 29,gd t 30,gd t 31,gd t 32,gd t 33,gd t 34,gd t 35,gd t 36,gd t 37,gd t 38,gd t 39,gd t 40,gd t 41,gd t 42,gd t 43,gd t 44,gd t 45,gd t 46,gd t 47,gd t 48,gd t 49,gd t 50,gd t 51,gd t 52,gd t 53,gd t 54,gd t 55,gd t 56,gd t 57,gd t 58,gd t 59,gd t 60,gd t 61,gd t 62,gd t 63,gd t 64,gd t 65,gd t 66,gd t 67,gd t 68,gd t 69,gd t 70,gd t 71,gd t 72]→T6 w p (zP p a1 a2 a3 c1 c2 c3) g (D9 p key l p.binds.length) W→Q0 (.exit 2) ⟨t,[]⟩ W) (t:Array Value) (j:Nat) (W:World) (ht:t= #[gd t 0,gd t 1,.string key,.pointer (some ⟨w.heap.size,0,none⟩),gd t 4,gd t 5,.slice none 0 0,.slice (some ⟨g,0,none⟩) m m,.int .i64 (r:Int),.int .i64 (j:Int),gd t 10,gd t 11,gd t 12,gd t 13,gd t 14,gd t 15,gd t 16,gd t 17,gd t 18,gd t 19,gd t 20,gd t 21,gd t 22,gd t 23,gd t 24,gd t 25,gd t 26,gd t 27,gd t 28,gd t 29,gd t 30,gd t 31,gd t 32,gd t 33,gd t 34,gd t 35,gd t 36,gd t 37,gd t 38,gd t 39,gd t 40,gd t 41,gd t 42,gd t 43,gd t 44,gd t 45,gd t 46,gd t 47,gd t 48,gd t 49,gd t 50,gd t 51,gd t 52,gd t 53,gd t 54,gd t 55,gd t 56,gd t 57,gd t 58,gd t 59,gd t 60,gd t 61,gd t 62,gd t 63,gd t 64,gd t 65,gd t 66,gd t 67,gd t 68,gd t 69,gd t 70,gd t 71,gd t 72]) (hj:j≤p.binds.length) (hW:T6 w p (zP p a1 a2 a3 c1 c2 c3) g (D9 p key l j) W):
  (Code.loop Avf).wp Tryz.prog Q0 ⟨t,[]⟩ W:=by
 refine wp_loop (Amr w p key (zP p a1 a2 a3 c1 c2 c3) g m r l) (fun a _=>p.binds.length - (intOf (a.tmps.getD 9 undef)).toNat) ⟨t,j,ht,hj,hW,rfl⟩ ?_;clear ht hj hW t j W;rintro a' wr ⟨t,j,ht,hj,hW,rfl⟩;obtain⟨u,rfl⟩:=Ah0 ht;clear ht;have hm1:m≤p.aj.length:=by omega
 have hm2:p.aj.length≤m:=by omega
 have HLM:=zh hlm;clear hm hlm;have HEND:=zh hend;have m2:=hW.box.cell 2;have m0:=hW.box.cell 0;have m1:=hW.box.cell 1;simp only[zI,zJ,zK] at m0 m1 m2;have HW:=zh hW;have HPL:=zh hpl;have hbn:=hr.binds;have hpn:=hr.aj;clear hend hW hpl
 conv=>arg 2;whnf
 by_cases hlt:j < p.binds.length
 ·obtain⟨b,hb⟩:∃b,p.binds[j]? =some b:=⟨_,zG hlt⟩
  have hbr:=hr.bind b (List.mem_of_getElem? hb);have hj2:(j:Int) < (p.binds.length:Int):=by omega
  obtain⟨gb,ob,hga,n0,n1,n2,n3⟩:=Uo (HPL.out.binds.keep fun x hx=>HW.out.below.cell (p:=x) hx) hb;subst hga;have hsucc:=Ae7 (p:=p) (key:=key) (l:=l) hb;have hlen:=Xv p key l j;rw[HLM.out] at hlen;obtain⟨s,hs1⟩:∃s:Nat,b.src=(s:Int):=⟨b.src.toNat,by omega⟩;have hsl:s < (D9 p key l j).length:=by omega
  have HFIT:Hid (∀W,Below wr.heap.size wr W→Calls Tryz.prog 141 #[.agg (zP p a1 a2 (some ⟨gb,ob,none⟩) c1 c2 c3),.int .i64 (j:Int),.string key] W fun e w'=>e= .returned (.bool (byP p b key))∧Below W.heap.size W w'):=zh fun W hWb=>by
   have hbw:=HW.out.below.trans (hWb.mono HW.out.below.size);have h:=R0 p j hlt key a1 a2 (some ⟨gb,ob,none⟩) c1 c2 c3 0 W ((HPL.out.below hbw (zn _)).wider (zn _) hbw.size) hs s (by omega) (by have:=(List.getElem?_eq_some_iff.1 hb).2;rw[this];exact hs1) hkey;have e:fitsAt p (j:Int) key=byP p b key:=by unfold fitsAt;rw[show((j:Int)).toNat=j by omega,hb]
   rw[e] at h;exact h
  obtain⟨W1,hW1⟩:∃W1,wr.alloc (.cells #[.int .i64 b.src,.bool b.cd,.int .i64 b.to,.string b.pattern] 127)=W1:=⟨_,rfl⟩;have hal:Below wr.heap.size wr W1:=by rw[←hW1];exact(zb _ _).alloc (zn _) _
  have kb:Bk W1 wr.heap.size 127 #[.int .i64 b.src,.bool b.cd,.int .i64 b.to,.string b.pattern]:=by rw[←hW1];exact Bk.new _ _ _
  have s0:=kb.cell 0;have s1:=kb.cell 1;have s2:=kb.cell 2;have k1:=HW.out.on hal;have t0:=k1.box.cell 0;have t1:=k1.box.cell 1;have t2:=k1.box.cell 2;have t4:=k1.is.cell hsl;simp only[zI,zJ,zK] at s0 s1 s2 t0 t1 t2;rw[hs1] at s0;have HK1:=zh (zi k1 (zi kb hal));have HSUC:=zh hsucc;have HSL:=zh (zi hsl (zi hlen (zi hs1 hbr)));have hsm:(s:Int) < (m:Int):=by omega
  have HR:Hid (∀t:Array Value,∀(j':Nat),j'=j+1→t= #[gd t 0,gd t 1,.string key,.pointer (some ⟨w.heap.size,0,none⟩),gd t 4,gd t 5,.slice none 0 0,.slice (some ⟨g,0,none⟩) m m,.int .i64 (r:Int),.int .i64 (j':Int),gd t 10,gd t 11,gd t 12,gd t 13,gd t 14,gd t 15,gd t 16,gd t 17,gd t 18,gd t 19,gd t 20,gd t 21,gd t 22,gd t 23,gd t 24,gd t 25,gd t 26,gd t 27,gd t 28,gd t 29,gd t 30,gd t 31,gd t 32,gd t 33,gd t 34,gd t 35,gd t 36,gd t 37,gd t 38,gd t 39,gd t 40,gd t 41,gd t 42,gd t 43,gd t 44,gd t 45,gd t 46,gd t 47,gd t 48,gd t 49,gd t 50,gd t 51,gd t 52,gd t 53,gd t 54,gd t 55,gd t 56,gd t 57,gd t 58,gd t 59,gd t 60,gd t 61,gd t 62,gd t 63,gd t 64,gd t 65,gd t 66,gd t 67,gd t 68,gd t 69,gd t 70,gd t 71,gd t 72]→∀W,T6 w p (zP p a1 a2 (some ⟨gb,ob,none⟩) c1 c2 c3) g (Gw p key (D9 p key l j) b) W→Amr w p key (zP p a1 a2 (some ⟨gb,ob,none⟩) c1 c2 c3) g m r l ⟨t,[]⟩ W):=
   zh fun t j' hj' ht W hW=>⟨t,j',ht,by omega,by rw[hj',hsucc];exact hW,rfl⟩
  have HGET:Hid ((D9 p key l j)[b.src.toNat]? =some (D9 p key l j)[s]):=zh (by rw[show b.src.toNat=s by omega];exact zG hsl);generalize hcur:(D9 p key l j)[s]=cur at *;clear hsucc hlen hs1 hsl hbr k1 kb hal hcur
  cases htp:b.cd
  ·rw[htp] at s1
   have HE:Hid (Gw p key (D9 p key l j) b=D9 p key l j):=zh (by unfold Gw;rw[htp];simp);have n1':=htp;have HT:=zh htp;clear htp n1'
   go_wp2
   exact⟨HR.out _ _ rfl rfl _ (by rw[HE.out];exact HK1.out.1),by simp[intOf];omega⟩
  ·rw[htp] at s1
   have HT:=zh htp
   cases cur
   ·have HE:Hid (Gw p key (D9 p key l j) b=D9 p key l j):=zh (by unfold Gw;rw[HGET.out];simp)
    clear htp
    go_wp2
    exact⟨HR.out _ _ rfl rfl _ (by rw[HE.out];exact HK1.out.1),by simp[intOf];omega⟩
   ·have hto:0≤b.to∧b.to < (p.aj.length:Int):=by
     have h:=HSL.out.2.2.2;rw[htp] at h;simp only[if_true] at h;exact h.2.2
    obtain⟨d,hd⟩:∃d:Nat,b.to=(d:Int):=⟨b.to.toNat,by omega⟩;have hdm:(d:Int) < (m:Int):=by omega
    have HD:=zh hd;rw[hd] at s2;have HE:Hid (Gw p key (D9 p key l j) b=if byP p b key=true then (D9 p key l j).set d true else D9 p key l j):=zh (by
     unfold Gw;rw[HGET.out,htp];have:b.to.toNat=d:=by omega
     rw[this];simp)
    have HDL:Hid (d < (D9 p key l j).length):=zh (by have:=HSL.out.2.1;omega);clear htp hto hd;go_wp2_with fail
    refine(HFIT.out W1 HK1.out.2.2).mono ?_;rintro e W2 ⟨rfl,hb2⟩;have k2:=HK1.out.1.on hb2;have kb2:=HK1.out.2.1.below hb2 HK1.out.2.1.lt;have z2:=kb2.cell 2;have z4:=k2.is.cell HDL.out;have zf:=Bk.frozen k2.is d;have zl:=Bk.lt k2.is;simp only[zI,zJ,zK] at z2;rw[HD.out] at z2;have HK2:=zh k2;clear hb2 k2 kb2 t0 t1 t2 t4 s0 s1 s2 m0 m1 m2 n0 n1 n2 n3;generalize (D9 p key l j)[d]=od at z4
    cases hby:byP p b key
    ·have HE2:Hid (Gw p key (D9 p key l j) b=D9 p key l j):=zh (by rw[HE.out,hby];simp)
     clear hby
     go_wp2
     exact⟨HR.out _ _ rfl rfl _ (by rw[HE2.out];exact HK2.out),by simp[intOf];omega⟩
    ·have HE2:Hid (Gw p key (D9 p key l j) b=(D9 p key l j).set d true):=zh (by rw[HE.out,hby];simp)
     clear hby
     go_wp2
     exact⟨HR.out _ _ rfl rfl _ (by rw[HE2.out];exact HK2.out.set d),by simp[intOf];omega⟩
 ·obtain rfl:j=p.binds.length:=by omega
  go_wp2
  exact HEND.out _ p.binds.length _ rfl HW.out
def Amq (w:World) (p:Ab) (key:ByteArray) (P:Array Value) (g m k:Nat) (a:Act) (wr:World):Prop:=
 ∃(t:Array Value) (r:Nat),t= #[gd t 0,gd t 1,.string key,.pointer (some ⟨w.heap.size,0,none⟩),gd t 4,gd t 5,.slice none 0 0,.slice (some ⟨g,0,none⟩) m m,.int .i64 (r:Int),gd t 9,gd t 10,gd t 11,gd t 12,gd t 13,gd t 14,gd t 15,gd t 16,gd t 17,gd t 18,gd t 19,gd t 20,gd t 21,gd t 22,gd t 23,gd t 24,gd t 25,gd t 26,gd t 27,gd t 28,gd t 29,gd t 30,gd t 31,gd t 32,gd t 33,gd t 34,gd t 35,gd t 36,gd t 37,gd t 38,gd t 39,gd t 40,gd t 41,gd t 42,gd t 43,gd t 44,gd t 45,gd t 46,gd t 47,gd t 48,gd t 49,gd t 50,gd t 51,gd t 52,gd t 53,gd t 54,gd t 55,gd t 56,gd t 57,gd t 58,gd t 59,gd t 60,gd t 61,gd t 62,gd t 63,gd t 64,gd t 65,gd t 66,gd t 67,gd t 68,gd t 69,gd t 70,gd t 71,gd t 72]∧r≤p.aj.length∧T6 w p P g (Dw p key k r) wr∧a=⟨t,[]⟩
theorem Aso (p:Ab) (hr:Bz p) (hs:Ai p) (key:ByteArray) (hkey:key.size≤1048576) (a1 a2 a3:Option Addr) (c1 c2 c3:Nat) (w:World) (g m k:Nat) (hm:m=p.aj.length)
  (hpl:Az w 0 w.heap.size a1 a2 a3 p) (Q0:Exit→Act→World→Prop)
  (hend:∀(t:Array Value) (r:Nat) (W:World),t= #[gd t 0,gd t 1,.string key,.pointer (some ⟨w.heap.size,0,none⟩),gd t 4,gd t 5,.slice none 0 0,.slice (some ⟨g,0,none⟩) m m,.int .i64 (r:Int),gd t 9,gd t 10,gd t 11,gd t 12,gd t 13,gd t 14,gd t 15,gd t 16,gd t 17,gd t 18,gd t 19,gd t 20,gd t 21,gd t 22,gd t 23,gd t 24,gd t 25,gd t 26,gd t 27,gd t 28,gd t 29,gd t 30,gd t 31,gd t 32,gd t 33,gd t 34,gd t 35,gd t 36,gd t 37,gd t 38,gd t 39,gd t 40,gd t 41,gd t 42,gd t 43,gd t 44,gd t 45,gd t 46,gd t 47,gd t 48,gd t 49,gd t 50,gd t 51,gd t 52,gd t 53,gd t 54,gd t 55,gd t 56,gd t 57,gd t 58,gd t 59,gd t 60,gd t 61,gd t 62,gd t 63,gd t 64,gd t 65,gd t 66,gd t 67,gd t 68,gd t 69,gd t 70,gd t 71,gd t 72]→T6 w p (zP p a1 a2 a3 c1 c2 c3) g (Dw p key k p.aj.length) W→Q0 (.exit 0) ⟨t,[]⟩ W) (t:Array Value) (r:Nat) (W:World) (ht:t= #[gd t 0,gd t 1,.string key,.pointer (some ⟨w.heap.size,0,none⟩),gd t 4,gd t 5,.slice none 0 0,.slice (some ⟨g,0,none⟩) m m,.int .i64 (r:Int),gd t 9,gd t 10,gd t 11,gd t 12,gd t 13,gd t 14,gd t 15,gd t 16,gd t 17,gd t 18,gd t 19,gd t 20,gd t 21,gd t 22,gd t 23,gd t 24,gd t 25,gd t 26,gd t 27,gd t 28,gd t 29,gd t 30,gd t 31,gd t 32,gd t 33,gd t 34,gd t 35,gd t 36,gd t 37,gd t 38,gd t 39,gd t 40,gd t 41,gd t 42,gd t 43,gd t 44,gd t 45,gd t 46,gd t 47,gd t 48,gd t 49,gd t 50,gd t 51,gd t 52,gd t 53,gd t 54,gd t 55,gd t 56,gd t 57,gd t 58,gd t 59,gd t 60,gd t 61,gd t 62,gd t 63,gd t 64,gd t 65,gd t 66,gd t 67,gd t 68,gd t 69,gd t 70,gd t 71,gd t 72]) (hj:r≤p.aj.length) (hW:T6 w p (zP p a1 a2 a3 c1 c2 c3) g (Dw p key k r) W):
  (Code.loop Amt).wp Tryz.prog Q0 ⟨t,[]⟩ W:=by
 refine wp_loop (Amq w p key (zP p a1 a2 a3 c1 c2 c3) g m k) (fun a _=>p.aj.length - (intOf (a.tmps.getD 8 undef)).toNat) ⟨t,r,ht,hj,hW,rfl⟩ ?_;clear ht hj hW t r W;rintro a' wr ⟨t,r,ht,hj,hW,rfl⟩;obtain⟨u,rfl⟩:=Ahz ht;clear ht;have HM:=zh hm;clear hm;have HEND:=zh hend;have m0:=hW.box.cell 0;have m2:=hW.box.cell 2;simp only[zI,zJ,zK] at m0 m2;have HW:=zh hW;have hpn:=hr.aj;clear hend hW
 conv=>arg 2;whnf
 by_cases hlt:r < p.aj.length
 ·have hj2:(r:Int) < (p.aj.length:Int):=by omega
  have HLT:=zh hlt;have HR:Hid (∀t:Array Value,∀(r':Nat),r'=r+1→t= #[gd t 0,gd t 1,.string key,.pointer (some ⟨w.heap.size,0,none⟩),gd t 4,gd t 5,.slice none 0 0,.slice (some ⟨g,0,none⟩) m m,.int .i64 (r':Int),gd t 9,gd t 10,gd t 11,gd t 12,gd t 13,gd t 14,gd t 15,gd t 16,gd t 17,gd t 18,gd t 19,gd t 20,gd t 21,gd t 22,gd t 23,gd t 24,gd t 25,gd t 26,gd t 27,gd t 28,gd t 29,gd t 30,gd t 31,gd t 32,gd t 33,gd t 34,gd t 35,gd t 36,gd t 37,gd t 38,gd t 39,gd t 40,gd t 41,gd t 42,gd t 43,gd t 44,gd t 45,gd t 46,gd t 47,gd t 48,gd t 49,gd t 50,gd t 51,gd t 52,gd t 53,gd t 54,gd t 55,gd t 56,gd t 57,gd t 58,gd t 59,gd t 60,gd t 61,gd t 62,gd t 63,gd t 64,gd t 65,gd t 66,gd t 67,gd t 68,gd t 69,gd t 70,gd t 71,gd t 72]→∀W,T6 w p (zP p a1 a2 a3 c1 c2 c3) g (D9 p key (Dw p key k r) p.binds.length) W→Amq w p key (zP p a1 a2 a3 c1 c2 c3) g m k ⟨t,[]⟩ W):=
   zh fun t r' hr' ht W hW=>⟨t,r',ht,by omega,by rw[hr'];exact hW,rfl⟩
  go_wp2
  refine Asp p hr hs key hkey a1 a2 a3 c1 c2 c3 w g _ r (Dw p key k r) (by rw[L9];exact HM.out.symm) HM.out hpl _ ?_ _ 0 wr rfl (Nat.zero_le _) (by unfold D9;simpa using HW.out);rintro t j W ht hW;obtain⟨u',rfl⟩:=Ah0 ht;have HW2:=zh hW;clear ht hW
  go_wp2
  exact⟨HR.out _ _ rfl rfl _ HW2.out,by simp[intOf];omega⟩
 ·obtain rfl:r=p.aj.length:=by omega
  go_wp2
  exact HEND.out _ p.aj.length _ rfl HW.out
def Ams (w:World) (g m:Nat) (l:List Bool) (a:Act) (wr:World):Prop:=
 ∃(t:Array Value) (v:Value) (i:Nat),t=(po3_T g m i v t)∧i≤m∧Mj wr g l∧Ch wr w.heap.size v (I1 (fun i=>(l[i]?).getD false) i)∧Below w.heap.size w wr∧w.heap.size < g∧a=⟨t,[]⟩
theorem Asq (w:World) (g m:Nat) (l:List Bool) (hlm:l.length=m) (hm:m≤1048576) (Q0:Exit→Act→World→Prop)
  (hend:∀(t:Array Value) (v:Value) (i:Nat) (W:World),t=(po3_T g m i v t)→Ch W w.heap.size v (I1 (fun i=>(l[i]?).getD false) m)→Below w.heap.size w W→Q0 (.exit 4) ⟨t,[]⟩ W) (t:Array Value) (v:Value) (i:Nat) (W:World) (ht:t=(po3_T g m i v t)) (hi:i≤m) (h1:Mj W g l) (h2:Ch W w.heap.size v (I1 (fun i=>(l[i]?).getD false) i)) (h3:Below w.heap.size w W) (h4:w.heap.size < g):
  (Code.loop Avg).wp Tryz.prog Q0 ⟨t,[]⟩ W:=by
 refine wp_loop (Ams w g m l) (fun a _=>m - (intOf (a.tmps.getD 12 undef)).toNat) ⟨t,v,i,ht,hi,h1,h2,h3,h4,rfl⟩ ?_;clear ht hi h1 h2 h3 h4 t v i W;rintro a' wr ⟨t,v,i,ht,hi,h1,h2,h3,h4,rfl⟩;obtain⟨u,rfl⟩:=Ah1 ht;obtain⟨av,cv,rfl,_⟩:=Ad h2;clear ht;have HEND:=zh hend;have HH:=zh (zi h1 (zi h2 (zi h3 h4)));clear hend
 conv=>arg 2;whnf
 by_cases hlt:i < m
 ·have m4:=h1.cell (i:=i) (by omega)
  have hsu:=Aac (fun i=>(l[i]?).getD false) i;have hpl:=Wi (fun i=>(l[i]?).getD false) i;rw[zG (show i < l.length by omega),Option.getD_some] at hsu;generalize l[i]'(by omega)=x at *;have HS:=zh hsu;have hj2:(i:Int) < (m:Int):=by omega
  clear hsu h1 h2 h3 h4;have HR:Hid (∀t:Array Value,∀(v:Value) (i':Nat),i'=i+1→t= #[gd t 0,gd t 1,gd t 2,gd t 3,gd t 4,gd t 5,.slice none 0 0,.slice (some ⟨g,0,none⟩) m m,gd t 8,gd t 9,gd t 10,v,.int .i64 (i':Int),gd t 13,gd t 14,gd t 15,gd t 16,gd t 17,gd t 18,gd t 19,gd t 20,gd t 21,gd t 22,gd t 23,gd t 24,gd t 25,gd t 26,gd t 27,gd t 28,gd t 29,gd t 30,gd t 31,gd t 32,gd t 33,gd t 34,gd t 35,gd t 36,gd t 37,gd t 38,gd t 39,gd t 40,gd t 41,gd t 42,gd t 43,gd t 44,gd t 45,gd t 46,gd t 47,gd t 48,gd t 49,gd t 50,gd t 51,gd t 52,gd t 53,gd t 54,gd t 55,gd t 56,gd t 57,gd t 58,gd t 59,gd t 60,gd t 61,gd t 62,gd t 63,gd t 64,gd t 65,gd t 66,gd t 67,gd t 68,gd t 69,gd t 70,gd t 71,gd t 72]→∀W,Mj W g l→Ch W w.heap.size v (if x=true then I1 (fun i=>(l[i]?).getD false) i++[(i:Int)] else I1 (fun i=>(l[i]?).getD false) i)→Below w.heap.size w W→Ams w g m l ⟨t,[]⟩ W):=
   zh fun t v i' hi' ht W q1 q2 q3=>⟨t,v,i',ht,by omega,q1,by rw[hi',HS.out];exact q2,q3,HH.out.2.2.2,rfl⟩
  cases x
  ·go_wp2
   exact⟨HR.out _ _ _ rfl rfl _ HH.out.1 (by simpa using HH.out.2.1) HH.out.2.2.1,by simp[intOf];omega⟩
  ·have hbs:=HH.out.2.2.1.size
   have HLN:=zh (show(I1 (fun i=>(l[i]?).getD false) i).length < 4294967296 by omega);go_wp2_with (at_builtin;refine D6 rfl _ _ 40 rfl w.heap.size 3 Ja Tryz.underlying40 rfl (by decide) (by decide) wr _ _ _ rfl HH.out.2.1 [.int .i64 (i:Int)] rfl rfl rfl (by simp[Value.oneCell']) HLN.out hbs ?_;intro v3 w3 hown' hgrow;have HO3:=zh (zi hown' hgrow);clear hown' hgrow)
   refine⟨HR.out _ _ _ rfl rfl _ (HH.out.1.grown HO3.out.2 (HH.out.2.1.ne HH.out.1 (by decide))) ?_ (Bl HH.out.2.1 HO3.out.2 HH.out.2.2.1 (zn _) hbs),by simp[intOf];omega⟩;simp only[if_true];unfold Ch;rw[ze,List.map_append];exact HO3.out.1
 ·obtain rfl:i=m:=by omega
  clear h1 h2 h3 h4
  go_wp2
  exact HEND.out _ _ i _ rfl HH.out.2.1 HH.out.2.2.1
theorem Aa0 (p:Ab) (hr:Bz p) (hs:Ai p) (k:Nat) (hk:k < p.aj.length) (key:ByteArray) (hkey:key.size≤1048576) (a1 a2 a3:Option Addr) (c1 c2 c3:Nat) (w:World) (hp:Az w 0 w.heap.size a1 a2 a3 p):
  Calls Tryz.prog 139 #[Bc p a1 a2 a3 c1 c2 c3,.int .i64 (k:Int),.string key] w fun e w'=>∃v,e= .returned v∧Ch w' w.heap.size v (Le p key k)∧Below w.heap.size w w':=by
 unfold Bc;have hpn:=hr.aj;have hkm:(k:Int) < (p.aj.length:Int):=by omega
 obtain⟨W0,hW0⟩:∃W0,w.alloc (.cells (zP p a1 a2 a3 c1 c2 c3) 26)=W0:=⟨_,rfl⟩;have k0:Bk W0 w.heap.size 26 (zP p a1 a2 a3 c1 c2 c3):=by rw[←hW0];exact Bk.new _ _ _
 have hb0:Below w.heap.size w W0:=by rw[←hW0];exact(zb _ _).alloc (zn _) _
 have hz0:W0.heap.size=w.heap.size+1:=by rw[←hW0];simp
 have m0:=k0.cell 0;simp only[zI,zJ] at m0;have hmk:=Pm (P:=Tryz.prog) (t:=159) (e:=4) (z:= .bool false) (bytes:=1) Tryz.underlying159 (by kernel_rfl) rfl p.aj.length (p.aj.length:Int) rfl (by decide) (by omega) W0;obtain⟨W1,hW1⟩:∃W1,W0.alloc (.cells (List.replicate p.aj.length (.bool false)).toArray 4)=W1:=⟨_,rfl⟩;rw[hW1] at hmk;have hi1:Mj W1 W0.heap.size (List.replicate p.aj.length false):=by
  unfold Mj;rw[←hW1,List.map_replicate];exact Bk.new _ _ _
 have z4:=hi1.cell (i:=k) (by simpa using hk);have zf:=Bk.frozen hi1 k;have zl:=Bk.lt hi1;have hP1:T6 w p (zP p a1 a2 a3 c1 c2 c3) W0.heap.size (List.replicate p.aj.length false) W1:=by
  have hal:Below W0.heap.size W0 W1:=by rw[←hW1];exact(zb _ _).alloc (zn _) _
  exact⟨k0.below hal k0.lt,hi1,hb0.trans (hal.mono hb0.size),by omega⟩
 have HP1:=zh hP1;have HZ:=zh hz0;clear k0 hb0 hi1 hP1 hz0 hW1;go_enter Tryz.func139,Tryz.ntmps139
 go_wp2
 clear z4 zf zl;refine Aso p hr hs key hkey a1 a2 a3 c1 c2 c3 w W0.heap.size _ k rfl hp _ ?_ _ 0 _ rfl (Nat.zero_le _) (HP1.out.set k);rintro t r W ht hW;obtain⟨u,rfl⟩:=Ahz ht;have HW:=zh hW;clear ht hW
 go_wp2
 refine Asq w W0.heap.size p.aj.length (Dw p key k p.aj.length) (L9 _ _ _ _) (by omega) _ ?_ _ (.slice none 0 0) 0 W rfl (Nat.zero_le _) HW.out.is (World.ownsRow_nil _ _ _ _) HW.out.below HW.out.g;rintro t v i W2 ht h1 h2;obtain⟨u,rfl⟩:=Ah1 ht;obtain⟨av,cv,rfl,_⟩:=Ad h1;have HF:=zh (zi h1 h2);clear ht h1 h2
 go_wp2
 go_ret
 exact⟨_,rfl,HF.out.1,HF.out.2⟩
open Go Go.RowKit
def qo1q_T (w:World) (key:ByteArray) (q:Nat) (vp v:Value) (t:Array Value):Array Value:=fj [[gd t 0,gd t 1,.string key,.pointer (some ⟨w.heap.size,0,none⟩),gd t 4,gd t 5,.slice none 0 0,vp,v,.int .i64 (q:Int)],fr t 10 56]
theorem Ada {w:World} {key:ByteArray} {q:Nat} {vp v:Value} {t:Array Value} (h:t=(qo1q_T w key q vp v t)):∃u:Nat→Value,t= #[u 0,u 1,.string key,.pointer (some ⟨w.heap.size,0,none⟩),u 4,u 5,.slice none 0 0,vp,v,.int .i64 (q:Int),u 10,u 11,u 12,u 13,u 14,u 15,u 16,u 17,u 18,u 19,u 20,u 21,u 22,u 23,u 24,u 25,u 26,u 27,u 28,u 29,u 30,u 31,u 32,u 33,u 34,u 35,u 36,u 37,u 38,u 39,u 40,u 41,u 42,u 43,u 44,u 45,u 46,u 47,u 48,u 49,u 50,u 51,u 52,u 53,u 54,u 55,u 56,u 57,u 58,u 59,u 60,u 61,u 62,u 63,u 64,u 65]:=⟨fun i=>t.getD i undef,h⟩
def qo2q_T (w:World) (key:ByteArray) (q:Nat) (vp v:Value) (j:Nat) (c:Bool) (t:Array Value):Array Value:=fj [[gd t 0,gd t 1,.string key,.pointer (some ⟨w.heap.size,0,none⟩),gd t 4,gd t 5,.slice none 0 0,vp,v,.int .i64 (q:Int),.bool c,.int .i64 (j:Int)],fr t 12 54]
theorem Adb {w:World} {key:ByteArray} {q:Nat} {vp v:Value} {j:Nat} {c:Bool} {t:Array Value} (h:t=(qo2q_T w key q vp v j c t)):∃u:Nat→Value,t= #[u 0,u 1,.string key,.pointer (some ⟨w.heap.size,0,none⟩),u 4,u 5,.slice none 0 0,vp,v,.int .i64 (q:Int),.bool c,.int .i64 (j:Int),u 12,u 13,u 14,u 15,u 16,u 17,u 18,u 19,u 20,u 21,u 22,u 23,u 24,u 25,u 26,u 27,u 28,u 29,u 30,u 31,u 32,u 33,u 34,u 35,u 36,u 37,u 38,u 39,u 40,u 41,u 42,u 43,u 44,u 45,u 46,u 47,u 48,u 49,u 50,u 51,u 52,u 53,u 54,u 55,u 56,u 57,u 58,u 59,u 60,u 61,u 62,u 63,u 64,u 65]:=⟨fun i=>t.getD i undef,h⟩
noncomputable def Amy:Code:=Ik Tryz.f99 0
noncomputable def Avl:Code:=Akl Amy 0
structure Ym (w:World) (p:Ab) (a1 a2 a3:Option Addr) (c1 c2 c3:Nat) (W0:World):Prop where
 box:Bk W0 w.heap.size 26 (zP p a1 a2 a3 c1 c2 c3)
 bz:Az W0 0 W0.heap.size a1 a2 a3 p
theorem Ym.since {w W0 W:World} {p:Ab} {a1 a2 a3:Option Addr} {c1 c2 c3:Nat} (h:Ym w p a1 a2 a3 c1 c2 c3 W0) (hb:Below W0.heap.size W0 W):Ym w p a1 a2 a3 c1 c2 c3 W:=
 ⟨h.box.below hb h.box.lt,(h.bz.below hb (zn _)).wider (zn _) hb.size⟩
theorem Aqn {α:Type} {l:List α} {j:Nat} {x:α} (h:l[j]? =some x) (f:α→Bool):(l.take (j+1)).any f=((l.take j).any f || f x):=by
 obtain⟨hj,rfl⟩:=List.getElem?_eq_some_iff.1 h;rw[zj hj,List.any_append];simp
def Amx (w:World) (p:Ab) (key:ByteArray) (vp v:Value) (ps:List Int) (q:Nat) (W0:World) (a:Act) (wr:World):Prop:=
 ∃(t:Array Value) (c:Bool) (j:Nat),t=(qo2q_T w key q vp v j c t)∧j≤p.binds.length∧c=(p.binds.take j).any (Fg p key ps q)∧Below W0.heap.size W0 wr∧a=⟨t,[]⟩
theorem Asy (p:Ab) (hr:Bz p) (hs:Ai p) (key:ByteArray) (hkey:key.size≤1048576) (a1 a2 a3:Option Addr) (c1 c2 c3:Nat) (w:World) (vp v:Value) (ps:List Int) (q:Nat) (W0:World) (hq0:IntsIn W0 vp ps) (hIn:Ym w p a1 a2 a3 c1 c2 c3 W0) (Q0:Exit→Act→World→Prop)
  (hend:∀(t:Array Value) (c:Bool) (j:Nat) (W:World),t=(qo2q_T w key q vp v j c t)→c=p.binds.any (Fg p key ps q)→Below W0.heap.size W0 W→Q0 (.exit 2) ⟨t,[]⟩ W) (t:Array Value) (c:Bool) (j:Nat) (W:World) (ht:t=(qo2q_T w key q vp v j c t)) (hj:j≤p.binds.length) (hc:c=(p.binds.take j).any (Fg p key ps q)) (hW:Below W0.heap.size W0 W):
  (Code.loop Avl).wp Tryz.prog Q0 ⟨t,[]⟩ W:=by
 refine wp_loop (Amx w p key vp v ps q W0) (fun a _=>p.binds.length - (intOf (a.tmps.getD 11 undef)).toNat) ⟨t,c,j,ht,hj,hc,hW,rfl⟩ ?_;clear ht hj hc hW t c j W;rintro a' wr ⟨t,c,j,ht,hj,hc,hW,rfl⟩;obtain⟨u,rfl⟩:=Adb ht;obtain⟨ap,cp,rfl,hpl,hsl⟩:=hq0;clear ht;have hI:=hIn.since hW;have m2:=hI.box.cell 2;simp only[zI,zJ,zK] at m2;have HEND:=zh hend;have HW:=zh hW;have HI:=zh hI;have HC:=zh hc;have HSL:=zh hsl;have hbn:=hr.binds;clear hend hW hI hc hIn hsl
 conv=>arg 2;whnf
 by_cases hlt:j < p.binds.length
 ·obtain⟨b,hb⟩:∃b,p.binds[j]? =some b:=⟨_,zG hlt⟩
  have hbr:=hr.bind b (List.mem_of_getElem? hb);have hj2:(j:Int) < (p.binds.length:Int):=by omega
  obtain⟨gb,ob,hga,n0,n1,n2,n3⟩:=Uo HI.out.bz.binds hb;subst hga;have hst:=Aqn hb (Fg p key ps q);rw[←HC.out] at hst;have HST:=zh hst;obtain⟨s,hs1⟩:∃s:Nat,b.src=(s:Int):=⟨b.src.toNat,by omega⟩;have HFIT:Hid (∀W,Below wr.heap.size wr W→Calls Tryz.prog 141 #[.agg (zP p a1 a2 (some ⟨gb,ob,none⟩) c1 c2 c3),.int .i64 (j:Int),.string key] W fun e w'=>e= .returned (.bool (byP p b key))∧Below W.heap.size W w'):=zh fun W hWb=>by
   have h:=R0 p j hlt key a1 a2 (some ⟨gb,ob,none⟩) c1 c2 c3 0 W (HI.out.since hWb).bz hs s (by omega) (by have:=(List.getElem?_eq_some_iff.1 hb).2;rw[this];exact hs1) hkey;have e:fitsAt p (j:Int) key=byP p b key:=by unfold fitsAt;rw[show((j:Int)).toNat=j by omega,hb]
   rw[e] at h;exact h
  have HIN:Hid (∀W,Below wr.heap.size wr W→Calls Tryz.prog 140 #[.slice ap ps.length cp,.int .i64 b.src] W fun e w'=>e= .returned (.bool (decide (b.src∈ps)))∧w'=W):=zh fun W hWb=>
   Aov ap cp ps b.src W 0 ((HSL.out.below (HW.out.trans (hWb.mono HW.out.size)) (zn _)).wider (zn _) (zr HW.out.size hWb.size)) hpl
  obtain⟨W1,hW1⟩:∃W1,wr.alloc (.cells #[.int .i64 b.src,.bool b.cd,.int .i64 b.to,.string b.pattern] 127)=W1:=⟨_,rfl⟩;have hal:Below wr.heap.size wr W1:=by rw[←hW1];exact(zb _ _).alloc (zn _) _
  have kb:Bk W1 wr.heap.size 127 #[.int .i64 b.src,.bool b.cd,.int .i64 b.to,.string b.pattern]:=by rw[←hW1];exact Bk.new _ _ _
  have s0:=kb.cell 0;have s1:=kb.cell 1;have s2:=kb.cell 2;have k1:=HI.out.since hal;have t0:=k1.box.cell 0;have t1:=k1.box.cell 1;have t2:=k1.box.cell 2;simp only[zI,zJ,zK] at s0 s1 s2 t0 t1 t2;have HAL:=zh hal;have HWW:Hid (∀W,Below W1.heap.size W1 W→Below W0.heap.size W0 W):=zh fun W h=>HW.out.trans ((hal.trans (h.mono hal.size)).mono HW.out.size);have HR:Hid (∀t:Array Value,∀(c':Bool) (j':Nat),j'=j+1→t= #[gd t 0,gd t 1,.string key,.pointer (some ⟨w.heap.size,0,none⟩),gd t 4,gd t 5,.slice none 0 0,.slice ap ps.length cp,v,.int .i64 (q:Int),.bool c',.int .i64 (j':Int),gd t 12,gd t 13,gd t 14,gd t 15,gd t 16,gd t 17,gd t 18,gd t 19,gd t 20,gd t 21,gd t 22,gd t 23,gd t 24,gd t 25,gd t 26,gd t 27,gd t 28,gd t 29,gd t 30,gd t 31,gd t 32,gd t 33,gd t 34,gd t 35,gd t 36,gd t 37,gd t 38,gd t 39,gd t 40,gd t 41,gd t 42,gd t 43,gd t 44,gd t 45,gd t 46,gd t 47,gd t 48,gd t 49,gd t 50,gd t 51,gd t 52,gd t 53,gd t 54,gd t 55,gd t 56,gd t 57,gd t 58,gd t 59,gd t 60,gd t 61,gd t 62,gd t 63,gd t 64,gd t 65]→c'=(c || Fg p key ps q b)→∀W,Below W0.heap.size W0 W→Amx w p key (.slice ap ps.length cp) v ps q W0 ⟨t,[]⟩ W):=
   zh fun t c' j' hj' ht hc' W hW=>⟨t,c',j',ht,by omega,by rw[hj',HST.out];exact hc',hW,rfl⟩
  have HTQ:Hid (Fg p key ps q b=(!b.cd && decide (b.to=(q:Int)) && decide (b.src∈ps) && byP p b key)):=zh (by unfold Fg;rw[List.contains_eq_mem]);have HMS:=zh hs1;clear hst hbr hal kb k1 hs1
  cases c
  ·cases htp:b.cd
   ·rw[htp] at s1
    by_cases hto:b.to=(q:Int)
    ·have htb:(b.to == (q:Int))=true:=by simp[hto]
     have HTO:=zh hto;have HTP:=zh htp;clear htp hto;go_wp2_with fail
     refine(HIN.out W1 HAL.out).mono ?_;rintro e W2 ⟨rfl,rfl⟩;by_cases hin:b.src∈ps
     ·rw[decide_eq_true hin]
      have HIM:=zh hin;clear hin;go_wp2_with fail
      refine(HFIT.out W2 HAL.out).mono ?_;rintro e W3 ⟨rfl,hb3⟩;have HB3:=zh (HWW.out _ hb3);clear hb3 s0 s1 s2 t0 t1 t2;have HE:=zh (show(false || Fg p key ps q b)=byP p b key by rw[HTQ.out,HTP.out,decide_eq_true HTO.out,decide_eq_true HIM.out];simp);generalize byP p b key=bb at *
      go_wp2
      exact⟨HR.out _ bb _ rfl rfl HE.out.symm _ HB3.out,by simp[intOf];omega⟩
     ·rw[decide_eq_false hin]
      have HE:=zh (show(false || Fg p key ps q b)=false by rw[HTQ.out,decide_eq_false hin];simp);clear hin
      go_wp2
      exact⟨HR.out _ false _ rfl rfl HE.out.symm _ (HWW.out _ (zb _ _)),by simp[intOf];omega⟩
    ·have htb:(b.to == (q:Int))=false:=by simp[hto]
     have HE:=zh (show(false || Fg p key ps q b)=false by rw[HTQ.out,decide_eq_false hto];simp);clear htp hto
     go_wp2
     exact⟨HR.out _ false _ rfl rfl HE.out.symm _ (HWW.out _ (zb _ _)),by simp[intOf];omega⟩
   ·rw[htp] at s1
    have HE:=zh (show(false || Fg p key ps q b)=false by rw[HTQ.out,htp];simp);clear htp
    go_wp2
    exact⟨HR.out _ false _ rfl rfl HE.out.symm _ (HWW.out _ (zb _ _)),by simp[intOf];omega⟩
  ·go_wp2
   exact⟨HR.out _ true _ rfl rfl rfl _ (HWW.out _ (zb _ _)),by simp[intOf];omega⟩
 ·obtain rfl:j=p.binds.length:=by omega
  have hcc:c=p.binds.any (Fg p key ps q):=by have:=HC.out;rwa [List.take_length] at this
  have HCC:=zh hcc;clear hcc
  go_wp2
  exact HEND.out _ c p.binds.length _ rfl HCC.out HW.out
def Amw (w:World) (p:Ab) (key:ByteArray) (vp:Value) (ps:List Int) (W0:World) (a:Act) (wr:World):Prop:=
 ∃(t:Array Value) (v:Value) (q:Nat),t=(qo1q_T w key q vp v t)∧q≤p.ag.length∧Ch wr W0.heap.size v (I1 (fun q=>p.binds.any (Fg p key ps q)) q)∧Below W0.heap.size W0 wr∧a=⟨t,[]⟩
theorem Asx (p:Ab) (hr:Bz p) (hs:Ai p) (key:ByteArray) (hkey:key.size≤1048576) (a1 a2 a3:Option Addr) (c1 c2 c3:Nat) (w:World) (vp:Value) (ps:List Int) (W0:World) (hq0:IntsIn W0 vp ps) (hIn:Ym w p a1 a2 a3 c1 c2 c3 W0) (Q0:Exit→Act→World→Prop)
  (hend:∀(t:Array Value) (v:Value) (q:Nat) (W:World),t=(qo1q_T w key q vp v t)→Ch W W0.heap.size v (I1 (fun q=>p.binds.any (Fg p key ps q)) p.ag.length)→Below W0.heap.size W0 W→Q0 (.exit 0) ⟨t,[]⟩ W) (t:Array Value) (v:Value) (q:Nat) (W:World) (ht:t=(qo1q_T w key q vp v t)) (hq:q≤p.ag.length) (hv:Ch W W0.heap.size v (I1 (fun q=>p.binds.any (Fg p key ps q)) q)) (hW:Below W0.heap.size W0 W):
  (Code.loop Amy).wp Tryz.prog Q0 ⟨t,[]⟩ W:=by
 refine wp_loop (Amw w p key vp ps W0) (fun a _=>p.ag.length - (intOf (a.tmps.getD 9 undef)).toNat) ⟨t,v,q,ht,hq,hv,hW,rfl⟩ ?_;clear ht hq hv hW t v q W;rintro a' wr ⟨t,v,q,ht,hq,hv,hW,rfl⟩;obtain⟨u,rfl⟩:=Ada ht;obtain⟨av,cv,rfl,_⟩:=Ad hv;clear ht;have hI:=hIn.since hW;have m1:=hI.box.cell 1;simp only[zI,zJ,zK] at m1;have HEND:=zh hend;have HW:=zh hW;have HV:=zh hv;have HI:=zh hI;have HIN:=zh (zi hIn hq0);have hqn:=hr.ag;have hpl:=Wi (fun q=>p.binds.any (Fg p key ps q)) q;clear hend hW hv hI hIn hq0
 conv=>arg 2;whnf
 by_cases hlt:q < p.ag.length
 ·have hj2:(q:Int) < (p.ag.length:Int):=by omega
  have HS:=zh (Aac (fun q=>p.binds.any (Fg p key ps q)) q);have HR:Hid (∀t:Array Value,∀(v':Value) (q':Nat),q'=q+1→t= #[gd t 0,gd t 1,.string key,.pointer (some ⟨w.heap.size,0,none⟩),gd t 4,gd t 5,.slice none 0 0,vp,v',.int .i64 (q':Int),gd t 10,gd t 11,gd t 12,gd t 13,gd t 14,gd t 15,gd t 16,gd t 17,gd t 18,gd t 19,gd t 20,gd t 21,gd t 22,gd t 23,gd t 24,gd t 25,gd t 26,gd t 27,gd t 28,gd t 29,gd t 30,gd t 31,gd t 32,gd t 33,gd t 34,gd t 35,gd t 36,gd t 37,gd t 38,gd t 39,gd t 40,gd t 41,gd t 42,gd t 43,gd t 44,gd t 45,gd t 46,gd t 47,gd t 48,gd t 49,gd t 50,gd t 51,gd t 52,gd t 53,gd t 54,gd t 55,gd t 56,gd t 57,gd t 58,gd t 59,gd t 60,gd t 61,gd t 62,gd t 63,gd t 64,gd t 65]→∀W,Ch W W0.heap.size v' (if p.binds.any (Fg p key ps q)=true then I1 (fun q=>p.binds.any (Fg p key ps q)) q++[(q:Int)] else I1 (fun q=>p.binds.any (Fg p key ps q)) q)→Below W0.heap.size W0 W→Amw w p key vp ps W0 ⟨t,[]⟩ W):=
   zh fun t v' q' hq' ht W q1 q2=>⟨t,v',q',ht,by omega,by rw[hq',HS.out];exact q1,q2,rfl⟩
  go_wp2
  refine Asy p hr hs key hkey a1 a2 a3 c1 c2 c3 w vp _ ps q wr (HIN.out.2.since HW.out) HI.out _ ?_ _ false 0 wr rfl (Nat.zero_le _) rfl (zb _ _);rintro t c j W ht hc hW;obtain⟨u',rfl⟩:=Adb ht;have HC:=zh hc;have hb:=HW.out.trans (hW.mono HW.out.size);have HB:=zh hb;have HV2:=zh (HV.out.grown' hW);clear ht hc hW hb
  cases c
  ·go_wp2
   exact⟨HR.out _ _ _ rfl rfl _ (by rw[←HC.out];simpa using HV2.out) HB.out,by simp[intOf];omega⟩
  ·have hbs:=HB.out.size
   have HLN:=zh (show(I1 (fun q=>p.binds.any (Fg p key ps q)) q).length < 4294967296 by omega);go_wp2_with (at_builtin;refine D6 rfl _ _ 40 rfl W0.heap.size 3 Ja Tryz.underlying40 rfl (by decide) (by decide) W _ _ _ rfl HV2.out [.int .i64 (q:Int)] rfl rfl rfl (by simp[Value.oneCell']) HLN.out hbs ?_;intro v3 w3 hown' hgrow;have HO3:=zh (zi hown' hgrow);clear hown' hgrow)
   refine⟨HR.out _ _ _ rfl rfl _ ?_ (Bl HV2.out HO3.out.2 HB.out (zn _) hbs),by simp[intOf];omega⟩;rw[←HC.out];simp only[if_true];unfold Ch;rw[ze,List.map_append];exact HO3.out.1
 ·obtain rfl:q=p.ag.length:=by omega
  go_wp2
  exact HEND.out _ _ p.ag.length _ rfl HV.out HW.out
theorem Sd (p:Ab) (hr:Bz p) (hs:Ai p) (k:Nat) (hk:k < p.aj.length) (key:ByteArray) (hkey:key.size≤1048576) (a1 a2 a3:Option Addr) (c1 c2 c3:Nat) (w:World) (hp:Az w 0 w.heap.size a1 a2 a3 p):
  Calls Tryz.prog 99 #[Bc p a1 a2 a3 c1 c2 c3,.int .i64 (k:Int),.string key] w fun e w'=>∃v,e= .returned v∧Ch w' w.heap.size v (Q4 p key k)∧Below w.heap.size w w':=by
 unfold Bc;obtain⟨W0,hW0⟩:∃W0,w.alloc (.cells (zP p a1 a2 a3 c1 c2 c3) 26)=W0:=⟨_,rfl⟩;have k0:Bk W0 w.heap.size 26 (zP p a1 a2 a3 c1 c2 c3):=by rw[←hW0];exact Bk.new _ _ _
 have hb0:Below w.heap.size w W0:=by rw[←hW0];exact(zb _ _).alloc (zn _) _
 have m0:=k0.cell 0;have m1:=k0.cell 1;have m2:=k0.cell 2;simp only[zI,zJ,zK] at m0 m1 m2;have HIN:Hid (Ym w p a1 a2 a3 c1 c2 c3 W0∧Below w.heap.size w W0):=zh ⟨⟨k0,(hp.below hb0 (zn _)).wider (zn _) hb0.size⟩,hb0⟩;clear k0 hb0 hp;go_enter Tryz.func99,Tryz.ntmps99
 go_wp2_with fail
 have hcall:=Aa0 p hr hs k hk key hkey a1 a2 a3 c1 c2 c3 W0 HIN.out.1.bz;unfold Bc at hcall;refine hcall.mono ?_;clear hcall m0 m1 m2 hW0;rintro e W1 ⟨vp,rfl,n1,n2⟩;have hlen:(Le p key k).length≤1048576:=by
  have:=Wi (fun i=>((Dw p key k p.aj.length)[i]?).getD false) p.aj.length;have:=hr.aj;unfold Le;omega
 obtain⟨avp,cvp,rfl,_⟩:=Ad n1;have HIP:=zh (zi (O1 n1 hlen) n2);clear n1 n2 hlen
 go_wp2
 refine Asx p hr hs key hkey a1 a2 a3 c1 c2 c3 w _ (Le p key k) W1 HIP.out.1 (HIN.out.1.since HIP.out.2) _ ?_ _ (.slice none 0 0) 0 W1 rfl (Nat.zero_le _) (World.ownsRow_nil _ _ _ _) (zb _ _);rintro t v q W2 ht h1 h2;obtain⟨u,rfl⟩:=Ada ht;obtain⟨av,cv,rfl,_⟩:=Ad h1;have hb1:Below w.heap.size w W1:=HIN.out.2.trans (HIP.out.2.mono HIN.out.2.size);have HF:=zh (zi (Ch.lower h1 hb1.size) (hb1.trans (h2.mono hb1.size)));clear ht h1 h2 hb1
 go_wp2
 go_ret
 exact⟨_,rfl,HF.out.1,HF.out.2⟩
theorem Rf (p:Ab) (hs:Ai p) (n:Int) (hn: -9223372036854775808≤n∧n≤9223372036854775807) (key:ByteArray) (hkey:key.size≤1048576) (a1 a2 a3:Option Addr) (c1 c2 c3:Nat) (w:World) (hp:Az w 0 w.heap.size a1 a2 a3 p):
  Calls Tryz.prog 128 #[Bc p a1 a2 a3 c1 c2 c3,.int .i64 n,.string key] w fun e w'=>e= .returned (.int .i64 (Bo p n key))∧Below w.heap.size w w':=by
 unfold Bc;obtain⟨W0,hW0⟩:∃W0,w.alloc (.cells (zP p a1 a2 a3 c1 c2 c3) 26)=W0:=⟨_,rfl⟩;have k0:Bk W0 w.heap.size 26 (zP p a1 a2 a3 c1 c2 c3):=by rw[←hW0];exact Bk.new _ _ _
 have hb0:Below w.heap.size w W0:=by rw[←hW0];exact(zb _ _).alloc (zn _) _
 have m0:=k0.cell 0;have m1:=k0.cell 1;have m2:=k0.cell 2;simp only[zI,zJ,zK] at m0 m1 m2;have HIN:Hid (Ym w p a1 a2 a3 c1 c2 c3 W0∧Below w.heap.size w W0):=zh ⟨⟨k0,(hp.below hb0 (zn _)).wider (zn _) hb0.size⟩,hb0⟩;have hpl:=hs.aj;clear k0 hb0 hp;go_enter Tryz.func128,Tryz.ntmps128
 go_wp2_with fail
 have hcall:=Gt p a1 a2 a3 c1 c2 c3 0 W0 HIN.out.1.bz hs;unfold Bc at hcall;refine hcall.mono ?_;clear hcall m0 m1 m2 hW0;rintro e W1 ⟨rfl,n2⟩;have HB:=zh (HIN.out.2.trans (n2.mono HIN.out.2.size));have m0:=(HIN.out.1.since n2).box.cell 0;simp only[zI,zJ] at m0;clear n2;by_cases hc:Bf p=0
 ·have b1:(Bf p != 0)=false:=by simp[hc]
  by_cases hn2:n < 0∨(p.aj.length:Int)≤n
  ·have HE:=zh (show Bo p n key=5 by unfold Bo;rw[zq (by simp[hc]),zp hn2])
   have HD:=zh (show(decide ((0:Int)≤n) && decide (n≤(p.aj.length:Int) - 1))=false by rw[Bool.and_eq_false_iff];simp;omega);clear hc hn2;go_wp2_with (go_at_call 61;refine(B8 _ _ _ _).mono ?_;rintro e W2 ⟨rfl,rfl⟩;rw[HD.out])
   go_ret
   exact⟨by rw[HE.out];rfl,HB.out⟩
  ·have HE:=zh (show Bo p n key=Be isWord key by unfold Bo;rw[zq (by simp[hc]),zq hn2])
   have HD:=zh (show(decide ((0:Int)≤n) && decide (n≤(p.aj.length:Int) - 1))=true by rw[zc];simp;omega);clear hc hn2;go_wp2_with (first|(go_at_call 61;refine(B8 _ _ _ _).mono ?_;rintro e W2 ⟨rfl,rfl⟩;rw[HD.out])|(go_at_call 142;refine(Iz key _ (by omega)).mono ?_;rintro e W3 ⟨rfl,n3⟩;have HB3:=zh n3;clear n3))
   go_ret
   exact⟨by rw[HE.out];rfl,HB.out.trans (HB3.out.mono HB.out.size)⟩
 ·have b1:(Bf p != 0)=true:=by simp[hc]
  have HE:=zh (show Bo p n key=Bf p by unfold Bo;rw[zp hc]);clear hc
  go_wp2
  go_ret
  exact⟨by rw[HE.out];rfl,HB.out⟩
end Go.Proofs.YtaanpcjkflhomaaGreatDoor
