/-
  arrive.Room, Open; the loops of Letters.
  arrive.Letters, walked.
  The reference's dying.
  The reference's shedAt.
-/
import Derived.Test.YtaanpcjkflhomaaGreatDoorBunR
import Derived.Test.YtaanpcjkflhomaaGreatDoorBunE
import Derived.Test.YtaanpcjkflhomaaGreatDoorBunF
import Derived.Test.YtaanpcjkflhomaaGreatDoorStateD
import Derived.Test.YtaanpcjkflhomaaGreatDoorBunH
import Derived.Test.YtaanpcjkflhomaaGreatDoorBunA
import Derived.Test.YtaanpcjkflhomaaGreatDoorBunV
set_option maxHeartbeats 20000000
set_option maxRecDepth 100000
set_option linter.unusedSimpArgs false
set_option linter.unusedVariables false
namespace Go.Proofs.YtaanpcjkflhomaaGreatDoor
open Go Go.RowKit
theorem Afp (s:Aa) (a1 a2 a3:Option Addr) (c1 c2 c3:Nat) (w:World):Calls Tryz.prog 94 #[.agg #[.slice a1 s.ready.length c1,.slice a2 s.outs.length c2,.slice a3 s.takers.length c3,.int .i64 s.nextSeq,.int .i64 s.nextTag,.int .i64 s.came,.int .i64 s.acked,.int .i64 s.dropped]] w fun e w'=>e= .returned (.bool (decide (s.nextSeq≤524288)))∧Below w.heap.size w w':=by
 have hb:=(zb w.heap.size w).alloc (zn _) (.cells #[.slice a1 s.ready.length c1,.slice a2 s.outs.length c2,.slice a3 s.takers.length c3,.int .i64 s.nextSeq,.int .i64 s.nextTag,.int .i64 s.came,.int .i64 s.acked,.int .i64 s.dropped] 31)
 go_enter Tryz.func94,Tryz.ntmps94
 go_wp2
 go_ret
 exact⟨rfl,hb⟩
theorem Afo (g:Nat) (p:Ab) (p1 p2 p3:Option Addr) (q1 q2 q3:Nat) (w:World):Calls Tryz.prog 95 #[.agg #[.slice p1 p.posts.length q1,.slice p2 p.queues.length q2,.slice p3 p.binds.length q3],.pointer (some ⟨g,0,none⟩)] w fun e w'=>e= .returned (.pointer (some ⟨w.heap.size+1,0,none⟩))∧Bk w' (w.heap.size+1) 176 (Qu g p p1 p2 p3 q1 q2 q3 (.slice none 0 0))∧Below w.heap.size w w':=by
 go_enter Tryz.func95,Tryz.ntmps95
 go_wp2
 go_ret
 refine⟨by simp,?_,?_⟩
 ·exact Bk.new_at _ _ _ (by simp)
 ·exact((zb _ _).alloc (zn _) _).alloc (by simp) _
theorem Tg {W:World} {g:Nat} {t:TypeId} (h:Bk W g t zeroCells):Bk ((((((((W.setCell ⟨g,0,none⟩ (.slice none 0 0)).setCell ⟨g,1,none⟩ (.slice none 0 0)).setCell ⟨g,2,none⟩ (.slice none 0 0)).setCell ⟨g,3,none⟩ (.int .i64 0)).setCell ⟨g,4,none⟩ (.int .i64 0)).setCell ⟨g,5,none⟩ (.int .i64 0)).setCell ⟨g,6,none⟩ (.int .i64 0)).setCell ⟨g,7,none⟩ (.int .i64 0)) g t zeroCells:=
 (((((((h.set_ 0 (.slice none 0 0)).set_ 1 (.slice none 0 0)).set_ 2 (.slice none 0 0)).set_ 3 (.int .i64 0)).set_ 4 (.int .i64 0)).set_ 5 (.int .i64 0)).set_ 6 (.int .i64 0)).set_ 7 (.int .i64 0)
structure Hy (a:Aj):Prop where
 key:a.key.size≤1048576
 body:a.body.size≤1048576
 queue: -9223372036854775808≤a.queue∧a.queue≤9223372036854775807
 deaths: -9223372036854775808≤a.deaths∧a.deaths≤9223372036854775807
theorem Uw {α:Type} {f:α→Bool} {l:List α} {i:Nat} (hi:i < l.length) (h:(l.take i).all f=true) (h2:f l[i]=true):(l.take (i+1)).all f=true:=by
 rw[List.take_add_one,zG hi,List.all_append,h]
 simp[h2]
theorem Yn {α:Type} {f:α→Bool} {l:List α} {i:Nat} (hi:i < l.length) (h2:f l[i]=false):l.all f=false:=by
 rw[List.all_eq_false]
 exact⟨_,List.getElem_mem hi,by simp[h2]⟩
structure Awo (X0 X1 X2:Nat) (p:Ab) (p2:Option Addr) (q2:Nat) (al:Option Addr) (l:List Aj) (w W:World):Prop where
 queues:W.cell? ⟨X0,1,none⟩=some (.slice p2 p.queues.length q2)
 zero:Bk W X2 31 zeroCells
 line:Sl W 0 W.heap.size al (l.flatMap Bm)
 env:Env W
 below:Below w.heap.size w W
def le1_T (X0 X1 X2 cl i:Nat) (al:Option Addr) (l:List Aj) (t:Array Value):Array Value:= #[t.getD 0 undef,t.getD 1 undef,.slice al l.length cl,.pointer (some ⟨X0,0,none⟩),.pointer (some ⟨X1,0,none⟩),t.getD 5 undef,.pointer (some ⟨X2,0,none⟩),.int .i64 0,.int .i64 0,t.getD 9 undef,t.getD 10 undef,t.getD 11 undef,t.getD 12 undef,t.getD 13 undef,t.getD 14 undef,t.getD 15 undef,t.getD 16 undef,t.getD 17 undef,t.getD 18 undef,t.getD 19 undef,t.getD 20 undef,t.getD 21 undef,t.getD 22 undef,t.getD 23 undef,t.getD 24 undef,t.getD 25 undef,t.getD 26 undef,.slice al l.length cl,.int .i64 (l.length:Int),.int .i64 (i:Int),t.getD 30 undef,t.getD 31 undef,t.getD 32 undef,t.getD 33 undef,t.getD 34 undef,t.getD 35 undef,t.getD 36 undef,t.getD 37 undef,t.getD 38 undef,t.getD 39 undef,t.getD 40 undef,t.getD 41 undef,t.getD 42 undef,t.getD 43 undef,t.getD 44 undef,t.getD 45 undef,t.getD 46 undef,t.getD 47 undef,t.getD 48 undef,t.getD 49 undef,t.getD 50 undef,t.getD 51 undef,t.getD 52 undef,t.getD 53 undef,t.getD 54 undef,t.getD 55 undef,t.getD 56 undef,t.getD 57 undef,t.getD 58 undef,t.getD 59 undef,t.getD 60 undef,t.getD 61 undef,t.getD 62 undef,t.getD 63 undef,t.getD 64 undef,t.getD 65 undef,t.getD 66 undef,t.getD 67 undef,t.getD 68 undef,t.getD 69 undef,t.getD 70 undef,t.getD 71 undef,t.getD 72 undef,t.getD 73 undef,t.getD 74 undef]
theorem Ahe {X0 X1 X2 cl i:Nat} {al:Option Addr} {l:List Aj} {t:Array Value} (h:t=(le1_T X0 X1 X2 cl i al l t)):∃u:Nat→Value,t= #[u 0,u 1,.slice al l.length cl,.pointer (some ⟨X0,0,none⟩),.pointer (some ⟨X1,0,none⟩),u 5,.pointer (some ⟨X2,0,none⟩),.int .i64 0,.int .i64 0,u 9,u 10,u 11,u 12,u 13,u 14,u 15,u 16,u 17,u 18,u 19,u 20,u 21,u 22,u 23,u 24,u 25,u 26,.slice al l.length cl,.int .i64 (l.length:Int),.int .i64 (i:Int),u 30,u 31,u 32,u 33,u 34,u 35,u 36,u 37,u 38,u 39,u 40,u 41,u 42,u 43,u 44,u 45,u 46,u 47,u 48,u 49,u 50,u 51,u 52,u 53,u 54,u 55,u 56,u 57,u 58,u 59,u 60,u 61,u 62,u 63,u 64,u 65,u 66,u 67,u 68,u 69,u 70,u 71,u 72,u 73,u 74]:=⟨fun i=>t.getD i undef,h⟩
def le2_T (X0 X1 X2 cl i:Nat) (al:Option Addr) (l:List Aj) (t:Array Value):Array Value:= #[t.getD 0 undef,t.getD 1 undef,.slice al l.length cl,.pointer (some ⟨X0,0,none⟩),.pointer (some ⟨X1,0,none⟩),t.getD 5 undef,.pointer (some ⟨X2,0,none⟩),.int .i64 0,.int .i64 0,t.getD 9 undef,t.getD 10 undef,t.getD 11 undef,t.getD 12 undef,t.getD 13 undef,t.getD 14 undef,t.getD 15 undef,t.getD 16 undef,t.getD 17 undef,t.getD 18 undef,t.getD 19 undef,t.getD 20 undef,t.getD 21 undef,t.getD 22 undef,t.getD 23 undef,t.getD 24 undef,t.getD 25 undef,t.getD 26 undef,t.getD 27 undef,t.getD 28 undef,t.getD 29 undef,t.getD 30 undef,t.getD 31 undef,t.getD 32 undef,t.getD 33 undef,t.getD 34 undef,t.getD 35 undef,t.getD 36 undef,t.getD 37 undef,t.getD 38 undef,t.getD 39 undef,t.getD 40 undef,t.getD 41 undef,t.getD 42 undef,t.getD 43 undef,t.getD 44 undef,t.getD 45 undef,.slice al l.length cl,.int .i64 (l.length:Int),.int .i64 (i:Int),t.getD 49 undef,t.getD 50 undef,t.getD 51 undef,t.getD 52 undef,t.getD 53 undef,t.getD 54 undef,t.getD 55 undef,t.getD 56 undef,t.getD 57 undef,t.getD 58 undef,t.getD 59 undef,t.getD 60 undef,t.getD 61 undef,t.getD 62 undef,t.getD 63 undef,t.getD 64 undef,t.getD 65 undef,t.getD 66 undef,t.getD 67 undef,t.getD 68 undef,t.getD 69 undef,t.getD 70 undef,t.getD 71 undef,t.getD 72 undef,t.getD 73 undef,t.getD 74 undef]
theorem Ahf {X0 X1 X2 cl i:Nat} {al:Option Addr} {l:List Aj} {t:Array Value} (h:t=(le2_T X0 X1 X2 cl i al l t)):∃u:Nat→Value,t= #[u 0,u 1,.slice al l.length cl,.pointer (some ⟨X0,0,none⟩),.pointer (some ⟨X1,0,none⟩),u 5,.pointer (some ⟨X2,0,none⟩),.int .i64 0,.int .i64 0,u 9,u 10,u 11,u 12,u 13,u 14,u 15,u 16,u 17,u 18,u 19,u 20,u 21,u 22,u 23,u 24,u 25,u 26,u 27,u 28,u 29,u 30,u 31,u 32,u 33,u 34,u 35,u 36,u 37,u 38,u 39,u 40,u 41,u 42,u 43,u 44,u 45,.slice al l.length cl,.int .i64 (l.length:Int),.int .i64 (i:Int),u 49,u 50,u 51,u 52,u 53,u 54,u 55,u 56,u 57,u 58,u 59,u 60,u 61,u 62,u 63,u 64,u 65,u 66,u 67,u 68,u 69,u 70,u 71,u 72,u 73,u 74]:=⟨fun i=>t.getD i undef,h⟩
theorem Ahi {X2:Nat} {e:Int} {t:Array Value} (h:t= #[t.getD 0 undef,t.getD 1 undef,t.getD 2 undef,t.getD 3 undef,t.getD 4 undef,t.getD 5 undef,.pointer (some ⟨X2,0,none⟩),.int .i64 0,.int .i64 e,t.getD 9 undef,t.getD 10 undef,t.getD 11 undef,t.getD 12 undef,t.getD 13 undef,t.getD 14 undef,t.getD 15 undef,t.getD 16 undef,t.getD 17 undef,t.getD 18 undef,t.getD 19 undef,t.getD 20 undef,t.getD 21 undef,t.getD 22 undef,t.getD 23 undef,t.getD 24 undef,t.getD 25 undef,t.getD 26 undef,t.getD 27 undef,t.getD 28 undef,t.getD 29 undef,t.getD 30 undef,t.getD 31 undef,t.getD 32 undef,t.getD 33 undef,t.getD 34 undef,t.getD 35 undef,t.getD 36 undef,t.getD 37 undef,t.getD 38 undef,t.getD 39 undef,t.getD 40 undef,t.getD 41 undef,t.getD 42 undef,t.getD 43 undef,t.getD 44 undef,t.getD 45 undef,t.getD 46 undef,t.getD 47 undef,t.getD 48 undef,t.getD 49 undef,t.getD 50 undef,t.getD 51 undef,t.getD 52 undef,t.getD 53 undef,t.getD 54 undef,t.getD 55 undef,t.getD 56 undef,t.getD 57 undef,t.getD 58 undef,t.getD 59 undef,t.getD 60 undef,t.getD 61 undef,t.getD 62 undef,t.getD 63 undef,t.getD 64 undef,t.getD 65 undef,t.getD 66 undef,t.getD 67 undef,t.getD 68 undef,t.getD 69 undef,t.getD 70 undef,t.getD 71 undef,t.getD 72 undef,t.getD 73 undef,t.getD 74 undef]):∃u:Nat→Value,t= #[u 0,u 1,u 2,u 3,u 4,u 5,.pointer (some ⟨X2,0,none⟩),.int .i64 0,.int .i64 e,u 9,u 10,u 11,u 12,u 13,u 14,u 15,u 16,u 17,u 18,u 19,u 20,u 21,u 22,u 23,u 24,u 25,u 26,u 27,u 28,u 29,u 30,u 31,u 32,u 33,u 34,u 35,u 36,u 37,u 38,u 39,u 40,u 41,u 42,u 43,u 44,u 45,u 46,u 47,u 48,u 49,u 50,u 51,u 52,u 53,u 54,u 55,u 56,u 57,u 58,u 59,u 60,u 61,u 62,u 63,u 64,u 65,u 66,u 67,u 68,u 69,u 70,u 71,u 72,u 73,u 74]:=⟨fun i=>t.getD i undef,h⟩
noncomputable def Auz:Code:=Ik Tryz.f127 0
noncomputable def Au0:Code:=Ik Tryz.f127 1
def Ama (X0 X1 X2 cl:Nat) (al:Option Addr) (p:Ab) (l:List Aj) (W0:World) (a:Act) (wr:World):Prop:=
 ∃(t:Array Value) (i:Nat),t=(le1_T X0 X1 X2 cl i al l t)∧i≤l.length∧(l.take i).all (Lz p)=true∧Below W0.heap.size W0 wr∧a=⟨t,[]⟩
theorem Arx (X0 X1 X2 cl:Nat) (al:Option Addr) (p:Ab) (p2:Option Addr) (q2:Nat) (l:List Aj) (hll:l.length≤4) (w W0:World) (hX:w.heap.size≤X2) (hIn:∀W,Below W0.heap.size W0 W→Awo X0 X1 X2 p p2 q2 al l w W) (Q0:Exit→Act→World→Prop)
  (hend:∀(t:Array Value) (i:Nat) (W:World),t=(le1_T X0 X1 X2 cl i al l t)→l.all (Lz p)=true→Below W0.heap.size W0 W→Q0 (.exit 0) ⟨t,[]⟩ W)
  (hret:∀(t:Array Value) (W:World),t= #[t.getD 0 undef,t.getD 1 undef,t.getD 2 undef,t.getD 3 undef,t.getD 4 undef,t.getD 5 undef,.pointer (some ⟨X2,0,none⟩),.int .i64 0,.int .i64 5,t.getD 9 undef,t.getD 10 undef,t.getD 11 undef,t.getD 12 undef,t.getD 13 undef,t.getD 14 undef,t.getD 15 undef,t.getD 16 undef,t.getD 17 undef,t.getD 18 undef,t.getD 19 undef,t.getD 20 undef,t.getD 21 undef,t.getD 22 undef,t.getD 23 undef,t.getD 24 undef,t.getD 25 undef,t.getD 26 undef,t.getD 27 undef,t.getD 28 undef,t.getD 29 undef,t.getD 30 undef,t.getD 31 undef,t.getD 32 undef,t.getD 33 undef,t.getD 34 undef,t.getD 35 undef,t.getD 36 undef,t.getD 37 undef,t.getD 38 undef,t.getD 39 undef,t.getD 40 undef,t.getD 41 undef,t.getD 42 undef,t.getD 43 undef,t.getD 44 undef,t.getD 45 undef,t.getD 46 undef,t.getD 47 undef,t.getD 48 undef,t.getD 49 undef,t.getD 50 undef,t.getD 51 undef,t.getD 52 undef,t.getD 53 undef,t.getD 54 undef,t.getD 55 undef,t.getD 56 undef,t.getD 57 undef,t.getD 58 undef,t.getD 59 undef,t.getD 60 undef,t.getD 61 undef,t.getD 62 undef,t.getD 63 undef,t.getD 64 undef,t.getD 65 undef,t.getD 66 undef,t.getD 67 undef,t.getD 68 undef,t.getD 69 undef,t.getD 70 undef,t.getD 71 undef,t.getD 72 undef,t.getD 73 undef,t.getD 74 undef]→l.all (Lz p)=false→Bk W X2 31 zeroCells→Below w.heap.size w W→Q0 .ret ⟨t,[]⟩ W) (t:Array Value) (i:Nat) (W:World) (ht:t=(le1_T X0 X1 X2 cl i al l t)) (hi:i≤l.length) (hall:(l.take i).all (Lz p)=true) (hW:Below W0.heap.size W0 W):
  (Code.loop Auz).wp Tryz.prog Q0 ⟨t,[]⟩ W:=by
 refine wp_loop (Ama X0 X1 X2 cl al p l W0) (fun a _=>l.length - (intOf (a.tmps.getD 29 undef)).toNat) ⟨t,i,ht,hi,hall,hW,rfl⟩ ?_
 clear ht hi hall hW t i W
 rintro a' wr ⟨t,i,ht,hi,hall,hW,rfl⟩
 obtain⟨u,rfl⟩:=Ahe ht
 clear ht
 have HEND:=zh hend
 have HRET:=zh hret
 have HW:=zh hW
 have HAL:=zh hall
 have HIN:=zh hIn
 clear hend hret hall hIn
 conv=>arg 2;whnf
 by_cases hlt:i < l.length
 ·have hj2:(i:Int) < (l.length:Int):=by omega
  obtain⟨gb,ob,rfl,_,_,hx⟩:=Bd D2 (by decide) (HIN.out _ hW).line hlt
  have hno:=Uw (f:=Lz p) hlt HAL.out
  have hba:=Yn (f:=Lz p) hlt
  generalize l[i]=a at *
  have x0:wr.cell? ⟨gb,ob+i * 4,none⟩=some (.int .i64 a.queue):=hx 0 _ rfl
  have x1:wr.cell? ⟨gb,ob+i * 4+1,none⟩=some (.string a.key):=hx 1 _ rfl
  have x2:wr.cell? ⟨gb,ob+i * 4+2,none⟩=some (.string a.body):=hx 2 _ rfl
  have x3:wr.cell? ⟨gb,ob+i * 4+3,none⟩=some (.int .i64 a.deaths):=hx 3 _ rfl
  obtain⟨V,hV⟩:∃V,wr.alloc (.cells #[.int .i64 a.queue,.string a.key,.string a.body,.int .i64 a.deaths] 140)=V:=⟨_,rfl⟩
  have kb:Bk V wr.heap.size 140 #[.int .i64 a.queue,.string a.key,.string a.body,.int .i64 a.deaths]:=by rw[←hV];exact Bk.new _ _ _
  have hal:Below W0.heap.size W0 V:=by rw[←hV];exact hW.alloc hW.size _
  have c0:=kb.cell 0
  simp only[zI,zJ,zK] at c0
  have hqc:=(HIN.out _ hal).queues
  have HV:=zh hal
  have HNO:=zh hno
  have HBA:=zh hba
  have HR:Hid (∀t:Array Value,∀(i':Nat),i'=i+1→t= #[t.getD 0 undef,t.getD 1 undef,.slice (some ⟨gb,ob,none⟩) l.length cl,.pointer (some ⟨X0,0,none⟩),.pointer (some ⟨X1,0,none⟩),t.getD 5 undef,.pointer (some ⟨X2,0,none⟩),.int .i64 0,.int .i64 0,t.getD 9 undef,t.getD 10 undef,t.getD 11 undef,t.getD 12 undef,t.getD 13 undef,t.getD 14 undef,t.getD 15 undef,t.getD 16 undef,t.getD 17 undef,t.getD 18 undef,t.getD 19 undef,t.getD 20 undef,t.getD 21 undef,t.getD 22 undef,t.getD 23 undef,t.getD 24 undef,t.getD 25 undef,t.getD 26 undef,.slice (some ⟨gb,ob,none⟩) l.length cl,.int .i64 (l.length:Int),.int .i64 (i':Int),t.getD 30 undef,t.getD 31 undef,t.getD 32 undef,t.getD 33 undef,t.getD 34 undef,t.getD 35 undef,t.getD 36 undef,t.getD 37 undef,t.getD 38 undef,t.getD 39 undef,t.getD 40 undef,t.getD 41 undef,t.getD 42 undef,t.getD 43 undef,t.getD 44 undef,t.getD 45 undef,t.getD 46 undef,t.getD 47 undef,t.getD 48 undef,t.getD 49 undef,t.getD 50 undef,t.getD 51 undef,t.getD 52 undef,t.getD 53 undef,t.getD 54 undef,t.getD 55 undef,t.getD 56 undef,t.getD 57 undef,t.getD 58 undef,t.getD 59 undef,t.getD 60 undef,t.getD 61 undef,t.getD 62 undef,t.getD 63 undef,t.getD 64 undef,t.getD 65 undef,t.getD 66 undef,t.getD 67 undef,t.getD 68 undef,t.getD 69 undef,t.getD 70 undef,t.getD 71 undef,t.getD 72 undef,t.getD 73 undef,t.getD 74 undef]→(l.take (i+1)).all (Lz p)=true→Ama X0 X1 X2 cl (some ⟨gb,ob,none⟩) p l W0 ⟨t,[]⟩ V):=
   zh fun t i' hi' ht hc'=>⟨t,i',ht,by omega,by rw[hi'];exact hc',hal,rfl⟩
  clear kb hal hno hba hx hW
  by_cases h0:a.queue < 0
  ·have HB:=zh (HBA.out (by unfold Lz;simp;omega))
   obtain⟨k0,k1,k2,k3,k4,k5,k6,k7,f0,f1,f2,f3,f4,f5,f6,f7,hlt8⟩:=Af (HIN.out _ HV.out).zero
   go_wp2
   exact HRET.out _ _ rfl HB.out (Tg (HIN.out _ HV.out).zero) (Ak (HIN.out _ HV.out).below hX _ _ _ _ _ _ _ _)
  ·by_cases h1:(p.queues.length:Int)≤a.queue
   ·have HB:=zh (HBA.out (by unfold Lz;simp;omega))
    obtain⟨k0,k1,k2,k3,k4,k5,k6,k7,f0,f1,f2,f3,f4,f5,f6,f7,hlt8⟩:=Af (HIN.out _ HV.out).zero
    go_wp2
    exact HRET.out _ _ rfl HB.out (Tg (HIN.out _ HV.out).zero) (Ak (HIN.out _ HV.out).below hX _ _ _ _ _ _ _ _)
   ·have HO:=zh (HNO.out (by unfold Lz;simp;omega))
    go_wp2
    exact⟨HR.out _ _ rfl rfl HO.out,by simp[intOf];omega⟩
 ·obtain rfl:i=l.length:=by omega
  have HF:=zh (show l.all (Lz p)=true by have h:=HAL.out;rwa [List.take_length] at h)
  go_wp2
  exact HEND.out _ l.length _ rfl HF.out HW.out
theorem Aqo (a:Aj):Bi ⟨0,a.key,a.body,false,a.deaths⟩=Ew a:=by
 unfold Bi Ew
 simp
def Amb (X0 X1 X2 cl:Nat) (al:Option Addr) (l:List Aj) (W0:World) (a:Act) (wr:World):Prop:=
 ∃(t:Array Value) (i:Nat),t=(le2_T X0 X1 X2 cl i al l t)∧i≤l.length∧(l.take i).all Ew=true∧Below W0.heap.size W0 wr∧a=⟨t,[]⟩
theorem Ary (X0 X1 X2 cl:Nat) (al:Option Addr) (p:Ab) (p2:Option Addr) (q2:Nat) (l:List Aj) (hll:l.length≤4) (hsm:∀a∈l,Hy a) (w W0:World) (hX:w.heap.size≤X2) (hIn:∀W,Below W0.heap.size W0 W→Awo X0 X1 X2 p p2 q2 al l w W) (Q0:Exit→Act→World→Prop)
  (hend:∀(t:Array Value) (i:Nat) (W:World),t=(le2_T X0 X1 X2 cl i al l t)→l.all Ew=true→Below W0.heap.size W0 W→Q0 (.exit 2) ⟨t,[]⟩ W)
  (hret:∀(t:Array Value) (W:World),t= #[t.getD 0 undef,t.getD 1 undef,t.getD 2 undef,t.getD 3 undef,t.getD 4 undef,t.getD 5 undef,.pointer (some ⟨X2,0,none⟩),.int .i64 0,.int .i64 1,t.getD 9 undef,t.getD 10 undef,t.getD 11 undef,t.getD 12 undef,t.getD 13 undef,t.getD 14 undef,t.getD 15 undef,t.getD 16 undef,t.getD 17 undef,t.getD 18 undef,t.getD 19 undef,t.getD 20 undef,t.getD 21 undef,t.getD 22 undef,t.getD 23 undef,t.getD 24 undef,t.getD 25 undef,t.getD 26 undef,t.getD 27 undef,t.getD 28 undef,t.getD 29 undef,t.getD 30 undef,t.getD 31 undef,t.getD 32 undef,t.getD 33 undef,t.getD 34 undef,t.getD 35 undef,t.getD 36 undef,t.getD 37 undef,t.getD 38 undef,t.getD 39 undef,t.getD 40 undef,t.getD 41 undef,t.getD 42 undef,t.getD 43 undef,t.getD 44 undef,t.getD 45 undef,t.getD 46 undef,t.getD 47 undef,t.getD 48 undef,t.getD 49 undef,t.getD 50 undef,t.getD 51 undef,t.getD 52 undef,t.getD 53 undef,t.getD 54 undef,t.getD 55 undef,t.getD 56 undef,t.getD 57 undef,t.getD 58 undef,t.getD 59 undef,t.getD 60 undef,t.getD 61 undef,t.getD 62 undef,t.getD 63 undef,t.getD 64 undef,t.getD 65 undef,t.getD 66 undef,t.getD 67 undef,t.getD 68 undef,t.getD 69 undef,t.getD 70 undef,t.getD 71 undef,t.getD 72 undef,t.getD 73 undef,t.getD 74 undef]→l.all Ew=false→Bk W X2 31 zeroCells→Below w.heap.size w W→Q0 .ret ⟨t,[]⟩ W) (t:Array Value) (i:Nat) (W:World) (ht:t=(le2_T X0 X1 X2 cl i al l t)) (hi:i≤l.length) (hall:(l.take i).all Ew=true) (hW:Below W0.heap.size W0 W):
  (Code.loop Au0).wp Tryz.prog Q0 ⟨t,[]⟩ W:=by
 refine wp_loop (Amb X0 X1 X2 cl al l W0) (fun a _=>l.length - (intOf (a.tmps.getD 48 undef)).toNat) ⟨t,i,ht,hi,hall,hW,rfl⟩ ?_
 clear ht hi hall hW t i W
 rintro a' wr ⟨t,i,ht,hi,hall,hW,rfl⟩
 obtain⟨u,rfl⟩:=Ahf ht
 clear ht
 have HEND:=zh hend
 have HRET:=zh hret
 have HW:=zh hW
 have HAL:=zh hall
 have HIN:=zh hIn
 clear hend hret hall hIn
 conv=>arg 2;whnf
 by_cases hlt:i < l.length
 ·have hj2:(i:Int) < (l.length:Int):=by omega
  obtain⟨gb,ob,rfl,_,_,hx⟩:=Bd D2 (by decide) (HIN.out _ hW).line hlt
  have hno:=Uw (f:=Ew) hlt HAL.out
  have hba:=Yn (f:=Ew) hlt
  have hsa:=hsm _ (List.getElem_mem hlt)
  generalize l[i]=a at *
  have x0:wr.cell? ⟨gb,ob+i * 4,none⟩=some (.int .i64 a.queue):=hx 0 _ rfl
  have x1:wr.cell? ⟨gb,ob+i * 4+1,none⟩=some (.string a.key):=hx 1 _ rfl
  have x2:wr.cell? ⟨gb,ob+i * 4+2,none⟩=some (.string a.body):=hx 2 _ rfl
  have x3:wr.cell? ⟨gb,ob+i * 4+3,none⟩=some (.int .i64 a.deaths):=hx 3 _ rfl
  obtain⟨V,hV⟩:∃V,wr.alloc (.cells #[.int .i64 a.queue,.string a.key,.string a.body,.int .i64 a.deaths] 140)=V:=⟨_,rfl⟩
  have kb:Bk V wr.heap.size 140 #[.int .i64 a.queue,.string a.key,.string a.body,.int .i64 a.deaths]:=by rw[←hV];exact Bk.new _ _ _
  have hal:Below W0.heap.size W0 V:=by rw[←hV];exact hW.alloc hW.size _
  have c1:=kb.cell 1
  have c2:=kb.cell 2
  have c3:=kb.cell 3
  simp only[zI,zJ,zK] at c1 c2 c3
  have HV:=zh hal
  have HNO:=zh hno
  have HBA:=zh hba
  have HFI:Hid (Calls Tryz.prog 78 #[.agg #[.int .i64 0,.string a.key,.string a.body,.bool false,.int .i64 a.deaths]] V fun e w'=>e= .returned (.bool (Ew a))∧Below V.heap.size V w'):=zh (by
   have h:=Wq ⟨0,a.key,a.body,false,a.deaths⟩ V (HIN.out _ HV.out).env ⟨hsa.key,hsa.body,by simp,by simp,hsa.deaths⟩
   rw[Aqo] at h
   exact h)
  have HR:Hid (∀t:Array Value,∀(i':Nat),i'=i+1→t= #[t.getD 0 undef,t.getD 1 undef,.slice (some ⟨gb,ob,none⟩) l.length cl,.pointer (some ⟨X0,0,none⟩),.pointer (some ⟨X1,0,none⟩),t.getD 5 undef,.pointer (some ⟨X2,0,none⟩),.int .i64 0,.int .i64 0,t.getD 9 undef,t.getD 10 undef,t.getD 11 undef,t.getD 12 undef,t.getD 13 undef,t.getD 14 undef,t.getD 15 undef,t.getD 16 undef,t.getD 17 undef,t.getD 18 undef,t.getD 19 undef,t.getD 20 undef,t.getD 21 undef,t.getD 22 undef,t.getD 23 undef,t.getD 24 undef,t.getD 25 undef,t.getD 26 undef,t.getD 27 undef,t.getD 28 undef,t.getD 29 undef,t.getD 30 undef,t.getD 31 undef,t.getD 32 undef,t.getD 33 undef,t.getD 34 undef,t.getD 35 undef,t.getD 36 undef,t.getD 37 undef,t.getD 38 undef,t.getD 39 undef,t.getD 40 undef,t.getD 41 undef,t.getD 42 undef,t.getD 43 undef,t.getD 44 undef,t.getD 45 undef,.slice (some ⟨gb,ob,none⟩) l.length cl,.int .i64 (l.length:Int),.int .i64 (i':Int),t.getD 49 undef,t.getD 50 undef,t.getD 51 undef,t.getD 52 undef,t.getD 53 undef,t.getD 54 undef,t.getD 55 undef,t.getD 56 undef,t.getD 57 undef,t.getD 58 undef,t.getD 59 undef,t.getD 60 undef,t.getD 61 undef,t.getD 62 undef,t.getD 63 undef,t.getD 64 undef,t.getD 65 undef,t.getD 66 undef,t.getD 67 undef,t.getD 68 undef,t.getD 69 undef,t.getD 70 undef,t.getD 71 undef,t.getD 72 undef,t.getD 73 undef,t.getD 74 undef]→(l.take (i+1)).all Ew=true→∀W,Below W0.heap.size W0 W→Amb X0 X1 X2 cl (some ⟨gb,ob,none⟩) l W0 ⟨t,[]⟩ W):=
   zh fun t i' hi' ht hc' W hW=>⟨t,i',ht,by omega,by rw[hi'];exact hc',hW,rfl⟩
  clear kb hal hno hba hx hW hsa
  go_wp2_with fail
  refine HFI.out.mono ?_
  rintro e w5 ⟨rfl,b5⟩
  have H5:=zh (HV.out.trans (b5.mono HV.out.size))
  clear b5 c1 c2 c3 x0 x1 x2 x3
  cases hf:Ew a
  ·have HB:=zh (HBA.out hf)
   clear hf
   obtain⟨k0,k1,k2,k3,k4,k5,k6,k7,f0,f1,f2,f3,f4,f5,f6,f7,hlt8⟩:=Af (HIN.out _ H5.out).zero
   go_wp2
   exact HRET.out _ _ rfl HB.out (Tg (HIN.out _ H5.out).zero) (Ak (HIN.out _ H5.out).below hX _ _ _ _ _ _ _ _)
  ·have HO:=zh (HNO.out hf)
   clear hf
   go_wp2
   exact⟨HR.out _ _ rfl rfl HO.out _ H5.out,by simp[intOf];omega⟩
 ·obtain rfl:i=l.length:=by omega
  have HF:=zh (show l.all Ew=true by have h:=HAL.out;rwa [List.take_length] at h)
  go_wp2
  exact HEND.out _ l.length _ rfl HF.out HW.out
open Go Go.RowKit
def Lu (x:Aa) (n err:Int) (w:World) (e:Ending) (w':World):Prop:=
 ∃a1 a2 a3 c1 c2 c3 rows,e= .returned (.tuple #[Ac x a1 a2 a3 c1 c2 c3,.int .i64 n,.int .i64 err])∧Ax w' w.heap.size w'.heap.size a1 a2 a3 rows x∧Below w.heap.size w w'
theorem Awu {p:Ab} {s:Aa} {l:List Aj} {err:Int} (h:Bh p s l=err) (h0:err≠0) (w W:World) (hb:Below w.heap.size w W):Lu (Cu p s l) (E5 p s l) (Bh p s l) w (.returned (.tuple #[Ac Ay none none none 0 0 0,.int .i64 0,.int .i64 err])) W:=by
 have h1:Cu p s l=Ay:=by unfold Cu;rw[if_neg (by omega)]
 have h2:E5 p s l=0:=by unfold E5;rw[if_neg (by omega)]
 rw[h1,h2,h]
 exact⟨none,none,none,0,0,0,[],rfl,Ki _ _ _,hb⟩
theorem Rc (p:Ab) (s:Aa) (l:List Aj) (p1 p2 p3 a1 a2 a3 al:Option Addr) (q1 q2 q3 c1 c2 c3 cl:Nat) (rows:List Bq) (w:World) (hE:Env w) (hp:Az w 0 w.heap.size p1 p2 p3 p) (hps:Ai p) (hs:Ax w 0 w.heap.size a1 a2 a3 rows s) (hss:Am s) (hsi:Ba s)
  (hl:Sl w 0 w.heap.size al (l.flatMap Bm)) (hll:l.length≤1048576) (hsm:∀a∈l,Hy a):
  Calls Tryz.prog 127 #[Bc p p1 p2 p3 q1 q2 q3,Ac s a1 a2 a3 c1 c2 c3,.slice al l.length cl] w (Lu (Cu p s l) (E5 p s l) (Bh p s l) w):=by
 have hbx:=B9 q1 q2 q3 c1 c2 c3 hE hp hs 26 31
 unfold Ag at hbx
 unfold Ac Bc Ag
 have htl:=hss.takers
 have HPS:=zh hps
 have HSS:=zh hss
 have HSI:=zh hsi
 clear hE hp hs hps hss hsi
 go_enter Tryz.func127,Tryz.ntmps127
 obtain⟨⟨m0,m1,m2⟩,⟨n0,n1,n2,n3,n4,n5,n6,n7⟩,_,_,_,_⟩:=hbx _ ((zb _ _).alloc (zn _) (.cells #[.slice none 0 0,.slice none 0 0,.slice none 0 0,.int .i64 0,.int .i64 0,.int .i64 0,.int .i64 0,.int .i64 0] 31))
 go_wp2_with fail
 clear m0 m1 m2 n0 n1 n2 n3 n4 n5 n6 n7
 obtain⟨V0,hV0⟩:∃V0,((w.alloc (.cells #[.slice p1 p.posts.length q1,.slice p2 p.queues.length q2,.slice p3 p.binds.length q3] 26)).alloc (.cells #[Value.slice a1 s.ready.length c1,Value.slice a2 s.outs.length c2,Value.slice a3 s.takers.length c3,Value.int IntKind.i64 s.nextSeq,Value.int IntKind.i64 s.nextTag,Value.int IntKind.i64 s.came,Value.int IntKind.i64 s.acked,Value.int IntKind.i64 s.dropped] 31))=V0:=⟨_,rfl⟩
 have hzV:V0.heap.size=w.heap.size+1+1:=by rw[←hV0];simp
 rw[hV0] at hbx
 have HBV:=zh hbx
 obtain⟨W0,hW0⟩:∃W0,V0.alloc (.cells #[.slice none 0 0,.slice none 0 0,.slice none 0 0,.int .i64 0,.int .i64 0,.int .i64 0,.int .i64 0,.int .i64 0] 31)=W0:=⟨_,rfl⟩
 have hbV:Below V0.heap.size V0 W0:=by rw[←hW0];exact(zb _ _).alloc (zn _) _
 have HZ:Hid (W0.heap.size=w.heap.size+1+1+1):=by refine(?_:W0.heap.size=_);rw[←hW0,←hzV];simp
 have HBX:Hid (∀W,Below W0.heap.size W0 W→La w p s p1 p2 p3 a1 a2 a3 q1 q2 q3 c1 c2 c3 rows W∧Bk W (w.heap.size+1+1) 31 zeroCells):=fun W hW=>by
  have k:Bk W0 (w.heap.size+1+1) 31 zeroCells:=by rw[←hW0];exact Bk.new_at _ _ _ hzV.symm
  exact⟨HBV.out W (hbV.trans (hW.mono hbV.size)),k.below hW k.lt⟩
 rw[hV0,hW0]
 clear hbx hbV hzV HBV hV0 hW0
 have HLN:Hid (∀W,Below W0.heap.size W0 W→Awo w.heap.size (w.heap.size+1) (w.heap.size+1+1) p p2 q2 al l w W):=fun W hW=>
  have k:=HBX.out W hW
  ⟨k.1.plan.2.1,k.2,(hl.below k.1.below (zn _)).wider (zn _) k.1.below.size,k.1.env,k.1.below⟩
 have HERR:Hid (∀err,Bh p s l=err→err≠0→∀W,Below w.heap.size w W→Lu (Cu p s l) (E5 p s l) (Bh p s l) w (.returned (.tuple #[Ac Ay none none none 0 0 0,.int .i64 0,.int .i64 err])) W):=fun err h h0 W hb=>Awu h h0 w W hb
 have HSM:=zh hsm
 have hae:Bh p s l=if Ao p s≠0 then Ao p s else if 4 < l.length then 2 else if l.all (Lz p)=false then 5 else if l.all Ew=false then 1 else if 524288 < s.nextSeq then 2 else 0:=rfl
 have HAE:=zh hae
 clear hl hae hsm
 refine(Fb p s p1 p2 p3 a1 a2 a3 q1 q2 q3 c1 c2 c3 rows W0 (HBX.out _ (zb _ _)).1.env (HBX.out _ (zb _ _)).1.planAt HPS.out (HBX.out _ (zb _ _)).1.stateAt HSS.out HSI.out).mono ?_
 rintro e W1 ⟨rfl,hb1⟩
 have HB1:=zh hb1
 clear hb1
 by_cases hc:Ao p s=0
 ·have b1:(Ao p s != 0)=false:=by simp[hc]
  have hR:=Da.1 hc
  by_cases hl4:4 < l.length
  ·have hl4i:(4:Int) < (l.length:Int):=by omega
   have HEQ:=zh (show Bh p s l=2 by rw[HAE.out,if_neg (by simp[hc]),if_pos hl4])
   clear hc
   have hzk:=(HBX.out _ HB1.out).2
   unfold zeroCells at hzk
   obtain⟨k0,k1,k2,k3,k4,k5,k6,k7,f0,f1,f2,f3,f4,f5,f6,f7,hlt⟩:=Af hzk
   clear hzk
   go_wp2_with fail
   refine bodyPost_ret (v:= .tuple #[Ac Ay none none none 0 0 0,.int .i64 0,.int .i64 2]) (by simp[results,Tryz.results127,go_sem,Ac,Ag,Ay,k0,k1,k2,k3,k4,k5,k6,k7,hlt]) rfl
    (HERR.out _ (by exact HEQ.out) (by decide) _ (Ak (HBX.out _ HB1.out).1.below (by omega) _ _ _ _ _ _ _ _))
  ·have hl4i:¬ (4:Int) < (l.length:Int):=by omega
   have HC:=zh hc
   have HRT:=zh hR
   clear hc hR
   go_wp2_with fail
   refine Arx w.heap.size (w.heap.size+1) (w.heap.size+1+1) cl al p p2 q2 l (by omega) w W1 (by omega) (fun W hW=>HLN.out W (HB1.out.trans (hW.mono HB1.out.size))) _ ?_ ?_ _ 0 W1 rfl (Nat.zero_le _) rfl (zb _ _)
   ·rintro t i W2 ht hall hb2
    obtain⟨u,rfl⟩:=Ahe ht
    have HA1:=zh hall
    have HB2:=zh (HB1.out.trans (hb2.mono HB1.out.size))
    clear ht hall hb2
    go_wp2_with fail
    refine Ary w.heap.size (w.heap.size+1) (w.heap.size+1+1) cl al p p2 q2 l (by omega) HSM.out w W2 (by omega) (fun W hW=>HLN.out W (HB2.out.trans (hW.mono HB2.out.size))) _ ?_ ?_ _ 0 W2 rfl (Nat.zero_le _) rfl (zb _ _)
    ·rintro t i W3 ht hall hb3
     obtain⟨u,rfl⟩:=Ahf ht
     have HA2:=zh hall
     have HB3:=zh (HB2.out.trans (hb3.mono HB2.out.size))
     clear ht hall hb3
     obtain⟨n0,n1,n2,n3,n4,n5,n6,n7⟩:=(HBX.out _ HB3.out).1.state
     go_wp2_with fail
     refine(Afp s a1 a2 a3 c1 c2 c3 W3).mono ?_
     rintro e W4 ⟨rfl,hb4⟩
     have HB4:=zh (HB3.out.trans (hb4.mono HB3.out.size))
     clear hb4 n0 n1 n2 n3 n4 n5 n6 n7
     by_cases hsq:s.nextSeq≤524288
     ·have HD:decide (s.nextSeq≤524288)=true:=by simp[hsq]
      have hok0:Bh p s l=0:=by rw[HAE.out,if_neg (by simp[HC.out]),if_neg hl4,if_neg (by rw[HA1.out];simp),if_neg (by rw[HA2.out];simp),if_neg (by omega)]
      have HOK:=zh (And.intro hok0 (Nz hok0))
      clear hok0
      rw[HD]
      obtain⟨n0,n1,n2,n3,n4,n5,n6,n7⟩:=(HBX.out _ HB4.out).1.state
      go_wp2_with fail
      have hcall:=Yl s a1 a2 a3 c1 c2 c3 rows W4 (HBX.out _ HB4.out).1.stateAt HSS.out
      unfold Ac Ag at hcall
      refine hcall.mono ?_
      clear hcall n0 n1 n2 n3 n4 n5 n6 n7
      rintro e W5 ⟨v1,v2,v3,rows5,rfl,ho5,hb5⟩
      unfold Ey
      obtain⟨W6,hW6⟩:∃W6,W5.alloc (.cells #[v1,v2,v3,.int .i64 s.nextSeq,.int .i64 s.nextTag,.int .i64 s.came,.int .i64 s.acked,.int .i64 s.dropped] 31)=W6:=⟨_,rfl⟩
      have kb6:Bk W6 W5.heap.size 31 (Ey s v1 v2 v3):=by rw[←hW6];exact Bk.new _ _ _
      have hal6:Below W5.heap.size W5 W6:=by rw[←hW6];exact(zb _ _).alloc (zn _) _
      have H6:=zh (And.intro (ho5.below hal6) (And.intro kb6 (And.intro hb5.size (And.intro hal6 (hb5.trans (hal6.mono hb5.size))))))
      have HB6:=zh (HB4.out.trans ((hb5.trans (hal6.mono hb5.size)).mono HB4.out.size))
      obtain⟨A1,C1,rfl,_⟩:=Ad ho5.ready
      obtain⟨A2,C2,rfl,_⟩:=Ad ho5.outs
      obtain⟨A3,C3,rfl,_⟩:=Ad ho5.takers
      clear ho5 hb5 kb6 hal6
      obtain⟨m0,m1,m2⟩:=(HBX.out _ HB6.out).1.plan
      go_wp2_with fail
      refine(Afo W5.heap.size p p1 p2 p3 q1 q2 q3 W6).mono ?_
      rintro e W7 ⟨rfl,kh7,hb7⟩
      have HB7:=zh (HB6.out.trans (hb7.mono HB6.out.size))
      have hH:Ed W7 W4.heap.size W5.heap.size (W6.heap.size+1) p p1 p2 p3 q1 q2 q3 (.slice A1 s.ready.length C1) (.slice A2 s.outs.length C2) (.slice A3 s.takers.length C3) (.slice none 0 0) rows5 s []:=by
       have h47:Below W4.heap.size W4 W7:=H6.out.2.2.2.2.trans (hb7.mono H6.out.2.2.2.2.size)
       exact⟨(HBX.out _ HB4.out).1.planAt.below h47 (zn _),(Nx.mk' (HBX.out _ HB4.out).1.env).keep fun p hp=>h47.cell hp,h47.size,kh7,H6.out.2.1.below hb7 H6.out.2.1.lt,(H6.out.1.below hb7).held,World.ownsRow_nil _ _ _ _,H6.out.2.2.1,Nat.le_trans H6.out.2.2.2.2.size (Nat.le_succ _)⟩
      have HST:=zh (Ajf W4.heap.size W5.heap.size (W6.heap.size+1) p p1 p2 p3 q1 q2 q3 (Ct HRT.out.plan) HPS.out _ _ _ _ rows5 s l al cl W7 hH (HLN.out _ HB7.out).line HOK.out.2.1 HOK.out.2.2.2 (Ail HRT.out HOK.out.2.2.1))
      clear kh7 hb7 hH m0 m1 m2
      go_wp2_with fail
      refine HST.out.mono ?_
      rintro e W8 ⟨rfl,wv8,rows8,h8,⟨hb8,_⟩⟩
      have HFS:Hid (Cu p s l=D5 p s l∧E5 p s l=(D5 p s l).nextSeq - s.nextSeq):=zh ⟨by unfold Cu;rw[if_pos HOK.out.1],by unfold E5;rw[if_pos HOK.out.1]⟩
      generalize D5 p s l=s8 at *
      have HB8:=zh (HB7.out.trans ((hb8.mono (Nat.zero_le _):Below 0 W7 W8) |> fun _=>hb8.mono (Nat.le_trans HB4.out.size (zn _))))
      have g0:=h8.box.cell 0
      have g1:=h8.box.cell 1
      have g2:=h8.box.cell 2
      have g3:=h8.box.cell 3
      have g4:=h8.box.cell 4
      have g5:=h8.box.cell 5
      have g6:=h8.box.cell 6
      have g7:=h8.box.cell 7
      simp only[Ey,zI,zJ,zK] at g0 g1 g2 g3 g4 g5 g6 g7
      have HH8:=zh h8
      clear h8 hb8
      have hzk:=(HBX.out _ HB8.out).2
      have HZS:=zh hzk
      unfold zeroCells at hzk
      obtain⟨k0,k1,k2,k3,k4,k5,k6,k7,f0,f1,f2,f3,f4,f5,f6,f7,hlt⟩:=Af hzk
      clear hzk
      have HLO:=zh (Nat.le_trans (HBX.out _ (zb _ _)).1.below.size HB4.out.size)
      go_wp2_with fail
      refine bodyPost_ret (v:= .tuple #[.agg #[.slice A1 s.ready.length C1,.slice A2 s.outs.length C2,.slice A3 s.takers.length C3,.int .i64 s8.nextSeq,.int .i64 s8.nextTag,.int .i64 s8.came,.int .i64 s8.acked,.int .i64 s8.dropped],.int .i64 (s8.nextSeq - s.nextSeq),.int .i64 0]) (by simp[results,Tryz.results127,go_sem,k0,k1,k2,k3,k4,k5,k6,k7,hlt]) rfl ?_
      have hfin:=(HH8.out.held.kept (Al.set8 HZS.out (ts:=[31]) (by decide) (.slice A1 s.ready.length C1) (.slice A2 s.outs.length C2) (.slice A3 s.takers.length C3) (.int .i64 s8.nextSeq) (.int .i64 s8.nextTag) (.int .i64 s8.came) (.int .i64 s8.acked) (.int .i64 s8.dropped))).stateAt
      obtain⟨hst,e1,e2,e3⟩:=hfin
      rw[HFS.out.1,HFS.out.2,HOK.out.1]
      refine⟨A1,A2,A3,C1,C2,C3,rows8,?_,hst.wider HLO.out (zn _),Ak (HBX.out _ HB8.out).1.below (by omega) _ _ _ _ _ _ _ _⟩
      unfold Ac Ag
      rw[e1,e2,e3]
     ·have HD:decide (s.nextSeq≤524288)=false:=by simp;omega
      have HEQ:=zh (show Bh p s l=2 by rw[HAE.out,if_neg (by simp[HC.out]),if_neg hl4,if_neg (by rw[HA1.out];simp),if_neg (by rw[HA2.out];simp),if_pos (by omega)])
      rw[HD]
      have hzk:=(HBX.out _ HB4.out).2
      unfold zeroCells at hzk
      obtain⟨k0,k1,k2,k3,k4,k5,k6,k7,f0,f1,f2,f3,f4,f5,f6,f7,hlt⟩:=Af hzk
      clear hzk
      go_wp2_with fail
      refine bodyPost_ret (v:= .tuple #[Ac Ay none none none 0 0 0,.int .i64 0,.int .i64 2]) (by simp[results,Tryz.results127,go_sem,Ac,Ag,Ay,k0,k1,k2,k3,k4,k5,k6,k7,hlt]) rfl
       (HERR.out _ (by exact HEQ.out) (by decide) _ (Ak (HBX.out _ HB4.out).1.below (by omega) _ _ _ _ _ _ _ _))
    ·rintro t W3 ht hall hz hb3
     obtain⟨u,rfl⟩:=Ahi ht
     have HEQ:=zh (show Bh p s l=1 by rw[HAE.out,if_neg (by simp[HC.out]),if_neg hl4,if_neg (by rw[HA1.out];simp),if_pos hall])
     have HB3:=zh hb3
     clear ht hall hb3
     unfold zeroCells at hz
     obtain⟨k0,k1,k2,k3,k4,k5,k6,k7,f0,f1,f2,f3,f4,f5,f6,f7,hlt⟩:=Af hz
     clear hz
     go_wp2_with fail
     refine bodyPost_ret (v:= .tuple #[Ac Ay none none none 0 0 0,.int .i64 0,.int .i64 1]) (by simp[results,Tryz.results127,go_sem,Ac,Ag,Ay,k0,k1,k2,k3,k4,k5,k6,k7,hlt]) rfl
      (HERR.out _ HEQ.out (by decide) _ HB3.out)
   ·rintro t W3 ht hall hz hb3
    obtain⟨u,rfl⟩:=Ahi ht
    have HEQ:=zh (show Bh p s l=5 by rw[HAE.out,if_neg (by simp[HC.out]),if_neg hl4,if_pos hall])
    have HB3:=zh hb3
    clear ht hall hb3
    unfold zeroCells at hz
    obtain⟨k0,k1,k2,k3,k4,k5,k6,k7,f0,f1,f2,f3,f4,f5,f6,f7,hlt⟩:=Af hz
    clear hz
    go_wp2_with fail
    refine bodyPost_ret (v:= .tuple #[Ac Ay none none none 0 0 0,.int .i64 0,.int .i64 5]) (by simp[results,Tryz.results127,go_sem,Ac,Ag,Ay,k0,k1,k2,k3,k4,k5,k6,k7,hlt]) rfl
     (HERR.out _ HEQ.out (by decide) _ HB3.out)
 ·have b1:(Ao p s != 0)=true:=by simp[hc]
  have HEQ:=zh (show Bh p s l=Ao p s by rw[HAE.out,if_pos hc])
  have hzk:=(HBX.out _ HB1.out).2
  unfold zeroCells at hzk
  obtain⟨k0,k1,k2,k3,k4,k5,k6,k7,f0,f1,f2,f3,f4,f5,f6,f7,hlt⟩:=Af hzk
  clear hzk
  go_wp2_with fail
  refine bodyPost_ret (v:= .tuple #[Ac Ay none none none 0 0 0,.int .i64 0,.int .i64 (Ao p s)]) (by simp[results,Tryz.results127,go_sem,Ac,Ag,Ay,k0,k1,k2,k3,k4,k5,k6,k7,hlt]) rfl
   (HERR.out _ (by exact HEQ.out) (by exact hc) _ (Ak (HBX.out _ HB1.out).1.below (by omega) _ _ _ _ _ _ _ _))
open Go Go.RowKit
theorem Vy {W:World} {B gb ob Cq i:Nat} {ys:List Int} {y:Int} (h:Ch W B (.slice (some ⟨gb,ob,none⟩) ys.length Cq) ys) (hy:ys[i]? =some y):W.cell? ⟨gb,ob+i,none⟩=some (.int .i64 y):=by
 obtain⟨hi,rfl⟩:=List.getElem?_eq_some_iff.1 hy
 obtain⟨b,o,e,_,hc⟩:=M0 (Mx h).2 hi
 cases e
 exact hc
open Go Go.RowKit
structure Ee (w:World) (lo g:Nat) (v1 v2 v3:Value) (rows:List Bq) (s:Aa):Prop where
 size:lo≤w.heap.size
 box:Bk w g 31 (Ey s v1 v2 v3)
 held:Cm w lo v1 v2 v3 rows s
 gl:lo≤g
theorem Ee.kept {ts:List TypeId} {w W:World} {lo g:Nat} {v1 v2 v3:Value} {rows:List Bq} {s:Aa} (H:Ee w lo g v1 v2 v3 rows s) (hk:Al ts w W) (hb:Below lo w W)
  (h1:50∉ts) (h2:52∉ts) (h3:77∉ts) (h4:79∉ts) (h6:31∉ts):Ee W lo g v1 v2 v3 rows s:=
 ⟨Nat.le_trans H.size hb.size,hk _ _ _ h6 H.box,H.held.kept hk h1 h2 h3 h4,H.gl⟩
theorem Ee.since {w W:World} {lo g:Nat} {v1 v2 v3:Value} {rows:List Bq} {s:Aa} (H:Ee w lo g v1 v2 v3 rows s) (hb:Below w.heap.size w W):Ee W lo g v1 v2 v3 rows s:=
 H.kept (Al.of_below (ts:=[]) hb) (hb.mono H.size) (by simp) (by simp) (by simp) (by simp) (by simp)
theorem Ee.num {w:World} {lo g:Nat} {v1 v2 v3:Value} {rows:List Bq} {s:Aa} (H:Ee w lo g v1 v2 v3 rows s) (i:Nat) (u:Value) (a b c d e:Int)
  (hu:(Ey s v1 v2 v3).setIfInBounds i u=Ey ⟨s.ready,s.outs,s.takers,a,b,c,d,e⟩ v1 v2 v3):Ee (w.setCell ⟨g,i,none⟩ u) lo g v1 v2 v3 rows ⟨s.ready,s.outs,s.takers,a,b,c,d,e⟩∧Al [31] w (w.setCell ⟨g,i,none⟩ u)∧Below lo w (w.setCell ⟨g,i,none⟩ u):=by
 have hk:=Al.set H.box (ts:=[31]) (by decide) i u
 have hb:Below lo w (w.setCell ⟨g,i,none⟩ u):=(zb _ _).setCell (p:=⟨g,i,none⟩) H.gl u
 refine⟨⟨Nat.le_trans H.size hb.size,?_,(H.held.kept hk).nums _ _ _ _ _,H.gl⟩,hk,hb⟩
 rw[←hu]
 exact H.box.set_ i u
theorem Ee.rowSet {w:World} {lo g gr n C k:Nat} {v2 v3:Value} {rows:List Bq} {s:Aa} (H:Ee w lo g (.slice (some ⟨gr,0,none⟩) n C) v2 v3 rows s) (hn:n=s.ready.length) (ra:Option Addr) (rc:Nat) (ys:List Ap)
  (hsl:SlT w lo 52 ra (ys.flatMap A9)) (hc:ys.length≤rc):
  Ee (w.setCell ⟨gr,k,none⟩ (.slice ra ys.length rc)) lo g (.slice (some ⟨gr,0,none⟩) n C) v2 v3 (rows.set k ⟨ra,rc,ys⟩) { s with ready:=s.ready.set k ys } ∧Al [50] w (w.setCell ⟨gr,k,none⟩ (.slice ra ys.length rc))∧Below lo w (w.setCell ⟨gr,k,none⟩ (.slice ra ys.length rc)):=by
 obtain⟨h1,hk⟩:=H.held.rowSet (k:=k) hn ra rc ys hsl hc
 have hg:lo≤gr:=(H.held.ready.lt gr rfl).1
 have hb:Below lo w (w.setCell ⟨gr,k,none⟩ (.slice ra ys.length rc)):=(zb _ _).setCell (p:=⟨gr,k,none⟩) hg _
 exact⟨⟨Nat.le_trans H.size hb.size,hk _ _ _ (by decide) H.box,h1,H.gl⟩,hk,hb⟩
end Go.Proofs.YtaanpcjkflhomaaGreatDoor
