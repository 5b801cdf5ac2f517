/-
  The reference's LeaveOf: its loop.
-/
import Derived.Test.YtaanpcjkflhomaaGreatDoorBunA
import Derived.Test.YtaanpcjkflhomaaGreatDoorBunCB
import Derived.Test.YtaanpcjkflhomaaGreatDoorBunCC
set_option maxHeartbeats 20000000
set_option maxRecDepth 100000
set_option linter.unusedSimpArgs false
set_option linter.unusedVariables false
namespace Go.Proofs.YtaanpcjkflhomaaGreatDoor
open Go Go.RowKit
def lo1_T (X0 X1 X2 G i:Nat) (t0:Int) (t:Array Value):Array Value:=fj [[gd t 0,gd t 1,.int .i64 t0,.pointer (some ⟨X0,0,none⟩),.pointer (some ⟨X1,0,none⟩),gd t 5,.pointer (some ⟨X2,0,none⟩),.int .i64 0,gd t 8,.pointer (some ⟨G,0,none⟩),.int .i64 (i:Int)],fr t 11 66]
theorem Z6 {X0 X1 X2 G i:Nat} {t0:Int} {t:Array Value} (h:t=(lo1_T X0 X1 X2 G i t0 t)):∃u:Nat→Value,t= #[u 0,u 1,.int .i64 t0,.pointer (some ⟨X0,0,none⟩),.pointer (some ⟨X1,0,none⟩),u 5,.pointer (some ⟨X2,0,none⟩),.int .i64 0,u 8,.pointer (some ⟨G,0,none⟩),.int .i64 (i:Int),u 11,u 12,u 13,u 14,u 15,u 16,u 17,u 18,u 19,u 20,u 21,u 22,u 23,u 24,u 25,u 26,u 27,u 28,u 29,u 30,u 31,u 32,u 33,u 34,u 35,u 36,u 37,u 38,u 39,u 40,u 41,u 42,u 43,u 44,u 45,u 46,u 47,u 48,u 49,u 50,u 51,u 52,u 53,u 54,u 55,u 56,u 57,u 58,u 59,u 60,u 61,u 62,u 63,u 64,u 65,u 66,u 67,u 68,u 69,u 70,u 71,u 72,u 73,u 74,u 75,u 76]:=⟨fun i=>t.getD i undef,h⟩
def lo2_T (X0 X1 X2 G i nb:Nat) (t0 er:Int) (t:Array Value):Array Value:=fj [[gd t 0,gd t 1,.int .i64 t0,.pointer (some ⟨X0,0,none⟩),.pointer (some ⟨X1,0,none⟩),gd t 5,.pointer (some ⟨X2,0,none⟩),.int .i64 0,gd t 8,.pointer (some ⟨G,0,none⟩),.int .i64 (i:Int),.pointer (some ⟨nb,0,none⟩),.int .i64 er],fr t 13 64]
theorem Ar0 {X0 X1 X2 G i nb:Nat} {t0 er:Int} {t:Array Value} (h:t=(lo2_T X0 X1 X2 G i nb t0 er t)):∃u:Nat→Value,t= #[u 0,u 1,.int .i64 t0,.pointer (some ⟨X0,0,none⟩),.pointer (some ⟨X1,0,none⟩),u 5,.pointer (some ⟨X2,0,none⟩),.int .i64 0,u 8,.pointer (some ⟨G,0,none⟩),.int .i64 (i:Int),.pointer (some ⟨nb,0,none⟩),.int .i64 er,u 13,u 14,u 15,u 16,u 17,u 18,u 19,u 20,u 21,u 22,u 23,u 24,u 25,u 26,u 27,u 28,u 29,u 30,u 31,u 32,u 33,u 34,u 35,u 36,u 37,u 38,u 39,u 40,u 41,u 42,u 43,u 44,u 45,u 46,u 47,u 48,u 49,u 50,u 51,u 52,u 53,u 54,u 55,u 56,u 57,u 58,u 59,u 60,u 61,u 62,u 63,u 64,u 65,u 66,u 67,u 68,u 69,u 70,u 71,u 72,u 73,u 74,u 75,u 76]:=⟨fun i=>t.getD i undef,h⟩
theorem Ar2 {X2:Nat} {er:Int} {t:Array Value} (h:t= #[gd t 0,gd t 1,gd t 2,gd t 3,gd t 4,gd t 5,.pointer (some ⟨X2,0,none⟩),.int .i64 er,gd t 8,gd t 9,gd t 10,gd t 11,gd t 12,gd t 13,gd t 14,gd t 15,gd t 16,gd t 17,gd t 18,gd t 19,gd t 20,gd t 21,gd t 22,gd t 23,gd t 24,gd t 25,gd t 26,gd t 27,gd t 28,gd t 29,gd t 30,gd t 31,gd t 32,gd t 33,gd t 34,gd t 35,gd t 36,gd t 37,gd t 38,gd t 39,gd t 40,gd t 41,gd t 42,gd t 43,gd t 44,gd t 45,gd t 46,gd t 47,gd t 48,gd t 49,gd t 50,gd t 51,gd t 52,gd t 53,gd t 54,gd t 55,gd t 56,gd t 57,gd t 58,gd t 59,gd t 60,gd t 61,gd t 62,gd t 63,gd t 64,gd t 65,gd t 66,gd t 67,gd t 68,gd t 69,gd t 70,gd t 71,gd t 72,gd t 73,gd t 74,gd t 75,gd t 76]):∃u:Nat→Value,t= #[u 0,u 1,u 2,u 3,u 4,u 5,.pointer (some ⟨X2,0,none⟩),.int .i64 er,u 8,u 9,u 10,u 11,u 12,u 13,u 14,u 15,u 16,u 17,u 18,u 19,u 20,u 21,u 22,u 23,u 24,u 25,u 26,u 27,u 28,u 29,u 30,u 31,u 32,u 33,u 34,u 35,u 36,u 37,u 38,u 39,u 40,u 41,u 42,u 43,u 44,u 45,u 46,u 47,u 48,u 49,u 50,u 51,u 52,u 53,u 54,u 55,u 56,u 57,u 58,u 59,u 60,u 61,u 62,u 63,u 64,u 65,u 66,u 67,u 68,u 69,u 70,u 71,u 72,u 73,u 74,u 75,u 76]:=⟨fun i=>t.getD i undef,h⟩
noncomputable def Ar1:Code:=Ik Tryz.f22 0
def LoR (W:World) (X:Aa) (F:Nat→Array Value→Prop) (a':Act) (W':World):Prop:=
 ∃(t:Array Value) (nb:Nat) (b1 b2 b3:Option Addr) (d1 d2 d3:Nat) (rows':List Bq),a'=⟨t,[]⟩∧F nb t∧Bk W' nb 31 (zV X b1 b2 b3 d1 d2 d3)∧Cm W' W.heap.size (.slice b1 X.ready.length d1) (.slice b2 X.outs.length d2) (.slice b3 X.ae.length d3) rows' X∧Below W.heap.size W W'∧W.heap.size≤nb
theorem Axb (X0 X1 X2 G n oc ob oo i:Nat) (p:Ab) (p1 p2 p3:Option Addr) (q1 q2 q3:Nat) (t0 tag er:Int) (c X:Aa) (a1 a2 a3:Option Addr) (c1 c2 c3:Nat) (W:World) (hi:i < n) (hS:∀W',Below W.heap.size W W'→((W'.cell? ⟨X0,0,none⟩=some (.slice p1 p.aj.length q1)∧W'.cell? ⟨X0,1,none⟩=some (.slice p2 p.ag.length q2)∧W'.cell? ⟨X0,2,none⟩=some (.slice p3 p.binds.length q3))∧W'.cell? ⟨X1,1,none⟩=some (.slice (some ⟨ob,oo,none⟩) n oc)∧W'.cell? ⟨ob,oo+i * 8,none⟩=some (.int .i64 tag)∧(W'.cell? ⟨G,0,none⟩=some (.slice a1 c.ready.length c1)∧W'.cell? ⟨G,1,none⟩=some (.slice a2 c.outs.length c2)∧W'.cell? ⟨G,2,none⟩=some (.slice a3 c.ae.length c3)∧W'.cell? ⟨G,3,none⟩=some (.int .i64 c.ah)∧W'.cell? ⟨G,4,none⟩=some (.int .i64 c.af)∧W'.cell? ⟨G,5,none⟩=some (.int .i64 c.aw)∧W'.cell? ⟨G,6,none⟩=some (.int .i64 c.ar)∧W'.cell? ⟨G,7,none⟩=some (.int .i64 c.dropped))))
  (hcall:∀W',Below W.heap.size W W'→Calls Tryz.prog 18 #[.agg (zP p p1 p2 p3 q1 q2 q3),.agg (zV c a1 a2 a3 c1 c2 c3),.int .i64 tag,.bool true] W' (Js X er W')) (Q:Exit→Act→World→Prop)
  (hq:∀(t:Array Value) (nb:Nat) (b1 b2 b3:Option Addr) (d1 d2 d3:Nat) (rows':List Bq) (W':World),t=(lo2_T X0 X1 X2 G i nb t0 er t)→Bk W' nb 31 (zV X b1 b2 b3 d1 d2 d3)→Cm W' W.heap.size (.slice b1 X.ready.length d1) (.slice b2 X.outs.length d2) (.slice b3 X.ae.length d3) rows' X→Below W.heap.size W W'→W.heap.size≤nb→Q .normal ⟨t,[]⟩ W')
  (t:Array Value) (ht:t=(lo1_T X0 X1 X2 G i t0 t)):((Gz 11 Ar1).getD .skip).wp Tryz.prog Q ⟨t,[]⟩ W:=by
 obtain⟨u,rfl⟩:=Z6 ht;clear ht;refine Ox (LoR W X (fun nb t=>t=(lo2_T X0 X1 X2 G i nb t0 er t))) ?_ ?_
 ·have HK:Hid (∀W',Below W.heap.size W W'→((W'.cell? ⟨X0,0,none⟩=some (.slice p1 p.aj.length q1)∧W'.cell? ⟨X0,1,none⟩=some (.slice p2 p.ag.length q2)∧W'.cell? ⟨X0,2,none⟩=some (.slice p3 p.binds.length q3))∧W'.cell? ⟨X1,1,none⟩=some (.slice (some ⟨ob,oo,none⟩) n oc)∧W'.cell? ⟨ob,oo+i * 8,none⟩=some (.int .i64 tag)∧(W'.cell? ⟨G,0,none⟩=some (.slice a1 c.ready.length c1)∧W'.cell? ⟨G,1,none⟩=some (.slice a2 c.outs.length c2)∧W'.cell? ⟨G,2,none⟩=some (.slice a3 c.ae.length c3)∧W'.cell? ⟨G,3,none⟩=some (.int .i64 c.ah)∧W'.cell? ⟨G,4,none⟩=some (.int .i64 c.af)∧W'.cell? ⟨G,5,none⟩=some (.int .i64 c.aw)∧W'.cell? ⟨G,6,none⟩=some (.int .i64 c.ar)∧W'.cell? ⟨G,7,none⟩=some (.int .i64 c.dropped)))):=zh hS
  have HCALL:=zh hcall;have hj:(i:Int) < (n:Int):=by omega
  clear hS hcall hq
  conv=>arg 2;whnf
  refine wp_region_held_drew (S:=(fun W=>((W.cell? ⟨X0,0,none⟩=some (.slice p1 p.aj.length q1)∧W.cell? ⟨X0,1,none⟩=some (.slice p2 p.ag.length q2)∧W.cell? ⟨X0,2,none⟩=some (.slice p3 p.binds.length q3))∧W.cell? ⟨X1,1,none⟩=some (.slice (some ⟨ob,oo,none⟩) n oc)∧W.cell? ⟨ob,oo+i * 8,none⟩=some (.int .i64 tag)∧(W.cell? ⟨G,0,none⟩=some (.slice a1 c.ready.length c1)∧W.cell? ⟨G,1,none⟩=some (.slice a2 c.outs.length c2)∧W.cell? ⟨G,2,none⟩=some (.slice a3 c.ae.length c3)∧W.cell? ⟨G,3,none⟩=some (.int .i64 c.ah)∧W.cell? ⟨G,4,none⟩=some (.int .i64 c.af)∧W.cell? ⟨G,5,none⟩=some (.int .i64 c.aw)∧W.cell? ⟨G,6,none⟩=some (.int .i64 c.ar)∧W.cell? ⟨G,7,none⟩=some (.int .i64 c.dropped))))) (by kernel_rfl) (HK.out _ (zb _ _).drew) (fun hHeld=> ?_);have hN:Below W.heap.size W W.drew:=(zb _ _).drew;generalize W.drew=Wd at *
  (refine zH 0 ?_)
  (refine zH 1 ?_)
  (refine zH 2 ?_)
  (refine zH 3 ?_)
  (refine zH 4 ?_)
  (refine zH 5 ?_)
  (refine zH 6 ?_)
  (refine zH 7 ?_)
  refine zR2 8 12 (fun K hK=> ?_) (fun K hK=> ?_)
  ·go_simp
   go_at_call 18
   refine(HCALL.out _ hN).mono ?_;rintro e w4 ⟨b1,b2,b3,d1,d2,d3,rows4,rfl,hs4,hb4⟩;have hs4:=hs4.wider hN.size;have hN:=hN.trans (hb4.mono hN.size);clear hb4;unfold Ac Ag
   refine hK.out _ _ (by exact HK.out _ hN) (fun hHeld=> ?_);clear hK K
   try simp only[Act.put,zA,zB,zC,zD,zE,zF]
   (refine zH 9 ?_)
   (refine zH 10 ?_)
   (refine zH 11 ?_)
   refine zR 12 fun K hK=> ?_
   go_simp
   generalize hW5:World.alloc _ (Obj.cells _ _)=W5;have hZ:Bk W5 w4.heap.size 31 zeroCells:=by rw[←hW5];exact Bk.new _ _ _
   have hA5:Below w4.heap.size w4 W5:=by rw[←hW5];exact(zb _ _).alloc (zn _) _
   have hnb:W.heap.size≤w4.heap.size:=hN.size;have hs4:=hs4.kept (Al.ct (ts:=[]) hA5) (by simp) (by simp) (by simp) (by simp);have hN:=hN.trans (hA5.mono hN.size);clear hW5 hA5
   refine hK.out _ _ (by exact HK.out _ hN) (fun hHeld=> ?_);clear hK K
   try simp only[Act.put,zA,zB,zC,zD,zE,zF]
   refine zR 13 fun K hK=> ?_;have hzk:=hZ;unfold zeroCells at hzk;obtain⟨k0,k1,k2,k3,k4,k5,k6,k7,f0,f1,f2,f3,f4,f5,f6,f7,hlt⟩:=Af hzk;clear hzk
   go_simp
   refine hK.out _ _ (by exact HK.out _ (Ak hN hnb _ _ _ _ _ _ _ _)) (fun hHeld=> ?_);clear hK K
   try simp only[Act.put,zA,zB,zC,zD,zE,zF]
   (refine zH 14 ?_)
   refine wpAnyH_done (by kernel_rfl) ?_ _;have hk8:=Al.dg hZ (ts:=[31]) (by decide) (.slice b1 X.ready.length d1) (.slice b2 X.outs.length d2) (.slice b3 X.ae.length d3) (.int .i64 X.ah) (.int .i64 X.af) (.int .i64 X.aw) (.int .i64 X.ar) (.int .i64 X.dropped);exact⟨_,w4.heap.size,b1,b2,b3,d1,d2,d3,rows4,rfl,rfl,(((((((hZ.ck 0 _).ck 1 _).ck 2 _).ck 3 _).ck 4 _).ck 5 _).ck 6 _).ck 7 _,hs4.kept hk8,Ak hN hnb _ _ _ _ _ _ _ _,hnb⟩
  ·go_simp
   generalize hW5:World.alloc _ (Obj.cells _ _)=W5;have hZ:Bk W5 Wd.heap.size 31 zeroCells:=by rw[←hW5];exact Bk.new _ _ _
   have hA5:Below Wd.heap.size Wd W5:=by rw[←hW5];exact(zb _ _).alloc (zn _) _
   have hnb:W.heap.size≤Wd.heap.size:=hN.size;have hN:=hN.trans (hA5.mono hN.size);clear hW5 hA5
   refine hK.out _ _ (by exact HK.out _ hN) (fun hHeld=> ?_);clear hK K
   try simp only[Act.put,zA,zB,zC,zD,zE,zF]
   refine zR 8 fun K hK=> ?_
   go_simp
   go_at_call 18
   refine(HCALL.out _ hN).mono ?_;rintro e w4 ⟨b1,b2,b3,d1,d2,d3,rows4,rfl,hs4,hb4⟩;have hs4:=hs4.wider hN.size;have hN:=hN.trans (hb4.mono hN.size);have hZ:=hZ.below hb4 hZ.lt;clear hb4;unfold Ac Ag
   refine hK.out _ _ (by exact HK.out _ hN) (fun hHeld=> ?_);clear hK K
   try simp only[Act.put,zA,zB,zC,zD,zE,zF]
   (refine zH 9 ?_)
   (refine zH 10 ?_)
   (refine zH 11 ?_)
   refine zR 13 fun K hK=> ?_;have hzk:=hZ;unfold zeroCells at hzk;obtain⟨k0,k1,k2,k3,k4,k5,k6,k7,f0,f1,f2,f3,f4,f5,f6,f7,hlt⟩:=Af hzk;clear hzk
   go_simp
   refine hK.out _ _ (by exact HK.out _ (Ak hN hnb _ _ _ _ _ _ _ _)) (fun hHeld=> ?_);clear hK K
   try simp only[Act.put,zA,zB,zC,zD,zE,zF]
   (refine zH 14 ?_)
   refine wpAnyH_done (by kernel_rfl) ?_ _;have hk8:=Al.dg hZ (ts:=[31]) (by decide) (.slice b1 X.ready.length d1) (.slice b2 X.outs.length d2) (.slice b3 X.ae.length d3) (.int .i64 X.ah) (.int .i64 X.af) (.int .i64 X.aw) (.int .i64 X.ar) (.int .i64 X.dropped);exact⟨_,Wd.heap.size,b1,b2,b3,d1,d2,d3,rows4,rfl,rfl,(((((((hZ.ck 0 _).ck 1 _).ck 2 _).ck 3 _).ck 4 _).ck 5 _).ck 6 _).ck 7 _,hs4.kept hk8,Ak hN hnb _ _ _ _ _ _ _ _,hnb⟩
 ·rintro a' W' ⟨t,nb,b1,b2,b3,d1,d2,d3,rows',rfl,ht,h1,h2,h3,h4⟩
  exact hq t nb b1 b2 b3 d1 d2 d3 rows' W' ht h1 h2 h3 h4
open Go Go.RowKit
structure Ax8 (X0 X1 X2 n oc:Nat) (oa:Option Addr) (p:Ab) (p1 p2 p3:Option Addr) (q1 q2 q3:Nat) (s:Aa) (w W:World):Prop where
 bz:W.cell? ⟨X0,0,none⟩=some (.slice p1 p.aj.length q1)∧W.cell? ⟨X0,1,none⟩=some (.slice p2 p.ag.length q2)∧W.cell? ⟨X0,2,none⟩=some (.slice p3 p.binds.length q3)
 outs:W.cell? ⟨X1,1,none⟩=some (.slice oa n oc)
 row:Sl W 0 W.heap.size oa (s.outs.flatMap Eg)
 env:Env W
 bu:Az W 0 W.heap.size p1 p2 p3 p
 zero:Bk W X2 31 zeroCells
 below:Below w.heap.size w W
structure LoS (lo G:Nat) (p:Ab) (s:Aa) (t0:Int) (Wb:World) (i:Nat) (c:Aa) (v1 v2 v3:Value) (rows:List Bq) (W:World):Prop where
 at_:Fl p s t0 i c
 st:Ee W lo G v1 v2 v3 rows c
 below:Below lo Wb W
def Amf (lo X0 X1 X2 G n oc:Nat) (oa:Option Addr) (p:Ab) (p1 p2 p3:Option Addr) (q1 q2 q3:Nat) (s:Aa) (t0:Int) (w Wb:World) (a:Act) (wr:World):Prop:=
 ∃(t:Array Value) (i:Nat) (c:Aa) (v1 v2 v3:Value) (rows:List Bq),t= #[gd t 0,gd t 1,.int .i64 t0,.pointer (some ⟨X0,0,none⟩),.pointer (some ⟨X1,0,none⟩),gd t 5,.pointer (some ⟨X2,0,none⟩),.int .i64 0,gd t 8,.pointer (some ⟨G,0,none⟩),.int .i64 (i:Int),gd t 11,gd t 12,gd t 13,gd t 14,gd t 15,gd t 16,gd t 17,gd t 18,gd t 19,gd t 20,gd t 21,gd t 22,gd t 23,gd t 24,gd t 25,gd t 26,gd t 27,gd t 28,gd t 29,gd t 30,gd t 31,gd t 32,gd t 33,gd t 34,gd t 35,gd t 36,gd t 37,gd t 38,gd t 39,gd t 40,gd t 41,gd t 42,gd t 43,gd t 44,gd t 45,gd t 46,gd t 47,gd t 48,gd t 49,gd t 50,gd t 51,gd t 52,gd t 53,gd t 54,gd t 55,gd t 56,gd t 57,gd t 58,gd t 59,gd t 60,gd t 61,gd t 62,gd t 63,gd t 64,gd t 65,gd t 66,gd t 67,gd t 68,gd t 69,gd t 70,gd t 71,gd t 72,gd t 73,gd t 74,gd t 75,gd t 76]∧i≤n∧LoS lo G p s t0 Wb i c v1 v2 v3 rows wr∧a=⟨t,[]⟩
theorem Au1 (lo X0 X1 X2 G n oc:Nat) (oa:Option Addr) (p:Ab) (p1 p2 p3:Option Addr) (q1 q2 q3:Nat) (s:Aa) (t0:Int) (w Wb:World) (hn:s.outs.length=n) (hn2:n≤1048576) (hps:Ai p) (hX2:X2 < lo) (hwX:w.heap.size≤X2) (hIn:∀W,Below lo Wb W→Ax8 X0 X1 X2 n oc oa p p1 p2 p3 q1 q2 q3 s w W) (Q0:Exit→Act→World→Prop)
  (hend:∀(t:Array Value) (i:Nat) (c:Aa) (v1 v2 v3:Value) (rows:List Bq) (W:World),t= #[gd t 0,gd t 1,.int .i64 t0,.pointer (some ⟨X0,0,none⟩),.pointer (some ⟨X1,0,none⟩),gd t 5,.pointer (some ⟨X2,0,none⟩),.int .i64 0,gd t 8,.pointer (some ⟨G,0,none⟩),.int .i64 (i:Int),gd t 11,gd t 12,gd t 13,gd t 14,gd t 15,gd t 16,gd t 17,gd t 18,gd t 19,gd t 20,gd t 21,gd t 22,gd t 23,gd t 24,gd t 25,gd t 26,gd t 27,gd t 28,gd t 29,gd t 30,gd t 31,gd t 32,gd t 33,gd t 34,gd t 35,gd t 36,gd t 37,gd t 38,gd t 39,gd t 40,gd t 41,gd t 42,gd t 43,gd t 44,gd t 45,gd t 46,gd t 47,gd t 48,gd t 49,gd t 50,gd t 51,gd t 52,gd t 53,gd t 54,gd t 55,gd t 56,gd t 57,gd t 58,gd t 59,gd t 60,gd t 61,gd t 62,gd t 63,gd t 64,gd t 65,gd t 66,gd t 67,gd t 68,gd t 69,gd t 70,gd t 71,gd t 72,gd t 73,gd t 74,gd t 75,gd t 76]→LoS lo G p s t0 Wb n c v1 v2 v3 rows W→Q0 (.exit 0) ⟨t,[]⟩ W)
  (hret:∀(t:Array Value) (er:Int) (W:World),t= #[gd t 0,gd t 1,gd t 2,gd t 3,gd t 4,gd t 5,.pointer (some ⟨X2,0,none⟩),.int .i64 er,gd t 8,gd t 9,gd t 10,gd t 11,gd t 12,gd t 13,gd t 14,gd t 15,gd t 16,gd t 17,gd t 18,gd t 19,gd t 20,gd t 21,gd t 22,gd t 23,gd t 24,gd t 25,gd t 26,gd t 27,gd t 28,gd t 29,gd t 30,gd t 31,gd t 32,gd t 33,gd t 34,gd t 35,gd t 36,gd t 37,gd t 38,gd t 39,gd t 40,gd t 41,gd t 42,gd t 43,gd t 44,gd t 45,gd t 46,gd t 47,gd t 48,gd t 49,gd t 50,gd t 51,gd t 52,gd t 53,gd t 54,gd t 55,gd t 56,gd t 57,gd t 58,gd t 59,gd t 60,gd t 61,gd t 62,gd t 63,gd t 64,gd t 65,gd t 66,gd t 67,gd t 68,gd t 69,gd t 70,gd t 71,gd t 72,gd t 73,gd t 74,gd t 75,gd t 76]→er≠0→(Hr p t0 s.outs s).2=er→Bk W X2 31 zeroCells→Below w.heap.size w W→Q0 .ret ⟨t,[]⟩ W)
  (t:Array Value) (i:Nat) (c:Aa) (v1 v2 v3:Value) (rows:List Bq) (W:World) (ht:t= #[gd t 0,gd t 1,.int .i64 t0,.pointer (some ⟨X0,0,none⟩),.pointer (some ⟨X1,0,none⟩),gd t 5,.pointer (some ⟨X2,0,none⟩),.int .i64 0,gd t 8,.pointer (some ⟨G,0,none⟩),.int .i64 (i:Int),gd t 11,gd t 12,gd t 13,gd t 14,gd t 15,gd t 16,gd t 17,gd t 18,gd t 19,gd t 20,gd t 21,gd t 22,gd t 23,gd t 24,gd t 25,gd t 26,gd t 27,gd t 28,gd t 29,gd t 30,gd t 31,gd t 32,gd t 33,gd t 34,gd t 35,gd t 36,gd t 37,gd t 38,gd t 39,gd t 40,gd t 41,gd t 42,gd t 43,gd t 44,gd t 45,gd t 46,gd t 47,gd t 48,gd t 49,gd t 50,gd t 51,gd t 52,gd t 53,gd t 54,gd t 55,gd t 56,gd t 57,gd t 58,gd t 59,gd t 60,gd t 61,gd t 62,gd t 63,gd t 64,gd t 65,gd t 66,gd t 67,gd t 68,gd t 69,gd t 70,gd t 71,gd t 72,gd t 73,gd t 74,gd t 75,gd t 76]) (hi:i≤n) (hW:LoS lo G p s t0 Wb i c v1 v2 v3 rows W):
  (Code.loop Ar1).wp Tryz.prog Q0 ⟨t,[]⟩ W:=by
 refine wp_loop (Amf lo X0 X1 X2 G n oc oa p p1 p2 p3 q1 q2 q3 s t0 w Wb) (fun a _=>n - (intOf (a.tmps.getD 10 undef)).toNat) ⟨t,i,c,v1,v2,v3,rows,ht,hi,hW,rfl⟩ ?_;clear ht hi hW t i c v1 v2 v3 rows W;rintro a' wr ⟨t,i,c,v1,v2,v3,rows,ht,hi,hR,rfl⟩;obtain⟨u,rfl⟩:=Z6 ht;clear ht;have HEND:=zh hend;have HRET:=zh hret;have HPS:=zh hps;have HN:=zh hn;have HIN:=zh hIn;have HX2:=zh (zi hX2 hwX);clear hend hret hps hIn hX2 hwX
 conv=>arg 2;whnf
 have n1:=(HIN.out _ hR.below).outs;by_cases hlt:i < n
 ·have hlt2:i < s.outs.length:=by omega
  have hj2:(i:Int) < (n:Int):=by omega
  obtain⟨ob,oo,rfl,_,_,hc⟩:=Bd Dy (by decide) (HIN.out _ hR.below).row hlt2;obtain⟨e0,e1,e2,e3,e4,e5,e6,e7⟩:=G7 (wr:=wr) (b:=ob) (o:=oo) (k:=i) (x:=s.outs[i]) hc;have HRR:=zh hR;have HSK:=zh (fun h=>hR.at_.skip hlt2 h);have HBK:=zh (fun h1 h2=>hR.at_.back hlt2 h1 h2);have HST:=zh (fun h1 h2=>hR.at_.stop hlt2 h1 h2);have HR:Hid (∀t:Array Value,∀(i':Nat) (c:Aa) (v1 v2 v3:Value) (rows:List Bq),i'=i+1→t= #[gd t 0,gd t 1,.int .i64 t0,.pointer (some ⟨X0,0,none⟩),.pointer (some ⟨X1,0,none⟩),gd t 5,.pointer (some ⟨X2,0,none⟩),.int .i64 0,gd t 8,.pointer (some ⟨G,0,none⟩),.int .i64 (i':Int),gd t 11,gd t 12,gd t 13,gd t 14,gd t 15,gd t 16,gd t 17,gd t 18,gd t 19,gd t 20,gd t 21,gd t 22,gd t 23,gd t 24,gd t 25,gd t 26,gd t 27,gd t 28,gd t 29,gd t 30,gd t 31,gd t 32,gd t 33,gd t 34,gd t 35,gd t 36,gd t 37,gd t 38,gd t 39,gd t 40,gd t 41,gd t 42,gd t 43,gd t 44,gd t 45,gd t 46,gd t 47,gd t 48,gd t 49,gd t 50,gd t 51,gd t 52,gd t 53,gd t 54,gd t 55,gd t 56,gd t 57,gd t 58,gd t 59,gd t 60,gd t 61,gd t 62,gd t 63,gd t 64,gd t 65,gd t 66,gd t 67,gd t 68,gd t 69,gd t 70,gd t 71,gd t 72,gd t 73,gd t 74,gd t 75,gd t 76]→∀W,LoS lo G p s t0 Wb (i+1) c v1 v2 v3 rows W→Amf lo X0 X1 X2 G n oc (some ⟨ob,oo,none⟩) p p1 p2 p3 q1 q2 q3 s t0 w Wb ⟨t,[]⟩ W):=
   zh fun t i' c v1 v2 v3 rows hi' ht W hW=>⟨t,i',c,v1,v2,v3,rows,ht,by omega,by rw[hi'];exact hW,rfl⟩
  have HOB:Hid (ob < wr.heap.size):=zh (lt_of_cell e0);have HE0:=zh e0;have HN1:=zh n1;clear hc hR e2 e3 e4 e5 e6 e7;generalize s.outs[i]=x at *;by_cases hx:x.bg=t0
  ·have bx:(x.bg != t0)=false:=by simp[hx]
   have HX:=zh hx;clear hx;go_upto_region 11 with fail
   clear e0 e1 n1;obtain⟨a1,c1,rfl,_⟩:=Ad HRR.out.st.held.ready;obtain⟨a2,c2,rfl,hc2⟩:=Ad HRR.out.st.held.outs;obtain⟨a3,c3,rfl,_⟩:=Ad HRR.out.st.held.ae;have hrr:=HRR.out.at_.right;have HS:Hid (∀W',Below wr.heap.size wr W'→((W'.cell? ⟨X0,0,none⟩=some (.slice p1 p.aj.length q1)∧W'.cell? ⟨X0,1,none⟩=some (.slice p2 p.ag.length q2)∧W'.cell? ⟨X0,2,none⟩=some (.slice p3 p.binds.length q3))∧W'.cell? ⟨X1,1,none⟩=some (.slice (some ⟨ob,oo,none⟩) n oc)∧W'.cell? ⟨ob,oo+i * 8,none⟩=some (.int .i64 x.tag)∧(W'.cell? ⟨G,0,none⟩=some (.slice a1 c.ready.length c1)∧W'.cell? ⟨G,1,none⟩=some (.slice a2 c.outs.length c2)∧W'.cell? ⟨G,2,none⟩=some (.slice a3 c.ae.length c3)∧W'.cell? ⟨G,3,none⟩=some (.int .i64 c.ah)∧W'.cell? ⟨G,4,none⟩=some (.int .i64 c.af)∧W'.cell? ⟨G,5,none⟩=some (.int .i64 c.aw)∧W'.cell? ⟨G,6,none⟩=some (.int .i64 c.ar)∧W'.cell? ⟨G,7,none⟩=some (.int .i64 c.dropped)))):=zh fun W' hW=>by
    have h1:=HIN.out _ (HRR.out.below.trans (hW.mono HRR.out.st.size));have h2:=HRR.out.st.since hW;exact⟨h1.bz,h1.outs,(hW.cell (p:=⟨ob,_,none⟩) HOB.out).trans HE0.out,h2.box.cell 0,h2.box.cell 1,h2.box.cell 2,h2.box.cell 3,h2.box.cell 4,h2.box.cell 5,h2.box.cell 6,h2.box.cell 7⟩
   have HCALL:Hid (∀W',Below wr.heap.size wr W'→Calls Tryz.prog 18 #[.agg (zP p p1 p2 p3 q1 q2 q3),.agg (zV c a1 a2 a3 c1 c2 c3),.int .i64 x.tag,.bool true] W' (Js (Cf p c x.tag true) (Bg p c x.tag) W')):=zh fun W' hW=>by
    have h1:=HIN.out _ (HRR.out.below.trans (hW.mono HRR.out.st.size));have h2:=(HRR.out.st.since hW).held.bc.1;exact Se p c x.tag true p1 p2 p3 a1 a2 a3 q1 q2 q3 c1 c2 c3 rows W' h1.env h1.bu HPS.out (h2.wider (Nat.zero_le _) (zn _)) hrr.small hrr.ints hc2
   clear hc2 hrr;refine Axb X0 X1 X2 G n oc ob oo i p p1 p2 p3 q1 q2 q3 t0 x.tag (Bg p c x.tag) c (Cf p c x.tag true) a1 a2 a3 c1 c2 c3 wr hlt HS.out HCALL.out _ ?_ _ rfl;rintro t nb b1 b2 b3 d1 d2 d3 rows' W2 ht hk2 hh2 hb2 hnb;obtain⟨u,rfl⟩:=Ar0 ht;clear ht HS HCALL;have HB2:=zh (HRR.out.below.trans (hb2.mono HRR.out.st.size));have hg2:=HRR.out.st.box.below hb2 HRR.out.st.box.lt;have HRX:=zh (zi hk2 (zi hh2 (zi hg2 (hb2.size))));have HGL:=zh HRR.out.st.gl;have HSZ:=zh HRR.out.st.size;by_cases he:Bg p c x.tag=0
   ·have be:(Bg p c x.tag != 0)=false:=by simp[he]
    have HAT:=zh (HBK.out HX.out he);clear he;generalize Cf p c x.tag true=X at *;obtain⟨z0,z1,z2,z3,z4,z5,z6,z7,_,_,_,_,_,_,_,_,_⟩:=Af hk2;have hg3:Bk W2 G 31 (zV c a1 a2 a3 c1 c2 c3):=hg2;obtain⟨k0,k1,k2,k3,k4,k5,k6,k7,f0,f1,f2,f3,f4,f5,f6,f7,hltg⟩:=Af hg3;have hk8:=Al.dg HRX.out.2.2.1 (ts:=[31]) (by decide) (.slice b1 X.ready.length d1) (.slice b2 X.outs.length d2) (.slice b3 X.ae.length d3) (.int .i64 X.ah) (.int .i64 X.af) (.int .i64 X.aw) (.int .i64 X.ar) (.int .i64 X.dropped);have HNX:=zh (show LoS lo G p s t0 Wb (i+1) X (.slice b1 X.ready.length d1) (.slice b2 X.outs.length d2) (.slice b3 X.ae.length d3) rows' _ from⟨HAT.out,⟨zr HSZ.out (zr HRX.out.2.2.2 (by simp)),(((((((HRX.out.2.2.1.ck 0 (.slice b1 X.ready.length d1)).ck 1 (.slice b2 X.outs.length d2)).ck 2 (.slice b3 X.ae.length d3)).ck 3 (.int .i64 X.ah)).ck 4 (.int .i64 X.af)).ck 5 (.int .i64 X.aw)).ck 6 (.int .i64 X.ar)).ck 7 (.int .i64 X.dropped),(HRX.out.2.1.kept hk8).wider HSZ.out,HGL.out⟩,Ak HB2.out HGL.out _ _ _ _ _ _ _ _⟩);clear hk2 hh2 hb2 hnb hg2 hg3 hk8;go_wp2_with fail
    exact⟨HR.out _ _ _ _ _ _ _ rfl rfl _ HNX.out,by simp[intOf];omega⟩
   ·have be:(Bg p c x.tag != 0)=true:=by simp[he]
    have HE:=zh (zi he (by rw[(HST.out HX.out he).1]:(Hr p t0 s.outs s).2=Bg p c x.tag));clear he hk2 hh2 hb2 hnb hg2;have hzk:=(HIN.out _ HB2.out).zero;unfold zeroCells at hzk;obtain⟨k0,k1,k2,k3,k4,k5,k6,k7,f0,f1,f2,f3,f4,f5,f6,f7,hltg⟩:=Af hzk;clear hzk;go_wp2_with fail
    exact HRET.out _ _ _ rfl HE.out.1 HE.out.2 (Tg (HIN.out _ HB2.out).zero) (Ak (HIN.out _ HB2.out).below HX2.out.2 _ _ _ _ _ _ _ _)
  ·have bx:(x.bg != t0)=true:=by simp[hx]
   have HNX:=zh (show LoS lo G p s t0 Wb (i+1) c v1 v2 v3 rows wr from⟨HSK.out hx,HRR.out.st,HRR.out.below⟩);clear hx;go_wp2_with fail
   exact⟨HR.out _ _ _ _ _ _ _ rfl rfl _ HNX.out,by simp[intOf];omega⟩
 ·obtain rfl:i=n:=by omega
  have hj3:¬ (i:Int) < (i:Int):=by omega
  have HF:=zh hR;clear hR;go_wp2_with fail
  exact HEND.out _ i _ _ _ _ _ _ rfl HF.out
theorem Aaz (p:Ab) (s:Aa) (t0:Int) (ht0: -9223372036854775808≤t0∧t0≤9223372036854775807) (p1 p2 p3 a1 a2 a3:Option Addr) (q1 q2 q3 c1 c2 c3:Nat) (rows:List Bq) (w:World) (hE:Env w) (hp:Az w 0 w.heap.size p1 p2 p3 p) (hps:Ai p) (hs:Ax w 0 w.heap.size a1 a2 a3 rows s) (hss:Am s) (hsi:Ba s):
  Calls Tryz.prog 22 #[Bc p p1 p2 p3 q1 q2 q3,Ac s a1 a2 a3 c1 c2 c3,.int .i64 t0] w (Js (Dn p s t0) (Bv p s t0) w):=by
 have HPQ:=zh hp;have hbx:=B9 q1 q2 q3 c1 c2 c3 hE hp hs 26 31;unfold Ag at hbx;unfold Ac Bc Ag;have htl:=hss.ae;have HPS:=zh hps;have HSS:=zh hss;have HSI:=zh hsi;clear hE hp hs hps hss hsi;go_enter Tryz.func22,Tryz.ntmps22
 obtain⟨⟨m0,m1,m2⟩,⟨n0,n1,n2,n3,n4,n5,n6,n7⟩,_,_,_,_⟩:=hbx _ ((zb _ _).alloc (zn _) (.cells zO 31));go_wp2_with fail
 clear m0 m1 m2 n0 n1 n2 n3 n4 n5 n6 n7;obtain⟨V0,hV0⟩:∃V0,((w.alloc (.cells (zP p p1 p2 p3 q1 q2 q3) 26)).alloc (.cells (zV s a1 a2 a3 c1 c2 c3) 31))=V0:=⟨_,rfl⟩;have hzV:V0.heap.size=w.heap.size+1+1:=by rw[←hV0];simp
 rw[hV0] at hbx;have HBV:=zh hbx;obtain⟨W0,hW0⟩:∃W0,V0.alloc (.cells zO 31)=W0:=⟨_,rfl⟩;have hbV:Below V0.heap.size V0 W0:=by rw[←hW0];exact(zb _ _).alloc (zn _) _
 have HZ:Hid (W0.heap.size=w.heap.size+1+1+1):=by refine(?_:W0.heap.size=_);rw[←hW0,←hzV];simp
 have HBX:Hid (∀W,Below W0.heap.size W0 W→La w p s p1 p2 p3 a1 a2 a3 q1 q2 q3 c1 c2 c3 rows W∧Bk W (w.heap.size+1+1) 31 zeroCells):=fun W hW=>by
  have k:Bk W0 (w.heap.size+1+1) 31 zeroCells:=by rw[←hW0];exact Bk.cg _ _ _ hzV.symm
  exact⟨HBV.out W (hbV.trans (hW.mono hbV.size)),k.below hW k.lt⟩
 rw[hV0,hW0];clear hbx hbV hzV HBV hV0 hW0;have hcall:=Fx p s p1 p2 p3 a1 a2 a3 q1 q2 q3 c1 c2 c3 rows W0 (HBX.out _ (zb _ _)).1.env (HBX.out _ (zb _ _)).1.bu HPS.out (HBX.out _ (zb _ _)).1.bc HSS.out HSI.out;unfold Ac Bc Ag at hcall;refine hcall.mono ?_;clear hcall;rintro e W1 ⟨rfl,hb1⟩;have HB1:=zh hb1;clear hb1;by_cases hc:Ao p s=0
 ·have b1:(Ao p s != 0)=false:=by simp[hc]
  have HC:=zh hc;have HRT:=zh (Da.1 hc);have hmany:=HRT.out.many;have hwr:IntKind.i64.wrap ((s.ae.length:Int) - 1)=(s.ae.length:Int) - 1:=IntWalk.i64_in _ (by omega);have n2:=(HBX.out _ HB1.out).1.state.2.2.1;have HLE:Hid (Bv p s t0=if Hv s t0 then 5 else (Hr p t0 s.outs s).2):=zh (by unfold Bv;rw[zq (by rw[hc];decide)]);have h5:Hid (Hv s t0→Dn p s t0=Ay∧Bv p s t0=5):=zh fun h=>by
   have e:Bv p s t0=5:=by rw[HLE.out,zp h]
   exact⟨by unfold Dn;rw[zq (by rw[e];decide)],e⟩
  clear hc;by_cases hin:0≤t0∧t0≤(s.ae.length:Int) - 1
  ·obtain⟨k,rfl⟩:=Int.eq_ofNat_of_zero_le hin.1
   have hkl:k < s.ae.length:=by omega
   have hta:M1 s (k:Int)=s.ae[k]:=by unfold M1;rw[Int.toNat_natCast,zG hkl];rfl
   have h4:=Lm HRT.out (zG hkl);have hin2:(decide (0≤(k:Int)) && decide ((k:Int)≤(s.ae.length:Int) - 1))=true:=by simp;omega
   obtain⟨tb,tt,rfl,_,htb,htc⟩:=Bd Cy (by decide) (HBX.out _ HB1.out).1.bc.ae hkl;have c0:W1.cell? ⟨tb,tt+k * 2,none⟩=some (.int .i64 s.ae[k].queue):=by simpa using htc 0 _ rfl
   have hkj:(k:Int) < (s.ae.length:Int):=by omega
   by_cases hq:s.ae[k].queue= -1
   ·have bq:(s.ae[k].queue == -1)=true:=by simp[hq]
    have HY:=zh (h5.out (.inr (.inr (by rw[hta];omega))));clear hta htc h4 hq h5 HLE;generalize s.ae[k]=tk at *;go_wp2_with fail
    refine(B8 (k:Int) 0 ((s.ae.length:Int) - 1) W1).mono ?_;rw[hin2];rintro e W2 ⟨rfl,rfl⟩;have hzk:=(HBX.out _ HB1.out).2;unfold zeroCells at hzk;obtain⟨k0,k1,k2,k3,k4,k5,k6,k7,f0,f1,f2,f3,f4,f5,f6,f7,hlt⟩:=Af hzk;clear hzk;go_wp2_with fail
    refine bodyPost_ret (v:= .tuple #[Ac Ay none none none 0 0 0,.int .i64 5]) (by simp[results,Tryz.results22,go_sem,Ac,Ag,Ay,k0,k1,k2,k3,k4,k5,k6,k7,hlt]) rfl ?_;exact⟨none,none,none,0,0,0,[],by rw[HY.out.1,HY.out.2],by rw[HY.out.1];exact Dx _ _,Ak (HBX.out _ HB1.out).1.below (by omega) _ _ _ _ _ _ _ _⟩
   ·have bq:(s.ae[k].queue == -1)=false:=by simp[hq]
    have hno:¬ Hv s (k:Int):=by unfold Hv;rw[hta];omega
    have HLL:Hid (Bv p s (k:Int)=(Hr p (k:Int) s.outs s).2):=zh (by rw[HLE.out,zq hno]);have HLS:Hid (∀c,Fl p s (k:Int) s.outs.length c→Bv p s (k:Int)=0∧Dn p s (k:Int)= { c with ae:=c.ae.set k ⟨-1,s.ae[k].cf⟩ }):=zh fun c hc=>by
     have h0:Bv p s (k:Int)=0:=by rw[HLL.out,hc.end_.1]
     refine⟨h0,?_⟩;unfold Dn Qd;rw[zp h0,hc.end_.1,hta,Int.toNat_natCast,hc.ae]
    clear hta htc h4 hq h5 HLE hno;generalize hTK:s.ae[k]=tk at *;go_wp2_with fail
    refine(B8 (k:Int) 0 ((s.ae.length:Int) - 1) W1).mono ?_;rw[hin2];rintro e W2 ⟨rfl,rfl⟩;obtain⟨n0,n1,n2,n3,n4,n5,n6,n7⟩:=(HBX.out _ HB1.out).1.state;go_wp2_with fail
    have hcall:=Kk s a1 a2 (some ⟨tb,tt,none⟩) c1 c2 c3 rows W1 (HBX.out _ HB1.out).1.bc HSS.out;unfold Ac Ag at hcall;refine hcall.mono ?_;clear hcall n0 n1 n2 n3 n4 n5 n6 n7 c0;rintro e W5 ⟨v1,v2,v3,rows5,rfl,ho5,hb5⟩;unfold Ey;obtain⟨W6,hW6⟩:∃W6,W5.alloc (.cells #[v1,v2,v3,.int .i64 s.ah,.int .i64 s.af,.int .i64 s.aw,.int .i64 s.ar,.int .i64 s.dropped] 31)=W6:=⟨_,rfl⟩;have kb6:Bk W6 W5.heap.size 31 (Ey s v1 v2 v3):=by rw[←hW6];exact Bk.new _ _ _
    have hal6:Below W5.heap.size W5 W6:=by rw[←hW6];exact(zb _ _).alloc (zn _) _
    have h16:Below W1.heap.size W1 W6:=hb5.trans (hal6.mono hb5.size);have HB6:=zh (HB1.out.trans (h16.mono HB1.out.size));have HLO:=zh (zr (HBX.out _ (zb _ _)).1.below.size HB1.out.size);have HR6:=zh (show Ee W6 W1.heap.size W5.heap.size v1 v2 v3 rows5 s from⟨h16.size,kb6,(ho5.below hal6).held,hb5.size⟩);have HIN:Hid (∀W,Below W1.heap.size W6 W→Ax8 w.heap.size (w.heap.size+1) (w.heap.size+1+1) s.outs.length c2 a2 p p1 p2 p3 q1 q2 q3 s w W):=zh fun W hW=>by
     have h1:=HBX.out W (HB6.out.trans (hW.mono HB1.out.size));exact⟨h1.1.bz,h1.1.state.2.1,h1.1.bc.outs,h1.1.env,h1.1.bu,h1.2,h1.1.below⟩
    obtain⟨A1,C1,rfl,_⟩:=Ad ho5.ready;obtain⟨A2,C2,rfl,_⟩:=Ad ho5.outs;obtain⟨A3,C3,rfl,_⟩:=Ad ho5.ae;clear ho5 hb5 kb6 hal6 h16;go_wp2_with fail
    clear hW6;refine Au1 W1.heap.size w.heap.size (w.heap.size+1) (w.heap.size+1+1) W5.heap.size s.outs.length c2 a2 p p1 p2 p3 q1 q2 q3 s (k:Int) w W6 rfl HSS.out.outs HPS.out (by have:=HB1.out.size;have:=HZ.out;omega) (by omega) HIN.out _ ?_ ?_ _ 0 s _ _ _ rows5 W6 rfl (Nat.zero_le _) ⟨Fl.start HRT.out _,HR6.out,zb _ _⟩
    ·rintro t i c u1 u2 u3 rows' W ht hL
     obtain⟨u,rfl⟩:=Z6 ht;have hct:=hL.at_.ae;obtain⟨he0,hS0⟩:=HLS.out c hL.at_;have HY:=zh (zi hS0 he0);have hkc:k < c.ae.length:=by rw[hct];exact hkl
     obtain⟨B3,D3,rfl,_⟩:=Ad hL.st.held.ae;obtain⟨g4,rfl⟩:=Fa hL.st.held.ae (by omega);obtain⟨⟨k0,f0,l0⟩,hgone,hbg⟩:=hL.st.gone hkc;have htk:c.ae[k]=tk:=by rw[←hTK];simp only[hct]
     rw[htk] at hgone k0;have n2:=hL.st.box.cell 2;simp only[Ey,zI,zJ,zK] at n2;have hkc2:(k:Int) < (c.ae.length:Int):=by omega
     obtain⟨W8,hW8⟩:∃W8,W.setCell ⟨g4,k * 2,none⟩ (.int .i64 (-1))=W8:=⟨_,rfl⟩;rw[hW8] at hgone hbg;have HB8:=zh (HB6.out.trans ((hL.below.trans hbg).mono HB1.out.size));obtain⟨X,hX⟩:∃X:Aa,({ c with ae:=c.ae.set k ⟨-1,tk.cf⟩ } :Aa)=X:=⟨_,rfl⟩;have HX:=zh hX;rw[hX] at hgone;obtain⟨w1,w2,w3,h8⟩:∃w1 w2 w3,Ee W8 W1.heap.size W5.heap.size w1 w2 w3 rows' X:=⟨_,_,_,hgone⟩;clear ht hgone hbg hL htk hct he0 hS0 hkc hX;go_upto_region 16 with fail
     clear k0 f0 l0 n2 hW8 hkc2;obtain⟨A1,C1,rfl,_⟩:=Ad h8.held.ready;obtain⟨A2,C2,rfl,_⟩:=Ad h8.held.outs;obtain⟨A3,C3,rfl,_⟩:=Ad h8.held.ae;have g0:=h8.box.cell 0;have g1:=h8.box.cell 1;have g2:=h8.box.cell 2;have g3:=h8.box.cell 3;have g4:=h8.box.cell 4;have g5:=h8.box.cell 5;have g6:=h8.box.cell 6;have g7:=h8.box.cell 7;simp only[Ey,zI,zJ,zK] at g0 g1 g2 g3 g4 g5 g6 g7;have HH8:=zh h8;clear h8;have hzk:=(HBX.out _ HB8.out).2;have HZS:=zh hzk;unfold zeroCells at hzk;obtain⟨k0,k1,k2,k3,k4,k5,k6,k7,f0,f1,f2,f3,f4,f5,f6,f7,hlt⟩:=Af hzk;clear hzk;go_wp2_with fail
     refine bodyPost_ret (v:= .tuple #[.agg (zV X A1 A2 A3 C1 C2 C3),.int .i64 0]) (by simp[results,Tryz.results22,go_sem,k0,k1,k2,k3,k4,k5,k6,k7,hlt]) rfl ?_;have hfin:=(HH8.out.held.kept (Al.dg HZS.out (ts:=[31]) (by decide) (.slice A1 X.ready.length C1) (.slice A2 X.outs.length C2) (.slice A3 X.ae.length C3) (.int .i64 X.ah) (.int .i64 X.af) (.int .i64 X.aw) (.int .i64 X.ar) (.int .i64 X.dropped)));refine⟨A1,A2,A3,C1,C2,C3,_,(by rw[HY.out.1,HX.out,HY.out.2];rfl),(by rw[HY.out.1,HX.out];exact hfin.wider HLO.out),Ak (HBX.out _ HB8.out).1.below (by omega) _ _ _ _ _ _ _ _⟩
    ·rintro t er W ht he hl hz hb
     obtain⟨u,rfl⟩:=Ar2 ht;have e2:Bv p s (k:Int)=er:=by rw[HLL.out,hl]
     have HY:=zh (zi (show Dn p s (k:Int)=Ay by unfold Dn;rw[zq (by rw[e2];exact he)]) e2);have HB:=zh hb;have hzk:=hz;unfold zeroCells at hzk;obtain⟨k0,k1,k2,k3,k4,k5,k6,k7,f0,f1,f2,f3,f4,f5,f6,f7,hlt⟩:=Af hzk;clear hzk ht he hl hz hb e2;go_wp2_with fail
     refine bodyPost_ret (v:= .tuple #[Ac Ay none none none 0 0 0,.int .i64 er]) (by simp[results,Tryz.results22,go_sem,Ac,Ag,Ay,k0,k1,k2,k3,k4,k5,k6,k7,hlt]) rfl ?_;exact⟨none,none,none,0,0,0,[],by rw[HY.out.1,HY.out.2],by rw[HY.out.1];exact Dx _ _,HB.out⟩
  ·have HY:=zh (h5.out (by unfold Hv;omega))
   have hin2:(decide (0≤t0) && decide (t0≤(s.ae.length:Int) - 1))=false:=by
    rw[Bool.and_eq_false_iff];simp only[decide_eq_false_iff_not];omega
   clear hin h5 HLE;go_wp2_with fail
   refine(B8 t0 0 ((s.ae.length:Int) - 1) W1).mono ?_;rw[hin2];rintro e W2 ⟨rfl,rfl⟩;have hzk:=(HBX.out _ HB1.out).2;unfold zeroCells at hzk;obtain⟨k0,k1,k2,k3,k4,k5,k6,k7,f0,f1,f2,f3,f4,f5,f6,f7,hlt⟩:=Af hzk;clear hzk;go_wp2_with fail
   refine bodyPost_ret (v:= .tuple #[Ac Ay none none none 0 0 0,.int .i64 5]) (by simp[results,Tryz.results22,go_sem,Ac,Ag,Ay,k0,k1,k2,k3,k4,k5,k6,k7,hlt]) rfl ?_;exact⟨none,none,none,0,0,0,[],by rw[HY.out.1,HY.out.2],by rw[HY.out.1];exact Dx _ _,Ak (HBX.out _ HB1.out).1.below (by omega) _ _ _ _ _ _ _ _⟩
 ·have b1:(Ao p s != 0)=true:=by simp[hc]
  have he:Bv p s t0=Ao p s:=by unfold Bv;rw[zp hc]
  have HY:=zh (zi (show Dn p s t0=Ay by unfold Dn;rw[zq (by rw[he];exact hc)]) he);clear he;have hzk:=(HBX.out _ HB1.out).2;unfold zeroCells at hzk;obtain⟨k0,k1,k2,k3,k4,k5,k6,k7,f0,f1,f2,f3,f4,f5,f6,f7,hlt⟩:=Af hzk;clear hzk;go_wp2_with fail
  refine bodyPost_ret (v:= .tuple #[Ac Ay none none none 0 0 0,.int .i64 (Ao p s)]) (by simp[results,Tryz.results22,go_sem,Ac,Ag,Ay,k0,k1,k2,k3,k4,k5,k6,k7,hlt]) rfl ?_;exact⟨none,none,none,0,0,0,[],by rw[HY.out.1,HY.out.2],by rw[HY.out.1];exact Dx _ _,Ak (HBX.out _ HB1.out).1.below (by omega) _ _ _ _ _ _ _ _⟩
end Go.Proofs.YtaanpcjkflhomaaGreatDoor
