/- Lemmas. -/
import Derived.Test.YtpkneogjdfolaaaGreatDoorBunCB
import Derived.Test.YtpkneogjdfolaaaGreatDoorBunCC
set_option maxHeartbeats 20000000
set_option maxRecDepth 100000
set_option linter.unusedSimpArgs false
set_option linter.unusedVariables false
namespace Go.Proofs.YtpkneogjdfolaaaGreatDoor
open Go Go.RowKit
def lo1_T(X0 X1 X2 G i:Nat)(t0:Int)(t:Array Value):Array Value:=fj [[gd t 0,gd t 1,.int .i64 t0,zt X0,zt X1,gd t 5,zt X2,.int .i64 0,gd t 8,zt G,.int .i64 (i:Int)],fr t 11 66]
theorem Ab9{X0 X1 X2 G i:Nat}{t0:Int}{t:Array Value}(h:t=(lo1_T X0 X1 X2 G i t0 t)):∃u:Nat→Value,t= #[u 0,u 1,.int .i64 t0,zt X0,zt X1,u 5,zt X2,.int .i64 0,u 8,zt G,.int .i64 (i:Int),u 11,u 12,u 13,u 14,u 15,u 16,u 17,u 18,u 19,u 20,u 21,u 22,u 23,u 24,u 25,u 26,u 27,u 28,u 29,u 30,u 31,u 32,u 33,u 34,u 35,u 36,u 37,u 38,u 39,u 40,u 41,u 42,u 43,u 44,u 45,u 46,u 47,u 48,u 49,u 50,u 51,u 52,u 53,u 54,u 55,u 56,u 57,u 58,u 59,u 60,u 61,u 62,u 63,u 64,u 65,u 66,u 67,u 68,u 69,u 70,u 71,u 72,u 73,u 74,u 75,u 76]:=⟨fun i=>t.getD i undef,h⟩
def lo2_T(X0 X1 X2 G i nb:Nat)(t0 er:Int)(t:Array Value):Array Value:=fj [[gd t 0,gd t 1,.int .i64 t0,zt X0,zt X1,gd t 5,zt X2,.int .i64 0,gd t 8,zt G,.int .i64 (i:Int),zt nb,.int .i64 er],fr t 13 64]
theorem Atj{X0 X1 X2 G i nb:Nat}{t0 er:Int}{t:Array Value}(h:t=(lo2_T X0 X1 X2 G i nb t0 er t)):∃u:Nat→Value,t= #[u 0,u 1,.int .i64 t0,zt X0,zt X1,u 5,zt X2,.int .i64 0,u 8,zt G,.int .i64 (i:Int),zt nb,.int .i64 er,u 13,u 14,u 15,u 16,u 17,u 18,u 19,u 20,u 21,u 22,u 23,u 24,u 25,u 26,u 27,u 28,u 29,u 30,u 31,u 32,u 33,u 34,u 35,u 36,u 37,u 38,u 39,u 40,u 41,u 42,u 43,u 44,u 45,u 46,u 47,u 48,u 49,u 50,u 51,u 52,u 53,u 54,u 55,u 56,u 57,u 58,u 59,u 60,u 61,u 62,u 63,u 64,u 65,u 66,u 67,u 68,u 69,u 70,u 71,u 72,u 73,u 74,u 75,u 76]:=⟨fun i=>t.getD i undef,h⟩
theorem Atl{X2:Nat}{er:Int}{t:Array Value}(h:t=fj [fr t 0 6,[zt X2,.int .i64 er],fr t 8 69]):∃u:Nat→Value,t= #[u 0,u 1,u 2,u 3,u 4,u 5,zt X2,.int .i64 er,u 8,u 9,u 10,u 11,u 12,u 13,u 14,u 15,u 16,u 17,u 18,u 19,u 20,u 21,u 22,u 23,u 24,u 25,u 26,u 27,u 28,u 29,u 30,u 31,u 32,u 33,u 34,u 35,u 36,u 37,u 38,u 39,u 40,u 41,u 42,u 43,u 44,u 45,u 46,u 47,u 48,u 49,u 50,u 51,u 52,u 53,u 54,u 55,u 56,u 57,u 58,u 59,u 60,u 61,u 62,u 63,u 64,u 65,u 66,u 67,u 68,u 69,u 70,u 71,u 72,u 73,u 74,u 75,u 76]:=⟨fun i=>t.getD i undef,h⟩
noncomputable def Atk:Code:=It Tryz.f66 0
def LoR(W:zW)(X:Aa)(F:Nat→Array Value→Prop)(a':Act)(W':zW):Prop:=
 ∃(t:Array Value)(nb:Nat)(b1 b2 b3:zZ)(d1 d2 d3:Nat)(rows':List Bm),a'=⟨t,[]⟩∧F nb t∧Bk W' nb 40 (zV X b1 b2 b3 d1 d2 d3)∧Ca W' W.heap.size (.slice b1 X.ready.length d1) (.slice b2 X.outs.length d2) (.slice b3 X.ae.length d3) rows' X∧Below W.heap.size W W'∧W.heap.size≤nb
theorem Azi(X0 X1 X2 G n oc ob oo i:Nat)(p:Ab)(p1 p2 p3:zZ)(q1 q2 q3:Nat)(t0 tag er:Int)(c X:Aa)(a1 a2 a3:zZ)(c1 c2 c3:Nat)(W:zW)(hi:i < n)(hS:∀W',Below W.heap.size W W'→((zM W' X0 0 (.slice p1 p.aj.length q1)∧zM W' X0 1 (.slice p2 p.ag.length q2)∧zM W' X0 2 (.slice p3 p.binds.length q3))∧zM W' X1 1 (.slice (some ⟨ob,oo,none⟩) n oc)∧zM W' ob (oo+i * 8) (.int .i64 tag)∧(zM W' G 0 (.slice a1 c.ready.length c1)∧zM W' G 1 (.slice a2 c.outs.length c2)∧zM W' G 2 (.slice a3 c.ae.length c3)∧zM W' G 3 (.int .i64 c.ah)∧zM W' G 4 (.int .i64 c.af)∧zM W' G 5 (.int .i64 c.aw)∧zM W' G 6 (.int .i64 c.ar)∧zM W' G 7 (.int .i64 c.dropped))))
  (hcall:∀W',Below W.heap.size W W'→Calls Tryz.prog 68 #[.agg (zP p p1 p2 p3 q1 q2 q3),.agg (zV c a1 a2 a3 c1 c2 c3),.int .i64 tag,.bool true] W' (G1 X er W')) (Q:Exit→Act→zW→Prop)
  (hq:∀(t:Array Value)(nb:Nat)(b1 b2 b3:zZ)(d1 d2 d3:Nat)(rows':List Bm)(W':zW),t=(lo2_T X0 X1 X2 G i nb t0 er t)→Bk W' nb 40 (zV X b1 b2 b3 d1 d2 d3)→Ca W' W.heap.size (.slice b1 X.ready.length d1) (.slice b2 X.outs.length d2) (.slice b3 X.ae.length d3) rows' X→Below W.heap.size W W'→W.heap.size≤nb→Q .normal ⟨t,[]⟩ W')
  (t:Array Value) (ht:t=(lo1_T X0 X1 X2 G i t0 t)):((Hc 11 Atk).getD .skip).wp Tryz.prog Q ⟨t,[]⟩ W:=by
 obtain⟨u,rfl⟩:=Ab9 ht;clear ht;refine Pi (LoR W X (fun nb t=>t=(lo2_T X0 X1 X2 G i nb t0 er t))) ?_ ?_
 ·have HK:Hid (∀W',Below W.heap.size W W'→((zM W' X0 0 (.slice p1 p.aj.length q1)∧zM W' X0 1 (.slice p2 p.ag.length q2)∧zM W' X0 2 (.slice p3 p.binds.length q3))∧zM W' X1 1 (.slice (some ⟨ob,oo,none⟩) n oc)∧zM W' ob (oo+i * 8) (.int .i64 tag)∧(zM W' G 0 (.slice a1 c.ready.length c1)∧zM W' G 1 (.slice a2 c.outs.length c2)∧zM W' G 2 (.slice a3 c.ae.length c3)∧zM W' G 3 (.int .i64 c.ah)∧zM W' G 4 (.int .i64 c.af)∧zM W' G 5 (.int .i64 c.aw)∧zM W' G 6 (.int .i64 c.ar)∧zM W' G 7 (.int .i64 c.dropped)))):=zh hS
  have HCALL:=zh hcall;have hj:(i:Int) < (n:Int):=by omega
  clear hS hcall hq
  conv=>arg 2;whnf
  refine wp_region_held_drew (S:=(fun W=>((zM W X0 0 (.slice p1 p.aj.length q1)∧zM W X0 1 (.slice p2 p.ag.length q2)∧zM W X0 2 (.slice p3 p.binds.length q3))∧zM W X1 1 (.slice (some ⟨ob,oo,none⟩) n oc)∧zM W ob (oo+i * 8) (.int .i64 tag)∧(zM W G 0 (.slice a1 c.ready.length c1)∧zM W G 1 (.slice a2 c.outs.length c2)∧zM W G 2 (.slice a3 c.ae.length c3)∧zM W G 3 (.int .i64 c.ah)∧zM W G 4 (.int .i64 c.af)∧zM W G 5 (.int .i64 c.aw)∧zM W G 6 (.int .i64 c.ar)∧zM W G 7 (.int .i64 c.dropped))))) (by kernel_rfl) (HK.out _ (zb _ _).drew) (fun hHeld=> ?_);have hN:Below W.heap.size W W.drew:=(zb _ _).drew;generalize W.drew=Wd at *
  refine zH 0 ?_;refine zH 1 ?_;refine zH 2 ?_;refine zH 3 ?_;refine zH 4 ?_;refine zH 5 ?_;refine zH 6 ?_;refine zH 7 ?_
  refine zR2 8 12 (fun K hK=> ?_) (fun K hK=> ?_)
  ·go_simp
   go_at_call 68
   refine(HCALL.out _ hN).mono ?_;rintro e w4 ⟨b1,b2,b3,d1,d2,d3,rows4,rfl,hs4,hb4⟩;have hs4:=hs4.wider hN.size;have hN:=hN.trans (hb4.mono hN.size);clear hb4;unfold Ad Ag
   refine zk hK (by exact HK.out _ hN) (fun hHeld=> ?_);clear hK K
   refine zH 9 ?_;refine zH 10 ?_;refine zH 11 ?_
   refine zR 12 fun K hK=> ?_
   go_simp
   generalize hW5:World.alloc _ (Obj.cells _ _)=W5;have hZ:Bk W5 w4.heap.size 40 zeroCells:=by rw[←hW5];exact Bk.new _ _ _
   have hA5:=zu hW5
   have hnb:W.heap.size≤w4.heap.size:=hN.size;have hs4:=hs4.kept (Ah.oqb (ts:=[]) hA5) (by simp) (by simp) (by simp) (by simp);have hN:=hN.trans (hA5.mono hN.size);clear hW5 hA5
   refine zk hK (by exact HK.out _ hN) (fun hHeld=> ?_);clear hK K
   refine zR 13 fun K hK=> ?_;obtain⟨k0,k1,k2,k3,k4,k5,k6,k7,f0,f1,f2,f3,f4,f5,f6,f7,hlt⟩:=Af (hZ)
   go_simp
   refine zk hK (by exact HK.out _ (Al hN hnb _ _ _ _ _ _ _ _)) (fun hHeld=> ?_);clear hK K
   refine zH 14 ?_
   refine zx ?_;have hk8:=Ah.dg hZ (ts:=[40]) (by decide) (.slice b1 X.ready.length d1) (.slice b2 X.outs.length d2) (.slice b3 X.ae.length d3) (.int .i64 X.ah) (.int .i64 X.af) (.int .i64 X.aw) (.int .i64 X.ar) (.int .i64 X.dropped);exact⟨_,w4.heap.size,b1,b2,b3,d1,d2,d3,rows4,rfl,rfl,(((((((hZ.ck 0 _).ck 1 _).ck 2 _).ck 3 _).ck 4 _).ck 5 _).ck 6 _).ck 7 _,hs4.kept hk8,Al hN hnb _ _ _ _ _ _ _ _,hnb⟩
  ·go_simp
   generalize hW5:World.alloc _ (Obj.cells _ _)=W5;have hZ:Bk W5 Wd.heap.size 40 zeroCells:=by rw[←hW5];exact Bk.new _ _ _
   have hA5:=zu hW5
   have hnb:W.heap.size≤Wd.heap.size:=hN.size;have hN:=hN.trans (hA5.mono hN.size);clear hW5 hA5
   refine zk hK (by exact HK.out _ hN) (fun hHeld=> ?_);clear hK K
   refine zR 8 fun K hK=> ?_
   go_simp
   go_at_call 68
   refine(HCALL.out _ hN).mono ?_;rintro e w4 ⟨b1,b2,b3,d1,d2,d3,rows4,rfl,hs4,hb4⟩;have hs4:=hs4.wider hN.size;have hN:=hN.trans (hb4.mono hN.size);have hZ:=hZ.below hb4 hZ.lt;clear hb4;unfold Ad Ag
   refine zk hK (by exact HK.out _ hN) (fun hHeld=> ?_);clear hK K
   refine zH 9 ?_;refine zH 10 ?_;refine zH 11 ?_
   refine zR 13 fun K hK=> ?_;obtain⟨k0,k1,k2,k3,k4,k5,k6,k7,f0,f1,f2,f3,f4,f5,f6,f7,hlt⟩:=Af (hZ)
   go_simp
   refine zk hK (by exact HK.out _ (Al hN hnb _ _ _ _ _ _ _ _)) (fun hHeld=> ?_);clear hK K
   refine zH 14 ?_
   refine zx ?_;have hk8:=Ah.dg hZ (ts:=[40]) (by decide) (.slice b1 X.ready.length d1) (.slice b2 X.outs.length d2) (.slice b3 X.ae.length d3) (.int .i64 X.ah) (.int .i64 X.af) (.int .i64 X.aw) (.int .i64 X.ar) (.int .i64 X.dropped);exact⟨_,Wd.heap.size,b1,b2,b3,d1,d2,d3,rows4,rfl,rfl,(((((((hZ.ck 0 _).ck 1 _).ck 2 _).ck 3 _).ck 4 _).ck 5 _).ck 6 _).ck 7 _,hs4.kept hk8,Al hN hnb _ _ _ _ _ _ _ _,hnb⟩
 ·rintro a' W' ⟨t,nb,b1,b2,b3,d1,d2,d3,rows',rfl,ht,h1,h2,h3,h4⟩
  exact hq t nb b1 b2 b3 d1 d2 d3 rows' W' ht h1 h2 h3 h4
structure A0e (X0 X1 X2 n oc:Nat) (oa:zZ) (p:Ab) (p1 p2 p3:zZ) (q1 q2 q3:Nat) (s:Aa) (w W:zW):Prop where
 bz:zM W X0 0 (.slice p1 p.aj.length q1)∧zM W X0 1 (.slice p2 p.ag.length q2)∧zM W X0 2 (.slice p3 p.binds.length q3)
 outs:W.cell? ⟨X1,1,none⟩=some (.slice oa n oc)
 row:Sl W 0 W.heap.size oa (s.outs.flatMap D6)
 env:Env W
 bu:Au W 0 W.heap.size p1 p2 p3 p
 zero:Bk W X2 40 zeroCells
 below:Below w.heap.size w W
structure LoS (lo G:Nat) (p:Ab) (s:Aa) (t0:Int) (Wb:zW) (i:Nat) (c:Aa) (v1 v2 v3:Value) (rows:List Bm) (W:zW):Prop where
 at_:Fo p s t0 i c
 st:Ed W lo G v1 v2 v3 rows c
 below:Below lo Wb W
def Anq(lo X0 X1 X2 G n oc:Nat)(oa:zZ)(p:Ab)(p1 p2 p3:zZ)(q1 q2 q3:Nat)(s:Aa)(t0:Int)(w Wb:zW)(a:Act)(wr:zW):Prop:=
 ∃(t:Array Value)(i:Nat)(c:Aa)(v1 v2 v3:Value)(rows:List Bm),t=fj [[gd t 0,gd t 1,.int .i64 t0,zt X0,zt X1,gd t 5,zt X2,.int .i64 0,gd t 8,zt G,.int .i64 (i:Int)],fr t 11 66]∧i≤n∧LoS lo G p s t0 Wb i c v1 v2 v3 rows wr∧a=⟨t,[]⟩
theorem Aws(lo X0 X1 X2 G n oc:Nat)(oa:zZ)(p:Ab)(p1 p2 p3:zZ)(q1 q2 q3:Nat)(s:Aa)(t0:Int)(w Wb:zW)(hn:s.outs.length=n)(hn2:n≤1048576)(hps:Ai p)(hX2:X2 < lo)(hwX:w.heap.size≤X2)(hIn:∀W,Below lo Wb W→A0e X0 X1 X2 n oc oa p p1 p2 p3 q1 q2 q3 s w W)(Q0:Exit→Act→zW→Prop)
  (hend:∀(t:Array Value)(i:Nat)(c:Aa)(v1 v2 v3:Value)(rows:List Bm)(W:zW),t=fj [[gd t 0,gd t 1,.int .i64 t0,zt X0,zt X1,gd t 5,zt X2,.int .i64 0,gd t 8,zt G,.int .i64 (i:Int)],fr t 11 66]→LoS lo G p s t0 Wb n c v1 v2 v3 rows W→Q0 (.exit 0) ⟨t,[]⟩ W)
  (hret:∀(t:Array Value)(er:Int)(W:zW),t=fj [fr t 0 6,[zt X2,.int .i64 er],fr t 8 69]→er≠0→(Ib p t0 s.outs s).2=er→Bk W X2 40 zeroCells→Below w.heap.size w W→Q0 .ret ⟨t,[]⟩ W)
  (t:Array Value) (i:Nat) (c:Aa) (v1 v2 v3:Value) (rows:List Bm) (W:zW) (ht:t=fj [[gd t 0,gd t 1,.int .i64 t0,zt X0,zt X1,gd t 5,zt X2,.int .i64 0,gd t 8,zt G,.int .i64 (i:Int)],fr t 11 66]) (hi:i≤n) (hW:LoS lo G p s t0 Wb i c v1 v2 v3 rows W):
  (Code.loop Atk).wp Tryz.prog Q0 ⟨t,[]⟩ W:=by
 refine wp_loop (Anq lo X0 X1 X2 G n oc oa p p1 p2 p3 q1 q2 q3 s t0 w Wb) (fun a _=>n - (intOf (a.tmps.getD 10 undef)).toNat) ⟨t,i,c,v1,v2,v3,rows,ht,hi,hW,rfl⟩ ?_;clear ht hi hW t i c v1 v2 v3 rows W;rintro a' wr ⟨t,i,c,v1,v2,v3,rows,ht,hi,hR,rfl⟩;obtain⟨u,rfl⟩:=Ab9 ht;clear ht;have HEND:=zh hend;have HRET:=zh hret;have HPS:=zh hps;have HN:=zh hn;have HIN:=zh hIn;have HX2:=zh (zi hX2 hwX);clear hend hret hps hIn hX2 hwX
 conv=>arg 2;whnf
 have n1:=(HIN.out _ hR.below).outs;by_cases hlt:i < n
 ·have hlt2:i < s.outs.length:=by omega
  have hj2:(i:Int) < (n:Int):=by omega
  obtain⟨ob,oo,rfl,_,_,hc⟩:=Bf Dx (by decide) (HIN.out _ hR.below).row hlt2;obtain⟨e0,e1,e2,e3,e4,e5,e6,e7⟩:=Gd (wr:=wr) (b:=ob) (o:=oo) (k:=i) (x:=s.outs[i]) hc;have HRR:=zh hR;have HSK:=zh (fun h=>hR.at_.skip hlt2 h);have HBK:=zh (fun h1 h2=>hR.at_.back hlt2 h1 h2);have HST:=zh (fun h1 h2=>hR.at_.stop hlt2 h1 h2);have HR:Hid (∀t:Array Value,∀(i':Nat)(c:Aa)(v1 v2 v3:Value)(rows:List Bm),i'=i+1→t=fj [[gd t 0,gd t 1,.int .i64 t0,zt X0,zt X1,gd t 5,zt X2,.int .i64 0,gd t 8,zt G,.int .i64 (i':Int)],fr t 11 66]→∀W,LoS lo G p s t0 Wb (i+1) c v1 v2 v3 rows W→Anq lo X0 X1 X2 G n oc (some ⟨ob,oo,none⟩) p p1 p2 p3 q1 q2 q3 s t0 w Wb ⟨t,[]⟩ W):=
   zh fun t i' c v1 v2 v3 rows hi' ht W hW=>⟨t,i',c,v1,v2,v3,rows,ht,by omega,by rw[hi'];exact hW,rfl⟩
  have HOB:Hid (ob < wr.heap.size):=zh (lt_of_cell e0);have HE0:=zh e0;have HN1:=zh n1;clear hc hR e2 e3 e4 e5 e6 e7;generalize s.outs[i]=x at *;by_cases hx:x.bg=t0
  ·have bx:(x.bg != t0)=false:=by simp[hx]
   have HX:=zh hx;clear hx;go_upto_region 11 with fail
   clear e0 e1 n1;obtain⟨a1,c1,rfl,_⟩:=Ae HRR.out.st.held.ready;obtain⟨a2,c2,rfl,hc2⟩:=Ae HRR.out.st.held.outs;obtain⟨a3,c3,rfl,_⟩:=Ae HRR.out.st.held.ae;have hrr:=HRR.out.at_.right;have HS:Hid (∀W',Below wr.heap.size wr W'→((zM W' X0 0 (.slice p1 p.aj.length q1)∧zM W' X0 1 (.slice p2 p.ag.length q2)∧zM W' X0 2 (.slice p3 p.binds.length q3))∧zM W' X1 1 (.slice (some ⟨ob,oo,none⟩) n oc)∧zM W' ob (oo+i * 8) (.int .i64 x.tag)∧(zM W' G 0 (.slice a1 c.ready.length c1)∧zM W' G 1 (.slice a2 c.outs.length c2)∧zM W' G 2 (.slice a3 c.ae.length c3)∧zM W' G 3 (.int .i64 c.ah)∧zM W' G 4 (.int .i64 c.af)∧zM W' G 5 (.int .i64 c.aw)∧zM W' G 6 (.int .i64 c.ar)∧zM W' G 7 (.int .i64 c.dropped)))):=zh fun W' hW=>by
    have h1:=HIN.out _ (HRR.out.below.trans (hW.mono HRR.out.st.size));have h2:=HRR.out.st.since hW;exact⟨h1.bz,h1.outs,(hW.cell (p:=⟨ob,_,none⟩) HOB.out).trans HE0.out,h2.box.cell 0,h2.box.cell 1,h2.box.cell 2,h2.box.cell 3,h2.box.cell 4,h2.box.cell 5,h2.box.cell 6,h2.box.cell 7⟩
   have HCALL:Hid (∀W',Below wr.heap.size wr W'→Calls Tryz.prog 68 #[.agg (zP p p1 p2 p3 q1 q2 q3),.agg (zV c a1 a2 a3 c1 c2 c3),.int .i64 x.tag,.bool true] W' (G1 (Cb p c x.tag true) (Az p c x.tag) W')):=zh fun W' hW=>by
    have h1:=HIN.out _ (HRR.out.below.trans (hW.mono HRR.out.st.size));have h2:=(HRR.out.st.since hW).held.bc.1;exact Mf p c x.tag true p1 p2 p3 a1 a2 a3 q1 q2 q3 c1 c2 c3 rows W' h1.env h1.bu HPS.out (h2.wider (Nat.zero_le _) (zn _)) hrr.small hrr.ints hc2
   clear hc2 hrr;refine Azi X0 X1 X2 G n oc ob oo i p p1 p2 p3 q1 q2 q3 t0 x.tag (Az p c x.tag) c (Cb p c x.tag true) a1 a2 a3 c1 c2 c3 wr hlt HS.out HCALL.out _ ?_ _ rfl;rintro t nb b1 b2 b3 d1 d2 d3 rows' W2 ht hk2 hh2 hb2 hnb;obtain⟨u,rfl⟩:=Atj ht;clear ht HS HCALL;have HB2:=zh (HRR.out.below.trans (hb2.mono HRR.out.st.size));have hg2:=HRR.out.st.box.below hb2 HRR.out.st.box.lt;have HRX:=zh (zi hk2 (zi hh2 (zi hg2 (hb2.size))));have HGL:=zh HRR.out.st.gl;have HSZ:=zh HRR.out.st.size;by_cases he:Az p c x.tag=0
   ·have be:(Az p c x.tag != 0)=false:=by simp[he]
    have HAT:=zh (HBK.out HX.out he);clear he;generalize Cb p c x.tag true=X at *;obtain⟨z0,z1,z2,z3,z4,z5,z6,z7,_,_,_,_,_,_,_,_,_⟩:=Af hk2;have hg3:Bk W2 G 40 (zV c a1 a2 a3 c1 c2 c3):=hg2;obtain⟨k0,k1,k2,k3,k4,k5,k6,k7,f0,f1,f2,f3,f4,f5,f6,f7,hltg⟩:=Af hg3;have hk8:=Ah.dg HRX.out.2.2.1 (ts:=[40]) (by decide) (.slice b1 X.ready.length d1) (.slice b2 X.outs.length d2) (.slice b3 X.ae.length d3) (.int .i64 X.ah) (.int .i64 X.af) (.int .i64 X.aw) (.int .i64 X.ar) (.int .i64 X.dropped);have HNX:=zh (show LoS lo G p s t0 Wb (i+1) X (.slice b1 X.ready.length d1) (.slice b2 X.outs.length d2) (.slice b3 X.ae.length d3) rows' _ from⟨HAT.out,⟨zr HSZ.out (zr HRX.out.2.2.2 (by simp)),(((((((HRX.out.2.2.1.ck 0 (.slice b1 X.ready.length d1)).ck 1 (.slice b2 X.outs.length d2)).ck 2 (.slice b3 X.ae.length d3)).ck 3 (.int .i64 X.ah)).ck 4 (.int .i64 X.af)).ck 5 (.int .i64 X.aw)).ck 6 (.int .i64 X.ar)).ck 7 (.int .i64 X.dropped),(HRX.out.2.1.kept hk8).wider HSZ.out,HGL.out⟩,Al HB2.out HGL.out _ _ _ _ _ _ _ _⟩);clear hk2 hh2 hb2 hnb hg2 hg3 hk8;go_wp2_with fail
    exact⟨HR.out _ _ _ _ _ _ _ rfl rfl _ HNX.out,by simp[intOf];omega⟩
   ·have be:(Az p c x.tag != 0)=true:=by simp[he]
    have HE:=zh (zi he (by rw[(HST.out HX.out he).1]:(Ib p t0 s.outs s).2=Az p c x.tag));clear he hk2 hh2 hb2 hnb hg2;obtain⟨k0,k1,k2,k3,k4,k5,k6,k7,f0,f1,f2,f3,f4,f5,f6,f7,hltg⟩:=Af (HIN.out _ HB2.out).zero;go_wp2_with fail
    exact HRET.out _ _ _ rfl HE.out.1 HE.out.2 (Um (HIN.out _ HB2.out).zero) (Al (HIN.out _ HB2.out).below HX2.out.2 _ _ _ _ _ _ _ _)
  ·have bx:(x.bg != t0)=true:=by simp[hx]
   have HNX:=zh (show LoS lo G p s t0 Wb (i+1) c v1 v2 v3 rows wr from⟨HSK.out hx,HRR.out.st,HRR.out.below⟩);clear hx;go_wp2_with fail
   exact⟨HR.out _ _ _ _ _ _ _ rfl rfl _ HNX.out,by simp[intOf];omega⟩
 ·obtain rfl:i=n:=by omega
  have hj3:¬ (i:Int) < (i:Int):=by omega
  have HF:=zh hR;clear hR;go_wp2_with fail
  exact HEND.out _ i _ _ _ _ _ _ rfl HF.out
theorem Vq(p:Ab)(s:Aa)(t0:Int)(ht0: -9223372036854775808≤t0∧t0≤9223372036854775807)(p1 p2 p3 a1 a2 a3:zZ)(q1 q2 q3 c1 c2 c3:Nat)(rows:List Bm)(w:zW)(hE:Env w)(hp:Au w 0 w.heap.size p1 p2 p3 p)(hps:Ai p)(hs:Av w 0 w.heap.size a1 a2 a3 rows s)(hss:Ap s)(hsi:A9 s):
  Calls Tryz.prog 66 #[Ay p p1 p2 p3 q1 q2 q3,Ad s a1 a2 a3 c1 c2 c3,.int .i64 t0] w (G1 (De p s t0) (Bv p s t0) w):=by
 have HPQ:=zh hp;have hbx:=Cj q1 q2 q3 c1 c2 c3 hE hp hs 26 40;unfold Ag at hbx;unfold Ad Ay Ag;have htl:=hss.ae;have HPS:=zh hps;have HSS:=zh hss;have HSI:=zh hsi;clear hE hp hs hps hss hsi;go_enter Tryz.func66,Tryz.ntmps66
 obtain⟨⟨m0,m1,m2⟩,⟨n0,n1,n2,n3,n4,n5,n6,n7⟩,_,_,_,_⟩:=hbx _ ((zb _ _).alloc (zn _) (.cells zO 40));go_wp2_with fail
 clear m0 m1 m2 n0 n1 n2 n3 n4 n5 n6 n7;obtain⟨V0,hV0⟩:=zo ((w.alloc (.cells (zP p p1 p2 p3 q1 q2 q3) 26)).alloc (.cells (zV s a1 a2 a3 c1 c2 c3) 40));have hzV:V0.heap.size=w.heap.size+1+1:=by rw[←hV0];simp
 rw[hV0] at hbx;have HBV:=zh hbx;obtain⟨W0,hW0⟩:=zo (V0.alloc (.cells zO 40));have hbV:=zu hW0
 have HZ:Hid (W0.heap.size=w.heap.size+1+1+1):=by refine(?_:W0.heap.size=_);rw[←hW0,←hzV];simp
 have HBX:Hid (∀W,Below W0.heap.size W0 W→Me w p s p1 p2 p3 a1 a2 a3 q1 q2 q3 c1 c2 c3 rows W∧Bk W (w.heap.size+1+1) 40 zeroCells):=fun W hW=>by
  have k:Bk W0 (w.heap.size+1+1) 40 zeroCells:=by rw[←hW0];exact Bk.cg _ _ _ hzV.symm
  exact⟨HBV.out W (hbV.trans (hW.mono hbV.size)),k.below hW k.lt⟩
 rw[hV0,hW0];clear hbx hbV hzV HBV hV0 hW0;have hcall:=F5 p s p1 p2 p3 a1 a2 a3 q1 q2 q3 c1 c2 c3 rows W0 (HBX.out _ (zb _ _)).1.env (HBX.out _ (zb _ _)).1.bu HPS.out (HBX.out _ (zb _ _)).1.bc HSS.out HSI.out;unfold Ad Ay Ag at hcall;refine hcall.mono ?_;clear hcall;rintro e W1 ⟨rfl,hb1⟩;have HB1:=zh hb1;clear hb1;by_cases hc:Am p s=0
 ·have b1:(Am p s != 0)=false:=by simp[hc]
  have HC:=zh hc;have HRT:=zh (Cv.1 hc);have hmany:=HRT.out.many;have hwr:IntKind.i64.wrap ((s.ae.length:Int) - 1)=(s.ae.length:Int) - 1:=IntWalk.i64_in _ (by omega);have n2:=(HBX.out _ HB1.out).1.state.2.2.1;have HLE:Hid (Bv p s t0=if Ij s t0 then 5 else (Ib p t0 s.outs s).2):=zh (by unfold Bv;rw[zq (by rw[hc];decide)]);have h5:Hid (Ij s t0→De p s t0=Bd∧Bv p s t0=5):=zh fun h=>by
   have e:Bv p s t0=5:=by rw[HLE.out,zp h]
   exact⟨by unfold De;rw[zq (by rw[e];decide)],e⟩
  clear hc;by_cases hin:0≤t0∧t0≤(s.ae.length:Int) - 1
  ·obtain⟨k,rfl⟩:=Int.eq_ofNat_of_zero_le hin.1
   have hkl:k < s.ae.length:=by omega
   have hta:Ni s (k:Int)=s.ae[k]:=by unfold Ni;rw[Int.toNat_natCast,zG hkl];rfl
   have h4:=Ma HRT.out (zG hkl);have hin2:(decide (0≤(k:Int)) && decide ((k:Int)≤(s.ae.length:Int) - 1))=true:=by simp;omega
   obtain⟨tb,tt,rfl,_,htb,htc⟩:=Bf Dg (by decide) (HBX.out _ HB1.out).1.bc.ae hkl;have c0:W1.cell? ⟨tb,tt+k * 2,none⟩=some (.int .i64 s.ae[k].queue):=by simpa using htc 0 _ rfl
   have hkj:(k:Int) < (s.ae.length:Int):=by omega
   by_cases hq:s.ae[k].queue= -1
   ·have bq:(s.ae[k].queue == -1)=true:=by simp[hq]
    have HY:=zh (h5.out (.inr (.inr (by rw[hta];omega))));clear hta htc h4 hq h5 HLE;generalize s.ae[k]=tk at *;go_wp2_with fail
    refine(Cc (k:Int) 0 ((s.ae.length:Int) - 1) W1).mono ?_;rw[hin2];rintro e W2 ⟨rfl,rfl⟩;obtain⟨k0,k1,k2,k3,k4,k5,k6,k7,f0,f1,f2,f3,f4,f5,f6,f7,hlt⟩:=Af (HBX.out _ HB1.out).2;go_wp2_with fail
    refine bodyPost_ret (v:= .tuple #[Ad Bd none none none 0 0 0,.int .i64 5]) (by simp[results,Tryz.results66,go_sem,Ad,Ag,Bd,k0,k1,k2,k3,k4,k5,k6,k7,hlt]) rfl ?_;exact⟨none,none,none,0,0,0,[],by rw[HY.out.1,HY.out.2],by rw[HY.out.1];exact Dm _ _,Al (HBX.out _ HB1.out).1.below (by omega) _ _ _ _ _ _ _ _⟩
   ·have bq:(s.ae[k].queue == -1)=false:=by simp[hq]
    have hno:¬ Ij s (k:Int):=by unfold Ij;rw[hta];omega
    have HLL:Hid (Bv p s (k:Int)=(Ib p (k:Int) s.outs s).2):=zh (by rw[HLE.out,zq hno]);have HLS:Hid (∀c,Fo p s (k:Int) s.outs.length c→Bv p s (k:Int)=0∧De p s (k:Int)= { c with ae:=c.ae.set k ⟨-1,s.ae[k].cf⟩ }):=zh fun c hc=>by
     have h0:Bv p s (k:Int)=0:=by rw[HLL.out,hc.end_.1]
     refine⟨h0,?_⟩;unfold De Qv;rw[zp h0,hc.end_.1,hta,Int.toNat_natCast,hc.ae]
    clear hta htc h4 hq h5 HLE hno;generalize hTK:s.ae[k]=tk at *;go_wp2_with fail
    refine(Cc (k:Int) 0 ((s.ae.length:Int) - 1) W1).mono ?_;rw[hin2];rintro e W2 ⟨rfl,rfl⟩;obtain⟨n0,n1,n2,n3,n4,n5,n6,n7⟩:=(HBX.out _ HB1.out).1.state;go_wp2_with fail
    have hcall:=Ke s a1 a2 (some ⟨tb,tt,none⟩) c1 c2 c3 rows W1 (HBX.out _ HB1.out).1.bc HSS.out;unfold Ad Ag at hcall;refine hcall.mono ?_;clear hcall n0 n1 n2 n3 n4 n5 n6 n7 c0;rintro e W5 ⟨v1,v2,v3,rows5,rfl,ho5,hb5⟩;unfold Ey;obtain⟨W6,hW6⟩:=zo (W5.alloc (.cells #[v1,v2,v3,.int .i64 s.ah,.int .i64 s.af,.int .i64 s.aw,.int .i64 s.ar,.int .i64 s.dropped] 40));have kb6:Bk W6 W5.heap.size 40 (Ey s v1 v2 v3):=by rw[←hW6];exact Bk.new _ _ _
    have hal6:=zu hW6
    have h16:Below W1.heap.size W1 W6:=hb5.trans (hal6.mono hb5.size);have HB6:=zm HB1 h16;have HLO:=zh (zr (HBX.out _ (zb _ _)).1.below.size HB1.out.size);have HR6:=zh (show Ed W6 W1.heap.size W5.heap.size v1 v2 v3 rows5 s from⟨h16.size,kb6,(ho5.below hal6).held,hb5.size⟩);have HIN:Hid (∀W,Below W1.heap.size W6 W→A0e w.heap.size (w.heap.size+1) (w.heap.size+1+1) s.outs.length c2 a2 p p1 p2 p3 q1 q2 q3 s w W):=zh fun W hW=>by
     have h1:=HBX.out W (HB6.out.trans (hW.mono HB1.out.size));exact⟨h1.1.bz,h1.1.state.2.1,h1.1.bc.outs,h1.1.env,h1.1.bu,h1.2,h1.1.below⟩
    obtain⟨A1,C1,rfl,_⟩:=Ae ho5.ready;obtain⟨A2,C2,rfl,_⟩:=Ae ho5.outs;obtain⟨A3,C3,rfl,_⟩:=Ae ho5.ae;clear ho5 hb5 kb6 hal6 h16;go_wp2_with fail
    clear hW6;refine Aws W1.heap.size w.heap.size (w.heap.size+1) (w.heap.size+1+1) W5.heap.size s.outs.length c2 a2 p p1 p2 p3 q1 q2 q3 s (k:Int) w W6 rfl HSS.out.outs HPS.out (by have:=HB1.out.size;have:=HZ.out;omega) (by omega) HIN.out _ ?_ ?_ _ 0 s _ _ _ rows5 W6 rfl (Nat.zero_le _) ⟨Fo.start HRT.out _,HR6.out,zb _ _⟩
    ·rintro t i c u1 u2 u3 rows' W ht hL
     obtain⟨u,rfl⟩:=Ab9 ht;have hct:=hL.at_.ae;obtain⟨he0,hS0⟩:=HLS.out c hL.at_;have HY:=zh (zi hS0 he0);have hkc:k < c.ae.length:=by rw[hct];exact hkl
     obtain⟨B3,D3,rfl,_⟩:=Ae hL.st.held.ae;obtain⟨g4,rfl⟩:=Fs hL.st.held.ae (by omega);obtain⟨⟨k0,f0,l0⟩,hgone,hbg⟩:=hL.st.gone hkc;have htk:c.ae[k]=tk:=by rw[←hTK];simp only[hct]
     rw[htk] at hgone k0;have n2:=hL.st.box.cell 2;simp only[Ey,zI,zJ,zK] at n2;have hkc2:(k:Int) < (c.ae.length:Int):=by omega
     obtain⟨W8,hW8⟩:=zo (W.setCell ⟨g4,k * 2,none⟩ (.int .i64 (-1)));rw[hW8] at hgone hbg;have HB8:=zh (HB6.out.trans ((hL.below.trans hbg).mono HB1.out.size));obtain⟨X,hX⟩:∃X:Aa,({ c with ae:=c.ae.set k ⟨-1,tk.cf⟩ } :Aa)=X:=⟨_,rfl⟩;have HX:=zh hX;rw[hX] at hgone;obtain⟨w1,w2,w3,h8⟩:∃w1 w2 w3,Ed W8 W1.heap.size W5.heap.size w1 w2 w3 rows' X:=⟨_,_,_,hgone⟩;clear ht hgone hbg hL htk hct he0 hS0 hkc hX;go_upto_region 16 with fail
     clear k0 f0 l0 n2 hW8 hkc2;obtain⟨A1,C1,rfl,_⟩:=Ae h8.held.ready;obtain⟨A2,C2,rfl,_⟩:=Ae h8.held.outs;obtain⟨A3,C3,rfl,_⟩:=Ae h8.held.ae;have g0:=h8.box.cell 0;have g1:=h8.box.cell 1;have g2:=h8.box.cell 2;have g3:=h8.box.cell 3;have g4:=h8.box.cell 4;have g5:=h8.box.cell 5;have g6:=h8.box.cell 6;have g7:=h8.box.cell 7;simp only[Ey,zI,zJ,zK] at g0 g1 g2 g3 g4 g5 g6 g7;have HH8:=zh h8;clear h8;have hzk:=(HBX.out _ HB8.out).2;have HZS:=zh hzk;unfold zeroCells at hzk;obtain⟨k0,k1,k2,k3,k4,k5,k6,k7,f0,f1,f2,f3,f4,f5,f6,f7,hlt⟩:=Af hzk;clear hzk;go_wp2_with fail
     refine bodyPost_ret (v:= .tuple #[.agg (zV X A1 A2 A3 C1 C2 C3),.int .i64 0]) (by simp[results,Tryz.results66,go_sem,k0,k1,k2,k3,k4,k5,k6,k7,hlt]) rfl ?_;have hfin:=(HH8.out.held.kept (Ah.dg HZS.out (ts:=[40]) (by decide) (.slice A1 X.ready.length C1) (.slice A2 X.outs.length C2) (.slice A3 X.ae.length C3) (.int .i64 X.ah) (.int .i64 X.af) (.int .i64 X.aw) (.int .i64 X.ar) (.int .i64 X.dropped)));refine⟨A1,A2,A3,C1,C2,C3,_,(by rw[HY.out.1,HX.out,HY.out.2];rfl),(by rw[HY.out.1,HX.out];exact hfin.wider HLO.out),Al (HBX.out _ HB8.out).1.below (by omega) _ _ _ _ _ _ _ _⟩
    ·rintro t er W ht he hl hz hb
     obtain⟨u,rfl⟩:=Atl ht;have e2:Bv p s (k:Int)=er:=by rw[HLL.out,hl]
     have HY:=zh (zi (show De p s (k:Int)=Bd by unfold De;rw[zq (by rw[e2];exact he)]) e2);have HB:=zh hb;have hzk:=hz;unfold zeroCells at hzk;obtain⟨k0,k1,k2,k3,k4,k5,k6,k7,f0,f1,f2,f3,f4,f5,f6,f7,hlt⟩:=Af hzk;clear hzk ht he hl hz hb e2;go_wp2_with fail
     refine bodyPost_ret (v:= .tuple #[Ad Bd none none none 0 0 0,.int .i64 er]) (by simp[results,Tryz.results66,go_sem,Ad,Ag,Bd,k0,k1,k2,k3,k4,k5,k6,k7,hlt]) rfl ?_;exact⟨none,none,none,0,0,0,[],by rw[HY.out.1,HY.out.2],by rw[HY.out.1];exact Dm _ _,HB.out⟩
  ·have HY:=zh (h5.out (by unfold Ij;omega))
   have hin2:(decide (0≤t0) && decide (t0≤(s.ae.length:Int) - 1))=false:=by
    rw[Bool.and_eq_false_iff];simp only[decide_eq_false_iff_not];omega
   clear hin h5 HLE;go_wp2_with fail
   refine(Cc t0 0 ((s.ae.length:Int) - 1) W1).mono ?_;rw[hin2];rintro e W2 ⟨rfl,rfl⟩;obtain⟨k0,k1,k2,k3,k4,k5,k6,k7,f0,f1,f2,f3,f4,f5,f6,f7,hlt⟩:=Af (HBX.out _ HB1.out).2;go_wp2_with fail
   refine bodyPost_ret (v:= .tuple #[Ad Bd none none none 0 0 0,.int .i64 5]) (by simp[results,Tryz.results66,go_sem,Ad,Ag,Bd,k0,k1,k2,k3,k4,k5,k6,k7,hlt]) rfl ?_;exact⟨none,none,none,0,0,0,[],by rw[HY.out.1,HY.out.2],by rw[HY.out.1];exact Dm _ _,Al (HBX.out _ HB1.out).1.below (by omega) _ _ _ _ _ _ _ _⟩
 ·have b1:(Am p s != 0)=true:=by simp[hc]
  have he:Bv p s t0=Am p s:=by unfold Bv;rw[zp hc]
  have HY:=zh (zi (show De p s t0=Bd by unfold De;rw[zq (by rw[he];exact hc)]) he);clear he;obtain⟨k0,k1,k2,k3,k4,k5,k6,k7,f0,f1,f2,f3,f4,f5,f6,f7,hlt⟩:=Af (HBX.out _ HB1.out).2;go_wp2_with fail
  refine bodyPost_ret (v:= .tuple #[Ad Bd none none none 0 0 0,.int .i64 (Am p s)]) (by simp[results,Tryz.results66,go_sem,Ad,Ag,Bd,k0,k1,k2,k3,k4,k5,k6,k7,hlt]) rfl ?_;exact⟨none,none,none,0,0,0,[],by rw[HY.out.1,HY.out.2],by rw[HY.out.1];exact Dm _ _,Al (HBX.out _ HB1.out).1.below (by omega) _ _ _ _ _ _ _ _⟩
end Go.Proofs.YtpkneogjdfolaaaGreatDoor
