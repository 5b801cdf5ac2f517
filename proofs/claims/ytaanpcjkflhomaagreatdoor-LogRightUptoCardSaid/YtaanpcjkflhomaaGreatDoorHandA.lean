/-
  hand.Publish, walked.
-/
import Derived.Test.YtaanpcjkflhomaaGreatDoorHandP
import Derived.Test.YtaanpcjkflhomaaGreatDoorBunS
import Derived.Test.YtaanpcjkflhomaaGreatDoorBunJ
set_option maxHeartbeats 20000000
set_option maxRecDepth 100000
set_option linter.unusedSimpArgs false
set_option linter.unusedVariables false
namespace Go.Proofs.YtaanpcjkflhomaaGreatDoor
open Go Go.RowKit
structure PuR (lo B:Nat) (vq vw:Value) (key body:ByteArray) (ys:List Int) (W0:World) (i:Nat) (W:World):Prop where
 own:W.ownsRow lo 140 4 vw ((ys.take i).map (Jp key body)).length (((ys.take i).map (Jp key body)).flatMap Bm)
 ints:Ch W B vq ys
 below:Below lo W0 W
theorem Avk {p:Ab} {s:Aa} {x:Int} {key body:ByteArray} {err:Int} (h:Bt p s x key body=err) (h0:err≠0) (w W:World) (hb:Below w.heap.size w W):Lu (Cl p s x key body) (E0 p s x key body) (Bt p s x key body) w (.returned (.tuple #[Ac Ay none none none 0 0 0,.int .i64 0,.int .i64 err])) W:=by
 have h1:Cl p s x key body=Ay:=by unfold Cl;rw[if_neg (by omega)]
 have h2:E0 p s x key body=0:=by unfold E0;rw[if_neg (by omega)]
 rw[h1,h2,h]
 exact⟨none,none,none,0,0,0,[],rfl,Ki _ _ _,hb⟩
theorem Mp {w:World} {lo hi g:Nat} {a1 a2 a3:Option Addr} {rows:List Bq} {s:Aa} (h:Ax w lo hi a1 a2 a3 rows s) (hg:g < lo) (u0 u1 u2 u3 u4 u5 u6 u7:Value):
  Ax ((((((((w.setCell ⟨g,0,none⟩ u0).setCell ⟨g,1,none⟩ u1).setCell ⟨g,2,none⟩ u2).setCell ⟨g,3,none⟩ u3).setCell ⟨g,4,none⟩ u4).setCell ⟨g,5,none⟩ u5).setCell ⟨g,6,none⟩ u6).setCell ⟨g,7,none⟩ u7) lo hi a1 a2 a3 rows s:=
 ((((((((h.away (p:=⟨g,0,none⟩) (.inl hg) u0).away (p:=⟨g,1,none⟩) (.inl hg) u1).away (p:=⟨g,2,none⟩) (.inl hg) u2).away (p:=⟨g,3,none⟩) (.inl hg) u3).away (p:=⟨g,4,none⟩) (.inl hg) u4).away (p:=⟨g,5,none⟩) (.inl hg) u5).away (p:=⟨g,6,none⟩) (.inl hg) u6).away (p:=⟨g,7,none⟩) (.inl hg) u7)
def pu_T (X0 X1 X2 Cq i:Nat) (vw:Value) (Aq:Option Addr) (ys:List Int) (key body:ByteArray) (t:Array Value):Array Value:= #[t.getD 0 undef,t.getD 1 undef,t.getD 2 undef,.string key,.string body,.pointer (some ⟨X0,0,none⟩),.pointer (some ⟨X1,0,none⟩),t.getD 7 undef,t.getD 8 undef,t.getD 9 undef,.pointer (some ⟨X2,0,none⟩),t.getD 11 undef,t.getD 12 undef,t.getD 13 undef,t.getD 14 undef,t.getD 15 undef,vw,t.getD 17 undef,t.getD 18 undef,t.getD 19 undef,t.getD 20 undef,t.getD 21 undef,t.getD 22 undef,t.getD 23 undef,t.getD 24 undef,t.getD 25 undef,t.getD 26 undef,t.getD 27 undef,t.getD 28 undef,t.getD 29 undef,t.getD 30 undef,t.getD 31 undef,t.getD 32 undef,t.getD 33 undef,t.getD 34 undef,t.getD 35 undef,t.getD 36 undef,t.getD 37 undef,t.getD 38 undef,t.getD 39 undef,t.getD 40 undef,t.getD 41 undef,t.getD 42 undef,.slice Aq ys.length Cq,.int .i64 (ys.length:Int),.int .i64 (i:Int),t.getD 46 undef,t.getD 47 undef,t.getD 48 undef,t.getD 49 undef,t.getD 50 undef,t.getD 51 undef,t.getD 52 undef,t.getD 53 undef,t.getD 54 undef,t.getD 55 undef,t.getD 56 undef,t.getD 57 undef,t.getD 58 undef,t.getD 59 undef,t.getD 60 undef,t.getD 61 undef,t.getD 62 undef,t.getD 63 undef,t.getD 64 undef,t.getD 65 undef,t.getD 66 undef,t.getD 67 undef,t.getD 68 undef,t.getD 69 undef,t.getD 70 undef,t.getD 71 undef]
theorem Amu {X0 X1 X2 Cq i:Nat} {vw:Value} {Aq:Option Addr} {ys:List Int} {key body:ByteArray} {t:Array Value} (h:t=(pu_T X0 X1 X2 Cq i vw Aq ys key body t)):∃u:Nat→Value,t= #[u 0,u 1,u 2,.string key,.string body,.pointer (some ⟨X0,0,none⟩),.pointer (some ⟨X1,0,none⟩),u 7,u 8,u 9,.pointer (some ⟨X2,0,none⟩),u 11,u 12,u 13,u 14,u 15,vw,u 17,u 18,u 19,u 20,u 21,u 22,u 23,u 24,u 25,u 26,u 27,u 28,u 29,u 30,u 31,u 32,u 33,u 34,u 35,u 36,u 37,u 38,u 39,u 40,u 41,u 42,.slice Aq ys.length Cq,.int .i64 (ys.length:Int),.int .i64 (i:Int),u 46,u 47,u 48,u 49,u 50,u 51,u 52,u 53,u 54,u 55,u 56,u 57,u 58,u 59,u 60,u 61,u 62,u 63,u 64,u 65,u 66,u 67,u 68,u 69,u 70,u 71]:=⟨fun i=>t.getD i undef,h⟩
noncomputable def Axi:Code:=Ik Tryz.f81 0
def Asr (X0 X1 X2 lo B Cq:Nat) (Aq:Option Addr) (key body:ByteArray) (ys:List Int) (W0:World) (a:Act) (wr:World):Prop:=
 ∃(t:Array Value) (i:Nat) (vw:Value),t=(pu_T X0 X1 X2 Cq i vw Aq ys key body t)∧i≤ys.length∧PuR lo B (.slice Aq ys.length Cq) vw key body ys W0 i wr∧a=⟨t,[]⟩
theorem Avj (X0 X1 X2 lo B Cq:Nat) (Aq:Option Addr) (key body:ByteArray) (ys:List Int) (hys:ys.length≤100) (W0:World) (hlw:lo≤W0.heap.size) (Q0:Exit→Act→World→Prop)
  (hend:∀(t:Array Value) (i:Nat) (vw:Value) (W:World),t=(pu_T X0 X1 X2 Cq i vw Aq ys key body t)→PuR lo B (.slice Aq ys.length Cq) vw key body ys W0 ys.length W→Q0 (.exit 0) ⟨t,[]⟩ W) (t:Array Value) (i:Nat) (vw:Value) (W:World) (ht:t=(pu_T X0 X1 X2 Cq i vw Aq ys key body t)) (hi:i≤ys.length) (hW:PuR lo B (.slice Aq ys.length Cq) vw key body ys W0 i W):
  (Code.loop Axi).wp Tryz.prog Q0 ⟨t,[]⟩ W:=by
 refine wp_loop (Asr X0 X1 X2 lo B Cq Aq key body ys W0) (fun a _=>ys.length - (intOf (a.tmps.getD 45 undef)).toNat) ⟨t,i,vw,ht,hi,hW,rfl⟩ ?_
 clear ht hi hW t i vw W
 rintro a' wr ⟨t,i,vw,ht,hi,hR,rfl⟩
 obtain⟨u,rfl⟩:=Amu ht
 clear ht
 have HEND:=zh hend
 clear hend
 conv=>arg 2;whnf
 by_cases hlt:i < ys.length
 ·obtain⟨hO,hI,hB⟩:=hR
  have hj2:(i:Int) < (ys.length:Int):=by omega
  obtain⟨gb,ob,rfl,_,_⟩:=M0 (Mx hI).2 hlt
  have htk:ys.take (i+1)=ys.take i++[ys[i]]:=by rw[List.take_add_one,zG hlt];rfl
  have hyi:=Vy hI (zG hlt)
  generalize ys[i]=y at *
  obtain⟨L,hL⟩:∃L,(ys.take i).map (Jp key body)=L:=⟨_,rfl⟩
  have hlen:L.length≤100:=by rw[←hL];simp;omega
  rw[hL] at hO
  obtain⟨A0,C0,rfl,_⟩:=Ad hO
  have hle:lo≤wr.heap.size:=Nat.le_trans hlw hB.size
  obtain⟨W5,hW5⟩:∃W5,wr.alloc (.cells #[.int .i64 y,.string key,.string body,.int .i64 0] 140)=W5:=⟨_,rfl⟩
  have hb5:Below wr.heap.size wr W5:=by rw[←hW5];exact(zb _ _).alloc (zn _) _
  have hl5:Sl W5 0 W5.heap.size (some ⟨wr.heap.size,0,none⟩) ([Jp key body y].flatMap Bm):=by
   rw[←hW5]
   exact(Sl.new wr ([Jp key body y].flatMap Bm) 140 (wr.heap.size+1) (by omega)).wider (Nat.zero_le _) (by simp)
  have hO5:=own_below hO hb5
  obtain⟨v6,W6,hr6,ho6,hg6⟩:=Nt W5 lo _ L [Jp key body y] (some ⟨wr.heap.size,0,none⟩) 1 0 W5.heap.size hO5 hl5 (by simp;omega) (Nat.le_trans hle hb5.size) 88
  have k6:Al [140] W5 W6:=Al.grown hO5 hg6 (by simp)
  have HN:Hid (PuR lo B (.slice (some ⟨gb,ob,none⟩) ys.length Cq) v6 key body ys W0 (i+1) W6):=zh (by
   have e:(ys.take (i+1)).map (Jp key body)=L++[Jp key body y]:=by rw[←hL,htk,List.map_append];rfl
   refine⟨?_,Cz (own_below hI hb5) k6 (by decide),Bl hO5 hg6 (hB.trans (hb5.mono hle)) (zn _) (Nat.le_trans hle hb5.size)⟩
   rw[e]
   exact ho6)
  have HR6:=zh hr6
  have HR:Hid (∀t:Array Value,∀(i':Nat) (vw':Value),i'=i+1→t= #[t.getD 0 undef,t.getD 1 undef,t.getD 2 undef,.string key,.string body,.pointer (some ⟨X0,0,none⟩),.pointer (some ⟨X1,0,none⟩),t.getD 7 undef,t.getD 8 undef,t.getD 9 undef,.pointer (some ⟨X2,0,none⟩),t.getD 11 undef,t.getD 12 undef,t.getD 13 undef,t.getD 14 undef,t.getD 15 undef,vw',t.getD 17 undef,t.getD 18 undef,t.getD 19 undef,t.getD 20 undef,t.getD 21 undef,t.getD 22 undef,t.getD 23 undef,t.getD 24 undef,t.getD 25 undef,t.getD 26 undef,t.getD 27 undef,t.getD 28 undef,t.getD 29 undef,t.getD 30 undef,t.getD 31 undef,t.getD 32 undef,t.getD 33 undef,t.getD 34 undef,t.getD 35 undef,t.getD 36 undef,t.getD 37 undef,t.getD 38 undef,t.getD 39 undef,t.getD 40 undef,t.getD 41 undef,t.getD 42 undef,.slice (some ⟨gb,ob,none⟩) ys.length Cq,.int .i64 (ys.length:Int),.int .i64 (i':Int),t.getD 46 undef,t.getD 47 undef,t.getD 48 undef,t.getD 49 undef,t.getD 50 undef,t.getD 51 undef,t.getD 52 undef,t.getD 53 undef,t.getD 54 undef,t.getD 55 undef,t.getD 56 undef,t.getD 57 undef,t.getD 58 undef,t.getD 59 undef,t.getD 60 undef,t.getD 61 undef,t.getD 62 undef,t.getD 63 undef,t.getD 64 undef,t.getD 65 undef,t.getD 66 undef,t.getD 67 undef,t.getD 68 undef,t.getD 69 undef,t.getD 70 undef,t.getD 71 undef]→∀W,PuR lo B (.slice (some ⟨gb,ob,none⟩) ys.length Cq) vw' key body ys W0 (i+1) W→Asr X0 X1 X2 lo B Cq (some ⟨gb,ob,none⟩) key body ys W0 ⟨t,[]⟩ W):=
   zh fun t i' vw' hi' ht W hW=>⟨t,i',vw',ht,by omega,by rw[hi'];exact hW,rfl⟩
  clear htk hO hI hB hlen hL hb5 hl5 hO5 hr6 ho6 hg6 k6 hle
  go_wp2_with (first|(at_builtin;refine Lib.wpList_append_run _ rfl _ _ _ _ rfl _ _ rfl rfl _ _ HR6.out ?_)|fail)
  exact⟨HR.out _ _ _ rfl rfl _ HN.out,by simp[intOf];omega⟩
 ·obtain rfl:i=ys.length:=by omega
  have HF:=zh hR
  clear hR
  go_wp2
  exact HEND.out _ ys.length _ _ rfl HF.out
theorem Un (p:Ab) (s:Aa) (x:Int) (key body:ByteArray) (p1 p2 p3 a1 a2 a3:Option Addr) (q1 q2 q3 c1 c2 c3:Nat) (rows:List Bq) (w:World) (hE:Env w) (hp:Az w 0 w.heap.size p1 p2 p3 p) (hps:Ai p) (hs:Ax w 0 w.heap.size a1 a2 a3 rows s) (hss:Am s) (hsi:Ba s)
  (hkey:key.size≤1048576) (hbody:body.size≤1048576) (hx: -9223372036854775808≤x∧x≤9223372036854775807):
  Calls Tryz.prog 81 #[Bc p p1 p2 p3 q1 q2 q3,Ac s a1 a2 a3 c1 c2 c3,.int .i64 x,.string key,.string body] w (Lu (Cl p s x key body) (E0 p s x key body) (Bt p s x key body) w):=by
 have hbx:=B9 q1 q2 q3 c1 c2 c3 hE hp hs 26 31
 unfold Ag at hbx
 unfold Ac Bc Ag
 have htl:=hss.takers
 have HPS:=zh hps
 have HSS:=zh hss
 have HSI:=zh hsi
 clear hE hp hs hps hss hsi
 go_enter Tryz.func81,Tryz.ntmps81
 obtain⟨⟨m0,m1,m2⟩,⟨n0,n1,n2,n3,n4,n5,n6,n7⟩,_,_,_,_⟩:=hbx _ ((zb _ _).alloc (zn _) (.cells #[.slice none 0 0,.slice none 0 0,.slice none 0 0,.int .i64 0,.int .i64 0,.int .i64 0,.int .i64 0,.int .i64 0] 31))
 go_wp2_with fail
 clear m0 m1 m2 n0 n1 n2 n3 n4 n5 n6 n7
 obtain⟨V0,hV0⟩:∃V0,((w.alloc (.cells #[.slice p1 p.posts.length q1,.slice p2 p.queues.length q2,.slice p3 p.binds.length q3] 26)).alloc (.cells #[Value.slice a1 s.ready.length c1,Value.slice a2 s.outs.length c2,Value.slice a3 s.takers.length c3,Value.int IntKind.i64 s.nextSeq,Value.int IntKind.i64 s.nextTag,Value.int IntKind.i64 s.came,Value.int IntKind.i64 s.acked,Value.int IntKind.i64 s.dropped] 31))=V0:=⟨_,rfl⟩
 have hzV:V0.heap.size=w.heap.size+1+1:=by rw[←hV0];simp
 rw[hV0] at hbx
 have HBV:=zh hbx
 obtain⟨W0,hW0⟩:∃W0,V0.alloc (.cells #[.slice none 0 0,.slice none 0 0,.slice none 0 0,.int .i64 0,.int .i64 0,.int .i64 0,.int .i64 0,.int .i64 0] 31)=W0:=⟨_,rfl⟩
 have hbV:Below V0.heap.size V0 W0:=by rw[←hW0];exact(zb _ _).alloc (zn _) _
 have HZ:Hid (W0.heap.size=w.heap.size+1+1+1):=by refine(?_:W0.heap.size=_);rw[←hW0,←hzV];simp
 have HBX:Hid (∀W,Below W0.heap.size W0 W→La w p s p1 p2 p3 a1 a2 a3 q1 q2 q3 c1 c2 c3 rows W∧Bk W (w.heap.size+1+1) 31 zeroCells):=fun W hW=>by
  have k:Bk W0 (w.heap.size+1+1) 31 zeroCells:=by rw[←hW0];exact Bk.new_at _ _ _ hzV.symm
  exact⟨HBV.out W (hbV.trans (hW.mono hbV.size)),k.below hW k.lt⟩
 rw[hV0,hW0]
 clear hbx hbV hzV HBV hV0 hW0
 have HERR:Hid (∀err,Bt p s x key body=err→err≠0→∀W,Below w.heap.size w W→Lu (Cl p s x key body) (E0 p s x key body) (Bt p s x key body) w (.returned (.tuple #[Ac Ay none none none 0 0 0,.int .i64 0,.int .i64 err])) W):=fun err h h0 W hb=>Avk h h0 w W hb
 have hae:Bt p s x key body=if Ao p s≠0 then Ao p s else if Bo p x key≠0 then Bo p x key else if 12 < body.size then 1 else Bh p s (Kb p x key body):=rfl
 have HAE:=zh hae
 clear hae
 refine(Fb p s p1 p2 p3 a1 a2 a3 q1 q2 q3 c1 c2 c3 rows W0 (HBX.out _ (zb _ _)).1.env (HBX.out _ (zb _ _)).1.planAt HPS.out (HBX.out _ (zb _ _)).1.stateAt HSS.out HSI.out).mono ?_
 rintro e W1 ⟨rfl,hb1⟩
 have HB1:=zh hb1
 clear hb1
 by_cases hc:Ao p s=0
 ·have b1:(Ao p s != 0)=false:=by simp[hc]
  have HC:=zh hc
  clear hc
  obtain⟨m0,m1,m2⟩:=(HBX.out _ HB1.out).1.plan
  go_wp2_with fail
  have hcall:=Oj p x key p1 p2 p3 q1 q2 q3 W1 (HBX.out _ HB1.out).1.env (HBX.out _ HB1.out).1.planAt HPS.out hkey
  unfold Bc at hcall
  refine hcall.mono ?_
  clear hcall m0 m1 m2
  rintro e W2 ⟨v2,rfl,hi2,hb2⟩
  obtain⟨Aq,Cq,rfl,_⟩:=Ad hi2
  have HB2:=zh (HB1.out.trans (hb2.mono HB1.out.size))
  by_cases hre:Bo p x key=0
  ·have b2:(Bo p x key != 0)=false:=by simp[hre]
   have HRE:=zh hre
   clear hb2
   by_cases hbs:12 < body.size
   ·have hbsi:(12:Int) < (body.size:Int):=by omega
    have HEQ:=zh (show Bt p s x key body=1 by rw[HAE.out,if_neg (by simp[HC.out]),if_neg (by simp[HRE.out]),if_pos hbs])
    have hzk:=(HBX.out _ HB2.out).2
    unfold zeroCells at hzk
    obtain⟨k0,k1,k2,k3,k4,k5,k6,k7,f0,f1,f2,f3,f4,f5,f6,f7,hlt⟩:=Af hzk
    clear hzk
    go_wp2_with fail
    refine bodyPost_ret (v:= .tuple #[Ac Ay none none none 0 0 0,.int .i64 0,.int .i64 1]) (by simp[results,Tryz.results81,go_sem,Ac,Ag,Ay,k0,k1,k2,k3,k4,k5,k6,k7,hlt]) rfl
     (HERR.out _ HEQ.out (by decide) _ (Ak (HBX.out _ HB2.out).1.below (by omega) _ _ _ _ _ _ _ _))
   ·have hbsi:¬ (12:Int) < (body.size:Int):=by omega
    have hfew:=K6 (p:=p) (x:=x) (key:=key)
    have HPL:Hid ((Cv p x key).map (Jp key body)=Kb p x key body):=zh rfl
    have HSM:=zh (Aad (p:=p) (x:=x) hkey hbody)
    have HPLN:=zh (Ah2 p x key body)
    have HHN:Hid (Bt p s x key body=Bh p s (Kb p x key body)):=zh (by rw[HAE.out,if_neg (by simp[HC.out]),if_neg (by simp[HRE.out]),if_neg (by omega)])
    have HPN:Hid (Bt p s x key body=0→E0 p s x key body=((Cv p x key).length:Int)∧Cl p s x key body=Cu p s (Kb p x key body)):=zh fun h=>⟨by unfold E0;rw[if_pos h],by unfold Cl;rw[if_pos h]⟩
    have hll:=hfew.1
    have HI2:=zh hi2
    clear hfew hi2 hre
    generalize Cv p x key=ys at *
    simp only[List.length_map] at *
    go_wp2_with fail
    refine Avj w.heap.size (w.heap.size+1) (w.heap.size+1+1) W2.heap.size _ Cq Aq key body ys (by omega) W2 (zn _) _ ?_ _ 0 (.slice none 0 0) W2 rfl (Nat.zero_le _) ⟨World.ownsRow_nil _ _ _ _,HI2.out,zb _ _⟩
    rintro t i vw W3 ht ⟨hO,hI,hb3⟩
    obtain⟨u,rfl⟩:=Amu ht
    rw[List.take_length,HPL.out] at hO
    obtain⟨al,cl,rfl,hlc⟩:=Ad hO
    have HB3:=zh (HB2.out.trans (hb3.mono HB2.out.size))
    have HCALL:=zh (Rc p s (Kb p x key body) p1 p2 p3 a1 a2 a3 al q1 q2 q3 c1 c2 c3 cl rows W3 (HBX.out _ HB3.out).1.env (HBX.out _ HB3.out).1.planAt HPS.out (HBX.out _ HB3.out).1.stateAt HSS.out HSI.out ((SlT.of_own hO).sl.wider (Nat.zero_le _) (zn _)) (by rw[HPLN.out];omega) HSM.out)
    clear ht hO hI hb3
    obtain⟨⟨m0,m1,m2⟩,⟨n0,n1,n2,n3,n4,n5,n6,n7⟩,_,_,_,_⟩:=(HBX.out _ HB3.out).1
    go_wp2_with fail
    have hcall:=HCALL.out
    unfold Ac Bc Ag at hcall
    refine hcall.mono ?_
    clear hcall HCALL m0 m1 m2 n0 n1 n2 n3 n4 n5 n6 n7
    rintro e W5 ⟨x1,x2,x3,xc1,xc2,xc3,rx,rfl,hs5,hb5⟩
    unfold Ac Ag
    have HB5:=zh (HB3.out.trans (hb5.mono HB3.out.size))
    obtain⟨X,hX⟩:∃X,Cu p s (Kb p x key body)=X:=⟨_,rfl⟩
    rw[hX] at hs5 HPN
    rw[hX]
    go_upto_region 16 with fail
    obtain⟨W6,hW6⟩:∃W6,W5.alloc (.cells #[.slice x1 X.ready.length xc1,.slice x2 X.outs.length xc2,.slice x3 X.takers.length xc3,.int .i64 X.nextSeq,.int .i64 X.nextTag,.int .i64 X.came,.int .i64 X.acked,.int .i64 X.dropped] 31)=W6:=⟨_,rfl⟩
    have hb6:Below W5.heap.size W5 W6:=by rw[←hW6];exact(zb _ _).alloc (zn _) _
    have kb6:Bk W6 W5.heap.size 31 #[.slice x1 X.ready.length xc1,.slice x2 X.outs.length xc2,.slice x3 X.takers.length xc3,.int .i64 X.nextSeq,.int .i64 X.nextTag,.int .i64 X.came,.int .i64 X.acked,.int .i64 X.dropped]:=by rw[←hW6];exact Bk.new _ _ _
    have hs6:=hs5.below hb6 (zn _)
    have HB6:=zh (HB5.out.trans (hb6.mono HB5.out.size))
    have HS6:=zh (And.intro hs6 (And.intro hb5.size hb6.size))
    have HK6:=zh kb6
    rw[hW6]
    clear hs5 hb5 hb6 kb6 hs6 hW6 hX
    by_cases har:Bh p s (Kb p x key body)=0
    ·have b3:(Bh p s (Kb p x key body) != 0)=false:=by simp[har]
     have HOK:=zh (show Bt p s x key body=0 by rw[HHN.out];exact har)
     have HPN:=zh (HPN.out HOK.out)
     clear har
     have hzk:=(HBX.out _ HB6.out).2
     have HZS:=zh hzk
     unfold zeroCells at hzk
     obtain⟨k0,k1,k2,k3,k4,k5,k6,k7,f0,f1,f2,f3,f4,f5,f6,f7,hlt⟩:=Af hzk
     clear hzk
     obtain⟨g0,g1,g2,g3,g4,g5,g6,g7⟩:=Jl HK6.out
     have HLO:=zh (show w.heap.size+1+1 < W3.heap.size from by have:=HB3.out.size;have:=HZ.out;omega)
     go_wp2_with fail
     refine bodyPost_ret (v:= .tuple #[.agg #[.slice x1 X.ready.length xc1,.slice x2 X.outs.length xc2,.slice x3 X.takers.length xc3,.int .i64 X.nextSeq,.int .i64 X.nextTag,.int .i64 X.came,.int .i64 X.acked,.int .i64 X.dropped],.int .i64 (ys.length:Int),.int .i64 0]) (by simp[results,Tryz.results81,go_sem,k0,k1,k2,k3,k4,k5,k6,k7,hlt,HPLN.out]) rfl ?_
     rw[HPN.out.1,HPN.out.2,HOK.out]
     exact⟨x1,x2,x3,xc1,xc2,xc3,rx,rfl,((Mp HS6.out.1 HLO.out _ _ _ _ _ _ _ _).wider (by have:=HLO.out;omega) (by have:=HS6.out.2.2;simpa using this)),Ak (HBX.out _ HB6.out).1.below (by omega) _ _ _ _ _ _ _ _⟩
    ·have b3:(Bh p s (Kb p x key body) != 0)=true:=by simp[har]
     have hzk:=(HBX.out _ HB6.out).2
     unfold zeroCells at hzk
     obtain⟨k0,k1,k2,k3,k4,k5,k6,k7,f0,f1,f2,f3,f4,f5,f6,f7,hlt⟩:=Af hzk
     clear hzk
     go_wp2_with fail
     refine bodyPost_ret (v:= .tuple #[Ac Ay none none none 0 0 0,.int .i64 0,.int .i64 (Bh p s (Kb p x key body))]) (by simp[results,Tryz.results81,go_sem,Ac,Ag,Ay,k0,k1,k2,k3,k4,k5,k6,k7,hlt]) rfl
      (HERR.out _ HHN.out har _ (Ak (HBX.out _ HB6.out).1.below (by omega) _ _ _ _ _ _ _ _))
  ·have b2:(Bo p x key != 0)=true:=by simp[hre]
   have HEQ:=zh (show Bt p s x key body=Bo p x key by rw[HAE.out,if_neg (by simp[HC.out]),if_pos hre])
   have hzk:=(HBX.out _ HB2.out).2
   unfold zeroCells at hzk
   obtain⟨k0,k1,k2,k3,k4,k5,k6,k7,f0,f1,f2,f3,f4,f5,f6,f7,hlt⟩:=Af hzk
   clear hzk
   go_wp2_with fail
   refine bodyPost_ret (v:= .tuple #[Ac Ay none none none 0 0 0,.int .i64 0,.int .i64 (Bo p x key)]) (by simp[results,Tryz.results81,go_sem,Ac,Ag,Ay,k0,k1,k2,k3,k4,k5,k6,k7,hlt]) rfl
    (HERR.out _ HEQ.out hre _ (Ak (HBX.out _ HB2.out).1.below (by omega) _ _ _ _ _ _ _ _))
 ·have b1:(Ao p s != 0)=true:=by simp[hc]
  have HEQ:=zh (show Bt p s x key body=Ao p s by rw[HAE.out,if_pos hc])
  have hzk:=(HBX.out _ HB1.out).2
  unfold zeroCells at hzk
  obtain⟨k0,k1,k2,k3,k4,k5,k6,k7,f0,f1,f2,f3,f4,f5,f6,f7,hlt⟩:=Af hzk
  clear hzk
  go_wp2_with fail
  refine bodyPost_ret (v:= .tuple #[Ac Ay none none none 0 0 0,.int .i64 0,.int .i64 (Ao p s)]) (by simp[results,Tryz.results81,go_sem,Ac,Ag,Ay,k0,k1,k2,k3,k4,k5,k6,k7,hlt]) rfl
   (HERR.out _ HEQ.out hc _ (Ak (HBX.out _ HB1.out).1.below (by omega) _ _ _ _ _ _ _ _))
end Go.Proofs.YtaanpcjkflhomaaGreatDoor
