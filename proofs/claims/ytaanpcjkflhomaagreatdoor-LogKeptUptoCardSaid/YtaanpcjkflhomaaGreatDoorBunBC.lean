/-
  The plain law of what is handed in. No program in sight.
-/
import Derived.Test.YtaanpcjkflhomaaGreatDoorBunR
import Derived.Test.YtaanpcjkflhomaaGreatDoorBunS
import Derived.Test.YtaanpcjkflhomaaGreatDoorBunJ
import Derived.Test.YtaanpcjkflhomaaGreatDoorBunBB
set_option maxHeartbeats 20000000
set_option maxRecDepth 100000
set_option linter.unusedSimpArgs false
set_option linter.unusedVariables false
namespace Go.Proofs.YtaanpcjkflhomaaGreatDoor
def Jp (key body:ByteArray) (q:Int):Aj:=⟨q,key,body,0⟩
def Kb (p:Ab) (x:Int) (key body:ByteArray):List Aj:=(Cv p x key).map (Jp key body)
def Bt (p:Ab) (s:Aa) (x:Int) (key body:ByteArray):Int:=
 if Ao p s≠0 then Ao p s else if Bo p x key≠0 then Bo p x key else if 12 < body.size then 1 else Bh p s (Kb p x key body)
def Cl (p:Ab) (s:Aa) (x:Int) (key body:ByteArray):Aa:=if Bt p s x key body=0 then Cu p s (Kb p x key body) else Ay
def E0 (p:Ab) (s:Aa) (x:Int) (key body:ByteArray):Int:=if Bt p s x key body=0 then ((Cv p x key).length:Int) else 0
theorem Ry {p:Ab} {s:Aa} {x:Int} {key body:ByteArray} (h:Bt p s x key body=0):Ao p s=0∧Bo p x key=0∧body.size≤12∧Bh p s (Kb p x key body)=0:=by
 unfold Bt at h
 split at h
 ·rename_i h1;exact absurd h h1
 ·rename_i h1
  split at h
  ·rename_i h2;exact absurd h h2
  ·rename_i h2
   split at h
   ·cases h
   ·rename_i h3
    exact⟨Decidable.not_not.1 h1,Decidable.not_not.1 h2,by omega,h⟩
theorem K6 {p:Ab} {x:Int} {key:ByteArray} :(Cv p x key).length≤4∧((Cv p x key).Pairwise (· < ·))∧∀q∈Cv p x key,0≤q∧q < 4∧q < (p.ag.length:Int):=by
 unfold Cv
 split
 ·rename_i h
  obtain⟨hr,k,rfl,hk,_⟩:=Hf h;refine⟨Ys hr hk,Sz _ _ _,fun q hq=> ?_⟩;have:=Ye hr hk hq;have:=hr.ag;omega
 ·exact⟨Nat.zero_le _,List.Pairwise.nil,fun q hq=>by cases hq⟩
theorem Ah2 (p:Ab) (x:Int) (key body:ByteArray):(Kb p x key body).length=(Cv p x key).length:=by unfold Kb;rw[List.length_map]
theorem Aad {p:Ab} {x:Int} {key body:ByteArray} (hk:key.size≤1048576) (hb:body.size≤1048576):∀a∈Kb p x key body,Hy a:=fun a ha=>by
 obtain⟨q,hq,rfl⟩:=List.mem_map.1 ha;have:=K6.2.2 q hq;exact⟨hk,hb,by show -9223372036854775808≤q∧q≤9223372036854775807;omega,by show -9223372036854775808≤(0:Int)∧(0:Int)≤9223372036854775807;omega⟩
def Vi (n:Int) (l:List Ap):List Ap:=if (l.length:Int)≤n then l else l.drop 1
structure Ak8 (p:Ab) (s:Aa) (Q:List Int) (key body:ByteArray) (n:Nat) (c:Aa×List Aj):Prop where
 wait:c.2=(Q.drop n).map (Jp key body)
 aw:∀q:Int,0≤q→q∈Q.take n→∃sq,s.ah≤sq∧Ah c.1 q=Vi (Bu p q).bm (Ah s q++[⟨sq,key,body,false,0⟩])
 same:∀q:Int,0≤q→q∉Q.take n→Ah c.1 q=Ah s q
theorem Ak8.next {p:Ab} {s s1:Aa} {Q:List Int} {key body:ByteArray} {n:Nat} {l L:List Aj} (hd:∀q:Int,(Bu p q).dead < 0) (hQ:Q.Pairwise (· < ·)) (hQ0:∀q∈Q,0≤q) (hn:n < Q.length) (h:Ak8 p s Q key body n (s1,L)) (hr:Hz p s l n (s1,L)):
  Ak8 p s Q key body (n+1) (G2 p (s1,L)):=by
 have hw:=h.wait;simp only at hw;subst hw;have hdrop:Q.drop n=Q[n]::Q.drop (n+1):=List.drop_eq_getElem_cons hn;have htake:Q.take (n+1)=Q.take n++[Q[n]]:=zj hn;have hqn:0≤Q[n]:=hQ0 _ (zg hn);have hnew:Q[n]∉Q.take n:=fun hm=>by
  obtain⟨i,hi,he⟩:=List.getElem_of_mem hm;rw[List.getElem_take] at he;have hin:i < n:=by rw[List.length_take] at hi;omega
  have:=List.pairwise_iff_getElem.1 hQ i n (by omega) hn hin;omega
 rw[hdrop,List.map_cons] at hr⊢;have hR:Cs p s1:=hr.ok.right;have hq:=hr.ok.wait _ List.mem_cons_self;have hql:Q[n].toNat < s1.ready.length:=by have:=hR.len;have h2:=hq.queue;simp only[Jp] at h2;omega
 have hseq:=hr.seq;simp only at hseq;have hpush:Bs (Ah (F7 s1) Q[n]) (Cj s1 (Jp key body Q[n]))=Ah s1 Q[n]++[Cj s1 (Jp key body Q[n])]:=Uh fun y hy=>Sy hR Q[n] y hy;have hold:=h.same Q[n] hqn hnew;simp only at hold;have hdie:∀x,E9 p Q[n] x=[]:=fun x=>by unfold E9;rw[zp (.inl (hd _))]
 have hlay:∃s2,Ek p (F7 s1) Q[n] (Cj s1 (Jp key body Q[n]))=(s2,[])∧s2.ready=s1.ready.set Q[n].toNat (Vi (Bu p Q[n]).bm (Ah s Q[n]++[⟨s1.ah,key,body,false,0⟩])):=by
  unfold Ek;rw[hpush,hold];by_cases hc:((Ah s Q[n]++[Cj s1 (Jp key body Q[n])]).length:Int)≤(Bu p Q[n]).bm
  ·rw[zp hc]
   refine⟨_,rfl,?_⟩
   show _=s1.ready.set Q[n].toNat (Vi (Bu p Q[n]).bm (Ah s Q[n]++[Cj s1 (Jp key body Q[n])]))
   unfold Vi;rw[zp hc];rfl
  ·rw[zq hc,hdie]
   refine⟨_,rfl,?_⟩
   show _=s1.ready.set Q[n].toNat (Vi (Bu p Q[n]).bm (Ah s Q[n]++[Cj s1 (Jp key body Q[n])]))
   unfold Vi;rw[zq hc];rfl
 obtain⟨s2,h2,hs2⟩:=hlay;have hstep:G2 p (s1,Jp key body Q[n]::(Q.drop (n+1)).map (Jp key body))=(s2,(Q.drop (n+1)).map (Jp key body)):=by
  show((Ek p (F7 s1) Q[n] (Cj s1 (Jp key body Q[n]))).1,_++(Ek p (F7 s1) Q[n] (Cj s1 (Jp key body Q[n]))).2)=_
  rw[h2,List.append_nil]
 rw[hstep];refine⟨rfl,fun q h0 hm=> ?_,fun q h0 hm=> ?_⟩
 ·simp only
  rw[Qf hs2 hql];by_cases e:q.toNat=Q[n].toNat
  ·have eq:q=Q[n]:=by omega
   subst eq;rw[zp rfl];exact⟨s1.ah,by omega,rfl⟩
  ·rw[zq e]
   rw[htake,List.mem_append,List.mem_singleton] at hm;rcases hm with hm|hm
   ·exact h.aw q h0 hm
   ·exact absurd (congrArg Int.toNat hm) e
 ·simp only
  rw[htake,List.mem_append,List.mem_singleton,not_or] at hm;rw[Qf hs2 hql,zq (fun e=>hm.2 (by omega))];exact h.same q h0 hm.1
theorem Q3 {p:Ab} {s:Aa} {x:Int} {key body:ByteArray} (h:Bt p s x key body=0):Cs p (Cl p s x key body):=by
 unfold Cl;rw[zp h];exact Sg (Ry h).2.2.2
open Go Go.RowKit
structure PuR (lo B:Nat) (vq vw:Value) (key body:ByteArray) (ys:List Int) (W0:World) (i:Nat) (W:World):Prop where
 own:W.ownsRow lo 140 4 vw ((ys.take i).map (Jp key body)).length (((ys.take i).map (Jp key body)).flatMap Bm)
 ints:Ch W B vq ys
 below:Below lo W0 W
theorem Avk {p:Ab} {s:Aa} {x:Int} {key body:ByteArray} {err:Int} (h:Bt p s x key body=err) (h0:err≠0) (w W:World) (hb:Below w.heap.size w W):Lu (Cl p s x key body) (E0 p s x key body) (Bt p s x key body) w (.returned (.tuple #[Ac Ay none none none 0 0 0,.int .i64 0,.int .i64 err])) W:=by
 have h1:Cl p s x key body=Ay:=by unfold Cl;rw[zq (by omega)]
 have h2:E0 p s x key body=0:=by unfold E0;rw[zq (by omega)]
 rw[h1,h2,h];exact⟨none,none,none,0,0,0,[],rfl,Ki _ _ _,hb⟩
theorem Mp {w:World} {lo hi g:Nat} {a1 a2 a3:Option Addr} {rows:List Bq} {s:Aa} (h:Ax w lo hi a1 a2 a3 rows s) (hg:g < lo) (u0 u1 u2 u3 u4 u5 u6 u7:Value):
  Ax ((((((((w.setCell ⟨g,0,none⟩ u0).setCell ⟨g,1,none⟩ u1).setCell ⟨g,2,none⟩ u2).setCell ⟨g,3,none⟩ u3).setCell ⟨g,4,none⟩ u4).setCell ⟨g,5,none⟩ u5).setCell ⟨g,6,none⟩ u6).setCell ⟨g,7,none⟩ u7) lo hi a1 a2 a3 rows s:=
 ((((((((h.df (p:=⟨g,0,none⟩) (.inl hg) u0).df (p:=⟨g,1,none⟩) (.inl hg) u1).df (p:=⟨g,2,none⟩) (.inl hg) u2).df (p:=⟨g,3,none⟩) (.inl hg) u3).df (p:=⟨g,4,none⟩) (.inl hg) u4).df (p:=⟨g,5,none⟩) (.inl hg) u5).df (p:=⟨g,6,none⟩) (.inl hg) u6).df (p:=⟨g,7,none⟩) (.inl hg) u7)
def pu_T (X0 X1 X2 Cq i:Nat) (vw:Value) (Aq:Option Addr) (ys:List Int) (key body:ByteArray) (t:Array Value):Array Value:=fj [[gd t 0,gd t 1,gd t 2,.string key,.string body,.pointer (some ⟨X0,0,none⟩),.pointer (some ⟨X1,0,none⟩),gd t 7,gd t 8,gd t 9,.pointer (some ⟨X2,0,none⟩)],fr t 11 5,[vw],fr t 17 26,[.slice Aq ys.length Cq,.int .i64 (ys.length:Int),.int .i64 (i:Int)],fr t 46 26]
theorem Amu {X0 X1 X2 Cq i:Nat} {vw:Value} {Aq:Option Addr} {ys:List Int} {key body:ByteArray} {t:Array Value} (h:t=(pu_T X0 X1 X2 Cq i vw Aq ys key body t)):∃u:Nat→Value,t= #[u 0,u 1,u 2,.string key,.string body,.pointer (some ⟨X0,0,none⟩),.pointer (some ⟨X1,0,none⟩),u 7,u 8,u 9,.pointer (some ⟨X2,0,none⟩),u 11,u 12,u 13,u 14,u 15,vw,u 17,u 18,u 19,u 20,u 21,u 22,u 23,u 24,u 25,u 26,u 27,u 28,u 29,u 30,u 31,u 32,u 33,u 34,u 35,u 36,u 37,u 38,u 39,u 40,u 41,u 42,.slice Aq ys.length Cq,.int .i64 (ys.length:Int),.int .i64 (i:Int),u 46,u 47,u 48,u 49,u 50,u 51,u 52,u 53,u 54,u 55,u 56,u 57,u 58,u 59,u 60,u 61,u 62,u 63,u 64,u 65,u 66,u 67,u 68,u 69,u 70,u 71]:=⟨fun i=>t.getD i undef,h⟩
noncomputable def Axi:Code:=Ik Tryz.f81 0
def Asr (X0 X1 X2 lo B Cq:Nat) (Aq:Option Addr) (key body:ByteArray) (ys:List Int) (W0:World) (a:Act) (wr:World):Prop:=
 ∃(t:Array Value) (i:Nat) (vw:Value),t=(pu_T X0 X1 X2 Cq i vw Aq ys key body t)∧i≤ys.length∧PuR lo B (.slice Aq ys.length Cq) vw key body ys W0 i wr∧a=⟨t,[]⟩
theorem Avj (X0 X1 X2 lo B Cq:Nat) (Aq:Option Addr) (key body:ByteArray) (ys:List Int) (hys:ys.length≤100) (W0:World) (hlw:lo≤W0.heap.size) (Q0:Exit→Act→World→Prop)
  (hend:∀(t:Array Value) (i:Nat) (vw:Value) (W:World),t=(pu_T X0 X1 X2 Cq i vw Aq ys key body t)→PuR lo B (.slice Aq ys.length Cq) vw key body ys W0 ys.length W→Q0 (.exit 0) ⟨t,[]⟩ W) (t:Array Value) (i:Nat) (vw:Value) (W:World) (ht:t=(pu_T X0 X1 X2 Cq i vw Aq ys key body t)) (hi:i≤ys.length) (hW:PuR lo B (.slice Aq ys.length Cq) vw key body ys W0 i W):
  (Code.loop Axi).wp Tryz.prog Q0 ⟨t,[]⟩ W:=by
 refine wp_loop (Asr X0 X1 X2 lo B Cq Aq key body ys W0) (fun a _=>ys.length - (intOf (a.tmps.getD 45 undef)).toNat) ⟨t,i,vw,ht,hi,hW,rfl⟩ ?_;clear ht hi hW t i vw W;rintro a' wr ⟨t,i,vw,ht,hi,hR,rfl⟩;obtain⟨u,rfl⟩:=Amu ht;clear ht;have HEND:=zh hend;clear hend
 conv=>arg 2;whnf
 by_cases hlt:i < ys.length
 ·obtain⟨hO,hI,hB⟩:=hR
  have hj2:(i:Int) < (ys.length:Int):=by omega
  obtain⟨gb,ob,rfl,_,_⟩:=M0 (Mx hI).2 hlt;have htk:ys.take (i+1)=ys.take i++[ys[i]]:=by rw[List.take_add_one,zG hlt];rfl
  have hyi:=Vy hI (zG hlt);generalize ys[i]=y at *;obtain⟨L,hL⟩:∃L,(ys.take i).map (Jp key body)=L:=⟨_,rfl⟩;have hlen:L.length≤100:=by rw[←hL];simp;omega
  rw[hL] at hO;obtain⟨A0,C0,rfl,_⟩:=Ad hO;have hle:lo≤wr.heap.size:=zr hlw hB.size;obtain⟨W5,hW5⟩:∃W5,wr.alloc (.cells #[.int .i64 y,.string key,.string body,.int .i64 0] 140)=W5:=⟨_,rfl⟩;have hb5:Below wr.heap.size wr W5:=by rw[←hW5];exact(zb _ _).alloc (zn _) _
  have hl5:Sl W5 0 W5.heap.size (some ⟨wr.heap.size,0,none⟩) ([Jp key body y].flatMap Bm):=by
   rw[←hW5];exact(Sl.new wr ([Jp key body y].flatMap Bm) 140 (wr.heap.size+1) (by omega)).wider (Nat.zero_le _) (by simp)
  have hO5:=own_below hO hb5;obtain⟨v6,W6,hr6,ho6,hg6⟩:=Nt W5 lo _ L [Jp key body y] (some ⟨wr.heap.size,0,none⟩) 1 0 W5.heap.size hO5 hl5 (by simp;omega) (zr hle hb5.size) 88;have k6:Al [140] W5 W6:=Al.grown hO5 hg6 (by simp);have HN:Hid (PuR lo B (.slice (some ⟨gb,ob,none⟩) ys.length Cq) v6 key body ys W0 (i+1) W6):=zh (by
   have e:(ys.take (i+1)).map (Jp key body)=L++[Jp key body y]:=by rw[←hL,htk,List.map_append];rfl
   refine⟨?_,Cz (own_below hI hb5) k6 (by decide),Bl hO5 hg6 (hB.trans (hb5.mono hle)) (zn _) (zr hle hb5.size)⟩;rw[e];exact ho6)
  have HR6:=zh hr6;have HR:Hid (∀t:Array Value,∀(i':Nat) (vw':Value),i'=i+1→t= #[gd t 0,gd t 1,gd t 2,.string key,.string body,.pointer (some ⟨X0,0,none⟩),.pointer (some ⟨X1,0,none⟩),gd t 7,gd t 8,gd t 9,.pointer (some ⟨X2,0,none⟩),gd t 11,gd t 12,gd t 13,gd t 14,gd t 15,vw',gd t 17,gd t 18,gd t 19,gd t 20,gd t 21,gd t 22,gd t 23,gd t 24,gd t 25,gd t 26,gd t 27,gd t 28,gd t 29,gd t 30,gd t 31,gd t 32,gd t 33,gd t 34,gd t 35,gd t 36,gd t 37,gd t 38,gd t 39,gd t 40,gd t 41,gd t 42,.slice (some ⟨gb,ob,none⟩) ys.length Cq,.int .i64 (ys.length:Int),.int .i64 (i':Int),gd t 46,gd t 47,gd t 48,gd t 49,gd t 50,gd t 51,gd t 52,gd t 53,gd t 54,gd t 55,gd t 56,gd t 57,gd t 58,gd t 59,gd t 60,gd t 61,gd t 62,gd t 63,gd t 64,gd t 65,gd t 66,gd t 67,gd t 68,gd t 69,gd t 70,gd t 71]→∀W,PuR lo B (.slice (some ⟨gb,ob,none⟩) ys.length Cq) vw' key body ys W0 (i+1) W→Asr X0 X1 X2 lo B Cq (some ⟨gb,ob,none⟩) key body ys W0 ⟨t,[]⟩ W):=
   zh fun t i' vw' hi' ht W hW=>⟨t,i',vw',ht,by omega,by rw[hi'];exact hW,rfl⟩
  clear htk hO hI hB hlen hL hb5 hl5 hO5 hr6 ho6 hg6 k6 hle;go_wp2_with (first|(at_builtin;refine Lib.wpList_append_run _ rfl _ _ _ _ rfl _ _ rfl rfl _ _ HR6.out ?_)|fail)
  exact⟨HR.out _ _ _ rfl rfl _ HN.out,by simp[intOf];omega⟩
 ·obtain rfl:i=ys.length:=by omega
  have HF:=zh hR;clear hR
  go_wp2
  exact HEND.out _ ys.length _ _ rfl HF.out
theorem Ass {p:Ab} {s:Aa} {x:Int} {key body:ByteArray} {err:Int} (h:Bt p s x key body=err) (h0:err≠0) (w W:World) (hb:Below w.heap.size w W):Kl (Cl p s x key body) (E0 p s x key body) (Bt p s x key body) w (.returned (.tuple #[Ac Ay none none none 0 0 0,.int .i64 0,.int .i64 err])) W:=by
 have h1:Cl p s x key body=Ay:=by unfold Cl;rw[zq (by omega)]
 have h2:E0 p s x key body=0:=by unfold E0;rw[zq (by omega)]
 rw[h1,h2,h];exact⟨none,none,none,0,0,0,[],rfl,Dx _ _,hb⟩
theorem Publish_held (p:Ab) (s:Aa) (x:Int) (key body:ByteArray) (p1 p2 p3 a1 a2 a3:Option Addr) (q1 q2 q3 c1 c2 c3:Nat) (rows:List Bq) (w:World) (hE:Env w) (hp:Az w 0 w.heap.size p1 p2 p3 p) (hps:Ai p) (hs:Ax w 0 w.heap.size a1 a2 a3 rows s) (hss:Am s) (hsi:Ba s)
  (hkey:key.size≤1048576) (hbody:body.size≤1048576) (hx: -9223372036854775808≤x∧x≤9223372036854775807):
  Calls Tryz.prog 81 #[Bc p p1 p2 p3 q1 q2 q3,Ac s a1 a2 a3 c1 c2 c3,.int .i64 x,.string key,.string body] w (Kl (Cl p s x key body) (E0 p s x key body) (Bt p s x key body) w):=by
 have hbx:=B9 q1 q2 q3 c1 c2 c3 hE hp hs 26 31;unfold Ag at hbx;unfold Ac Bc Ag;have htl:=hss.ae;have HPS:=zh hps;have HSS:=zh hss;have HSI:=zh hsi;clear hE hp hs hps hss hsi;go_enter Tryz.func81,Tryz.ntmps81
 obtain⟨⟨m0,m1,m2⟩,⟨n0,n1,n2,n3,n4,n5,n6,n7⟩,_,_,_,_⟩:=hbx _ ((zb _ _).alloc (zn _) (.cells zO 31));go_wp2_with fail
 clear m0 m1 m2 n0 n1 n2 n3 n4 n5 n6 n7;obtain⟨V0,hV0⟩:∃V0,((w.alloc (.cells (zP p p1 p2 p3 q1 q2 q3) 26)).alloc (.cells (zV s a1 a2 a3 c1 c2 c3) 31))=V0:=⟨_,rfl⟩;have hzV:V0.heap.size=w.heap.size+1+1:=by rw[←hV0];simp
 rw[hV0] at hbx;have HBV:=zh hbx;obtain⟨W0,hW0⟩:∃W0,V0.alloc (.cells zO 31)=W0:=⟨_,rfl⟩;have hbV:Below V0.heap.size V0 W0:=by rw[←hW0];exact(zb _ _).alloc (zn _) _
 have HZ:Hid (W0.heap.size=w.heap.size+1+1+1):=by refine(?_:W0.heap.size=_);rw[←hW0,←hzV];simp
 have HBX:Hid (∀W,Below W0.heap.size W0 W→La w p s p1 p2 p3 a1 a2 a3 q1 q2 q3 c1 c2 c3 rows W∧Bk W (w.heap.size+1+1) 31 zeroCells):=fun W hW=>by
  have k:Bk W0 (w.heap.size+1+1) 31 zeroCells:=by rw[←hW0];exact Bk.cg _ _ _ hzV.symm
  exact⟨HBV.out W (hbV.trans (hW.mono hbV.size)),k.below hW k.lt⟩
 rw[hV0,hW0];clear hbx hbV hzV HBV hV0 hW0;have HERR:Hid (∀err,Bt p s x key body=err→err≠0→∀W,Below w.heap.size w W→Kl (Cl p s x key body) (E0 p s x key body) (Bt p s x key body) w (.returned (.tuple #[Ac Ay none none none 0 0 0,.int .i64 0,.int .i64 err])) W):=fun err h h0 W hb=>Ass h h0 w W hb;have hae:Bt p s x key body=if Ao p s≠0 then Ao p s else if Bo p x key≠0 then Bo p x key else if 12 < body.size then 1 else Bh p s (Kb p x key body):=rfl
 have HAE:=zh hae;clear hae;refine(Fb p s p1 p2 p3 a1 a2 a3 q1 q2 q3 c1 c2 c3 rows W0 (HBX.out _ (zb _ _)).1.env (HBX.out _ (zb _ _)).1.bu HPS.out (HBX.out _ (zb _ _)).1.bc HSS.out HSI.out).mono ?_;rintro e W1 ⟨rfl,hb1⟩;have HB1:=zh hb1;clear hb1;by_cases hc:Ao p s=0
 ·have b1:(Ao p s != 0)=false:=by simp[hc]
  have HC:=zh hc;clear hc;obtain⟨m0,m1,m2⟩:=(HBX.out _ HB1.out).1.bz;go_wp2_with fail
  have hcall:=Oj p x key p1 p2 p3 q1 q2 q3 W1 (HBX.out _ HB1.out).1.env (HBX.out _ HB1.out).1.bu HPS.out hkey;unfold Bc at hcall;refine hcall.mono ?_;clear hcall m0 m1 m2;rintro e W2 ⟨v2,rfl,hi2,hb2⟩;obtain⟨Aq,Cq,rfl,_⟩:=Ad hi2;have HB2:=zh (HB1.out.trans (hb2.mono HB1.out.size));by_cases hre:Bo p x key=0
  ·have b2:(Bo p x key != 0)=false:=by simp[hre]
   have HRE:=zh hre;clear hb2;by_cases hbs:12 < body.size
   ·have hbsi:(12:Int) < (body.size:Int):=by omega
    have HEQ:=zh (show Bt p s x key body=1 by rw[HAE.out,zq (by simp[HC.out]),zq (by simp[HRE.out]),zp hbs]);have hzk:=(HBX.out _ HB2.out).2;unfold zeroCells at hzk;obtain⟨k0,k1,k2,k3,k4,k5,k6,k7,f0,f1,f2,f3,f4,f5,f6,f7,hlt⟩:=Af hzk;clear hzk;go_wp2_with fail
    refine bodyPost_ret (v:= .tuple #[Ac Ay none none none 0 0 0,.int .i64 0,.int .i64 1]) (by simp[results,Tryz.results81,go_sem,Ac,Ag,Ay,k0,k1,k2,k3,k4,k5,k6,k7,hlt]) rfl
     (HERR.out _ HEQ.out (by decide) _ (Ak (HBX.out _ HB2.out).1.below (by omega) _ _ _ _ _ _ _ _))
   ·have hbsi:¬ (12:Int) < (body.size:Int):=by omega
    have hfew:=K6 (p:=p) (x:=x) (key:=key);have HPL:Hid ((Cv p x key).map (Jp key body)=Kb p x key body):=zh rfl;have HSM:=zh (Aad (p:=p) (x:=x) hkey hbody);have HPLN:=zh (Ah2 p x key body);have HHN:Hid (Bt p s x key body=Bh p s (Kb p x key body)):=zh (by rw[HAE.out,zq (by simp[HC.out]),zq (by simp[HRE.out]),zq (by omega)]);have HPN:Hid (Bt p s x key body=0→E0 p s x key body=((Cv p x key).length:Int)∧Cl p s x key body=Cu p s (Kb p x key body)):=zh fun h=>⟨by unfold E0;rw[zp h],by unfold Cl;rw[zp h]⟩;have hll:=hfew.1;have HI2:=zh hi2;clear hfew hi2 hre;generalize Cv p x key=ys at *;simp only[List.length_map] at *;go_wp2_with fail
    refine Avj w.heap.size (w.heap.size+1) (w.heap.size+1+1) W2.heap.size _ Cq Aq key body ys (by omega) W2 (zn _) _ ?_ _ 0 (.slice none 0 0) W2 rfl (Nat.zero_le _) ⟨World.ownsRow_nil _ _ _ _,HI2.out,zb _ _⟩;rintro t i vw W3 ht ⟨hO,hI,hb3⟩;obtain⟨u,rfl⟩:=Amu ht;rw[List.take_length,HPL.out] at hO;obtain⟨al,cl,rfl,hlc⟩:=Ad hO;have HB3:=zh (HB2.out.trans (hb3.mono HB2.out.size));have HCALL:=zh (Letters_held p s (Kb p x key body) p1 p2 p3 a1 a2 a3 al q1 q2 q3 c1 c2 c3 cl rows W3 (HBX.out _ HB3.out).1.env (HBX.out _ HB3.out).1.bu HPS.out (HBX.out _ HB3.out).1.bc HSS.out HSI.out ((SlT.cu hO).sl.wider (Nat.zero_le _) (zn _)) (by rw[HPLN.out];omega) HSM.out);clear ht hO hI hb3;obtain⟨⟨m0,m1,m2⟩,⟨n0,n1,n2,n3,n4,n5,n6,n7⟩,_,_,_,_⟩:=(HBX.out _ HB3.out).1;go_wp2_with fail
    have hcall:=HCALL.out;unfold Ac Bc Ag at hcall;refine hcall.mono ?_;clear hcall HCALL m0 m1 m2 n0 n1 n2 n3 n4 n5 n6 n7;rintro e W5 ⟨x1,x2,x3,xc1,xc2,xc3,rx,rfl,hs5,hb5⟩;unfold Ac Ag;have HB5:=zh (HB3.out.trans (hb5.mono HB3.out.size));obtain⟨X,hX⟩:∃X,Cu p s (Kb p x key body)=X:=⟨_,rfl⟩;rw[hX] at hs5 HPN;rw[hX];go_upto_region 16 with fail
    obtain⟨W6,hW6⟩:∃W6,W5.alloc (.cells (zV X x1 x2 x3 xc1 xc2 xc3) 31)=W6:=⟨_,rfl⟩;have hb6:Below W5.heap.size W5 W6:=by rw[←hW6];exact(zb _ _).alloc (zn _) _
    have kb6:Bk W6 W5.heap.size 31 (zV X x1 x2 x3 xc1 xc2 xc3):=by rw[←hW6];exact Bk.new _ _ _
    have hs6:=hs5.kept (Al.ct (ts:=[]) hb6);have HB6:=zh (HB5.out.trans (hb6.mono HB5.out.size));have HS6:=zh (zi hs6 (zi hb5.size hb6.size));have HK6:=zh kb6;rw[hW6];clear hs5 hb5 hb6 kb6 hs6 hW6 hX;by_cases har:Bh p s (Kb p x key body)=0
    ·have b3:(Bh p s (Kb p x key body) != 0)=false:=by simp[har]
     have HOK:=zh (show Bt p s x key body=0 by rw[HHN.out];exact har);have HPN:=zh (HPN.out HOK.out);clear har;have hzk:=(HBX.out _ HB6.out).2;have HZS:=zh hzk;unfold zeroCells at hzk;obtain⟨k0,k1,k2,k3,k4,k5,k6,k7,f0,f1,f2,f3,f4,f5,f6,f7,hlt⟩:=Af hzk;clear hzk;obtain⟨g0,g1,g2,g3,g4,g5,g6,g7⟩:=Jl HK6.out;have HLO:=zh (show w.heap.size+1+1 < W3.heap.size from by have:=HB3.out.size;have:=HZ.out;omega);go_wp2_with fail
     refine bodyPost_ret (v:= .tuple #[.agg (zV X x1 x2 x3 xc1 xc2 xc3),.int .i64 (ys.length:Int),.int .i64 0]) (by simp[results,Tryz.results81,go_sem,k0,k1,k2,k3,k4,k5,k6,k7,hlt,HPLN.out]) rfl ?_;rw[HPN.out.1,HPN.out.2,HOK.out];exact⟨x1,x2,x3,xc1,xc2,xc3,rx,rfl,(HS6.out.1.kept (Al.dg HZS.out (ts:=[31]) (by decide) _ _ _ _ _ _ _ _)).wider (show w.heap.size≤W3.heap.size by have:=HLO.out;omega),Ak (HBX.out _ HB6.out).1.below (by omega) _ _ _ _ _ _ _ _⟩
    ·have b3:(Bh p s (Kb p x key body) != 0)=true:=by simp[har]
     have hzk:=(HBX.out _ HB6.out).2;unfold zeroCells at hzk;obtain⟨k0,k1,k2,k3,k4,k5,k6,k7,f0,f1,f2,f3,f4,f5,f6,f7,hlt⟩:=Af hzk;clear hzk;go_wp2_with fail
     refine bodyPost_ret (v:= .tuple #[Ac Ay none none none 0 0 0,.int .i64 0,.int .i64 (Bh p s (Kb p x key body))]) (by simp[results,Tryz.results81,go_sem,Ac,Ag,Ay,k0,k1,k2,k3,k4,k5,k6,k7,hlt]) rfl
      (HERR.out _ HHN.out har _ (Ak (HBX.out _ HB6.out).1.below (by omega) _ _ _ _ _ _ _ _))
  ·have b2:(Bo p x key != 0)=true:=by simp[hre]
   have HEQ:=zh (show Bt p s x key body=Bo p x key by rw[HAE.out,zq (by simp[HC.out]),zp hre]);have hzk:=(HBX.out _ HB2.out).2;unfold zeroCells at hzk;obtain⟨k0,k1,k2,k3,k4,k5,k6,k7,f0,f1,f2,f3,f4,f5,f6,f7,hlt⟩:=Af hzk;clear hzk;go_wp2_with fail
   refine bodyPost_ret (v:= .tuple #[Ac Ay none none none 0 0 0,.int .i64 0,.int .i64 (Bo p x key)]) (by simp[results,Tryz.results81,go_sem,Ac,Ag,Ay,k0,k1,k2,k3,k4,k5,k6,k7,hlt]) rfl
    (HERR.out _ HEQ.out hre _ (Ak (HBX.out _ HB2.out).1.below (by omega) _ _ _ _ _ _ _ _))
 ·have b1:(Ao p s != 0)=true:=by simp[hc]
  have HEQ:=zh (show Bt p s x key body=Ao p s by rw[HAE.out,zp hc]);have hzk:=(HBX.out _ HB1.out).2;unfold zeroCells at hzk;obtain⟨k0,k1,k2,k3,k4,k5,k6,k7,f0,f1,f2,f3,f4,f5,f6,f7,hlt⟩:=Af hzk;clear hzk;go_wp2_with fail
  refine bodyPost_ret (v:= .tuple #[Ac Ay none none none 0 0 0,.int .i64 0,.int .i64 (Ao p s)]) (by simp[results,Tryz.results81,go_sem,Ac,Ag,Ay,k0,k1,k2,k3,k4,k5,k6,k7,hlt]) rfl
   (HERR.out _ HEQ.out hc _ (Ak (HBX.out _ HB1.out).1.below (by omega) _ _ _ _ _ _ _ _))
theorem Un (p:Ab) (s:Aa) (x:Int) (key body:ByteArray) (p1 p2 p3 a1 a2 a3:Option Addr) (q1 q2 q3 c1 c2 c3:Nat) (rows:List Bq) (w:World) (hE:Env w) (hp:Az w 0 w.heap.size p1 p2 p3 p) (hps:Ai p) (hs:Ax w 0 w.heap.size a1 a2 a3 rows s) (hss:Am s) (hsi:Ba s)
  (hkey:key.size≤1048576) (hbody:body.size≤1048576) (hx: -9223372036854775808≤x∧x≤9223372036854775807):
  Calls Tryz.prog 81 #[Bc p p1 p2 p3 q1 q2 q3,Ac s a1 a2 a3 c1 c2 c3,.int .i64 x,.string key,.string body] w (Lu (Cl p s x key body) (E0 p s x key body) (Bt p s x key body) w):=
 (Publish_held p s x key body p1 p2 p3 a1 a2 a3 q1 q2 q3 c1 c2 c3 rows w hE hp hps hs hss hsi hkey hbody hx).mono fun _ _ h=>h.post
open Go Go.RowKit
def pg_T (X0 X1 X2 Cq i:Nat) (vw:Value) (Aq:Option Addr) (ys:List Int) (key body:ByteArray) (t:Array Value):Array Value:=fj [[gd t 0,gd t 1,gd t 2,.string key,.string body,.pointer (some ⟨X0,0,none⟩),.pointer (some ⟨X1,0,none⟩),gd t 7,gd t 8,gd t 9,.pointer (some ⟨X2,0,none⟩)],fr t 11 4,[vw,.slice Aq ys.length Cq,.int .i64 (i:Int)],fr t 18 57]
theorem Amp {X0 X1 X2 Cq i:Nat} {vw:Value} {Aq:Option Addr} {ys:List Int} {key body:ByteArray} {t:Array Value} (h:t=(pg_T X0 X1 X2 Cq i vw Aq ys key body t)):∃u:Nat→Value,t= #[u 0,u 1,u 2,.string key,.string body,.pointer (some ⟨X0,0,none⟩),.pointer (some ⟨X1,0,none⟩),u 7,u 8,u 9,.pointer (some ⟨X2,0,none⟩),u 11,u 12,u 13,u 14,vw,.slice Aq ys.length Cq,.int .i64 (i:Int),u 18,u 19,u 20,u 21,u 22,u 23,u 24,u 25,u 26,u 27,u 28,u 29,u 30,u 31,u 32,u 33,u 34,u 35,u 36,u 37,u 38,u 39,u 40,u 41,u 42,u 43,u 44,u 45,u 46,u 47,u 48,u 49,u 50,u 51,u 52,u 53,u 54,u 55,u 56,u 57,u 58,u 59,u 60,u 61,u 62,u 63,u 64,u 65,u 66,u 67,u 68,u 69,u 70,u 71,u 72,u 73,u 74]:=⟨fun i=>t.getD i undef,h⟩
noncomputable def Axh:Code:=Ik Tryz.f82 0
def Asn (X0 X1 X2 lo B Cq:Nat) (Aq:Option Addr) (key body:ByteArray) (ys:List Int) (W0:World) (a:Act) (wr:World):Prop:=
 ∃(t:Array Value) (i:Nat) (vw:Value),t=(pg_T X0 X1 X2 Cq i vw Aq ys key body t)∧i≤ys.length∧PuR lo B (.slice Aq ys.length Cq) vw key body ys W0 i wr∧a=⟨t,[]⟩
theorem Ave (X0 X1 X2 lo B Cq:Nat) (Aq:Option Addr) (key body:ByteArray) (ys:List Int) (hys:ys.length≤100) (W0:World) (hlw:lo≤W0.heap.size) (Q0:Exit→Act→World→Prop)
  (hend:∀(t:Array Value) (i:Nat) (vw:Value) (W:World),t=(pg_T X0 X1 X2 Cq i vw Aq ys key body t)→PuR lo B (.slice Aq ys.length Cq) vw key body ys W0 ys.length W→Q0 (.exit 0) ⟨t,[]⟩ W) (t:Array Value) (i:Nat) (vw:Value) (W:World) (ht:t=(pg_T X0 X1 X2 Cq i vw Aq ys key body t)) (hi:i≤ys.length) (hW:PuR lo B (.slice Aq ys.length Cq) vw key body ys W0 i W):
  (Code.loop Axh).wp Tryz.prog Q0 ⟨t,[]⟩ W:=by
 refine wp_loop (Asn X0 X1 X2 lo B Cq Aq key body ys W0) (fun a _=>ys.length - (intOf (a.tmps.getD 17 undef)).toNat) ⟨t,i,vw,ht,hi,hW,rfl⟩ ?_;clear ht hi hW t i vw W;rintro a' wr ⟨t,i,vw,ht,hi,hR,rfl⟩;obtain⟨u,rfl⟩:=Amp ht;clear ht;have HEND:=zh hend;clear hend
 conv=>arg 2;whnf
 by_cases hlt:i < ys.length
 ·obtain⟨hO,hI,hB⟩:=hR
  have hj2:(i:Int) < (ys.length:Int):=by omega
  obtain⟨gb,ob,rfl,_,_⟩:=M0 (Mx hI).2 hlt;have htk:ys.take (i+1)=ys.take i++[ys[i]]:=by rw[List.take_add_one,zG hlt];rfl
  have hyi:=Vy hI (zG hlt);generalize ys[i]=y at *;obtain⟨L,hL⟩:∃L,(ys.take i).map (Jp key body)=L:=⟨_,rfl⟩;have hlen:L.length≤100:=by rw[←hL];simp;omega
  rw[hL] at hO;obtain⟨A0,C0,rfl,_⟩:=Ad hO;have hle:lo≤wr.heap.size:=zr hlw hB.size;obtain⟨W5,hW5⟩:∃W5,wr.alloc (.cells #[.int .i64 y,.string key,.string body,.int .i64 0] 140)=W5:=⟨_,rfl⟩;have hb5:Below wr.heap.size wr W5:=by rw[←hW5];exact(zb _ _).alloc (zn _) _
  have hl5:Sl W5 0 W5.heap.size (some ⟨wr.heap.size,0,none⟩) ([Jp key body y].flatMap Bm):=by
   rw[←hW5];exact(Sl.new wr ([Jp key body y].flatMap Bm) 140 (wr.heap.size+1) (by omega)).wider (Nat.zero_le _) (by simp)
  have hO5:=own_below hO hb5;obtain⟨v6,W6,hr6,ho6,hg6⟩:=Nt W5 lo _ L [Jp key body y] (some ⟨wr.heap.size,0,none⟩) 1 0 W5.heap.size hO5 hl5 (by simp;omega) (zr hle hb5.size) 88;have k6:Al [140] W5 W6:=Al.grown hO5 hg6 (by simp);have HN:Hid (PuR lo B (.slice (some ⟨gb,ob,none⟩) ys.length Cq) v6 key body ys W0 (i+1) W6):=zh (by
   have e:(ys.take (i+1)).map (Jp key body)=L++[Jp key body y]:=by rw[←hL,htk,List.map_append];rfl
   refine⟨?_,Cz (own_below hI hb5) k6 (by decide),Bl hO5 hg6 (hB.trans (hb5.mono hle)) (zn _) (zr hle hb5.size)⟩;rw[e];exact ho6)
  have HR6:=zh hr6;have HR:Hid (∀t:Array Value,∀(i':Nat) (vw':Value),i'=i+1→t= #[gd t 0,gd t 1,gd t 2,.string key,.string body,.pointer (some ⟨X0,0,none⟩),.pointer (some ⟨X1,0,none⟩),gd t 7,gd t 8,gd t 9,.pointer (some ⟨X2,0,none⟩),gd t 11,gd t 12,gd t 13,gd t 14,vw',.slice (some ⟨gb,ob,none⟩) ys.length Cq,.int .i64 (i':Int),gd t 18,gd t 19,gd t 20,gd t 21,gd t 22,gd t 23,gd t 24,gd t 25,gd t 26,gd t 27,gd t 28,gd t 29,gd t 30,gd t 31,gd t 32,gd t 33,gd t 34,gd t 35,gd t 36,gd t 37,gd t 38,gd t 39,gd t 40,gd t 41,gd t 42,gd t 43,gd t 44,gd t 45,gd t 46,gd t 47,gd t 48,gd t 49,gd t 50,gd t 51,gd t 52,gd t 53,gd t 54,gd t 55,gd t 56,gd t 57,gd t 58,gd t 59,gd t 60,gd t 61,gd t 62,gd t 63,gd t 64,gd t 65,gd t 66,gd t 67,gd t 68,gd t 69,gd t 70,gd t 71,gd t 72,gd t 73,gd t 74]→∀W,PuR lo B (.slice (some ⟨gb,ob,none⟩) ys.length Cq) vw' key body ys W0 (i+1) W→Asn X0 X1 X2 lo B Cq (some ⟨gb,ob,none⟩) key body ys W0 ⟨t,[]⟩ W):=
   zh fun t i' vw' hi' ht W hW=>⟨t,i',vw',ht,by omega,by rw[hi'];exact hW,rfl⟩
  clear htk hO hI hB hlen hL hb5 hl5 hO5 hr6 ho6 hg6 k6 hle;go_wp2_with (first|(at_builtin;refine Lib.wpList_append_run _ rfl _ _ _ _ rfl _ _ rfl rfl _ _ HR6.out ?_)|fail)
  exact⟨HR.out _ _ _ rfl rfl _ HN.out,by simp[intOf];omega⟩
 ·obtain rfl:i=ys.length:=by omega
  have HF:=zh hR;clear hR
  go_wp2
  exact HEND.out _ ys.length _ _ rfl HF.out
theorem Re (p:Ab) (s:Aa) (x:Int) (key body:ByteArray) (p1 p2 p3 a1 a2 a3:Option Addr) (q1 q2 q3 c1 c2 c3:Nat) (rows:List Bq) (w:World) (hE:Env w) (hp:Az w 0 w.heap.size p1 p2 p3 p) (hps:Ai p) (hs:Ax w 0 w.heap.size a1 a2 a3 rows s) (hss:Am s) (hsi:Ba s)
  (hkey:key.size≤1048576) (hbody:body.size≤1048576) (hx: -9223372036854775808≤x∧x≤9223372036854775807):
  Calls Tryz.prog 82 #[Bc p p1 p2 p3 q1 q2 q3,Ac s a1 a2 a3 c1 c2 c3,.int .i64 x,.string key,.string body] w (Kl (Cl p s x key body) (E0 p s x key body) (Bt p s x key body) w):=by
 have hbx:=B9 q1 q2 q3 c1 c2 c3 hE hp hs 26 31;unfold Ag at hbx;unfold Ac Bc Ag;have htl:=hss.ae;have HPS:=zh hps;have HSS:=zh hss;have HSI:=zh hsi;clear hE hp hs hps hss hsi;go_enter Tryz.func82,Tryz.ntmps82
 obtain⟨⟨m0,m1,m2⟩,⟨n0,n1,n2,n3,n4,n5,n6,n7⟩,_,_,_,_⟩:=hbx _ ((zb _ _).alloc (zn _) (.cells zO 31));go_wp2_with fail
 clear m0 m1 m2 n0 n1 n2 n3 n4 n5 n6 n7;obtain⟨V0,hV0⟩:∃V0,((w.alloc (.cells (zP p p1 p2 p3 q1 q2 q3) 26)).alloc (.cells (zV s a1 a2 a3 c1 c2 c3) 31))=V0:=⟨_,rfl⟩;have hzV:V0.heap.size=w.heap.size+1+1:=by rw[←hV0];simp
 rw[hV0] at hbx;have HBV:=zh hbx;obtain⟨W0,hW0⟩:∃W0,V0.alloc (.cells zO 31)=W0:=⟨_,rfl⟩;have hbV:Below V0.heap.size V0 W0:=by rw[←hW0];exact(zb _ _).alloc (zn _) _
 have HZ:Hid (W0.heap.size=w.heap.size+1+1+1):=by refine(?_:W0.heap.size=_);rw[←hW0,←hzV];simp
 have HBX:Hid (∀W,Below W0.heap.size W0 W→La w p s p1 p2 p3 a1 a2 a3 q1 q2 q3 c1 c2 c3 rows W∧Bk W (w.heap.size+1+1) 31 zeroCells):=fun W hW=>by
  have k:Bk W0 (w.heap.size+1+1) 31 zeroCells:=by rw[←hW0];exact Bk.cg _ _ _ hzV.symm
  exact⟨HBV.out W (hbV.trans (hW.mono hbV.size)),k.below hW k.lt⟩
 rw[hV0,hW0];clear hbx hbV hzV HBV hV0 hW0;have HERR:Hid (∀err,Bt p s x key body=err→err≠0→∀W,Below w.heap.size w W→Kl (Cl p s x key body) (E0 p s x key body) (Bt p s x key body) w (.returned (.tuple #[Ac Ay none none none 0 0 0,.int .i64 0,.int .i64 err])) W):=fun err h h0 W hb=>Ass h h0 w W hb;have hae:Bt p s x key body=if Ao p s≠0 then Ao p s else if Bo p x key≠0 then Bo p x key else if 12 < body.size then 1 else Bh p s (Kb p x key body):=rfl
 have HAE:=zh hae;clear hae;have hcall:=Fx p s p1 p2 p3 a1 a2 a3 q1 q2 q3 c1 c2 c3 rows W0 (HBX.out _ (zb _ _)).1.env (HBX.out _ (zb _ _)).1.bu HPS.out (HBX.out _ (zb _ _)).1.bc HSS.out HSI.out;unfold Ac Bc Ag at hcall;refine hcall.mono ?_;clear hcall;rintro e W1 ⟨rfl,hb1⟩;have HB1:=zh hb1;clear hb1;by_cases hc:Ao p s=0
 ·have b1:(Ao p s != 0)=false:=by simp[hc]
  have HC:=zh hc;clear hc;obtain⟨m0,m1,m2⟩:=(HBX.out _ HB1.out).1.bz;go_wp2_with fail
  have hcall:=Rf p HPS.out x hx key hkey p1 p2 p3 q1 q2 q3 W1 (HBX.out _ HB1.out).1.bu;unfold Bc at hcall;refine hcall.mono ?_;clear hcall m0 m1 m2;rintro e W2 ⟨rfl,hb2⟩;have HB2:=zh (HB1.out.trans (hb2.mono HB1.out.size));by_cases hre:Bo p x key=0
  ·have b2:(Bo p x key != 0)=false:=by simp[hre]
   have HRE:=zh hre;clear hb2;by_cases hbs:12 < body.size
   ·have hbsi:(12:Int) < (body.size:Int):=by omega
    have HEQ:=zh (show Bt p s x key body=1 by rw[HAE.out,zq (by simp[HC.out]),zq (by simp[HRE.out]),zp hbs]);have hzk:=(HBX.out _ HB2.out).2;unfold zeroCells at hzk;obtain⟨k0,k1,k2,k3,k4,k5,k6,k7,f0,f1,f2,f3,f4,f5,f6,f7,hlt⟩:=Af hzk;clear hzk;go_wp2_with fail
    refine bodyPost_ret (v:= .tuple #[Ac Ay none none none 0 0 0,.int .i64 0,.int .i64 1]) (by simp[results,Tryz.results82,go_sem,Ac,Ag,Ay,k0,k1,k2,k3,k4,k5,k6,k7,hlt]) rfl
     (HERR.out _ HEQ.out (by decide) _ (Ak (HBX.out _ HB2.out).1.below (by omega) _ _ _ _ _ _ _ _))
   ·have hbsi:¬ (12:Int) < (body.size:Int):=by omega
    obtain⟨hr,k,rfl,hk,_⟩:=Hf hre;have hqr:Q4 p key k=Cv p k key:=by unfold Cv;rw[zp hre,Tb hr hk]
    have hcall:=Sd p hr HPS.out k hk key hkey p1 p2 p3 q1 q2 q3 W2 (HBX.out _ HB2.out).1.bu;rw[hqr] at hcall;unfold Bc at hcall;have HPK:=zh (zi hr hk);clear hqr hr hk;obtain⟨m0,m1,m2⟩:=(HBX.out _ HB2.out).1.bz;go_wp2_with fail
    refine hcall.mono ?_;clear hcall m0 m1 m2;rintro e W2 ⟨v2,rfl,hi2,hb3⟩;have HB2:=zh (HB2.out.trans (hb3.mono HB2.out.size));obtain⟨Aq,Cq,rfl,_⟩:=Ad hi2;have hfew:=K6 (p:=p) (x:=(k:Int)) (key:=key);have HPL:Hid ((Cv p (k:Int) key).map (Jp key body)=Kb p (k:Int) key body):=zh rfl;have HSM:=zh (Aad (p:=p) (x:=(k:Int)) hkey hbody);have HPLN:=zh (Ah2 p (k:Int) key body);have HHN:Hid (Bt p s (k:Int) key body=Bh p s (Kb p (k:Int) key body)):=zh (by rw[HAE.out,zq (by simp[HC.out]),zq (by simp[HRE.out]),zq (by omega)]);have HPN:Hid (Bt p s (k:Int) key body=0→E0 p s (k:Int) key body=((Cv p (k:Int) key).length:Int)∧Cl p s (k:Int) key body=Cu p s (Kb p (k:Int) key body)):=zh fun h=>⟨by unfold E0;rw[zp h],by unfold Cl;rw[zp h]⟩;have hll:=hfew.1;have HI2:=zh hi2;clear hfew hi2 hre hb3;generalize Cv p (k:Int) key=ys at *;simp only[List.length_map] at *;go_wp2_with fail
    refine Ave w.heap.size (w.heap.size+1) (w.heap.size+1+1) W2.heap.size _ Cq Aq key body ys (by omega) W2 (zn _) _ ?_ _ 0 (.slice none 0 0) W2 rfl (Nat.zero_le _) ⟨World.ownsRow_nil _ _ _ _,HI2.out,zb _ _⟩;rintro t i vw W3 ht ⟨hO,hI,hb3⟩;obtain⟨u,rfl⟩:=Amp ht;rw[List.take_length,HPL.out] at hO;obtain⟨al,cl,rfl,hlc⟩:=Ad hO;have HB3:=zh (HB2.out.trans (hb3.mono HB2.out.size));have HCALL:=zh (Rb p s (Kb p (k:Int) key body) p1 p2 p3 a1 a2 a3 al q1 q2 q3 c1 c2 c3 cl rows W3 (HBX.out _ HB3.out).1.env (HBX.out _ HB3.out).1.bu HPS.out (HBX.out _ HB3.out).1.bc HSS.out HSI.out ((SlT.cu hO).sl.wider (Nat.zero_le _) (zn _)) (by rw[HPLN.out];omega) hlc HSM.out);clear ht hO hI hb3;obtain⟨⟨m0,m1,m2⟩,⟨n0,n1,n2,n3,n4,n5,n6,n7⟩,_,_,_,_⟩:=(HBX.out _ HB3.out).1;go_wp2_with fail
    have hcall:=HCALL.out;unfold Ac Bc Ag at hcall;refine hcall.mono ?_;clear hcall HCALL m0 m1 m2 n0 n1 n2 n3 n4 n5 n6 n7;rintro e W5 ⟨x1,x2,x3,xc1,xc2,xc3,rx,rfl,hs5,hb5⟩;unfold Ac Ag;have HB5:=zh (HB3.out.trans (hb5.mono HB3.out.size));obtain⟨X,hX⟩:∃X,Cu p s (Kb p (k:Int) key body)=X:=⟨_,rfl⟩;rw[hX] at hs5 HPN;rw[hX];go_upto_region 16 with fail
    obtain⟨W6,hW6⟩:∃W6,W5.alloc (.cells (zV X x1 x2 x3 xc1 xc2 xc3) 31)=W6:=⟨_,rfl⟩;have hb6:Below W5.heap.size W5 W6:=by rw[←hW6];exact(zb _ _).alloc (zn _) _
    have kb6:Bk W6 W5.heap.size 31 (zV X x1 x2 x3 xc1 xc2 xc3):=by rw[←hW6];exact Bk.new _ _ _
    have hs6:=hs5.kept (Al.ct (ts:=[]) hb6);have HB6:=zh (HB5.out.trans (hb6.mono HB5.out.size));have HS6:=zh (zi hs6 (zi hb5.size hb6.size));have HK6:=zh kb6;rw[hW6];clear hs5 hb5 hb6 kb6 hs6 hW6 hX;by_cases har:Bh p s (Kb p (k:Int) key body)=0
    ·have b3:(Bh p s (Kb p (k:Int) key body) != 0)=false:=by simp[har]
     have HOK:=zh (show Bt p s (k:Int) key body=0 by rw[HHN.out];exact har);have HPN:=zh (HPN.out HOK.out);clear har;have hzk:=(HBX.out _ HB6.out).2;have HZS:=zh hzk;unfold zeroCells at hzk;obtain⟨k0,k1,k2,k3,k4,k5,k6,k7,f0,f1,f2,f3,f4,f5,f6,f7,hlt⟩:=Af hzk;clear hzk;obtain⟨g0,g1,g2,g3,g4,g5,g6,g7⟩:=Jl HK6.out;have HLO:=zh (show w.heap.size+1+1 < W3.heap.size from by have:=HB3.out.size;have:=HZ.out;omega);go_wp2_with fail
     refine bodyPost_ret (v:= .tuple #[.agg (zV X x1 x2 x3 xc1 xc2 xc3),.int .i64 (ys.length:Int),.int .i64 0]) (by simp[results,Tryz.results82,go_sem,k0,k1,k2,k3,k4,k5,k6,k7,hlt]) rfl ?_;rw[HPN.out.1,HPN.out.2,HOK.out];exact⟨x1,x2,x3,xc1,xc2,xc3,rx,rfl,(HS6.out.1.kept (Al.dg HZS.out (ts:=[31]) (by decide) _ _ _ _ _ _ _ _)).wider (show w.heap.size≤W3.heap.size by have:=HLO.out;omega),Ak (HBX.out _ HB6.out).1.below (by omega) _ _ _ _ _ _ _ _⟩
    ·have b3:(Bh p s (Kb p (k:Int) key body) != 0)=true:=by simp[har]
     have hzk:=(HBX.out _ HB6.out).2;unfold zeroCells at hzk;obtain⟨k0,k1,k2,k3,k4,k5,k6,k7,f0,f1,f2,f3,f4,f5,f6,f7,hlt⟩:=Af hzk;clear hzk;go_wp2_with fail
     refine bodyPost_ret (v:= .tuple #[Ac Ay none none none 0 0 0,.int .i64 0,.int .i64 (Bh p s (Kb p (k:Int) key body))]) (by simp[results,Tryz.results82,go_sem,Ac,Ag,Ay,k0,k1,k2,k3,k4,k5,k6,k7,hlt]) rfl
      (HERR.out _ HHN.out har _ (Ak (HBX.out _ HB6.out).1.below (by omega) _ _ _ _ _ _ _ _))
  ·have b2:(Bo p x key != 0)=true:=by simp[hre]
   have HEQ:=zh (show Bt p s x key body=Bo p x key by rw[HAE.out,zq (by simp[HC.out]),zp hre]);have hzk:=(HBX.out _ HB2.out).2;unfold zeroCells at hzk;obtain⟨k0,k1,k2,k3,k4,k5,k6,k7,f0,f1,f2,f3,f4,f5,f6,f7,hlt⟩:=Af hzk;clear hzk;go_wp2_with fail
   refine bodyPost_ret (v:= .tuple #[Ac Ay none none none 0 0 0,.int .i64 0,.int .i64 (Bo p x key)]) (by simp[results,Tryz.results82,go_sem,Ac,Ag,Ay,k0,k1,k2,k3,k4,k5,k6,k7,hlt]) rfl
    (HERR.out _ HEQ.out hre _ (Ak (HBX.out _ HB2.out).1.below (by omega) _ _ _ _ _ _ _ _))
 ·have b1:(Ao p s != 0)=true:=by simp[hc]
  have HEQ:=zh (show Bt p s x key body=Ao p s by rw[HAE.out,zp hc]);have hzk:=(HBX.out _ HB1.out).2;unfold zeroCells at hzk;obtain⟨k0,k1,k2,k3,k4,k5,k6,k7,f0,f1,f2,f3,f4,f5,f6,f7,hlt⟩:=Af hzk;clear hzk;go_wp2_with fail
  refine bodyPost_ret (v:= .tuple #[Ac Ay none none none 0 0 0,.int .i64 0,.int .i64 (Ao p s)]) (by simp[results,Tryz.results82,go_sem,Ac,Ag,Ay,k0,k1,k2,k3,k4,k5,k6,k7,hlt]) rfl
   (HERR.out _ HEQ.out hc _ (Ak (HBX.out _ HB1.out).1.below (by omega) _ _ _ _ _ _ _ _))
end Go.Proofs.YtaanpcjkflhomaaGreatDoor
