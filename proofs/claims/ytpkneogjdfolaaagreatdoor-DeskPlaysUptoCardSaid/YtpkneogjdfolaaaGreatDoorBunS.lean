/- Lemmas. -/
import Derived.Test.YtpkneogjdfolaaaGreatDoorBunR
import Derived.Test.YtpkneogjdfolaaaGreatDoorBunV
set_option maxHeartbeats 20000000
set_option maxRecDepth 100000
set_option linter.unusedSimpArgs false
set_option linter.unusedVariables false
namespace Go.Proofs.YtpkneogjdfolaaaGreatDoor
open Go Go.RowKit
theorem Ahu(s:Aa)(a1 a2 a3:zZ)(c1 c2 c3:Nat)(w:zW):Calls Tryz.prog 176 #[.agg (zV s a1 a2 a3 c1 c2 c3)] w fun e w'=>e= .returned (.bool (decide (s.ah≤524288)))∧Below w.heap.size w w':=by
 have hb:=(zb w.heap.size w).alloc (zn _) (.cells (zV s a1 a2 a3 c1 c2 c3) 40);go_enter Tryz.func176,Tryz.ntmps176
 go_wp2
 go_ret
 exact⟨rfl,hb⟩
theorem Ahs(g:Nat)(p:Ab)(p1 p2 p3:zZ)(q1 q2 q3:Nat)(w:zW):Calls Tryz.prog 177 #[.agg (zP p p1 p2 p3 q1 q2 q3),zt g] w fun e w'=>e= .returned (zt (w.heap.size+1))∧Bk w' (w.heap.size+1) 227 (Ro g p p1 p2 p3 q1 q2 q3 (.slice none 0 0))∧Below w.heap.size w w':=by
 go_enter Tryz.func177,Tryz.ntmps177
 go_wp2
 go_ret
 refine⟨by simp,?_,?_⟩
 ·exact Bk.cg _ _ _ (by simp)
 ·exact((zb _ _).alloc (zn _) _).alloc (by simp) _
theorem Um{W:zW}{g:Nat}{t:TypeId}(h:Bk W g t zeroCells):Bk ((((((((W.setCell ⟨g,0,none⟩ (.slice none 0 0)).setCell ⟨g,1,none⟩ (.slice none 0 0)).setCell ⟨g,2,none⟩ (.slice none 0 0)).setCell ⟨g,3,none⟩ (.int .i64 0)).setCell ⟨g,4,none⟩ (.int .i64 0)).setCell ⟨g,5,none⟩ (.int .i64 0)).setCell ⟨g,6,none⟩ (.int .i64 0)).setCell ⟨g,7,none⟩ (.int .i64 0)) g t zeroCells:=
 (((((((h.ck 0 (.slice none 0 0)).ck 1 (.slice none 0 0)).ck 2 (.slice none 0 0)).ck 3 (.int .i64 0)).ck 4 (.int .i64 0)).ck 5 (.int .i64 0)).ck 6 (.int .i64 0)).ck 7 (.int .i64 0)
structure Iz (a:Aj):Prop where
 key:a.key.size≤1048576
 body:a.body.size≤1048576
 queue: -9223372036854775808≤a.queue∧a.queue≤9223372036854775807
 au: -9223372036854775808≤a.au∧a.au≤9223372036854775807
theorem We{α:Type}{f:α→Bool}{l:List α}{i:Nat}(hi:i < l.length)(h:(l.take i).all f=true)(h2:f l[i]=true):(l.take (i+1)).all f=true:=by
 rw[List.take_add_one,zG hi,List.all_append,h];simp[h2]
theorem Aav{α:Type}{f:α→Bool}{l:List α}{i:Nat}(hi:i < l.length)(h2:f l[i]=false):l.all f=false:=by
 rw[List.all_eq_false];exact⟨_,zg hi,by simp[h2]⟩
structure Ayq (X0 X1 X2:Nat) (p:Ab) (p2:zZ) (q2:Nat) (al:zZ) (l:List Aj) (w W:zW):Prop where
 ag:W.cell? ⟨X0,1,none⟩=some (.slice p2 p.ag.length q2)
 zero:Bk W X2 40 zeroCells
 line:Sl W 0 W.heap.size al (l.flatMap Bp)
 env:Env W
 below:Below w.heap.size w W
def le1_T(X0 X1 X2 cl i:Nat)(al:zZ)(l:List Aj)(t:Array Value):Array Value:=fj [[gd t 0,gd t 1,.slice al l.length cl,zt X0,zt X1,gd t 5,zt X2,.int .i64 0,.int .i64 0],fr t 9 18,[.slice al l.length cl,.int .i64 (l.length:Int),.int .i64 (i:Int)],fr t 30 45]
theorem Ai2{X0 X1 X2 cl i:Nat}{al:zZ}{l:List Aj}{t:Array Value}(h:t=(le1_T X0 X1 X2 cl i al l t)):∃u:Nat→Value,t= #[u 0,u 1,.slice al l.length cl,zt X0,zt X1,u 5,zt X2,.int .i64 0,.int .i64 0,u 9,u 10,u 11,u 12,u 13,u 14,u 15,u 16,u 17,u 18,u 19,u 20,u 21,u 22,u 23,u 24,u 25,u 26,.slice al l.length cl,.int .i64 (l.length:Int),.int .i64 (i:Int),u 30,u 31,u 32,u 33,u 34,u 35,u 36,u 37,u 38,u 39,u 40,u 41,u 42,u 43,u 44,u 45,u 46,u 47,u 48,u 49,u 50,u 51,u 52,u 53,u 54,u 55,u 56,u 57,u 58,u 59,u 60,u 61,u 62,u 63,u 64,u 65,u 66,u 67,u 68,u 69,u 70,u 71,u 72,u 73,u 74]:=⟨fun i=>t.getD i undef,h⟩
def le2_T(X0 X1 X2 cl i:Nat)(al:zZ)(l:List Aj)(t:Array Value):Array Value:=fj [[gd t 0,gd t 1,.slice al l.length cl,zt X0,zt X1,gd t 5,zt X2,.int .i64 0,.int .i64 0],fr t 9 37,[.slice al l.length cl,.int .i64 (l.length:Int),.int .i64 (i:Int)],fr t 49 26]
theorem Ai3{X0 X1 X2 cl i:Nat}{al:zZ}{l:List Aj}{t:Array Value}(h:t=(le2_T X0 X1 X2 cl i al l t)):∃u:Nat→Value,t= #[u 0,u 1,.slice al l.length cl,zt X0,zt X1,u 5,zt X2,.int .i64 0,.int .i64 0,u 9,u 10,u 11,u 12,u 13,u 14,u 15,u 16,u 17,u 18,u 19,u 20,u 21,u 22,u 23,u 24,u 25,u 26,u 27,u 28,u 29,u 30,u 31,u 32,u 33,u 34,u 35,u 36,u 37,u 38,u 39,u 40,u 41,u 42,u 43,u 44,u 45,.slice al l.length cl,.int .i64 (l.length:Int),.int .i64 (i:Int),u 49,u 50,u 51,u 52,u 53,u 54,u 55,u 56,u 57,u 58,u 59,u 60,u 61,u 62,u 63,u 64,u 65,u 66,u 67,u 68,u 69,u 70,u 71,u 72,u 73,u 74]:=⟨fun i=>t.getD i undef,h⟩
theorem Ai4{X2:Nat}{e:Int}{t:Array Value}(h:t=fj [fr t 0 6,[zt X2,.int .i64 0,.int .i64 e],fr t 9 66]):∃u:Nat→Value,t= #[u 0,u 1,u 2,u 3,u 4,u 5,zt X2,.int .i64 0,.int .i64 e,u 9,u 10,u 11,u 12,u 13,u 14,u 15,u 16,u 17,u 18,u 19,u 20,u 21,u 22,u 23,u 24,u 25,u 26,u 27,u 28,u 29,u 30,u 31,u 32,u 33,u 34,u 35,u 36,u 37,u 38,u 39,u 40,u 41,u 42,u 43,u 44,u 45,u 46,u 47,u 48,u 49,u 50,u 51,u 52,u 53,u 54,u 55,u 56,u 57,u 58,u 59,u 60,u 61,u 62,u 63,u 64,u 65,u 66,u 67,u 68,u 69,u 70,u 71,u 72,u 73,u 74]:=⟨fun i=>t.getD i undef,h⟩
noncomputable def Awo:Code:=It Tryz.f169 0
noncomputable def Awp:Code:=It Tryz.f169 1
def Anj(X0 X1 X2 cl:Nat)(al:zZ)(p:Ab)(l:List Aj)(W0:zW)(a:Act)(wr:zW):Prop:=
 ∃(t:Array Value)(i:Nat),t=(le1_T X0 X1 X2 cl i al l t)∧i≤l.length∧(l.take i).all (Lz p)=true∧Below W0.heap.size W0 wr∧a=⟨t,[]⟩
theorem Ate(X0 X1 X2 cl:Nat)(al:zZ)(p:Ab)(p2:zZ)(q2:Nat)(l:List Aj)(hll:l.length≤4)(w W0:zW)(hX:w.heap.size≤X2)(hIn:∀W,Below W0.heap.size W0 W→Ayq X0 X1 X2 p p2 q2 al l w W)(Q0:Exit→Act→zW→Prop)
  (hend:∀(t:Array Value)(i:Nat)(W:zW),t=(le1_T X0 X1 X2 cl i al l t)→l.all (Lz p)=true→Below W0.heap.size W0 W→Q0 (.exit 0) ⟨t,[]⟩ W)
  (hret:∀(t:Array Value)(W:zW),t=fj [fr t 0 6,[zt X2,.int .i64 0,.int .i64 5],fr t 9 66]→l.all (Lz p)=false→Bk W X2 40 zeroCells→Below w.heap.size w W→Q0 .ret ⟨t,[]⟩ W) (t:Array Value) (i:Nat) (W:zW) (ht:t=(le1_T X0 X1 X2 cl i al l t)) (hi:i≤l.length) (hall:(l.take i).all (Lz p)=true) (hW:Below W0.heap.size W0 W):
  (Code.loop Awo).wp Tryz.prog Q0 ⟨t,[]⟩ W:=by
 refine wp_loop (Anj X0 X1 X2 cl al p l W0) (fun a _=>l.length - (intOf (a.tmps.getD 29 undef)).toNat) ⟨t,i,ht,hi,hall,hW,rfl⟩ ?_;clear ht hi hall hW t i W;rintro a' wr ⟨t,i,ht,hi,hall,hW,rfl⟩;obtain⟨u,rfl⟩:=Ai2 ht;clear ht;have HEND:=zh hend;have HRET:=zh hret;have HW:=zh hW;have HAL:=zh hall;have HIN:=zh hIn;clear hend hret hall hIn
 conv=>arg 2;whnf
 by_cases hlt:i < l.length
 ·have hj2:(i:Int) < (l.length:Int):=by omega
  obtain⟨gb,ob,rfl,_,_,hx⟩:=Bf D4 (by decide) (HIN.out _ hW).line hlt;have hno:=We (f:=Lz p) hlt HAL.out;have hba:=Aav (f:=Lz p) hlt;generalize l[i]=a at *;have x0:wr.cell? ⟨gb,ob+i * 4,none⟩=some (.int .i64 a.queue):=hx 0 _ rfl;have x1:wr.cell? ⟨gb,ob+i * 4+1,none⟩=some (.string a.key):=hx 1 _ rfl;have x2:wr.cell? ⟨gb,ob+i * 4+2,none⟩=some (.string a.body):=hx 2 _ rfl;have x3:wr.cell? ⟨gb,ob+i * 4+3,none⟩=some (.int .i64 a.au):=hx 3 _ rfl;obtain⟨V,hV⟩:=zo (wr.alloc (.cells #[.int .i64 a.queue,.string a.key,.string a.body,.int .i64 a.au] 142));have kb:=zw hV
  have hal:Below W0.heap.size W0 V:=by rw[←hV];exact hW.alloc hW.size _
  have c0:=kb.cell 0;simp only[zI,zJ,zK] at c0;have hqc:=(HIN.out _ hal).ag;have HV:=zh hal;have HNO:=zh hno;have HBA:=zh hba;have HR:Hid (∀t:Array Value,∀(i':Nat),i'=i+1→t=fj [[gd t 0,gd t 1,.slice (some ⟨gb,ob,none⟩) l.length cl,zt X0,zt X1,gd t 5,zt X2,.int .i64 0,.int .i64 0],fr t 9 18,[.slice (some ⟨gb,ob,none⟩) l.length cl,.int .i64 (l.length:Int),.int .i64 (i':Int)],fr t 30 45]→(l.take (i+1)).all (Lz p)=true→Anj X0 X1 X2 cl (some ⟨gb,ob,none⟩) p l W0 ⟨t,[]⟩ V):=
   zh fun t i' hi' ht hc'=>⟨t,i',ht,by omega,by rw[hi'];exact hc',hal,rfl⟩
  clear kb hal hno hba hx hW;by_cases h0:a.queue < 0
  ·have HB:=zh (HBA.out (by unfold Lz;simp;omega))
   obtain⟨k0,k1,k2,k3,k4,k5,k6,k7,f0,f1,f2,f3,f4,f5,f6,f7,hlt8⟩:=Af (HIN.out _ HV.out).zero
   go_wp2
   exact HRET.out _ _ rfl HB.out (Um (HIN.out _ HV.out).zero) (Al (HIN.out _ HV.out).below hX _ _ _ _ _ _ _ _)
  ·by_cases h1:(p.ag.length:Int)≤a.queue
   ·have HB:=zh (HBA.out (by unfold Lz;simp;omega))
    obtain⟨k0,k1,k2,k3,k4,k5,k6,k7,f0,f1,f2,f3,f4,f5,f6,f7,hlt8⟩:=Af (HIN.out _ HV.out).zero
    go_wp2
    exact HRET.out _ _ rfl HB.out (Um (HIN.out _ HV.out).zero) (Al (HIN.out _ HV.out).below hX _ _ _ _ _ _ _ _)
   ·have HO:=zh (HNO.out (by unfold Lz;simp;omega))
    go_wp2
    exact⟨HR.out _ _ rfl rfl HO.out,by simp[intOf];omega⟩
 ·obtain rfl:i=l.length:=by omega
  have HF:=zh (show l.all (Lz p)=true by have h:=HAL.out;rwa [List.take_length] at h)
  go_wp2
  exact HEND.out _ l.length _ rfl HF.out HW.out
theorem Ar8(a:Aj):Bl ⟨0,a.key,a.body,false,a.au⟩=En a:=by
 unfold Bl En;simp
def Ank(X0 X1 X2 cl:Nat)(al:zZ)(l:List Aj)(W0:zW)(a:Act)(wr:zW):Prop:=
 ∃(t:Array Value)(i:Nat),t=(le2_T X0 X1 X2 cl i al l t)∧i≤l.length∧(l.take i).all En=true∧Below W0.heap.size W0 wr∧a=⟨t,[]⟩
theorem Atf(X0 X1 X2 cl:Nat)(al:zZ)(p:Ab)(p2:zZ)(q2:Nat)(l:List Aj)(hll:l.length≤4)(hsm:∀a∈l,Iz a)(w W0:zW)(hX:w.heap.size≤X2)(hIn:∀W,Below W0.heap.size W0 W→Ayq X0 X1 X2 p p2 q2 al l w W)(Q0:Exit→Act→zW→Prop)
  (hend:∀(t:Array Value)(i:Nat)(W:zW),t=(le2_T X0 X1 X2 cl i al l t)→l.all En=true→Below W0.heap.size W0 W→Q0 (.exit 2) ⟨t,[]⟩ W)
  (hret:∀(t:Array Value)(W:zW),t=fj [fr t 0 6,[zt X2,.int .i64 0,.int .i64 1],fr t 9 66]→l.all En=false→Bk W X2 40 zeroCells→Below w.heap.size w W→Q0 .ret ⟨t,[]⟩ W) (t:Array Value) (i:Nat) (W:zW) (ht:t=(le2_T X0 X1 X2 cl i al l t)) (hi:i≤l.length) (hall:(l.take i).all En=true) (hW:Below W0.heap.size W0 W):
  (Code.loop Awp).wp Tryz.prog Q0 ⟨t,[]⟩ W:=by
 refine wp_loop (Ank X0 X1 X2 cl al l W0) (fun a _=>l.length - (intOf (a.tmps.getD 48 undef)).toNat) ⟨t,i,ht,hi,hall,hW,rfl⟩ ?_;clear ht hi hall hW t i W;rintro a' wr ⟨t,i,ht,hi,hall,hW,rfl⟩;obtain⟨u,rfl⟩:=Ai3 ht;clear ht;have HEND:=zh hend;have HRET:=zh hret;have HW:=zh hW;have HAL:=zh hall;have HIN:=zh hIn;clear hend hret hall hIn
 conv=>arg 2;whnf
 by_cases hlt:i < l.length
 ·have hj2:(i:Int) < (l.length:Int):=by omega
  obtain⟨gb,ob,rfl,_,_,hx⟩:=Bf D4 (by decide) (HIN.out _ hW).line hlt;have hno:=We (f:=En) hlt HAL.out;have hba:=Aav (f:=En) hlt;have hsa:=hsm _ (zg hlt);generalize l[i]=a at *;have x0:wr.cell? ⟨gb,ob+i * 4,none⟩=some (.int .i64 a.queue):=hx 0 _ rfl;have x1:wr.cell? ⟨gb,ob+i * 4+1,none⟩=some (.string a.key):=hx 1 _ rfl;have x2:wr.cell? ⟨gb,ob+i * 4+2,none⟩=some (.string a.body):=hx 2 _ rfl;have x3:wr.cell? ⟨gb,ob+i * 4+3,none⟩=some (.int .i64 a.au):=hx 3 _ rfl;obtain⟨V,hV⟩:=zo (wr.alloc (.cells #[.int .i64 a.queue,.string a.key,.string a.body,.int .i64 a.au] 142));have kb:=zw hV
  have hal:Below W0.heap.size W0 V:=by rw[←hV];exact hW.alloc hW.size _
  have c1:=kb.cell 1;have c2:=kb.cell 2;have c3:=kb.cell 3;simp only[zI,zJ,zK] at c1 c2 c3;have HV:=zh hal;have HNO:=zh hno;have HBA:=zh hba;have HFI:Hid (Calls Tryz.prog 127 #[.agg #[.int .i64 0,.string a.key,.string a.body,.bool false,.int .i64 a.au]] V fun e w'=>e= .returned (.bool (En a))∧Below V.heap.size V w'):=zh (by
   have h:=Zb ⟨0,a.key,a.body,false,a.au⟩ V (HIN.out _ HV.out).env ⟨hsa.key,hsa.body,by simp,by simp,hsa.au⟩;rw[Ar8] at h;exact h)
  have HR:Hid (∀t:Array Value,∀(i':Nat),i'=i+1→t=fj [[gd t 0,gd t 1,.slice (some ⟨gb,ob,none⟩) l.length cl,zt X0,zt X1,gd t 5,zt X2,.int .i64 0,.int .i64 0],fr t 9 37,[.slice (some ⟨gb,ob,none⟩) l.length cl,.int .i64 (l.length:Int),.int .i64 (i':Int)],fr t 49 26]→(l.take (i+1)).all En=true→∀W,Below W0.heap.size W0 W→Ank X0 X1 X2 cl (some ⟨gb,ob,none⟩) l W0 ⟨t,[]⟩ W):=
   zh fun t i' hi' ht hc' W hW=>⟨t,i',ht,by omega,by rw[hi'];exact hc',hW,rfl⟩
  clear kb hal hno hba hx hW hsa;go_wp2_with fail
  refine HFI.out.mono ?_;rintro e w5 ⟨rfl,b5⟩;have H5:=zm HV b5;clear b5 c1 c2 c3 x0 x1 x2 x3
  cases hf:En a
  ·have HB:=zh (HBA.out hf)
   clear hf;obtain⟨k0,k1,k2,k3,k4,k5,k6,k7,f0,f1,f2,f3,f4,f5,f6,f7,hlt8⟩:=Af (HIN.out _ H5.out).zero
   go_wp2
   exact HRET.out _ _ rfl HB.out (Um (HIN.out _ H5.out).zero) (Al (HIN.out _ H5.out).below hX _ _ _ _ _ _ _ _)
  ·have HO:=zh (HNO.out hf)
   clear hf
   go_wp2
   exact⟨HR.out _ _ rfl rfl HO.out _ H5.out,by simp[intOf];omega⟩
 ·obtain rfl:i=l.length:=by omega
  have HF:=zh (show l.all En=true by have h:=HAL.out;rwa [List.take_length] at h)
  go_wp2
  exact HEND.out _ l.length _ rfl HF.out HW.out
theorem Ams{p:Ab}{s:Aa}{l:List Aj}{err:Int}(h:Bh p s l=err)(h0:err≠0)(w W:zW)(hb:Below w.heap.size w W):Gj (Cy p s l) (E3 p s l) (Bh p s l) w (.returned (.tuple #[Ad Bd none none none 0 0 0,.int .i64 0,.int .i64 err])) W:=by
 have h1:Cy p s l=Bd:=by unfold Cy;rw[zq (by omega)]
 have h2:E3 p s l=0:=by unfold E3;rw[zq (by omega)]
 rw[h1,h2,h];exact⟨none,none,none,0,0,0,[],rfl,Dm _ _,hb⟩
theorem Vz(p:Ab)(s:Aa)(l:List Aj)(p1 p2 p3 a1 a2 a3 al:zZ)(q1 q2 q3 c1 c2 c3 cl:Nat)(rows:List Bm)(w:zW)(hE:Env w)(hp:Au w 0 w.heap.size p1 p2 p3 p)(hps:Ai p)(hs:Av w 0 w.heap.size a1 a2 a3 rows s)(hss:Ap s)(hsi:A9 s)
  (hl:Sl w 0 w.heap.size al (l.flatMap Bp)) (hll:l.length≤1048576) (hsm:∀a∈l,Iz a):
  Calls Tryz.prog 169 #[Ay p p1 p2 p3 q1 q2 q3,Ad s a1 a2 a3 c1 c2 c3,.slice al l.length cl] w (Gj (Cy p s l) (E3 p s l) (Bh p s l) w):=by
 have hbx:=Cj q1 q2 q3 c1 c2 c3 hE hp hs 26 40;unfold Ag at hbx;unfold Ad Ay Ag;have htl:=hss.ae;have HPS:=zh hps;have HSS:=zh hss;have HSI:=zh hsi;clear hE hp hs hps hss hsi;go_enter Tryz.func169,Tryz.ntmps169
 obtain⟨⟨m0,m1,m2⟩,⟨n0,n1,n2,n3,n4,n5,n6,n7⟩,_,_,_,_⟩:=hbx _ ((zb _ _).alloc (zn _) (.cells zO 40));go_wp2_with fail
 clear m0 m1 m2 n0 n1 n2 n3 n4 n5 n6 n7;obtain⟨V0,hV0⟩:=zo ((w.alloc (.cells (zP p p1 p2 p3 q1 q2 q3) 26)).alloc (.cells (zV s a1 a2 a3 c1 c2 c3) 40));have hzV:V0.heap.size=w.heap.size+1+1:=by rw[←hV0];simp
 rw[hV0] at hbx;have HBV:=zh hbx;obtain⟨W0,hW0⟩:=zo (V0.alloc (.cells zO 40));have hbV:=zu hW0
 have HZ:Hid (W0.heap.size=w.heap.size+1+1+1):=by refine(?_:W0.heap.size=_);rw[←hW0,←hzV];simp
 have HBX:Hid (∀W,Below W0.heap.size W0 W→Me w p s p1 p2 p3 a1 a2 a3 q1 q2 q3 c1 c2 c3 rows W∧Bk W (w.heap.size+1+1) 40 zeroCells):=fun W hW=>by
  have k:Bk W0 (w.heap.size+1+1) 40 zeroCells:=by rw[←hW0];exact Bk.cg _ _ _ hzV.symm
  exact⟨HBV.out W (hbV.trans (hW.mono hbV.size)),k.below hW k.lt⟩
 rw[hV0,hW0];clear hbx hbV hzV HBV hV0 hW0;have HLN:Hid (∀W,Below W0.heap.size W0 W→Ayq w.heap.size (w.heap.size+1) (w.heap.size+1+1) p p2 q2 al l w W):=fun W hW=>
  have k:=HBX.out W hW
  ⟨k.1.bz.2.1,k.2,(hl.below k.1.below (zn _)).wider (zn _) k.1.below.size,k.1.env,k.1.below⟩
 have HERR:Hid (∀err,Bh p s l=err→err≠0→∀W,Below w.heap.size w W→Gj (Cy p s l) (E3 p s l) (Bh p s l) w (.returned (.tuple #[Ad Bd none none none 0 0 0,.int .i64 0,.int .i64 err])) W):=fun err h h0 W hb=>Ams h h0 w W hb;have HSM:=zh hsm;have hae:Bh p s l=if Am p s≠0 then Am p s else if 4 < l.length then 2 else if l.all (Lz p)=false then 5 else if l.all En=false then 1 else if 524288 < s.ah then 2 else 0:=rfl
 have HAE:=zh hae;clear hl hae hsm;refine(Fx p s p1 p2 p3 a1 a2 a3 q1 q2 q3 c1 c2 c3 rows W0 (HBX.out _ (zb _ _)).1.env (HBX.out _ (zb _ _)).1.bu HPS.out (HBX.out _ (zb _ _)).1.bc HSS.out HSI.out).mono ?_;rintro e W1 ⟨rfl,hb1⟩;have HB1:=zh hb1;clear hb1;by_cases hc:Am p s=0
 ·have b1:(Am p s != 0)=false:=by simp[hc]
  have hR:=Cv.1 hc;by_cases hl4:4 < l.length
  ·have hl4i:(4:Int) < (l.length:Int):=by omega
   have HEQ:=zh (show Bh p s l=2 by rw[HAE.out,zq (by simp[hc]),zp hl4]);clear hc;obtain⟨k0,k1,k2,k3,k4,k5,k6,k7,f0,f1,f2,f3,f4,f5,f6,f7,hlt⟩:=Af (HBX.out _ HB1.out).2;go_wp2_with fail
   refine bodyPost_ret (v:= .tuple #[Ad Bd none none none 0 0 0,.int .i64 0,.int .i64 2]) (by simp[results,Tryz.results169,go_sem,Ad,Ag,Bd,k0,k1,k2,k3,k4,k5,k6,k7,hlt]) rfl
    (HERR.out _ (by exact HEQ.out) (by decide) _ (Al (HBX.out _ HB1.out).1.below (by omega) _ _ _ _ _ _ _ _))
  ·have hl4i:¬ (4:Int) < (l.length:Int):=by omega
   have HC:=zh hc;have HRT:=zh hR;clear hc hR;go_wp2_with fail
   refine Ate w.heap.size (w.heap.size+1) (w.heap.size+1+1) cl al p p2 q2 l (by omega) w W1 (by omega) (fun W hW=>HLN.out W (HB1.out.trans (hW.mono HB1.out.size))) _ ?_ ?_ _ 0 W1 rfl (Nat.zero_le _) rfl (zb _ _)
   ·rintro t i W2 ht hall hb2
    obtain⟨u,rfl⟩:=Ai2 ht;have HA1:=zh hall;have HB2:=zm HB1 hb2;clear ht hall hb2;go_wp2_with fail
    refine Atf w.heap.size (w.heap.size+1) (w.heap.size+1+1) cl al p p2 q2 l (by omega) HSM.out w W2 (by omega) (fun W hW=>HLN.out W (HB2.out.trans (hW.mono HB2.out.size))) _ ?_ ?_ _ 0 W2 rfl (Nat.zero_le _) rfl (zb _ _)
    ·rintro t i W3 ht hall hb3
     obtain⟨u,rfl⟩:=Ai3 ht;have HA2:=zh hall;have HB3:=zm HB2 hb3;clear ht hall hb3;obtain⟨n0,n1,n2,n3,n4,n5,n6,n7⟩:=(HBX.out _ HB3.out).1.state;go_wp2_with fail
     refine(Ahu s a1 a2 a3 c1 c2 c3 W3).mono ?_;rintro e W4 ⟨rfl,hb4⟩;have HB4:=zm HB3 hb4;clear hb4 n0 n1 n2 n3 n4 n5 n6 n7;by_cases hsq:s.ah≤524288
     ·have HD:decide (s.ah≤524288)=true:=by simp[hsq]
      have hok0:Bh p s l=0:=by rw[HAE.out,zq (by simp[HC.out]),zq hl4,zq (by rw[HA1.out];simp),zq (by rw[HA2.out];simp),zq (by omega)]
      have HOK:=zh (zi hok0 (Oj hok0));clear hok0;rw[HD];obtain⟨n0,n1,n2,n3,n4,n5,n6,n7⟩:=(HBX.out _ HB4.out).1.state;go_wp2_with fail
      have hcall:=Aat s a1 a2 a3 c1 c2 c3 rows W4 (HBX.out _ HB4.out).1.bc HSS.out;unfold Ad Ag at hcall;refine hcall.mono ?_;clear hcall n0 n1 n2 n3 n4 n5 n6 n7;rintro e W5 ⟨v1,v2,v3,rows5,rfl,ho5,hb5⟩;unfold Ey;obtain⟨W6,hW6⟩:=zo (W5.alloc (.cells #[v1,v2,v3,.int .i64 s.ah,.int .i64 s.af,.int .i64 s.aw,.int .i64 s.ar,.int .i64 s.dropped] 40));have kb6:Bk W6 W5.heap.size 40 (Ey s v1 v2 v3):=by rw[←hW6];exact Bk.new _ _ _
      have hal6:=zu hW6
      have H6:=zh (zi (ho5.below hal6) (zi kb6 (zi hb5.size (zi hal6 (hb5.trans (hal6.mono hb5.size))))));have HB6:=zh (HB4.out.trans ((hb5.trans (hal6.mono hb5.size)).mono HB4.out.size));obtain⟨A1,C1,rfl,_⟩:=Ae ho5.ready;obtain⟨A2,C2,rfl,_⟩:=Ae ho5.outs;obtain⟨A3,C3,rfl,_⟩:=Ae ho5.ae;clear ho5 hb5 kb6 hal6;obtain⟨m0,m1,m2⟩:=(HBX.out _ HB6.out).1.bz;go_wp2_with fail
      refine(Ahs W5.heap.size p p1 p2 p3 q1 q2 q3 W6).mono ?_;rintro e W7 ⟨rfl,kh7,hb7⟩;have HB7:=zm HB6 hb7;have hH:Ec W7 W4.heap.size W5.heap.size (W6.heap.size+1) p p1 p2 p3 q1 q2 q3 (.slice A1 s.ready.length C1) (.slice A2 s.outs.length C2) (.slice A3 s.ae.length C3) (.slice none 0 0) rows5 s []:=by
       have h47:Below W4.heap.size W4 W7:=H6.out.2.2.2.2.trans (hb7.mono H6.out.2.2.2.2.size);exact⟨(HBX.out _ HB4.out).1.bu.below h47 (zn _),(Og.mk' (HBX.out _ HB4.out).1.env).keep fun p hp=>h47.cell hp,h47.size,kh7,H6.out.2.1.below hb7 H6.out.2.1.lt,(H6.out.1.below hb7).held,World.ownsRow_nil _ _ _ _,H6.out.2.2.1,zr H6.out.2.2.2.2.size (Nat.le_succ _)⟩
      have HST:=zh (Aky W4.heap.size W5.heap.size (W6.heap.size+1) p p1 p2 p3 q1 q2 q3 (Cp HRT.out.bz) HPS.out _ _ _ _ rows5 s l al cl W7 hH (HLN.out _ HB7.out).line HOK.out.2.1 HOK.out.2.2.2 (Aj5 HRT.out HOK.out.2.2.1));clear kh7 hb7 hH m0 m1 m2;go_wp2_with fail
      refine HST.out.mono ?_;rintro e W8 ⟨rfl,wv8,rows8,h8,⟨hb8,_⟩⟩;have HFS:Hid (Cy p s l=Dv p s l∧E3 p s l=(Dv p s l).ah - s.ah):=zh ⟨by unfold Cy;rw[zp HOK.out.1],by unfold E3;rw[zp HOK.out.1]⟩;generalize Dv p s l=s8 at *;have HB8:=zh (HB7.out.trans ((hb8.mono (Nat.zero_le _):Below 0 W7 W8) |> fun _=>hb8.mono (zr HB4.out.size (zn _))));have g0:=h8.box.cell 0;have g1:=h8.box.cell 1;have g2:=h8.box.cell 2;have g3:=h8.box.cell 3;have g4:=h8.box.cell 4;have g5:=h8.box.cell 5;have g6:=h8.box.cell 6;have g7:=h8.box.cell 7;simp only[Ey,zI,zJ,zK] at g0 g1 g2 g3 g4 g5 g6 g7;have HH8:=zh h8;clear h8 hb8;have hzk:=(HBX.out _ HB8.out).2;have HZS:=zh hzk;unfold zeroCells at hzk;obtain⟨k0,k1,k2,k3,k4,k5,k6,k7,f0,f1,f2,f3,f4,f5,f6,f7,hlt⟩:=Af hzk;clear hzk;have HLO:=zh (zr (HBX.out _ (zb _ _)).1.below.size HB4.out.size);go_wp2_with fail
      refine bodyPost_ret (v:= .tuple #[.agg #[.slice A1 s.ready.length C1,.slice A2 s.outs.length C2,.slice A3 s.ae.length C3,.int .i64 s8.ah,.int .i64 s8.af,.int .i64 s8.aw,.int .i64 s8.ar,.int .i64 s8.dropped],.int .i64 (s8.ah - s.ah),.int .i64 0]) (by simp[results,Tryz.results169,go_sem,k0,k1,k2,k3,k4,k5,k6,k7,hlt]) rfl ?_;have hfin:=HH8.out.held.kept (Ah.dg HZS.out (ts:=[40]) (by decide) (.slice A1 s.ready.length C1) (.slice A2 s.outs.length C2) (.slice A3 s.ae.length C3) (.int .i64 s8.ah) (.int .i64 s8.af) (.int .i64 s8.aw) (.int .i64 s8.ar) (.int .i64 s8.dropped));obtain⟨_,e1,e2,e3⟩:=hfin.bc;rw[HFS.out.1,HFS.out.2,HOK.out.1];refine⟨A1,A2,A3,C1,C2,C3,rows8,?_,hfin.lens HLO.out,Al (HBX.out _ HB8.out).1.below (by omega) _ _ _ _ _ _ _ _⟩;unfold Ad Ag;rw[e1,e2,e3]
     ·have HD:decide (s.ah≤524288)=false:=by simp;omega
      have HEQ:=zh (show Bh p s l=2 by rw[HAE.out,zq (by simp[HC.out]),zq hl4,zq (by rw[HA1.out];simp),zq (by rw[HA2.out];simp),zp (by omega)]);rw[HD];obtain⟨k0,k1,k2,k3,k4,k5,k6,k7,f0,f1,f2,f3,f4,f5,f6,f7,hlt⟩:=Af (HBX.out _ HB4.out).2;go_wp2_with fail
      refine bodyPost_ret (v:= .tuple #[Ad Bd none none none 0 0 0,.int .i64 0,.int .i64 2]) (by simp[results,Tryz.results169,go_sem,Ad,Ag,Bd,k0,k1,k2,k3,k4,k5,k6,k7,hlt]) rfl
       (HERR.out _ (by exact HEQ.out) (by decide) _ (Al (HBX.out _ HB4.out).1.below (by omega) _ _ _ _ _ _ _ _))
    ·rintro t W3 ht hall hz hb3
     obtain⟨u,rfl⟩:=Ai4 ht;have HEQ:=zh (show Bh p s l=1 by rw[HAE.out,zq (by simp[HC.out]),zq hl4,zq (by rw[HA1.out];simp),zp hall]);have HB3:=zh hb3;clear ht hall hb3;unfold zeroCells at hz;obtain⟨k0,k1,k2,k3,k4,k5,k6,k7,f0,f1,f2,f3,f4,f5,f6,f7,hlt⟩:=Af hz;clear hz;go_wp2_with fail
     refine bodyPost_ret (v:= .tuple #[Ad Bd none none none 0 0 0,.int .i64 0,.int .i64 1]) (by simp[results,Tryz.results169,go_sem,Ad,Ag,Bd,k0,k1,k2,k3,k4,k5,k6,k7,hlt]) rfl
      (HERR.out _ HEQ.out (by decide) _ HB3.out)
   ·rintro t W3 ht hall hz hb3
    obtain⟨u,rfl⟩:=Ai4 ht;have HEQ:=zh (show Bh p s l=5 by rw[HAE.out,zq (by simp[HC.out]),zq hl4,zp hall]);have HB3:=zh hb3;clear ht hall hb3;unfold zeroCells at hz;obtain⟨k0,k1,k2,k3,k4,k5,k6,k7,f0,f1,f2,f3,f4,f5,f6,f7,hlt⟩:=Af hz;clear hz;go_wp2_with fail
    refine bodyPost_ret (v:= .tuple #[Ad Bd none none none 0 0 0,.int .i64 0,.int .i64 5]) (by simp[results,Tryz.results169,go_sem,Ad,Ag,Bd,k0,k1,k2,k3,k4,k5,k6,k7,hlt]) rfl
     (HERR.out _ HEQ.out (by decide) _ HB3.out)
 ·have b1:(Am p s != 0)=true:=by simp[hc]
  have HEQ:=zh (show Bh p s l=Am p s by rw[HAE.out,zp hc]);obtain⟨k0,k1,k2,k3,k4,k5,k6,k7,f0,f1,f2,f3,f4,f5,f6,f7,hlt⟩:=Af (HBX.out _ HB1.out).2;go_wp2_with fail
  refine bodyPost_ret (v:= .tuple #[Ad Bd none none none 0 0 0,.int .i64 0,.int .i64 (Am p s)]) (by simp[results,Tryz.results169,go_sem,Ad,Ag,Bd,k0,k1,k2,k3,k4,k5,k6,k7,hlt]) rfl
   (HERR.out _ (by exact HEQ.out) (by exact hc) _ (Al (HBX.out _ HB1.out).1.below (by omega) _ _ _ _ _ _ _ _))
def dy9_T(xb gb ob Cq i n0 C0:Nat)(A0:zZ)(ys:List Int)(t:Array Value):Array Value:=fj [fr t 0 5,[zt xb,.slice none 0 0,.slice A0 n0 C0,gd t 8,.slice (some ⟨gb,ob,none⟩) ys.length Cq,.int .i64 (i:Int)],fr t 11 40]
theorem As1{xb gb ob Cq i n0 C0:Nat}{A0:zZ}{ys:List Int}{t:Array Value}(h:t=(dy9_T xb gb ob Cq i n0 C0 A0 ys t)):∃u:Nat→Value,t= #[u 0,u 1,u 2,u 3,u 4,zt xb,.slice none 0 0,.slice A0 n0 C0,u 8,.slice (some ⟨gb,ob,none⟩) ys.length Cq,.int .i64 (i:Int),u 11,u 12,u 13,u 14,u 15,u 16,u 17,u 18,u 19,u 20,u 21,u 22,u 23,u 24,u 25,u 26,u 27,u 28,u 29,u 30,u 31,u 32,u 33,u 34,u 35,u 36,u 37,u 38,u 39,u 40,u 41,u 42,u 43,u 44,u 45,u 46,u 47,u 48,u 49,u 50]:=⟨fun i=>t.getD i undef,h⟩
def dy9m_T(xb gb ob Cq i C:Nat)(A:zZ)(ys:List Int)(L:List Aj)(t:Array Value):Array Value:=fj [fr t 0 5,[zt xb,.slice none 0 0,.slice A (L.length+1) C,gd t 8,.slice (some ⟨gb,ob,none⟩) ys.length Cq,.int .i64 (i:Int)],fr t 11 40]
theorem Ape{xb gb ob Cq i C:Nat}{A:zZ}{ys:List Int}{L:List Aj}{t:Array Value}(h:t=(dy9m_T xb gb ob Cq i C A ys L t)):∃u:Nat→Value,t= #[u 0,u 1,u 2,u 3,u 4,zt xb,.slice none 0 0,.slice A (L.length+1) C,u 8,.slice (some ⟨gb,ob,none⟩) ys.length Cq,.int .i64 (i:Int),u 11,u 12,u 13,u 14,u 15,u 16,u 17,u 18,u 19,u 20,u 21,u 22,u 23,u 24,u 25,u 26,u 27,u 28,u 29,u 30,u 31,u 32,u 33,u 34,u 35,u 36,u 37,u 38,u 39,u 40,u 41,u 42,u 43,u 44,u 45,u 46,u 47,u 48,u 49,u 50]:=⟨fun i=>t.getD i undef,h⟩
def dyl_T(xb Cq i:Nat)(vw:Value)(Aq:zZ)(ys:List Int)(t:Array Value):Array Value:=fj [fr t 0 5,[zt xb,.slice none 0 0,vw,gd t 8,.slice Aq ys.length Cq,.int .i64 (i:Int)],fr t 11 40]
theorem Aij{xb Cq i:Nat}{vw:Value}{Aq:zZ}{ys:List Int}{t:Array Value}(h:t=(dyl_T xb Cq i vw Aq ys t)):∃u:Nat→Value,t= #[u 0,u 1,u 2,u 3,u 4,zt xb,.slice none 0 0,vw,u 8,.slice Aq ys.length Cq,.int .i64 (i:Int),u 11,u 12,u 13,u 14,u 15,u 16,u 17,u 18,u 19,u 20,u 21,u 22,u 23,u 24,u 25,u 26,u 27,u 28,u 29,u 30,u 31,u 32,u 33,u 34,u 35,u 36,u 37,u 38,u 39,u 40,u 41,u 42,u 43,u 44,u 45,u 46,u 47,u 48,u 49,u 50]:=⟨fun i=>t.getD i undef,h⟩
theorem Yf{W:zW}{B gb ob Cq i:Nat}{ys:List Int}{y:Int}(h:Cs W B (.slice (some ⟨gb,ob,none⟩) ys.length Cq) ys)(hy:ys[i]? =some y):W.cell? ⟨gb,ob+i,none⟩=some (.int .i64 y):=by
 obtain⟨hi,rfl⟩:=List.getElem?_eq_some_iff.1 hy;obtain⟨b,o,e,_,hc⟩:=Nh (Nb h).2 hi
 cases e
 exact hc
theorem Aih{W:zW}{B gb ob Cq i xb:Nat}{ys:List Int}{y:Int}{x:Ao}(h:Cs W B (.slice (some ⟨gb,ob,none⟩) ys.length Cq) ys)(hy:ys[i]? =some y)(hx:Bk W xb 113 (Ax x).toArray):W.cell? ⟨gb,ob+i,none⟩=some (.int .i64 y)∧zM W xb 1 (.string x.key)∧zM W xb 2 (.string x.body)∧zM W xb 4 (.int .i64 x.au):=
 ⟨Yf h hy,Pw hx⟩
def RyR(W:zW)(lo:Nat)(L:List Aj)(ad:Aj)(F:Array Value→zZ→Nat→Prop)(a':Act)(W':zW):Prop:=
 ∃(t:Array Value)(A:zZ),a'=⟨t,[]⟩∧∃(C:Nat),F t A C∧W'.ownsRow lo 142 4 (.slice A (L.length+1) C) (L.length+1) (L.flatMap Bp++Bp ad)∧Ah [142] W W'∧Below lo W W'
noncomputable def As2:Code:=It Tryz.f112 0
theorem Aze(xb gb ob lo B Cq i C0:Nat)(A0:zZ)(ys:List Int)(y:Int)(x:Ao)(L:List Aj)(W:zW)(hX:Bk W xb 113 (Ax x).toArray)(hI:Cs W B (.slice (some ⟨gb,ob,none⟩) ys.length Cq) ys)(hyi:ys[i]? =some y)(hlt:(i:Int) < (ys.length:Int))
  (hO:W.ownsRow lo 142 4 (.slice A0 L.length C0) L.length (L.flatMap Bp)) (hlen:L.length≤1048576) (hlo:lo≤W.heap.size) (hd:0≤x.au∧x.au≤2) (Q:Exit→Act→zW→Prop)
  (hq:∀(t:Array Value)(A:zZ)(C:Nat)(W6:zW),t=(dy9m_T xb gb ob Cq i C A ys L t)→W6.ownsRow lo 142 4 (.slice A (L.length+1) C) (L.length+1) (L.flatMap Bp++Bp (Uo x y))→Ah [142] W W6→Below lo W W6→Q .normal ⟨t,[]⟩ W6)
  (t:Array Value) (n0:Nat) (hn0:n0=L.length) (ht:t=(dy9_T xb gb ob Cq i n0 C0 A0 ys t)):((Hc 9 As2).getD .skip).wp Tryz.prog Q ⟨t,[]⟩ W:=by
 subst hn0;obtain⟨u,rfl⟩:=As1 ht;clear ht;refine Pi (RyR W lo L (Uo x y) (fun t A C=>t=(dy9m_T xb gb ob Cq i C A ys L t))) ?_ ?_
 ·have HK:Hid (∀W',Below W.heap.size W W'→(fun W=>W.cell? ⟨gb,ob+i,none⟩=some (.int .i64 y)∧zM W xb 1 (.string x.key)∧zM W xb 2 (.string x.body)∧zM W xb 4 (.int .i64 x.au)) W'):=zh fun W' hb=>Aih (own_below hI hb) hyi (hX.below hb hX.lt)
  have HX:=zh hX;have HI:=zh hI;have HO:=zh hO;obtain⟨hd1,hd2⟩:=hd;have HWR:Hid (IntKind.i64.wrap (x.au+1)=x.au+1):=zh (IntWalk.i64_in _ (by omega));clear hX hI hO hq
  conv=>arg 2;whnf
  refine wp_region_held_drew (S:=(fun W=>W.cell? ⟨gb,ob+i,none⟩=some (.int .i64 y)∧zM W xb 1 (.string x.key)∧zM W xb 2 (.string x.body)∧zM W xb 4 (.int .i64 x.au))) (by kernel_rfl) (HK.out _ (zb _ _).drew) (fun hHeld=> ?_);have hN:Below W.heap.size W W.drew:=(zb _ _).drew;generalize W.drew=Wd at *
  refine zH 0 ?_;refine zH 1 ?_;refine zH 2 ?_;refine zH 3 ?_;refine zH 4 ?_;refine zH 5 ?_;refine zH 6 ?_;refine zH 7 ?_;refine zH 8 ?_;refine zH 9 ?_;refine zH 10 ?_;refine zH 11 ?_;refine zH 12 ?_
  refine zR 13 fun K hK=> ?_
  go_simp
  generalize hW:World.alloc _ (Obj.cells _ _)=W5;rw[HWR.out] at hW;have hN5:Below W.heap.size W W5:=by rw[←hW];exact hN.alloc hN.size _
  have HE:Hid (Bk W5 Wd.heap.size 142 (Bp (Uo x y)).toArray):=by rw[←hW];exact zh (Bk.cg _ _ _ (by rfl))
  have hN:=hN5;have HN5:=zh hN5;clear hW hN5;refine zk hK (by first|assumption|exact HK.out _ hN) (fun hHeld=> ?_);clear hK K
  refine zR 14 fun K hK=> ?_;rw[zp (by rfl)];refine Ahb (.tmp 35) (.tmp 48) rfl rfl (own_below HO.out hN) (gb:=Wd.heap.size) (ad:=(Uo x y)) rfl HE.out (by omega) (zr hlo hN.size) ?_;intro v6 W6 ho6 hg6;obtain⟨A6,C6,rfl,_⟩:=Ae ho6;have HO6:Hid (W6.ownsRow lo 142 4 (.slice A6 (L.length+1) C6) (L.length+1) (L.flatMap Bp++Bp (Uo x y))∧Ah [142] W W6∧W5.grownBy W6 (Value.slice A0 L.length C0).ownBlock∧Below W.heap.size W W5):=zh ⟨ho6,(Ah.oqb hN).trans (Ah.grown (own_below HO.out hN) hg6 (by simp)),hg6,hN⟩;clear ho6 hg6;refine zk hK (by exact Aih (Dl HI.out HO6.out.2.1 (by decide)) hyi (HO6.out.2.1 _ _ _ (by decide) HX.out)) (fun hHeld=> ?_);clear hK K
  refine zH 15 ?_
  refine zx ?_;exact⟨_,A6,rfl,C6,rfl,HO6.out.1,HO6.out.2.1,Abu hlo HO.out HO6.out.2.2.1 HO6.out.2.2.2⟩
 ·rintro a' W' ⟨t,A,rfl,C,ht,ho,hk,hb⟩
  exact hq t A C W' ht ho hk hb
def DyR(lo xb B:Nat)(vq vw:Value)(x:Ao)(ys:List Int)(w:zW)(i:Nat)(W:zW):Prop:=
 W.ownsRow lo 142 4 vw ((ys.take i).map (Uo x)).length (((ys.take i).map (Uo x)).flatMap Bp)∧Bk W xb 113 (Ax x).toArray∧Cs W B vq ys∧Below lo w W
def Am5(lo xb B Cq:Nat)(Aq:zZ)(x:Ao)(ys:List Int)(w:zW)(a:Act)(wr:zW):Prop:=
 ∃(t:Array Value)(i:Nat)(vw:Value),t=(dyl_T xb Cq i vw Aq ys t)∧i≤ys.length∧DyR lo xb B (.slice Aq ys.length Cq) vw x ys w i wr∧a=⟨t,[]⟩
theorem Awe(lo xb B Cq:Nat)(Aq:zZ)(x:Ao)(ys:List Int)(w:zW)(hlw:lo≤w.heap.size)(hd:0≤x.au∧x.au≤2)(hys:ys.length≤100000)(Q0:Exit→Act→zW→Prop)
  (hend:∀(t:Array Value)(i:Nat)(vw:Value)(W:zW),t=(dyl_T xb Cq i vw Aq ys t)→DyR lo xb B (.slice Aq ys.length Cq) vw x ys w ys.length W→Q0 (.exit 0) ⟨t,[]⟩ W) (t:Array Value) (i:Nat) (vw:Value) (W:zW) (ht:t=(dyl_T xb Cq i vw Aq ys t)) (hi:i≤ys.length) (hW:DyR lo xb B (.slice Aq ys.length Cq) vw x ys w i W):
  (Code.loop As2).wp Tryz.prog Q0 ⟨t,[]⟩ W:=by
 refine wp_loop (Am5 lo xb B Cq Aq x ys w) (fun a _=>ys.length - (intOf (a.tmps.getD 10 undef)).toNat) ⟨t,i,vw,ht,hi,hW,rfl⟩ ?_;clear ht hi hW t i vw W;rintro a' wr ⟨t,i,vw,ht,hi,hR,rfl⟩;obtain⟨u,rfl⟩:=Aij ht;clear ht;have HEND:=zh hend;clear hend
 conv=>arg 2;whnf
 by_cases hlt:i < ys.length
 ·obtain⟨hO,hX,hI,hB⟩:=hR
  have hj2:(i:Int) < (ys.length:Int):=by omega
  obtain⟨gb,ob,rfl,_,_⟩:=Nh (Nb hI).2 hlt;have htk:ys.take (i+1)=ys.take i++[ys[i]]:=by rw[List.take_add_one,zG hlt];rfl
  have hyi:ys[i]? =some ys[i]:=zG hlt;generalize ys[i]=y at *;obtain⟨L,hL⟩:=zo ((ys.take i).map (Uo x));have hlen:L.length≤1048576:=by rw[←hL];simp;omega
  rw[hL] at hO;have HL:=zh hL;clear hL;obtain⟨A0,C0,rfl,_⟩:=Ae hO;have HTK:=zh htk;have HO:=zh hO;have HX:=zh hX;have HI:=zh hI;have HB:=zh hB;have HYI:=zh hyi;have HLEN:=zh hlen;have HR:Hid (∀t:Array Value,∀(i':Nat)(vw:Value),i'=i+1→t=fj [[gd t 0,gd t 1,gd t 2,gd t 3,gd t 4,zt xb,.slice none 0 0,vw,gd t 8,.slice (some ⟨gb,ob,none⟩) ys.length Cq,.int .i64 (i':Int)],fr t 11 40]→∀W,DyR lo xb B (.slice (some ⟨gb,ob,none⟩) ys.length Cq) vw x ys w (i+1) W→Am5 lo xb B Cq (some ⟨gb,ob,none⟩) x ys w ⟨t,[]⟩ W):=
   zh fun t i' vw hi' ht W hW=>⟨t,i',vw,ht,by omega,by rw[hi'];exact hW,rfl⟩
  clear htk hO hX hI hB hlen hyi;go_wp2_with fail
  refine Aze xb gb ob lo B Cq i C0 A0 ys y x L wr HX.out HI.out HYI.out hj2 HO.out HLEN.out (zr hlw HB.out.size) hd _ ?_ _ L.length rfl rfl;rintro t A C W6 ht ho hk hb;obtain⟨u,rfl⟩:=Ape ht;have HN:Hid (DyR lo xb B (.slice (some ⟨gb,ob,none⟩) ys.length Cq) (.slice A (L.length+1) C) x ys w (i+1) W6):=zh (by
   have e:(ys.take (i+1)).map (Uo x)=L++[Uo x y]:=by rw[←HL.out,HTK.out,List.map_append];rfl
   refine⟨?_,hk _ _ _ (by decide) HX.out,Dl HI.out hk (by decide),HB.out.trans hb⟩;rw[e];exact Ae6 ho)
  clear ht ho hk hb
  go_wp2
  exact⟨HR.out _ _ _ rfl rfl _ HN.out,by simp[intOf];omega⟩
 ·obtain rfl:i=ys.length:=by omega
  have HF:=zh hR;clear hR
  go_wp2
  exact HEND.out _ ys.length _ _ rfl HF.out
theorem Td{W:zW}{lo hi:Nat}{p:Ab}{p2:zZ}(h:Sl W lo hi p2 (p.ag.flatMap Gw)){k:Nat}(hk:k < p.ag.length):
  ∃b o,p2=some ⟨b,o,none⟩∧zM W b (o+k * 3) (.string (Bz p k).name)∧zM W b (o+k * 3+1) (.int .i64 (Bz p k).bm)∧zM W b (o+k * 3+2) (.int .i64 (Bz p k).dead):=by
 obtain⟨b,o,rfl,_,_,hx⟩:=Bf Hg (by decide) h hk;have e:Bz p (k:Int)=p.ag[k]:=by
  unfold Bz;rw[show((k:Int)).toNat=k by omega,zG hk];rfl
 rw[e];exact⟨b,o,rfl,hx 0 _ rfl,hx 1 _ rfl,hx 2 _ rfl⟩
theorem Aeg(p:Ab)(p1 p2 p3:zZ)(q1 q2 q3:Nat)(hr:B8 p)(hs:Ai p)(q:Nat)(hq:q < p.ag.length)(x:Ao)(hd:0≤x.au∧x.au≤2)(hkey:x.key.size≤1048576)(w:zW)(hp:Au w 0 w.heap.size p1 p2 p3 p):
  Calls Tryz.prog 112 #[.agg (zP p p1 p2 p3 q1 q2 q3),.int .i64 (q:Int),.agg (Ax x).toArray] w fun e w'=>∃v,e= .returned v∧w'.ownsRow w.heap.size 142 4 v (Fa p q x).length ((Fa p q x).flatMap Bp)∧Below w.heap.size w w':=by
 have hbd:=Tw hr (q:=(q:Int)) (by omega);unfold Ax;obtain⟨V0,hV0⟩:=zo (w.alloc (.cells (zP p p1 p2 p3 q1 q2 q3) 26));have k0:=zw hV0
 have hb0:=zu hV0
 obtain⟨W0,hW0⟩:=zo (V0.alloc (.cells (zY x) 113));have hX:Bk W0 V0.heap.size 113 (Ax x).toArray:=by rw[←hW0];exact Bk.new _ _ _
 have hb1:=zu hW0
 have hb2:Below w.heap.size w W0:=hb0.trans (hb1.mono hb0.size);have hI:Aau w p p1 p2 p3 q1 q2 q3 W0:=⟨k0.below hb1 k0.lt,(hp.below hb2 (zn _)).wider (zn _) hb2.size⟩;obtain⟨b,o,rfl,_,_,d2⟩:=Td hI.bz.ag hq;have m0:=hI.box.cell 0;have m1:=hI.box.cell 1;have m2:=hI.box.cell 2;have x1:=hX.cell 1;have x4:=hX.cell 4;simp only[Ax,zI,zJ,zK] at m0 m1 m2 x1 x4;have hj2:(q:Int) < (p.ag.length:Int):=by omega
 have HI:=zh hI;have HX:=zh hX;have HB:=zh hb2;clear hI hX hb2 hb1 hb0 k0 hp;go_enter Tryz.func112,Tryz.ntmps112
 by_cases hdd:(Bz p q).dead < 0
 ·have HP:=zh (Qn (.inl hdd):Fa p q x=[])
  clear hbd
  go_wp2
  go_ret
  exact⟨_,rfl,by rw[HP.out];exact World.ownsRow_nil _ _ _ _,HB.out⟩
 ·by_cases h2:(2:Int)≤x.au
  ·have HP:=zh (Qn (.inr h2):Fa p q x=[])
   clear hbd
   go_wp2
   go_ret
   exact⟨_,rfl,by rw[HP.out];exact World.ownsRow_nil _ _ _ _,HB.out⟩
  ·obtain⟨k,hk⟩:=Int.eq_ofNat_of_zero_le (show 0≤(Bz p q).dead by omega)
   have hkl:k < p.aj.length:=by omega
   have HP:=zh (Abw hk h2:Fa p q x=_);have HLY:=zh (Aa2 hr hkl (key:=x.key));have hcall:=Tp p hr hs k hkl x.key hkey p1 (some ⟨b,o,none⟩) p3 q1 q2 q3 W0 HI.out.bz;unfold Ay at hcall;rw[Ud hr hkl] at hcall;have HQ:=zh hcall;rw[hk] at d2;have hk0:¬ (k:Int) < 0:=by omega
   clear hbd hdd hk hcall;go_wp2_with fail
   refine HQ.out.mono ?_;rintro e w4 ⟨v4,rfl,n1,n2⟩;obtain⟨Aq,Cq,rfl,_⟩:=Ae n1;have H4:=zh (zi n1 n2);clear n1 n2 m0 m1 m2 x1 x4 d2;go_wp2_with fail
   refine Awe w.heap.size _ _ Cq Aq x (ofL p k x.key) w4 (zr HB.out.size H4.out.2.size) hd (by have:=HLY.out;omega) _ ?_ _ 0 (.slice none 0 0) w4 rfl (Nat.zero_le _) ⟨World.ownsRow_nil _ _ _ _,HX.out.below H4.out.2 HX.out.lt,H4.out.1,zb _ _⟩;rintro t i vw W ht ⟨ho,_,_,hbw⟩;obtain⟨u,rfl⟩:=Aij ht;rw[←HP.out] at ho;have HF:=zh (zi ho ((HB.out.trans (H4.out.2.mono HB.out.size)).trans hbw));clear ht hbw ho
   go_wp2
   go_ret
   exact⟨_,rfl,HF.out.1,HF.out.2⟩
structure Ed (w:zW) (lo g:Nat) (v1 v2 v3:Value) (rows:List Bm) (s:Aa):Prop where
 size:lo≤w.heap.size
 box:Bk w g 40 (Ey s v1 v2 v3)
 held:Ca w lo v1 v2 v3 rows s
 gl:lo≤g
theorem Ed.kept{ts:List TypeId}{w W:zW}{lo g:Nat}{v1 v2 v3:Value}{rows:List Bm}{s:Aa}(H:Ed w lo g v1 v2 v3 rows s)(hk:Ah ts w W)(hb:Below lo w W)
  (h1:132∉ts) (h2:113∉ts) (h3:115∉ts) (h4:147∉ts) (h6:40∉ts):Ed W lo g v1 v2 v3 rows s:=
 ⟨zr H.size hb.size,hk _ _ _ h6 H.box,H.held.kept hk h1 h2 h3 h4,H.gl⟩
theorem Ed.since{w W:zW}{lo g:Nat}{v1 v2 v3:Value}{rows:List Bm}{s:Aa}(H:Ed w lo g v1 v2 v3 rows s)(hb:Below w.heap.size w W):Ed W lo g v1 v2 v3 rows s:=
 H.kept (Ah.oqb (ts:=[]) hb) (hb.mono H.size) (by simp) (by simp) (by simp) (by simp) (by simp)
theorem Ed.num{w:zW}{lo g:Nat}{v1 v2 v3:Value}{rows:List Bm}{s:Aa}(H:Ed w lo g v1 v2 v3 rows s)(i:Nat)(u:Value)(a b c d e:Int)
  (hu:(Ey s v1 v2 v3).setIfInBounds i u=Ey ⟨s.ready,s.outs,s.ae,a,b,c,d,e⟩ v1 v2 v3):Ed (w.setCell ⟨g,i,none⟩ u) lo g v1 v2 v3 rows ⟨s.ready,s.outs,s.ae,a,b,c,d,e⟩∧Ah [40] w (w.setCell ⟨g,i,none⟩ u)∧Below lo w (w.setCell ⟨g,i,none⟩ u):=by
 have hk:=Ah.set H.box (ts:=[40]) (by decide) i u;have hb:Below lo w (w.setCell ⟨g,i,none⟩ u):=(zb _ _).setCell (p:=⟨g,i,none⟩) H.gl u;refine⟨⟨zr H.size hb.size,?_,(H.held.kept hk).nums _ _ _ _ _,H.gl⟩,hk,hb⟩;rw[←hu];exact H.box.ck i u
theorem Ed.rowSet{w:zW}{lo g gr n C k:Nat}{v2 v3:Value}{rows:List Bm}{s:Aa}(H:Ed w lo g (.slice (some ⟨gr,0,none⟩) n C) v2 v3 rows s)(hn:n=s.ready.length)(ra:zZ)(rc:Nat)(ys:List Ao)
  (hsl:SlT w lo 113 ra (ys.flatMap Ax)) (hc:ys.length≤rc):
  Ed (w.setCell ⟨gr,k,none⟩ (.slice ra ys.length rc)) lo g (.slice (some ⟨gr,0,none⟩) n C) v2 v3 (rows.set k ⟨ra,rc,ys⟩) { s with ready:=s.ready.set k ys } ∧Ah [132] w (w.setCell ⟨gr,k,none⟩ (.slice ra ys.length rc))∧Below lo w (w.setCell ⟨gr,k,none⟩ (.slice ra ys.length rc)):=by
 obtain⟨h1,hk⟩:=H.held.rowSet (k:=k) hn ra rc ys hsl hc;have hg:lo≤gr:=(H.held.ready.lt gr rfl).1;have hb:Below lo w (w.setCell ⟨gr,k,none⟩ (.slice ra ys.length rc)):=(zb _ _).setCell (p:=⟨gr,k,none⟩) hg _;exact⟨⟨zr H.size hb.size,hk _ _ _ (by decide) H.box,h1,H.gl⟩,hk,hb⟩
def Rv(p:Ab)(s:Aa)(q:Int):Aa×List Aj:=
 if ((Ak s q).length:Int)≤(Bz p q).bm then (s,[]) else ({ s with ready:=s.ready.set q.toNat ((Ak s q).drop 1),dropped:=s.dropped+1 },Fa p q (Ww (Ak s q)))
theorem Aqg{p:Ab}{s:Aa}{q:Int}(h:((Ak s q).length:Int)≤(Bz p q).bm):Rv p s q=(s,[]):=by
 unfold Rv;rw[zp h]
theorem Aqh{p:Ab}{s:Aa}{q:Int}{y:Ao}{r:List Ao}(h:¬ ((Ak s q).length:Int)≤(Bz p q).bm)(hy:Ak s q=y::r):Rv p s q=({ s with ready:=s.ready.set q.toNat r,dropped:=s.dropped+1 },Fa p q y):=by
 unfold Rv;rw[zq h,hy];rfl
theorem Ai1{p:Ab}{s:Aa}{q:Int}{x:Ao}(h:q.toNat < s.ready.length):Ei p s q x=Rv p { s with ready:=s.ready.set q.toNat (Bt (Ak s q) x) } q:=by
 have e:Ak { s with ready:=s.ready.set q.toNat (Bt (Ak s q) x) } q=Bt (Ak s q) x:=by
  rw[Ev (by simpa using h)];simp
 unfold Ei Rv;rw[e];simp only[List.set_set]
def Us(lo g:Nat)(v1 v2 v3:Value)(c:Aa×List Aj)(w:zW)(e:Ending)(w':zW):Prop:=
 ∃v rows,e= .returned v∧Ed w' lo g v1 v2 v3 rows c.1∧w'.ownsRow w.heap.size 142 4 v c.2.length (c.2.flatMap Bp)∧Ah [132,40] w w'∧Below lo w w'
theorem Acu(lo g:Nat)(p:Ab)(p1 p2 p3:zZ)(q1 q2 q3:Nat)(hr:B8 p)(hs:Ai p)(v1 v2 v3:Value)(rows:List Bm)(s:Aa)(q:Nat)(w:zW)(hp:Au w 0 lo p1 p2 p3 p)(H:Ed w lo g v1 v2 v3 rows s)(hq:q < p.ag.length)(hsl:s.ready.length=p.ag.length)
  (hok:∀y∈Ak s q,y.key.size≤1048576∧0≤y.au∧y.au≤2) (hdr:0≤s.dropped∧s.dropped≤1048576) (hlim:1≤(Bz p q).bm):
  Calls Tryz.prog 111 #[.agg (zP p p1 p2 p3 q1 q2 q3),zt g,.int .i64 (q:Int)] w (Us lo g v1 v2 v3 (Rv p s q) w):=by
 have hrow:s.ready[q]? =some (Ak s q):=by
  have h1:q < s.ready.length:=by omega
  rw[Ev (show((q:Int)).toNat < s.ready.length by omega),zG h1];rfl
 have HLAY:=zh (zi (fun h=>Aqg (p:=p) (s:=s) (q:=(q:Int)) h) (fun y r h hy=>Aqh (p:=p) (s:=s) (q:=(q:Int)) (y:=y) (r:=r) h hy));generalize Ak s q=line at *;obtain⟨A1,C1,hv1,_⟩:=Ae H.held.ready;subst hv1;obtain⟨gr,rfl⟩:=Fs H.held.ready (by omega);obtain⟨W0,hW0⟩:=zo (w.alloc (.cells (zP p p1 p2 p3 q1 q2 q3) 26));have hX:=zw hW0
 have hb0:=zu hW0
 have hH:=H.since hb0;have hlow:=H.size;have hp0:=hp.below (hb0.mono hlow) (zn _);have HPW:=zh hp;clear H hp;obtain⟨b,o,rfl,_,d1,_⟩:=Td hp0.ag hq;obtain⟨ra,rc,hrc,hrsl,hcell⟩:=hH.held.rowAt rfl hrow;have HCELL:=zh hcell;have e0:W0.drew.cell? ⟨g,0,none⟩=some (.slice (some ⟨gr,0,none⟩) s.ready.length C1)∧W0.drew.cell? ⟨gr,q,none⟩=some (.slice ra line.length rc)∧W0.drew.cell? ⟨w.heap.size,1,none⟩=some (.slice (some ⟨b,o,none⟩) p.ag.length q2)∧W0.drew.cell? ⟨b,o+q * 3+1,none⟩=some (.int .i64 (Bz p q).bm):=⟨hH.box.cell 0,(hcell [] W0 (by simp) (Ah.refl _ _)).1,hX.cell 1,d1⟩;have hj2:(q:Int) < (s.ready.length:Int):=by omega
 have hj3:(q:Int) < (p.ag.length:Int):=by omega
 have HH:=zh (fun(W:zW) (h:Below W0.heap.size W0 W)=>hH.since h);have H0:=zh hH;have HX:=zh hX;have HP0:=zh hp0;have HB:=zh (zi hb0 hlow);have HSL:=zh hrsl;clear hX hb0 hH hrsl hcell hrow hsl hp0;go_enter Tryz.func111,Tryz.ntmps111
 go_wp2_with fail
 refine Kl [(0,false),(1,false),(2,false),(3,false),(4,false),(5,false),(6,false),(7,false),(8,false),(9,false),(10,false),(11,false),(12,false),(13,false),(14,false)] (by kernel_rfl) (fun hOrd=> ?_);refine Rt (S:=(fun W=>zM W g 0 (.slice (some ⟨gr,0,none⟩) s.ready.length C1)∧zM W gr q (.slice ra line.length rc)∧zM W w.heap.size 1 (.slice (some ⟨b,o,none⟩) p.ag.length q2)∧zM W b (o+q * 3+1) (.int .i64 (Bz p q).bm))) hOrd (by kernel_rfl) (by first|assumption|exact e0) (fun hHeld=> ?_);clear hOrd
 iterate 15 (first|(refine zT ?_)|(refine zL ?_))
 refine NW.done ?_;clear e0 hHeld;obtain⟨W1,hW1⟩:=zo W0.drew;have hbd:Below W0.heap.size W0 W1:=by rw[←hW1];exact(zb _ _).drew
 rw[hW1];have H1:=zh (HH.out _ hbd);have HX1:=zh (HX.out.below hbd HX.out.lt);have HD:=zh hbd;have HB1:=zh (HB.out.1.trans (hbd.mono HB.out.1.size));clear hbd hW1;by_cases hc:(line.length:Int)≤(Bz p q).bm
 ·have HL:=zh (HLAY.out.1 hc)
  go_wp2
  go_ret
  refine⟨_,rows,rfl,by rw[HL.out];exact H1.out,by rw[HL.out];exact World.ownsRow_nil _ _ _ _,Ah.oqb HB1.out,HB1.out.mono HB.out.2⟩
 ·obtain⟨y,rest,hyr⟩:∃y rest,line=y::rest:=by
   cases line with
   |nil=>simp at hc;omega
   |cons y r=>exact⟨y,r,rfl⟩
  have HL:=zh (HLAY.out.2 y rest (by omega) hyr);have HOK:=zh (hok y (by rw[hyr];exact List.mem_cons_self));have hsl1:=HSL.out.keep (Ah.oqb (ts:=[]) HD.out) (by simp);have hlen1:1≤line.length:=by rw[hyr];exact Nat.succ_le_succ (Nat.zero_le _)
  have HLEN:Hid (line.length=rest.length+1):=zh (by rw[hyr];rfl);rw[hyr] at hsl1;obtain⟨rb,ro,rfl,hlrb,hitem⟩:=hsl1.head;obtain⟨i0,i1,i2,i3,i4⟩:=hitem [] W1 (by simp) (Ah.refl _ _);obtain⟨nl,hnl⟩:=zo line.length;rw[hnl] at hc hlen1 hrc HLEN⊢;have hcb:¬ (nl:Int)≤(Bz p q).bm:=hc;have hnl0:(0:Int) < (nl:Int):=by omega
  have HTAIL:Hid (SlT W1 lo 113 (E6 (some ⟨rb,ro,none⟩) rc 1 5) (rest.flatMap Ax)∧rest.length=nl - 1∧rest.length≤rc - 1):=by
   have hl2:((y::rest).flatMap Ax).length=nl * 5:=by rw[Dd Cu,List.length_cons,HLEN.out]
   have h:=hsl1.cut (k:=1) hl2 hlen1 hrc;have hd:((y::rest).flatMap Ax).drop (1 * 5)=rest.flatMap Ax:=by rw[List.flatMap_cons];rfl
   rw[hd] at h;have:=HLEN.out;exact⟨h,by omega,by omega⟩
  obtain⟨X1,hX1⟩:=zo (W1.alloc (.cells (zY y) 113));have hi1:=zw hX1
  have hbx:=zu hX1
  have hcut:=Aia (some ⟨rb,ro,none⟩) nl rc hlen1;have hx1:=(H1.out.since hbx).since (zb _ _).drew;have a0:=H1.out.box.cell 0;have c1:=(HCELL.out [] W1 (by simp) (Ah.oqb HD.out)).1;obtain⟨t1,t2,t3⟩:=HCELL.out [] X1 (by simp) (Ah.oqb (HD.out.trans (hbx.mono HD.out.size)));rw[hnl] at t1 c1;have e0:X1.drew.cell? ⟨g,0,none⟩=some (.slice (some ⟨gr,0,none⟩) s.ready.length C1)∧X1.drew.cell? ⟨gr,q,none⟩=some (.slice (some ⟨rb,ro,none⟩) nl rc):=⟨hx1.box.cell 0,t1⟩;simp only[Ey,zI,zJ,zK] at a0;have HTL:=zh (HTAIL.out.1.keep (Ah.oqb (ts:=[]) (hbx.trans (zb _ _).drew)) (by simp));have hset:=hx1.rowSet (k:=q) rfl (E6 (some ⟨rb,ro,none⟩) rc 1 5) (rc - 1) rest HTL.out HTAIL.out.2.2;rw[HTAIL.out.2.1] at hset;obtain⟨Y,hYY⟩:=zo ((X1.setCell ⟨gr,q,none⟩ (.slice (E6 (some ⟨rb,ro,none⟩) rc 1 5) (nl - 1) (rc - 1))).drew);have hset2:Ed Y lo g (.slice (some ⟨gr,0,none⟩) s.ready.length C1) v2 v3 (rows.set q ⟨E6 (some ⟨rb,ro,none⟩) rc 1 5,rc - 1,rest⟩) { s with ready:=s.ready.set q rest } ∧Ah [132] X1.drew Y∧Below lo X1.drew Y:=by rw[←hYY];exact hset
  have hbY:Below w.heap.size w X1.drew:=HB1.out.trans ((hbx.trans (zb _ _).drew).mono HB1.out.size);have HY:Hid (Ed Y lo g (.slice (some ⟨gr,0,none⟩) s.ready.length C1) v2 v3 (rows.set q ⟨E6 (some ⟨rb,ro,none⟩) rc 1 5,rc - 1,rest⟩) { s with ready:=s.ready.set q rest } ∧Bk Y W1.heap.size 113 (zY y)∧Bk Y w.heap.size 26 (zP p p1 (some ⟨b,o,none⟩) p3 q1 q2 q3)∧Ah [132] w Y∧Below lo w Y):=
   zh ⟨hset2.1,hset2.2.1 _ _ _ (by decide) hi1,hset2.2.1 _ _ _ (by decide) (HX1.out.below (hbx.trans (zb _ _).drew) HX1.out.lt),(Ah.oqb hbY).trans hset2.2.1,(hbY.mono HB.out.2).trans hset2.2.2⟩
  have e1:((X1.setCell ⟨gr,q,none⟩ (.slice (E6 (some ⟨rb,ro,none⟩) rc 1 5) (nl - 1) (rc - 1))).drew).cell? ⟨g,0,none⟩=some (.slice (some ⟨gr,0,none⟩) s.ready.length C1):=by rw[hYY];exact HY.out.1.box.cell 0
  have z4:X1.drew.cell? ⟨gr,q,none⟩=some (.slice (some ⟨rb,ro,none⟩) nl rc):=t1;have e2:X1.drew.cell? ⟨g,0,none⟩=some (.slice (some ⟨gr,0,none⟩) s.ready.length C1):=e0.1;have HYY:=zh hYY;clear hset hset2 hx1 hi1 hbx hsl1 hitem hc hok hyr hnl hYY hbY;go_wp2_with fail
  clear a0 c1 i0 i1 i2 i3 i4;refine Kl [(0,false),(1,false),(2,false),(3,false),(4,false),(5,false),(6,false),(7,false),(8,false),(9,false),(10,false),(11,true),(12,true),(13,false),(14,true)] (by kernel_rfl) (fun hOrd=> ?_);refine Rt (S:=(fun W=>W.cell? ⟨g,0,none⟩=some (.slice (some ⟨gr,0,none⟩) s.ready.length C1))) hOrd (by kernel_rfl) (by first|assumption|exact e2|exact e1) (fun hHeld=> ?_);clear hOrd
  iterate 15 ((first|(refine zT ?_)|(refine zL ?_)|(refine NW.call rfl (fun K hK=> ?_);go_simp;refine zk hK (by first|assumption|exact e2|exact e1) (fun hHeld=> ?_);clear hK K)))
  refine NW.done ?_;rw[HYY.out];clear e0 e1 e2 t1 t2 t3 z4 hHeld hcut HTAIL HTL;have b7:=HY.out.1.box.cell 7;have f7:=HY.out.1.box.frozen 7;have l7:=HY.out.1.box.lt;have hwr:IntKind.i64.wrap (s.dropped+1)=s.dropped+1:=IntWalk.i64_in _ (by omega);obtain⟨Z,hZ⟩:=zo (Y.setCell ⟨g,7,none⟩ (.int .i64 (s.dropped+1)));obtain⟨hz1,hz2,hz3⟩:=HY.out.1.num 7 (.int .i64 (s.dropped+1)) s.ah s.af s.aw s.ar (s.dropped+1) rfl;rw[hZ] at hz1 hz2 hz3;have ky:=hz2 _ _ _ (by decide) HY.out.2.1;have kp:=hz2 _ _ _ (by decide) HY.out.2.2.1;obtain⟨i0,i1,i2,i3,i4⟩:=(⟨ky.cell 0,ky.cell 1,ky.cell 2,ky.cell 3,ky.cell 4⟩:zM Z W1.heap.size 0 (.int .i64 y.seq)∧zM Z W1.heap.size 1 (.string y.key)∧zM Z W1.heap.size 2 (.string y.body)∧zM Z W1.heap.size 3 (.bool y.again)∧zM Z W1.heap.size 4 (.int .i64 y.au));obtain⟨j0,j1,j2⟩:=(⟨kp.cell 0,kp.cell 1,kp.cell 2⟩:zM Z w.heap.size 0 (.slice p1 p.aj.length q1)∧zM Z w.heap.size 1 (.slice (some ⟨b,o,none⟩) p.ag.length q2)∧zM Z w.heap.size 2 (.slice p3 p.binds.length q3));simp only[Ey,zI,zJ,zK] at b7;have hbz:Below lo w Z:=HY.out.2.2.2.2.trans hz3;have HZ:Hid (Ed Z lo g (.slice (some ⟨gr,0,none⟩) s.ready.length C1) v2 v3 (rows.set q ⟨E6 (some ⟨rb,ro,none⟩) rc 1 5,rc - 1,rest⟩) ⟨s.ready.set q rest,s.outs,s.ae,s.ah,s.af,s.aw,s.ar,s.dropped+1⟩∧Ah [132,40] w Z∧Below lo w Z):=zh ⟨hz1,(HY.out.2.2.2.1.more (by simp)).trans (hz2.more (by simp)),hbz⟩;have HDY:=zh (Aeg p p1 (some ⟨b,o,none⟩) p3 q1 q2 q3 hr hs q hq y HOK.out.2 HOK.out.1 Z ((HPW.out.below hbz (zn _)).wider (zn _) hz1.size));clear hz1 hz2 hz3 ky kp hbz;go_wp2_with fail
  refine HDY.out.mono ?_;rintro e w5 ⟨v5,rfl,o5,b5⟩;have H5:=zh (zi o5 b5);obtain⟨A5,C5,rfl,_⟩:=Ae o5;clear o5 b5 i0 i1 i2 i3 i4 j0 j1 j2 b7 f7 l7
  go_wp2
  go_ret
  refine⟨_,rows.set q ⟨E6 (some ⟨rb,ro,none⟩) rc 1 5,rc - 1,rest⟩,rfl,?_,?_,HZ.out.2.1.trans (Ah.oqb H5.out.2),HZ.out.2.2.trans (H5.out.2.mono HZ.out.1.size)⟩
  ·rw[HL.out]
   exact HZ.out.1.since H5.out.2
  ·rw[HL.out]
   exact Da H5.out.1 HZ.out.2.2.size
structure Ayg (X0 X1:Nat) (p:Ab) (p2:zZ) (q2:Nat) (al:zZ) (l:List Aj) (W:zW):Prop where
 ag:W.cell? ⟨X0,1,none⟩=some (.slice p2 p.ag.length q2)
 line:Sl W 0 W.heap.size al (l.flatMap Bp)
def ae1_T(X0 X1 cl i:Nat)(al:zZ)(l:List Aj)(t:Array Value):Array Value:=fj [[gd t 0,gd t 1,.slice al l.length cl,zt X0,zt X1,gd t 5,.int .i64 0,gd t 7,.int .i64 (i:Int)],fr t 9 61]
theorem Ahv{X0 X1 cl i:Nat}{al:zZ}{l:List Aj}{t:Array Value}(h:t=(ae1_T X0 X1 cl i al l t)):∃u:Nat→Value,t= #[u 0,u 1,.slice al l.length cl,zt X0,zt X1,u 5,.int .i64 0,u 7,.int .i64 (i:Int),u 9,u 10,u 11,u 12,u 13,u 14,u 15,u 16,u 17,u 18,u 19,u 20,u 21,u 22,u 23,u 24,u 25,u 26,u 27,u 28,u 29,u 30,u 31,u 32,u 33,u 34,u 35,u 36,u 37,u 38,u 39,u 40,u 41,u 42,u 43,u 44,u 45,u 46,u 47,u 48,u 49,u 50,u 51,u 52,u 53,u 54,u 55,u 56,u 57,u 58,u 59,u 60,u 61,u 62,u 63,u 64,u 65,u 66,u 67,u 68,u 69]:=⟨fun i=>t.getD i undef,h⟩
def ae2_T(X0 X1 cl i:Nat)(al:zZ)(l:List Aj)(t:Array Value):Array Value:=fj [[gd t 0,gd t 1,.slice al l.length cl,zt X0,zt X1,gd t 5,.int .i64 0,gd t 7,gd t 8,.int .i64 (i:Int)],fr t 10 60]
theorem Ahw{X0 X1 cl i:Nat}{al:zZ}{l:List Aj}{t:Array Value}(h:t=(ae2_T X0 X1 cl i al l t)):∃u:Nat→Value,t= #[u 0,u 1,.slice al l.length cl,zt X0,zt X1,u 5,.int .i64 0,u 7,u 8,.int .i64 (i:Int),u 10,u 11,u 12,u 13,u 14,u 15,u 16,u 17,u 18,u 19,u 20,u 21,u 22,u 23,u 24,u 25,u 26,u 27,u 28,u 29,u 30,u 31,u 32,u 33,u 34,u 35,u 36,u 37,u 38,u 39,u 40,u 41,u 42,u 43,u 44,u 45,u 46,u 47,u 48,u 49,u 50,u 51,u 52,u 53,u 54,u 55,u 56,u 57,u 58,u 59,u 60,u 61,u 62,u 63,u 64,u 65,u 66,u 67,u 68,u 69]:=⟨fun i=>t.getD i undef,h⟩
theorem Ahx{e:Int}{t:Array Value}(h:t=fj [fr t 0 6,[.int .i64 e],fr t 7 63]):∃u:Nat→Value,t= #[u 0,u 1,u 2,u 3,u 4,u 5,.int .i64 e,u 7,u 8,u 9,u 10,u 11,u 12,u 13,u 14,u 15,u 16,u 17,u 18,u 19,u 20,u 21,u 22,u 23,u 24,u 25,u 26,u 27,u 28,u 29,u 30,u 31,u 32,u 33,u 34,u 35,u 36,u 37,u 38,u 39,u 40,u 41,u 42,u 43,u 44,u 45,u 46,u 47,u 48,u 49,u 50,u 51,u 52,u 53,u 54,u 55,u 56,u 57,u 58,u 59,u 60,u 61,u 62,u 63,u 64,u 65,u 66,u 67,u 68,u 69]:=⟨fun i=>t.getD i undef,h⟩
noncomputable def Avx:Code:=It Tryz.f156 0
noncomputable def Avy:Code:=It Tryz.f156 1
theorem Ad5{W:zW}{lo hi gb ob i:Nat}{l:List Aj}{a:Aj}(h:Sl W lo hi (some ⟨gb,ob,none⟩) (l.flatMap Bp))(ha:l[i]? =some a):zM W gb (ob+i * 4) (.int .i64 a.queue)∧zM W gb (ob+i * 4+1) (.string a.key)∧zM W gb (ob+i * 4+2) (.string a.body)∧zM W gb (ob+i * 4+3) (.int .i64 a.au):=by
 obtain⟨hi,rfl⟩:=List.getElem?_eq_some_iff.1 ha;obtain⟨g,o,e,_,_,hx⟩:=Bf D4 (by decide) h hi
 cases e
 exact⟨hx 0 _ rfl,hx 1 _ rfl,hx 2 _ rfl,hx 3 _ rfl⟩
def Amq(X0 X1 cl:Nat)(al:zZ)(p:Ab)(l:List Aj)(W0:zW)(a:Act)(wr:zW):Prop:=
 ∃(t:Array Value)(i:Nat),t=(ae1_T X0 X1 cl i al l t)∧i≤l.length∧(l.take i).all (Lz p)=true∧Below W0.heap.size W0 wr∧a=⟨t,[]⟩
theorem Ar4(X0 X1 cl:Nat)(al:zZ)(p:Ab)(hpq:p.ag.length≤1048576)(p2:zZ)(q2:Nat)(l:List Aj)(hll:l.length≤4)(W0:zW)(hIn:∀W,Below W0.heap.size W0 W→Ayg X0 X1 p p2 q2 al l W)(Q0:Exit→Act→zW→Prop)
  (hend:∀(t:Array Value)(i:Nat)(W:zW),t=(ae1_T X0 X1 cl i al l t)→l.all (Lz p)=true→Below W0.heap.size W0 W→Q0 (.exit 0) ⟨t,[]⟩ W)
  (hret:∀(t:Array Value)(W:zW),t=fj [fr t 0 6,[.int .i64 5],fr t 7 63]→l.all (Lz p)=false→Below W0.heap.size W0 W→Q0 .ret ⟨t,[]⟩ W) (t:Array Value) (i:Nat) (W:zW) (ht:t=(ae1_T X0 X1 cl i al l t)) (hi:i≤l.length) (hall:(l.take i).all (Lz p)=true) (hW:Below W0.heap.size W0 W):
  (Code.loop Avx).wp Tryz.prog Q0 ⟨t,[]⟩ W:=by
 refine wp_loop (Amq X0 X1 cl al p l W0) (fun a _=>l.length - (intOf (a.tmps.getD 8 undef)).toNat) ⟨t,i,ht,hi,hall,hW,rfl⟩ ?_;clear ht hi hall hW t i W;rintro a' wr ⟨t,i,ht,hi,hall,hW,rfl⟩;obtain⟨u,rfl⟩:=Ahv ht;clear ht;have HEND:=zh hend;have HRET:=zh hret;have HW:=zh hW;have HAL:=zh hall;have HIN:=zh hIn;clear hend hret hall hIn
 conv=>arg 2;whnf
 by_cases hlt:i < l.length
 ·have hj2:(i:Int) < (l.length:Int):=by omega
  obtain⟨gb,ob,rfl,_,_,_⟩:=Bf D4 (by decide) (HIN.out _ hW).line hlt;have hno:=We (f:=Lz p) hlt HAL.out;have hba:=Aav (f:=Lz p) hlt;have hai:l[i]? =some l[i]:=zG hlt;generalize l[i]=a at *;have hd:Below W0.heap.size W0 wr.drew:=hW.drew;have e0:wr.drew.cell? ⟨gb,ob+i * 4,none⟩=some (.int .i64 a.queue)∧wr.drew.cell? ⟨X0,1,none⟩=some (.slice p2 p.ag.length q2):=⟨(Ad5 (HIN.out _ hd).line hai).1,(HIN.out _ hd).ag⟩;have HV:=zh hd;have HNO:=zh hno;have HBA:=zh hba;have HR:Hid (∀t:Array Value,∀(i':Nat),i'=i+1→t=fj [[gd t 0,gd t 1,.slice (some ⟨gb,ob,none⟩) l.length cl,zt X0,zt X1,gd t 5,.int .i64 0,gd t 7,.int .i64 (i':Int)],fr t 9 61]→(l.take (i+1)).all (Lz p)=true→∀W,Below W0.heap.size W0 W→Amq X0 X1 cl (some ⟨gb,ob,none⟩) p l W0 ⟨t,[]⟩ W):=
   zh fun t i' hi' ht hc' W hW=>⟨t,i',ht,by omega,by rw[hi'];exact hc',hW,rfl⟩
  have hwq:IntKind.i64.wrap ((p.ag.length:Int) - 1)=(p.ag.length:Int) - 1:=IntWalk.i64_in _ (by omega);clear hd hno hba hai hW
  cases hb:Lz p a
  ·have HB:=zh (HBA.out hb)
   have HD:=zh (show(decide ((0:Int)≤a.queue) && decide (a.queue≤(p.ag.length:Int) - 1))=false by
    unfold Lz at hb;rw[Bool.and_eq_false_iff] at hb⊢;simp only[decide_eq_false_iff_not] at hb⊢;omega)
   clear hb;go_wp2_with fail
   refine Jo ?_;refine Kl [(0,false),(1,false),(2,false),(3,false),(4,false),(5,false),(6,false),(7,false),(8,false),(9,true),(10,false)] (by kernel_rfl) (fun hOrd=> ?_);refine Rt (S:=(fun W=>zM W gb (ob+i * 4) (.int .i64 a.queue)∧zM W X0 1 (.slice p2 p.ag.length q2))) hOrd (by kernel_rfl) (by first|assumption|exact e0) (fun hHeld=> ?_);clear hOrd
   iterate 11 ((first|(refine zT ?_)|(refine zL ?_)|(refine NW.call rfl (fun K hK=> ?_);go_simp;((go_at_call 55;(with_reducible refine(Cc _ _ _ _).mono ?_);rintro e w5 ⟨rfl,rfl⟩;rw[HD.out]));refine zk hK (by first|assumption|exact e0) (fun hHeld=> ?_);clear hK K)))
   refine NW.done ?_;refine RQ0.normal ?_;clear hHeld e0
   go_wp2
   exact HRET.out _ _ rfl HB.out HV.out
  ·have HO:=zh (HNO.out hb)
   have HD:=zh (show(decide ((0:Int)≤a.queue) && decide (a.queue≤(p.ag.length:Int) - 1))=true by
    unfold Lz at hb;rw[zc] at hb⊢;simp only[zd] at hb⊢;omega)
   clear hb;go_wp2_with fail
   refine Jo ?_;refine Kl [(0,false),(1,false),(2,false),(3,false),(4,false),(5,false),(6,false),(7,false),(8,false),(9,true),(10,false)] (by kernel_rfl) (fun hOrd=> ?_);refine Rt (S:=(fun W=>zM W gb (ob+i * 4) (.int .i64 a.queue)∧zM W X0 1 (.slice p2 p.ag.length q2))) hOrd (by kernel_rfl) (by first|assumption|exact e0) (fun hHeld=> ?_);clear hOrd
   iterate 11 ((first|(refine zT ?_)|(refine zL ?_)|(refine NW.call rfl (fun K hK=> ?_);go_simp;((go_at_call 55;(with_reducible refine(Cc _ _ _ _).mono ?_);rintro e w5 ⟨rfl,rfl⟩;rw[HD.out]));refine zk hK (by first|assumption|exact e0) (fun hHeld=> ?_);clear hK K)))
   refine NW.done ?_;refine RQ0.normal ?_;clear hHeld e0
   go_wp2
   exact⟨HR.out _ _ rfl rfl HO.out _ HV.out,by simp[intOf];omega⟩
 ·obtain rfl:i=l.length:=by omega
  have HF:=zh (show l.all (Lz p)=true by have h:=HAL.out;rwa [List.take_length] at h)
  go_wp2
  exact HEND.out _ l.length _ rfl HF.out HW.out
def Amr(X0 X1 cl:Nat)(al:zZ)(l:List Aj)(W0:zW)(a:Act)(wr:zW):Prop:=
 ∃(t:Array Value)(i:Nat),t=(ae2_T X0 X1 cl i al l t)∧i≤l.length∧(l.take i).all En=true∧Below W0.heap.size W0 wr∧a=⟨t,[]⟩
theorem Ar5(X0 X1 cl:Nat)(al:zZ)(p:Ab)(p2:zZ)(q2:Nat)(l:List Aj)(hll:l.length≤4)(hsm:∀a∈l,Iz a)(W0:zW)(hIn:∀W,Below W0.heap.size W0 W→Ayg X0 X1 p p2 q2 al l W)(Q0:Exit→Act→zW→Prop)
  (hend:∀(t:Array Value)(i:Nat)(W:zW),t=(ae2_T X0 X1 cl i al l t)→l.all En=true→Below W0.heap.size W0 W→Q0 (.exit 2) ⟨t,[]⟩ W)
  (hret:∀(t:Array Value)(W:zW),t=fj [fr t 0 6,[.int .i64 1],fr t 7 63]→l.all En=false→Below W0.heap.size W0 W→Q0 .ret ⟨t,[]⟩ W) (t:Array Value) (i:Nat) (W:zW) (ht:t=(ae2_T X0 X1 cl i al l t)) (hi:i≤l.length) (hall:(l.take i).all En=true) (hW:Below W0.heap.size W0 W):
  (Code.loop Avy).wp Tryz.prog Q0 ⟨t,[]⟩ W:=by
 refine wp_loop (Amr X0 X1 cl al l W0) (fun a _=>l.length - (intOf (a.tmps.getD 9 undef)).toNat) ⟨t,i,ht,hi,hall,hW,rfl⟩ ?_;clear ht hi hall hW t i W;rintro a' wr ⟨t,i,ht,hi,hall,hW,rfl⟩;obtain⟨u,rfl⟩:=Ahw ht;clear ht;have HEND:=zh hend;have HRET:=zh hret;have HW:=zh hW;have HAL:=zh hall;have HIN:=zh hIn;clear hend hret hall hIn
 conv=>arg 2;whnf
 by_cases hlt:i < l.length
 ·have hj2:(i:Int) < (l.length:Int):=by omega
  obtain⟨gb,ob,rfl,_,_,_⟩:=Bf D4 (by decide) (HIN.out _ hW).line hlt;have hno:=We (f:=En) hlt HAL.out;have hba:=Aav (f:=En) hlt;have hsa:=hsm _ (zg hlt);have hai:l[i]? =some l[i]:=zG hlt;generalize l[i]=a at *;have HNO:=zh hno;have HBA:=zh hba;have HX:=zh (fun(W:zW) (h:Below W0.heap.size W0 W)=>Ad5 (HIN.out W h).line hai);have HR:Hid (∀t:Array Value,∀(i':Nat),i'=i+1→t=fj [[gd t 0,gd t 1,.slice (some ⟨gb,ob,none⟩) l.length cl,zt X0,zt X1,gd t 5,.int .i64 0,gd t 7,gd t 8,.int .i64 (i':Int)],fr t 10 60]→(l.take (i+1)).all En=true→∀W,Below W0.heap.size W0 W→Amr X0 X1 cl (some ⟨gb,ob,none⟩) l W0 ⟨t,[]⟩ W):=
   zh fun t i' hi' ht hc' W hW=>⟨t,i',ht,by omega,by rw[hi'];exact hc',hW,rfl⟩
  obtain⟨_,x1,_,_⟩:=HX.out _ hW;have hks:=hsa.key;have hbs:=hsa.body;clear hno hba hai hW hsa;go_wp2_with fail
  refine(Kd a.key wr (by omega)).mono ?_;rintro e w5 ⟨rfl,b5⟩;have H5:=zm HW b5;clear b5 x1;obtain⟨_,_,x2,x3⟩:=HX.out _ H5.out;have HFI:Hid (En a=(decide (Be isWord a.key=0) && decide (a.body.size≤12) && decide (0≤a.au) && decide (a.au≤2))):=zh rfl;by_cases h1:Be isWord a.key=0
  ·have b1:(Be isWord a.key != 0)=false:=by simp[h1]
   by_cases h2:a.body.size≤12
   ·have b2:¬ (12:Int) < (a.body.size:Int):=by omega
    cases h3:(decide ((0:Int)≤a.au) && decide (a.au≤2))
    ·have HB:=zh (HBA.out (by rw[HFI.out,Bool.and_assoc,h3,Bool.and_false]))
     have H3:=zh h3;clear h1 h3;go_wp2_with (go_at_call 55;refine(Cc _ _ _ _).mono ?_;rintro e w6 ⟨rfl,rfl⟩;rw[H3.out])
     exact HRET.out _ _ rfl HB.out H5.out
    ·have HO:=zh (HNO.out (by rw[HFI.out,Bool.and_assoc,h3];simp[h1,h2]))
     have H3:=zh h3;clear h1 h3;go_wp2_with (go_at_call 55;refine(Cc _ _ _ _).mono ?_;rintro e w6 ⟨rfl,rfl⟩;rw[H3.out])
     exact⟨HR.out _ _ rfl rfl HO.out _ H5.out,by simp[intOf];omega⟩
   ·have b2:(12:Int) < (a.body.size:Int):=by omega
    have HB:=zh (HBA.out (by rw[HFI.out];simp[h2]));clear h1 h2
    go_wp2
    exact HRET.out _ _ rfl HB.out H5.out
  ·have b1:(Be isWord a.key != 0)=true:=by simp[h1]
   have HB:=zh (HBA.out (by rw[HFI.out];simp[h1]));clear h1
   go_wp2
   exact HRET.out _ _ rfl HB.out H5.out
 ·obtain rfl:i=l.length:=by omega
  have HF:=zh (show l.all En=true by have h:=HAL.out;rwa [List.take_length] at h)
  go_wp2
  exact HEND.out _ l.length _ rfl HF.out HW.out
theorem Aag(p:Ab)(s:Aa)(l:List Aj)(p1 p2 p3 a1 a2 a3 al:zZ)(q1 q2 q3 c1 c2 c3 cl:Nat)(rows:List Bm)(w:zW)(hE:Env w)(hp:Au w 0 w.heap.size p1 p2 p3 p)(hps:Ai p)(hs:Av w 0 w.heap.size a1 a2 a3 rows s)(hss:Ap s)(hsi:A9 s)
  (hl:Sl w 0 w.heap.size al (l.flatMap Bp)) (hll:l.length≤1048576) (hsm:∀a∈l,Iz a):
  Calls Tryz.prog 156 #[Ay p p1 p2 p3 q1 q2 q3,Ad s a1 a2 a3 c1 c2 c3,.slice al l.length cl] w fun e w'=>e= .returned (.int .i64 (Bh p s l))∧Below w.heap.size w w':=by
 have hbx:=Cj q1 q2 q3 c1 c2 c3 hE hp hs 26 40;unfold Ag at hbx;unfold Ad Ay Ag;have hpq:=hps.ag;have HPS:=zh hps;have HSS:=zh hss;have HSI:=zh hsi;obtain⟨V0,hV0⟩:=zo ((w.alloc (.cells (zP p p1 p2 p3 q1 q2 q3) 26)).alloc (.cells (zV s a1 a2 a3 c1 c2 c3) 40));rw[hV0] at hbx;have HBX:=zh hbx;have HLN:Hid (∀W,Below V0.heap.size V0 W→Ayg w.heap.size (w.heap.size+1) p p2 q2 al l W):=zh fun W hW=>
  have k:=HBX.out W hW
  ⟨k.bz.2.1,(hl.below k.below (zn _)).wider (zn _) k.below.size⟩
 have HSM:=zh hsm;have hae:Bh p s l=if Am p s≠0 then Am p s else if 4 < l.length then 2 else if l.all (Lz p)=false then 5 else if l.all En=false then 1 else if 524288 < s.ah then 2 else 0:=rfl
 have HAE:=zh hae;obtain⟨⟨m0,m1,m2⟩,⟨n0,n1,n2,n3,n4,n5,n6,n7⟩,_,_,_,_⟩:=hbx _ (zb _ _);clear hE hp hs hps hss hsi hl hae hsm hbx;go_enter Tryz.func156,Tryz.ntmps156
 go_wp2_with fail
 clear m0 m1 m2 n0 n1 n2 n3 n4 n5 n6 n7;have hcall:=F5 p s p1 p2 p3 a1 a2 a3 q1 q2 q3 c1 c2 c3 rows V0 (HBX.out _ (zb _ _)).env (HBX.out _ (zb _ _)).bu HPS.out (HBX.out _ (zb _ _)).bc HSS.out HSI.out;unfold Ad Ay Ag at hcall;refine hcall.mono ?_;clear hcall;rintro e W1 ⟨rfl,hb1⟩;have HB1:=zh hb1;clear hb1;by_cases hc:Am p s=0
 ·have b1:(Am p s != 0)=false:=by simp[hc]
  by_cases hl4:4 < l.length
  ·have hl4i:(4:Int) < (l.length:Int):=by omega
   have HEQ:=zh (show Bh p s l=2 by rw[HAE.out,zq (by simp[hc]),zp hl4]);clear hc
   go_wp2
   go_ret
   exact⟨by rw[HEQ.out];rfl,(HBX.out _ HB1.out).below⟩
  ·have hl4i:¬ (4:Int) < (l.length:Int):=by omega
   have HC:=zh hc;clear hc;go_wp2_with fail
   refine Ar4 w.heap.size (w.heap.size+1) cl al p hpq p2 q2 l (by omega) W1 (fun W hW=>HLN.out W (HB1.out.trans (hW.mono HB1.out.size))) _ ?_ ?_ _ 0 W1 rfl (Nat.zero_le _) rfl (zb _ _)
   ·rintro t i W2 ht hall hb2
    obtain⟨u,rfl⟩:=Ahv ht;have HA1:=zh hall;have HB2:=zm HB1 hb2;clear ht hall hb2;go_wp2_with fail
    refine Ar5 w.heap.size (w.heap.size+1) cl al p p2 q2 l (by omega) HSM.out W2 (fun W hW=>HLN.out W (HB2.out.trans (hW.mono HB2.out.size))) _ ?_ ?_ _ 0 W2 rfl (Nat.zero_le _) rfl (zb _ _)
    ·rintro t i W3 ht hall hb3
     obtain⟨u,rfl⟩:=Ahw ht;have HA2:=zh hall;have HB3:=zm HB2 hb3;clear ht hall hb3;have n3:=(HBX.out _ HB3.out).state.2.2.2.1;by_cases hsq:524288 < s.ah
     ·have HEQ:=zh (show Bh p s l=2 by rw[HAE.out,zq (by simp[HC.out]),zq hl4,zq (by rw[HA1.out];simp),zq (by rw[HA2.out];simp),zp hsq])
      go_wp2
      go_ret
      exact⟨by rw[HEQ.out];rfl,(HBX.out _ HB3.out).below⟩
     ·have HEQ:=zh (show Bh p s l=0 by rw[HAE.out,zq (by simp[HC.out]),zq hl4,zq (by rw[HA1.out];simp),zq (by rw[HA2.out];simp),zq hsq])
      go_wp2
      go_ret
      exact⟨by rw[HEQ.out];rfl,(HBX.out _ HB3.out).below⟩
    ·rintro t W3 ht hall hb3
     obtain⟨u,rfl⟩:=Ahx ht;have HEQ:=zh (show Bh p s l=1 by rw[HAE.out,zq (by simp[HC.out]),zq hl4,zq (by rw[HA1.out];simp),zp hall]);have HB3:=zm HB2 hb3;clear ht hall hb3
     go_wp2
     go_ret
     exact⟨by rw[HEQ.out];rfl,(HBX.out _ HB3.out).below⟩
   ·rintro t W3 ht hall hb3
    obtain⟨u,rfl⟩:=Ahx ht;have HEQ:=zh (show Bh p s l=5 by rw[HAE.out,zq (by simp[HC.out]),zq hl4,zp hall]);have HB3:=zm HB1 hb3;clear ht hall hb3
    go_wp2
    go_ret
    exact⟨by rw[HEQ.out];rfl,(HBX.out _ HB3.out).below⟩
 ·have b1:(Am p s != 0)=true:=by simp[hc]
  have HEQ:=zh (show Bh p s l=Am p s by rw[HAE.out,zp hc])
  go_wp2
  go_ret
  exact⟨by rw[HEQ.out];rfl,(HBX.out _ HB1.out).below⟩
def M0(W:zW)(lo:Nat)(al:zZ)(L:List Aj):Prop:=
 Sl W 0 lo al (L.flatMap Bp)∨SlT W lo 142 al (L.flatMap Bp)
theorem M0.sl{W:zW}{lo:Nat}{al:zZ}{L:List Aj}(h:M0 W lo al L)(hl:lo≤W.heap.size):Sl W 0 W.heap.size al (L.flatMap Bp):=by
 rcases h with h|h
 ·exact h.wider (zn _) hl
 ·exact h.sl.wider (Nat.zero_le _) (zn _)
theorem M0.kept{ts:List TypeId}{W W':zW}{lo:Nat}{al:zZ}{L:List Aj}(h:M0 W lo al L)(hk:Ah ts W W')(hb:Below lo W W')(ha:142∉ts):M0 W' lo al L:=by
 rcases h with h|h
 ·exact .inl (h.below hb (zn _))
 ·exact .inr (h.keep hk ha)
theorem M0.own{W:zW}{lo n C:Nat}{al:zZ}{L:List Aj}(h:W.ownsRow lo 142 4 (.slice al n C) n (L.flatMap Bp)):M0 W lo al L:= .inr (SlT.cu h)
theorem Abx:∀w,(sizeOf (Tryz.prog.elem 139)).run Tryz.prog w= .ok 4 w:=fun _=>by kernel_rfl
theorem Av4(ra:zZ)(n rc:Nat)(hn:1≤n)(W:zW):(Instr.slice 139 (.slice ra n rc) (some (.int .i64 1)) none none).run Tryz.prog W= .ok (.slice (E6 ra rc 1 4) (n - 1) (rc - 1)) W:=
 Mk (P:=Tryz.prog) (t:=139) (size:=4) Tryz.underlying139 Abx ra n rc 1 1 rfl hn W
end Go.Proofs.YtpkneogjdfolaaaGreatDoor
