/- Lemmas. -/
import Derived.Test.YtpkneogjdfolaaaGreatDoorBunJ
import Derived.Test.YtpkneogjdfolaaaGreatDoorBunBB
set_option maxHeartbeats 20000000
set_option maxRecDepth 100000
set_option linter.unusedSimpArgs false
set_option linter.unusedVariables false
namespace Go.Proofs.YtpkneogjdfolaaaGreatDoor
def J3(key body:zN)(q:Int):Aj:=⟨q,key,body,0⟩
def Jv(p:Ab)(x:Int)(key body:zN):List Aj:=(Cx p x key).map (J3 key body)
def Bg(p:Ab)(s:Aa)(x:Int)(key body:zN):Int:=
 if Am p s≠0 then Am p s else if Bn p x key≠0 then Bn p x key else if 12 < body.size then 1 else Bh p s (Jv p x key body)
def B6(p:Ab)(s:Aa)(x:Int)(key body:zN):Aa:=if Bg p s x key body=0 then Cy p s (Jv p x key body) else Bd
def Cn(p:Ab)(s:Aa)(x:Int)(key body:zN):Int:=if Bg p s x key body=0 then ((Cx p x key).length:Int) else 0
theorem Tc{p:Ab}{s:Aa}{x:Int}{key body:zN}(h:Bg p s x key body=0):Am p s=0∧Bn p x key=0∧body.size≤12∧Bh p s (Jv p x key body)=0:=by
 unfold Bg at h
 split at h
 ·rename_i h1;exact absurd h h1
 ·rename_i h1
  split at h
  ·rename_i h2;exact absurd h h2
  ·rename_i h2
   split at h
   ·cases h
   ·rename_i h3
    exact⟨Decidable.not_not.1 h1,Decidable.not_not.1 h2,by omega,h⟩
theorem J5{p:Ab}{x:Int}{key:zN} :(Cx p x key).length≤4∧((Cx p x key).Pairwise (· < ·))∧∀q∈Cx p x key,0≤q∧q < 4∧q < (p.ag.length:Int):=by
 unfold Cx
 split
 ·rename_i h
  obtain⟨hr,k,rfl,hk,_⟩:=Hr h;refine⟨Aa2 hr hk,T8 _ _ _,fun q hq=> ?_⟩;have:=Aam hr hk hq;have:=hr.ag;omega
 ·exact⟨Nat.zero_le _,List.Pairwise.nil,fun q hq=>by cases hq⟩
theorem Ajo(p:Ab)(x:Int)(key body:zN):(Jv p x key body).length=(Cx p x key).length:=by unfold Jv;rw[List.length_map]
theorem Aci{p:Ab}{x:Int}{key body:zN}(hk:key.size≤1048576)(hb:body.size≤1048576):∀a∈Jv p x key body,Iz a:=fun a ha=>by
 obtain⟨q,hq,rfl⟩:=List.mem_map.1 ha;have:=J5.2.2 q hq;exact⟨hk,hb,by show -9223372036854775808≤q∧q≤9223372036854775807;omega,by show -9223372036854775808≤(0:Int)∧(0:Int)≤9223372036854775807;omega⟩
def Xq(n:Int)(l:List Ao):List Ao:=if (l.length:Int)≤n then l else l.drop 1
structure Ami (p:Ab) (s:Aa) (Q:List Int) (key body:zN) (n:Nat) (c:Aa×List Aj):Prop where
 wait:c.2=(Q.drop n).map (J3 key body)
 aw:∀q:Int,0≤q→q∈Q.take n→∃sq,s.ah≤sq∧Ak c.1 q=Xq (Bz p q).bm (Ak s q++[⟨sq,key,body,false,0⟩])
 same:∀q:Int,0≤q→q∉Q.take n→Ak c.1 q=Ak s q
theorem Ami.next{p:Ab}{s s1:Aa}{Q:List Int}{key body:zN}{n:Nat}{l L:List Aj}(hd:∀q:Int,(Bz p q).dead < 0)(hQ:Q.Pairwise (· < ·))(hQ0:∀q∈Q,0≤q)(hn:n < Q.length)(h:Ami p s Q key body n (s1,L))(hr:Im p s l n (s1,L)):
  Ami p s Q key body (n+1) (Fv p (s1,L)):=by
 have hw:=h.wait;simp only at hw;subst hw;have hdrop:Q.drop n=Q[n]::Q.drop (n+1):=List.drop_eq_getElem_cons hn;have htake:Q.take (n+1)=Q.take n++[Q[n]]:=zj hn;have hqn:0≤Q[n]:=hQ0 _ (zg hn);have hnew:Q[n]∉Q.take n:=fun hm=>by
  obtain⟨i,hi,he⟩:=List.getElem_of_mem hm;rw[List.getElem_take] at he;have hin:i < n:=by rw[List.length_take] at hi;omega
  have:=List.pairwise_iff_getElem.1 hQ i n (by omega) hn hin;omega
 rw[hdrop,List.map_cons] at hr⊢;have hR:Bw p s1:=hr.ok.right;have hq:=hr.ok.wait _ List.mem_cons_self;have hql:Q[n].toNat < s1.ready.length:=by have:=hR.len;have h2:=hq.queue;simp only[J3] at h2;omega
 have hseq:=hr.seq;simp only at hseq;have hpush:Bt (Ak (Fe s1) Q[n]) (Co s1 (J3 key body Q[n]))=Ak s1 Q[n]++[Co s1 (J3 key body Q[n])]:=Vn fun y hy=>T7 hR Q[n] y hy;have hold:=h.same Q[n] hqn hnew;simp only at hold;have hdie:∀x,Fa p Q[n] x=[]:=fun x=>by unfold Fa;rw[zp (.inl (hd _))]
 have hlay:∃s2,Ei p (Fe s1) Q[n] (Co s1 (J3 key body Q[n]))=(s2,[])∧s2.ready=s1.ready.set Q[n].toNat (Xq (Bz p Q[n]).bm (Ak s Q[n]++[⟨s1.ah,key,body,false,0⟩])):=by
  unfold Ei;rw[hpush,hold];by_cases hc:((Ak s Q[n]++[Co s1 (J3 key body Q[n])]).length:Int)≤(Bz p Q[n]).bm
  ·rw[zp hc]
   refine⟨_,rfl,?_⟩
   show _=s1.ready.set Q[n].toNat (Xq (Bz p Q[n]).bm (Ak s Q[n]++[Co s1 (J3 key body Q[n])]))
   unfold Xq;rw[zp hc];rfl
  ·rw[zq hc,hdie]
   refine⟨_,rfl,?_⟩
   show _=s1.ready.set Q[n].toNat (Xq (Bz p Q[n]).bm (Ak s Q[n]++[Co s1 (J3 key body Q[n])]))
   unfold Xq;rw[zq hc];rfl
 obtain⟨s2,h2,hs2⟩:=hlay;have hstep:Fv p (s1,J3 key body Q[n]::(Q.drop (n+1)).map (J3 key body))=(s2,(Q.drop (n+1)).map (J3 key body)):=by
  show((Ei p (Fe s1) Q[n] (Co s1 (J3 key body Q[n]))).1,_++(Ei p (Fe s1) Q[n] (Co s1 (J3 key body Q[n]))).2)=_
  rw[h2,List.append_nil]
 rw[hstep];refine⟨rfl,fun q h0 hm=> ?_,fun q h0 hm=> ?_⟩
 ·simp only
  rw[Qx hs2 hql];by_cases e:q.toNat=Q[n].toNat
  ·have eq:q=Q[n]:=by omega
   subst eq;rw[zp rfl];exact⟨s1.ah,by omega,rfl⟩
  ·rw[zq e]
   rw[htake,List.mem_append,List.mem_singleton] at hm;rcases hm with hm|hm
   ·exact h.aw q h0 hm
   ·exact absurd (congrArg Int.toNat hm) e
 ·simp only
  rw[htake,List.mem_append,List.mem_singleton,not_or] at hm;rw[Qx hs2 hql,zq (fun e=>hm.2 (by omega))];exact h.same q h0 hm.1
theorem Kb{p:Ab}{s:Aa}{x:Int}{key body:zN}(h:Bg p s x key body=0):Bw p (B6 p s x key body):=by
 unfold B6;rw[zp h];exact Tq (Tc h).2.2.2
open Go Go.RowKit
structure PuR (lo B:Nat) (vq vw:Value) (key body:zN) (ys:List Int) (W0:zW) (i:Nat) (W:zW):Prop where
 own:W.ownsRow lo 142 4 vw ((ys.take i).map (J3 key body)).length (((ys.take i).map (J3 key body)).flatMap Bp)
 ints:Cs W B vq ys
 below:Below lo W0 W
def pu_T(X0 X1 X2 Cq i:Nat)(vw:Value)(Aq:zZ)(ys:List Int)(key body:zN)(t:Array Value):Array Value:=fj [[gd t 0,gd t 1,gd t 2,.string key,.string body,zt X0,zt X1,gd t 7,gd t 8,gd t 9,zt X2],fr t 11 5,[vw],fr t 17 26,[.slice Aq ys.length Cq,.int .i64 (ys.length:Int),.int .i64 (i:Int)],fr t 46 26]
theorem An7{X0 X1 X2 Cq i:Nat}{vw:Value}{Aq:zZ}{ys:List Int}{key body:zN}{t:Array Value}(h:t=(pu_T X0 X1 X2 Cq i vw Aq ys key body t)):∃u:Nat→Value,t= #[u 0,u 1,u 2,.string key,.string body,zt X0,zt X1,u 7,u 8,u 9,zt X2,u 11,u 12,u 13,u 14,u 15,vw,u 17,u 18,u 19,u 20,u 21,u 22,u 23,u 24,u 25,u 26,u 27,u 28,u 29,u 30,u 31,u 32,u 33,u 34,u 35,u 36,u 37,u 38,u 39,u 40,u 41,u 42,.slice Aq ys.length Cq,.int .i64 (ys.length:Int),.int .i64 (i:Int),u 46,u 47,u 48,u 49,u 50,u 51,u 52,u 53,u 54,u 55,u 56,u 57,u 58,u 59,u 60,u 61,u 62,u 63,u 64,u 65,u 66,u 67,u 68,u 69,u 70,u 71]:=⟨fun i=>t.getD i undef,h⟩
noncomputable def Azp:Code:=It Tryz.f132 0
def At6(X0 X1 X2 lo B Cq:Nat)(Aq:zZ)(key body:zN)(ys:List Int)(W0:zW)(a:Act)(wr:zW):Prop:=
 ∃(t:Array Value)(i:Nat)(vw:Value),t=(pu_T X0 X1 X2 Cq i vw Aq ys key body t)∧i≤ys.length∧PuR lo B (.slice Aq ys.length Cq) vw key body ys W0 i wr∧a=⟨t,[]⟩
theorem Axe(X0 X1 X2 lo B Cq:Nat)(Aq:zZ)(key body:zN)(ys:List Int)(hys:ys.length≤100)(W0:zW)(hlw:lo≤W0.heap.size)(Q0:Exit→Act→zW→Prop)
  (hend:∀(t:Array Value)(i:Nat)(vw:Value)(W:zW),t=(pu_T X0 X1 X2 Cq i vw Aq ys key body t)→PuR lo B (.slice Aq ys.length Cq) vw key body ys W0 ys.length W→Q0 (.exit 0) ⟨t,[]⟩ W) (t:Array Value) (i:Nat) (vw:Value) (W:zW) (ht:t=(pu_T X0 X1 X2 Cq i vw Aq ys key body t)) (hi:i≤ys.length) (hW:PuR lo B (.slice Aq ys.length Cq) vw key body ys W0 i W):
  (Code.loop Azp).wp Tryz.prog Q0 ⟨t,[]⟩ W:=by
 refine wp_loop (At6 X0 X1 X2 lo B Cq Aq key body ys W0) (fun a _=>ys.length - (intOf (a.tmps.getD 45 undef)).toNat) ⟨t,i,vw,ht,hi,hW,rfl⟩ ?_;clear ht hi hW t i vw W;rintro a' wr ⟨t,i,vw,ht,hi,hR,rfl⟩;obtain⟨u,rfl⟩:=An7 ht;clear ht;have HEND:=zh hend;clear hend
 conv=>arg 2;whnf
 by_cases hlt:i < ys.length
 ·obtain⟨hO,hI,hB⟩:=hR
  have hj2:(i:Int) < (ys.length:Int):=by omega
  obtain⟨gb,ob,rfl,_,_⟩:=Nh (Nb hI).2 hlt;have htk:ys.take (i+1)=ys.take i++[ys[i]]:=by rw[List.take_add_one,zG hlt];rfl
  have hyi:=Yf hI (zG hlt);generalize ys[i]=y at *;obtain⟨L,hL⟩:=zo ((ys.take i).map (J3 key body));have hlen:L.length≤100:=by rw[←hL];simp;omega
  rw[hL] at hO;obtain⟨A0,C0,rfl,_⟩:=Ae hO;have hle:lo≤wr.heap.size:=zr hlw hB.size;obtain⟨W5,hW5⟩:=zo (wr.alloc (.cells #[.int .i64 y,.string key,.string body,.int .i64 0] 142));have hb5:=zu hW5
  have hl5:Sl W5 0 W5.heap.size (some ⟨wr.heap.size,0,none⟩) ([J3 key body y].flatMap Bp):=by
   rw[←hW5];exact(Sl.new wr ([J3 key body y].flatMap Bp) 142 (wr.heap.size+1) (by omega)).wider (Nat.zero_le _) (by simp)
  have hO5:=own_below hO hb5;obtain⟨v6,W6,hr6,ho6,hg6⟩:=Oc W5 lo _ L [J3 key body y] (some ⟨wr.heap.size,0,none⟩) 1 0 W5.heap.size hO5 hl5 (by simp;omega) (zr hle hb5.size) 139;have k6:Ah [142] W5 W6:=Ah.grown hO5 hg6 (by simp);have HN:Hid (PuR lo B (.slice (some ⟨gb,ob,none⟩) ys.length Cq) v6 key body ys W0 (i+1) W6):=zh (by
   have e:(ys.take (i+1)).map (J3 key body)=L++[J3 key body y]:=by rw[←hL,htk,List.map_append];rfl
   refine⟨?_,Dl (own_below hI hb5) k6 (by decide),Br hO5 hg6 (hB.trans (hb5.mono hle)) (zn _) (zr hle hb5.size)⟩;rw[e];exact ho6)
  have HR6:=zh hr6;have HR:Hid (∀t:Array Value,∀(i':Nat)(vw':Value),i'=i+1→t=fj [[gd t 0,gd t 1,gd t 2,.string key,.string body,zt X0,zt X1,gd t 7,gd t 8,gd t 9,zt X2,gd t 11,gd t 12,gd t 13,gd t 14,gd t 15,vw'],fr t 17 26,[.slice (some ⟨gb,ob,none⟩) ys.length Cq,.int .i64 (ys.length:Int),.int .i64 (i':Int)],fr t 46 26]→∀W,PuR lo B (.slice (some ⟨gb,ob,none⟩) ys.length Cq) vw' key body ys W0 (i+1) W→At6 X0 X1 X2 lo B Cq (some ⟨gb,ob,none⟩) key body ys W0 ⟨t,[]⟩ W):=
   zh fun t i' vw' hi' ht W hW=>⟨t,i',vw',ht,by omega,by rw[hi'];exact hW,rfl⟩
  clear htk hO hI hB hlen hL hb5 hl5 hO5 hr6 ho6 hg6 k6 hle;go_wp2_with (first|(at_builtin;refine Lib.wpList_append_run _ rfl _ _ _ _ rfl _ _ rfl rfl _ _ HR6.out ?_)|fail)
  exact⟨HR.out _ _ _ rfl rfl _ HN.out,by simp[intOf];omega⟩
 ·obtain rfl:i=ys.length:=by omega
  have HF:=zh hR;clear hR
  go_wp2
  exact HEND.out _ ys.length _ _ rfl HF.out
theorem Ajp{p:Ab}{s:Aa}{x:Int}{key body:zN}{err:Int}(h:Bg p s x key body=err)(h0:err≠0)(w W:zW)(hb:Below w.heap.size w W):Gj (B6 p s x key body) (Cn p s x key body) (Bg p s x key body) w (.returned (.tuple #[Ad Bd none none none 0 0 0,.int .i64 0,.int .i64 err])) W:=by
 have h1:B6 p s x key body=Bd:=by unfold B6;rw[zq (by omega)]
 have h2:Cn p s x key body=0:=by unfold Cn;rw[zq (by omega)]
 rw[h1,h2,h];exact⟨none,none,none,0,0,0,[],rfl,Dm _ _,hb⟩
theorem Qi(p:Ab)(s:Aa)(x:Int)(key body:zN)(p1 p2 p3 a1 a2 a3:zZ)(q1 q2 q3 c1 c2 c3:Nat)(rows:List Bm)(w:zW)(hE:Env w)(hp:Au w 0 w.heap.size p1 p2 p3 p)(hps:Ai p)(hs:Av w 0 w.heap.size a1 a2 a3 rows s)(hss:Ap s)(hsi:A9 s)
  (hkey:key.size≤1048576) (hbody:body.size≤1048576) (hx: -9223372036854775808≤x∧x≤9223372036854775807):
  Calls Tryz.prog 132 #[Ay p p1 p2 p3 q1 q2 q3,Ad s a1 a2 a3 c1 c2 c3,.int .i64 x,.string key,.string body] w (Gj (B6 p s x key body) (Cn p s x key body) (Bg p s x key body) w):=by
 have hbx:=Cj q1 q2 q3 c1 c2 c3 hE hp hs 26 40;unfold Ag at hbx;unfold Ad Ay Ag;have htl:=hss.ae;have HPS:=zh hps;have HSS:=zh hss;have HSI:=zh hsi;clear hE hp hs hps hss hsi;go_enter Tryz.func132,Tryz.ntmps132
 obtain⟨⟨m0,m1,m2⟩,⟨n0,n1,n2,n3,n4,n5,n6,n7⟩,_,_,_,_⟩:=hbx _ ((zb _ _).alloc (zn _) (.cells zO 40));go_wp2_with fail
 clear m0 m1 m2 n0 n1 n2 n3 n4 n5 n6 n7;obtain⟨V0,hV0⟩:=zo ((w.alloc (.cells (zP p p1 p2 p3 q1 q2 q3) 26)).alloc (.cells (zV s a1 a2 a3 c1 c2 c3) 40));have hzV:V0.heap.size=w.heap.size+1+1:=by rw[←hV0];simp
 rw[hV0] at hbx;have HBV:=zh hbx;obtain⟨W0,hW0⟩:=zo (V0.alloc (.cells zO 40));have hbV:=zu hW0
 have HZ:Hid (W0.heap.size=w.heap.size+1+1+1):=by refine(?_:W0.heap.size=_);rw[←hW0,←hzV];simp
 have HBX:Hid (∀W,Below W0.heap.size W0 W→Me w p s p1 p2 p3 a1 a2 a3 q1 q2 q3 c1 c2 c3 rows W∧Bk W (w.heap.size+1+1) 40 zeroCells):=fun W hW=>by
  have k:Bk W0 (w.heap.size+1+1) 40 zeroCells:=by rw[←hW0];exact Bk.cg _ _ _ hzV.symm
  exact⟨HBV.out W (hbV.trans (hW.mono hbV.size)),k.below hW k.lt⟩
 rw[hV0,hW0];clear hbx hbV hzV HBV hV0 hW0;have HERR:Hid (∀err,Bg p s x key body=err→err≠0→∀W,Below w.heap.size w W→Gj (B6 p s x key body) (Cn p s x key body) (Bg p s x key body) w (.returned (.tuple #[Ad Bd none none none 0 0 0,.int .i64 0,.int .i64 err])) W):=fun err h h0 W hb=>Ajp h h0 w W hb;have hae:Bg p s x key body=if Am p s≠0 then Am p s else if Bn p x key≠0 then Bn p x key else if 12 < body.size then 1 else Bh p s (Jv p x key body):=rfl
 have HAE:=zh hae;clear hae;refine(Fx p s p1 p2 p3 a1 a2 a3 q1 q2 q3 c1 c2 c3 rows W0 (HBX.out _ (zb _ _)).1.env (HBX.out _ (zb _ _)).1.bu HPS.out (HBX.out _ (zb _ _)).1.bc HSS.out HSI.out).mono ?_;rintro e W1 ⟨rfl,hb1⟩;have HB1:=zh hb1;clear hb1;by_cases hc:Am p s=0
 ·have b1:(Am p s != 0)=false:=by simp[hc]
  have HC:=zh hc;clear hc;obtain⟨m0,m1,m2⟩:=(HBX.out _ HB1.out).1.bz;go_wp2_with fail
  have hcall:=O8 p x key p1 p2 p3 q1 q2 q3 W1 (HBX.out _ HB1.out).1.env (HBX.out _ HB1.out).1.bu HPS.out hkey;unfold Ay at hcall;refine hcall.mono ?_;clear hcall m0 m1 m2;rintro e W2 ⟨v2,rfl,hi2,hb2⟩;obtain⟨Aq,Cq,rfl,_⟩:=Ae hi2;have HB2:=zm HB1 hb2;by_cases hre:Bn p x key=0
  ·have b2:(Bn p x key != 0)=false:=by simp[hre]
   have HRE:=zh hre;clear hb2;by_cases hbs:12 < body.size
   ·have hbsi:(12:Int) < (body.size:Int):=by omega
    have HEQ:=zh (show Bg p s x key body=1 by rw[HAE.out,zq (by simp[HC.out]),zq (by simp[HRE.out]),zp hbs]);obtain⟨k0,k1,k2,k3,k4,k5,k6,k7,f0,f1,f2,f3,f4,f5,f6,f7,hlt⟩:=Af (HBX.out _ HB2.out).2;go_wp2_with fail
    refine bodyPost_ret (v:= .tuple #[Ad Bd none none none 0 0 0,.int .i64 0,.int .i64 1]) (by simp[results,Tryz.results132,go_sem,Ad,Ag,Bd,k0,k1,k2,k3,k4,k5,k6,k7,hlt]) rfl
     (HERR.out _ HEQ.out (by decide) _ (Al (HBX.out _ HB2.out).1.below (by omega) _ _ _ _ _ _ _ _))
   ·have hbsi:¬ (12:Int) < (body.size:Int):=by omega
    have hfew:=J5 (p:=p) (x:=x) (key:=key);have HPL:Hid ((Cx p x key).map (J3 key body)=Jv p x key body):=zh rfl;have HSM:=zh (Aci (p:=p) (x:=x) hkey hbody);have HPLN:=zh (Ajo p x key body);have HHN:Hid (Bg p s x key body=Bh p s (Jv p x key body)):=zh (by rw[HAE.out,zq (by simp[HC.out]),zq (by simp[HRE.out]),zq (by omega)]);have HPN:Hid (Bg p s x key body=0→Cn p s x key body=((Cx p x key).length:Int)∧B6 p s x key body=Cy p s (Jv p x key body)):=zh fun h=>⟨by unfold Cn;rw[zp h],by unfold B6;rw[zp h]⟩;have hll:=hfew.1;have HI2:=zh hi2;clear hfew hi2 hre;generalize Cx p x key=ys at *;simp only[List.length_map] at *;go_wp2_with fail
    refine Axe w.heap.size (w.heap.size+1) (w.heap.size+1+1) W2.heap.size _ Cq Aq key body ys (by omega) W2 (zn _) _ ?_ _ 0 (.slice none 0 0) W2 rfl (Nat.zero_le _) ⟨World.ownsRow_nil _ _ _ _,HI2.out,zb _ _⟩;rintro t i vw W3 ht ⟨hO,hI,hb3⟩;obtain⟨u,rfl⟩:=An7 ht;rw[List.take_length,HPL.out] at hO;obtain⟨al,cl,rfl,hlc⟩:=Ae hO;have HB3:=zm HB2 hb3;have HCALL:=zh (Vz p s (Jv p x key body) p1 p2 p3 a1 a2 a3 al q1 q2 q3 c1 c2 c3 cl rows W3 (HBX.out _ HB3.out).1.env (HBX.out _ HB3.out).1.bu HPS.out (HBX.out _ HB3.out).1.bc HSS.out HSI.out ((SlT.cu hO).sl.wider (Nat.zero_le _) (zn _)) (by rw[HPLN.out];omega) HSM.out);clear ht hO hI hb3;obtain⟨⟨m0,m1,m2⟩,⟨n0,n1,n2,n3,n4,n5,n6,n7⟩,_,_,_,_⟩:=(HBX.out _ HB3.out).1;go_wp2_with fail
    have hcall:=HCALL.out;unfold Ad Ay Ag at hcall;refine hcall.mono ?_;clear hcall HCALL m0 m1 m2 n0 n1 n2 n3 n4 n5 n6 n7;rintro e W5 ⟨x1,x2,x3,xc1,xc2,xc3,rx,rfl,hs5,hb5⟩;unfold Ad Ag;have HB5:=zm HB3 hb5;obtain⟨X,hX⟩:=zo (Cy p s (Jv p x key body));rw[hX] at hs5 HPN;rw[hX];go_upto_region 16 with fail
    obtain⟨W6,hW6⟩:=zo (W5.alloc (.cells (zV X x1 x2 x3 xc1 xc2 xc3) 40));have hb6:=zu hW6
    have kb6:=zw hW6
    have hs6:=hs5.kept (Ah.oqb (ts:=[]) hb6);have HB6:=zm HB5 hb6;have HS6:=zh (zi hs6 (zi hb5.size hb6.size));have HK6:=zh kb6;rw[hW6];clear hs5 hb5 hb6 kb6 hs6 hW6 hX;by_cases har:Bh p s (Jv p x key body)=0
    ·have b3:(Bh p s (Jv p x key body) != 0)=false:=by simp[har]
     have HOK:=zh (show Bg p s x key body=0 by rw[HHN.out];exact har);have HPN:=zh (HPN.out HOK.out);clear har;have hzk:=(HBX.out _ HB6.out).2;have HZS:=zh hzk;unfold zeroCells at hzk;obtain⟨k0,k1,k2,k3,k4,k5,k6,k7,f0,f1,f2,f3,f4,f5,f6,f7,hlt⟩:=Af hzk;clear hzk;obtain⟨g0,g1,g2,g3,g4,g5,g6,g7⟩:=Hm HK6.out;have HLO:=zh (show w.heap.size+1+1 < W3.heap.size from by have:=HB3.out.size;have:=HZ.out;omega);go_wp2_with fail
     refine bodyPost_ret (v:= .tuple #[.agg (zV X x1 x2 x3 xc1 xc2 xc3),.int .i64 (ys.length:Int),.int .i64 0]) (by simp[results,Tryz.results132,go_sem,k0,k1,k2,k3,k4,k5,k6,k7,hlt,HPLN.out]) rfl ?_;rw[HPN.out.1,HPN.out.2,HOK.out];exact⟨x1,x2,x3,xc1,xc2,xc3,rx,rfl,(HS6.out.1.kept (Ah.dg HZS.out (ts:=[40]) (by decide) _ _ _ _ _ _ _ _)).wider (show w.heap.size≤W3.heap.size by have:=HLO.out;omega),Al (HBX.out _ HB6.out).1.below (by omega) _ _ _ _ _ _ _ _⟩
    ·have b3:(Bh p s (Jv p x key body) != 0)=true:=by simp[har]
     obtain⟨k0,k1,k2,k3,k4,k5,k6,k7,f0,f1,f2,f3,f4,f5,f6,f7,hlt⟩:=Af (HBX.out _ HB6.out).2;go_wp2_with fail
     refine bodyPost_ret (v:= .tuple #[Ad Bd none none none 0 0 0,.int .i64 0,.int .i64 (Bh p s (Jv p x key body))]) (by simp[results,Tryz.results132,go_sem,Ad,Ag,Bd,k0,k1,k2,k3,k4,k5,k6,k7,hlt]) rfl
      (HERR.out _ HHN.out har _ (Al (HBX.out _ HB6.out).1.below (by omega) _ _ _ _ _ _ _ _))
  ·have b2:(Bn p x key != 0)=true:=by simp[hre]
   have HEQ:=zh (show Bg p s x key body=Bn p x key by rw[HAE.out,zq (by simp[HC.out]),zp hre]);obtain⟨k0,k1,k2,k3,k4,k5,k6,k7,f0,f1,f2,f3,f4,f5,f6,f7,hlt⟩:=Af (HBX.out _ HB2.out).2;go_wp2_with fail
   refine bodyPost_ret (v:= .tuple #[Ad Bd none none none 0 0 0,.int .i64 0,.int .i64 (Bn p x key)]) (by simp[results,Tryz.results132,go_sem,Ad,Ag,Bd,k0,k1,k2,k3,k4,k5,k6,k7,hlt]) rfl
    (HERR.out _ HEQ.out hre _ (Al (HBX.out _ HB2.out).1.below (by omega) _ _ _ _ _ _ _ _))
 ·have b1:(Am p s != 0)=true:=by simp[hc]
  have HEQ:=zh (show Bg p s x key body=Am p s by rw[HAE.out,zp hc]);obtain⟨k0,k1,k2,k3,k4,k5,k6,k7,f0,f1,f2,f3,f4,f5,f6,f7,hlt⟩:=Af (HBX.out _ HB1.out).2;go_wp2_with fail
  refine bodyPost_ret (v:= .tuple #[Ad Bd none none none 0 0 0,.int .i64 0,.int .i64 (Am p s)]) (by simp[results,Tryz.results132,go_sem,Ad,Ag,Bd,k0,k1,k2,k3,k4,k5,k6,k7,hlt]) rfl
   (HERR.out _ HEQ.out hc _ (Al (HBX.out _ HB1.out).1.below (by omega) _ _ _ _ _ _ _ _))
def pg_T(X0 X1 X2 Cq i:Nat)(vw:Value)(Aq:zZ)(ys:List Int)(key body:zN)(t:Array Value):Array Value:=fj [[gd t 0,gd t 1,gd t 2,.string key,.string body,zt X0,zt X1,gd t 7,gd t 8,gd t 9,zt X2],fr t 11 4,[vw,.slice Aq ys.length Cq,.int .i64 (i:Int)],fr t 18 57]
theorem An2{X0 X1 X2 Cq i:Nat}{vw:Value}{Aq:zZ}{ys:List Int}{key body:zN}{t:Array Value}(h:t=(pg_T X0 X1 X2 Cq i vw Aq ys key body t)):∃u:Nat→Value,t= #[u 0,u 1,u 2,.string key,.string body,zt X0,zt X1,u 7,u 8,u 9,zt X2,u 11,u 12,u 13,u 14,vw,.slice Aq ys.length Cq,.int .i64 (i:Int),u 18,u 19,u 20,u 21,u 22,u 23,u 24,u 25,u 26,u 27,u 28,u 29,u 30,u 31,u 32,u 33,u 34,u 35,u 36,u 37,u 38,u 39,u 40,u 41,u 42,u 43,u 44,u 45,u 46,u 47,u 48,u 49,u 50,u 51,u 52,u 53,u 54,u 55,u 56,u 57,u 58,u 59,u 60,u 61,u 62,u 63,u 64,u 65,u 66,u 67,u 68,u 69,u 70,u 71,u 72,u 73,u 74]:=⟨fun i=>t.getD i undef,h⟩
noncomputable def Azo:Code:=It Tryz.f61 0
def At2(X0 X1 X2 lo B Cq:Nat)(Aq:zZ)(key body:zN)(ys:List Int)(W0:zW)(a:Act)(wr:zW):Prop:=
 ∃(t:Array Value)(i:Nat)(vw:Value),t=(pg_T X0 X1 X2 Cq i vw Aq ys key body t)∧i≤ys.length∧PuR lo B (.slice Aq ys.length Cq) vw key body ys W0 i wr∧a=⟨t,[]⟩
theorem Aw8(X0 X1 X2 lo B Cq:Nat)(Aq:zZ)(key body:zN)(ys:List Int)(hys:ys.length≤100)(W0:zW)(hlw:lo≤W0.heap.size)(Q0:Exit→Act→zW→Prop)
  (hend:∀(t:Array Value)(i:Nat)(vw:Value)(W:zW),t=(pg_T X0 X1 X2 Cq i vw Aq ys key body t)→PuR lo B (.slice Aq ys.length Cq) vw key body ys W0 ys.length W→Q0 (.exit 0) ⟨t,[]⟩ W) (t:Array Value) (i:Nat) (vw:Value) (W:zW) (ht:t=(pg_T X0 X1 X2 Cq i vw Aq ys key body t)) (hi:i≤ys.length) (hW:PuR lo B (.slice Aq ys.length Cq) vw key body ys W0 i W):
  (Code.loop Azo).wp Tryz.prog Q0 ⟨t,[]⟩ W:=by
 refine wp_loop (At2 X0 X1 X2 lo B Cq Aq key body ys W0) (fun a _=>ys.length - (intOf (a.tmps.getD 17 undef)).toNat) ⟨t,i,vw,ht,hi,hW,rfl⟩ ?_;clear ht hi hW t i vw W;rintro a' wr ⟨t,i,vw,ht,hi,hR,rfl⟩;obtain⟨u,rfl⟩:=An2 ht;clear ht;have HEND:=zh hend;clear hend
 conv=>arg 2;whnf
 by_cases hlt:i < ys.length
 ·obtain⟨hO,hI,hB⟩:=hR
  have hj2:(i:Int) < (ys.length:Int):=by omega
  obtain⟨gb,ob,rfl,_,_⟩:=Nh (Nb hI).2 hlt;have htk:ys.take (i+1)=ys.take i++[ys[i]]:=by rw[List.take_add_one,zG hlt];rfl
  have hyi:=Yf hI (zG hlt);generalize ys[i]=y at *;obtain⟨L,hL⟩:=zo ((ys.take i).map (J3 key body));have hlen:L.length≤100:=by rw[←hL];simp;omega
  rw[hL] at hO;obtain⟨A0,C0,rfl,_⟩:=Ae hO;have hle:lo≤wr.heap.size:=zr hlw hB.size;obtain⟨W5,hW5⟩:=zo (wr.alloc (.cells #[.int .i64 y,.string key,.string body,.int .i64 0] 142));have hb5:=zu hW5
  have hl5:Sl W5 0 W5.heap.size (some ⟨wr.heap.size,0,none⟩) ([J3 key body y].flatMap Bp):=by
   rw[←hW5];exact(Sl.new wr ([J3 key body y].flatMap Bp) 142 (wr.heap.size+1) (by omega)).wider (Nat.zero_le _) (by simp)
  have hO5:=own_below hO hb5;obtain⟨v6,W6,hr6,ho6,hg6⟩:=Oc W5 lo _ L [J3 key body y] (some ⟨wr.heap.size,0,none⟩) 1 0 W5.heap.size hO5 hl5 (by simp;omega) (zr hle hb5.size) 139;have k6:Ah [142] W5 W6:=Ah.grown hO5 hg6 (by simp);have HN:Hid (PuR lo B (.slice (some ⟨gb,ob,none⟩) ys.length Cq) v6 key body ys W0 (i+1) W6):=zh (by
   have e:(ys.take (i+1)).map (J3 key body)=L++[J3 key body y]:=by rw[←hL,htk,List.map_append];rfl
   refine⟨?_,Dl (own_below hI hb5) k6 (by decide),Br hO5 hg6 (hB.trans (hb5.mono hle)) (zn _) (zr hle hb5.size)⟩;rw[e];exact ho6)
  have HR6:=zh hr6;have HR:Hid (∀t:Array Value,∀(i':Nat)(vw':Value),i'=i+1→t=fj [[gd t 0,gd t 1,gd t 2,.string key,.string body,zt X0,zt X1,gd t 7,gd t 8,gd t 9,zt X2,gd t 11,gd t 12,gd t 13,gd t 14,vw',.slice (some ⟨gb,ob,none⟩) ys.length Cq,.int .i64 (i':Int)],fr t 18 57]→∀W,PuR lo B (.slice (some ⟨gb,ob,none⟩) ys.length Cq) vw' key body ys W0 (i+1) W→At2 X0 X1 X2 lo B Cq (some ⟨gb,ob,none⟩) key body ys W0 ⟨t,[]⟩ W):=
   zh fun t i' vw' hi' ht W hW=>⟨t,i',vw',ht,by omega,by rw[hi'];exact hW,rfl⟩
  clear htk hO hI hB hlen hL hb5 hl5 hO5 hr6 ho6 hg6 k6 hle;go_wp2_with (first|(at_builtin;refine Lib.wpList_append_run _ rfl _ _ _ _ rfl _ _ rfl rfl _ _ HR6.out ?_)|fail)
  exact⟨HR.out _ _ _ rfl rfl _ HN.out,by simp[intOf];omega⟩
 ·obtain rfl:i=ys.length:=by omega
  have HF:=zh hR;clear hR
  go_wp2
  exact HEND.out _ ys.length _ _ rfl HF.out
theorem Nr(p:Ab)(s:Aa)(x:Int)(key body:zN)(p1 p2 p3 a1 a2 a3:zZ)(q1 q2 q3 c1 c2 c3:Nat)(rows:List Bm)(w:zW)(hE:Env w)(hp:Au w 0 w.heap.size p1 p2 p3 p)(hps:Ai p)(hs:Av w 0 w.heap.size a1 a2 a3 rows s)(hss:Ap s)(hsi:A9 s)
  (hkey:key.size≤1048576) (hbody:body.size≤1048576) (hx: -9223372036854775808≤x∧x≤9223372036854775807):
  Calls Tryz.prog 61 #[Ay p p1 p2 p3 q1 q2 q3,Ad s a1 a2 a3 c1 c2 c3,.int .i64 x,.string key,.string body] w (Gj (B6 p s x key body) (Cn p s x key body) (Bg p s x key body) w):=by
 have hbx:=Cj q1 q2 q3 c1 c2 c3 hE hp hs 26 40;unfold Ag at hbx;unfold Ad Ay Ag;have htl:=hss.ae;have HPS:=zh hps;have HSS:=zh hss;have HSI:=zh hsi;clear hE hp hs hps hss hsi;go_enter Tryz.func61,Tryz.ntmps61
 obtain⟨⟨m0,m1,m2⟩,⟨n0,n1,n2,n3,n4,n5,n6,n7⟩,_,_,_,_⟩:=hbx _ ((zb _ _).alloc (zn _) (.cells zO 40));go_wp2_with fail
 clear m0 m1 m2 n0 n1 n2 n3 n4 n5 n6 n7;obtain⟨V0,hV0⟩:=zo ((w.alloc (.cells (zP p p1 p2 p3 q1 q2 q3) 26)).alloc (.cells (zV s a1 a2 a3 c1 c2 c3) 40));have hzV:V0.heap.size=w.heap.size+1+1:=by rw[←hV0];simp
 rw[hV0] at hbx;have HBV:=zh hbx;obtain⟨W0,hW0⟩:=zo (V0.alloc (.cells zO 40));have hbV:=zu hW0
 have HZ:Hid (W0.heap.size=w.heap.size+1+1+1):=by refine(?_:W0.heap.size=_);rw[←hW0,←hzV];simp
 have HBX:Hid (∀W,Below W0.heap.size W0 W→Me w p s p1 p2 p3 a1 a2 a3 q1 q2 q3 c1 c2 c3 rows W∧Bk W (w.heap.size+1+1) 40 zeroCells):=fun W hW=>by
  have k:Bk W0 (w.heap.size+1+1) 40 zeroCells:=by rw[←hW0];exact Bk.cg _ _ _ hzV.symm
  exact⟨HBV.out W (hbV.trans (hW.mono hbV.size)),k.below hW k.lt⟩
 rw[hV0,hW0];clear hbx hbV hzV HBV hV0 hW0;have HERR:Hid (∀err,Bg p s x key body=err→err≠0→∀W,Below w.heap.size w W→Gj (B6 p s x key body) (Cn p s x key body) (Bg p s x key body) w (.returned (.tuple #[Ad Bd none none none 0 0 0,.int .i64 0,.int .i64 err])) W):=fun err h h0 W hb=>Ajp h h0 w W hb;have hae:Bg p s x key body=if Am p s≠0 then Am p s else if Bn p x key≠0 then Bn p x key else if 12 < body.size then 1 else Bh p s (Jv p x key body):=rfl
 have HAE:=zh hae;clear hae;have hcall:=F5 p s p1 p2 p3 a1 a2 a3 q1 q2 q3 c1 c2 c3 rows W0 (HBX.out _ (zb _ _)).1.env (HBX.out _ (zb _ _)).1.bu HPS.out (HBX.out _ (zb _ _)).1.bc HSS.out HSI.out;unfold Ad Ay Ag at hcall;refine hcall.mono ?_;clear hcall;rintro e W1 ⟨rfl,hb1⟩;have HB1:=zh hb1;clear hb1;by_cases hc:Am p s=0
 ·have b1:(Am p s != 0)=false:=by simp[hc]
  have HC:=zh hc;clear hc;obtain⟨m0,m1,m2⟩:=(HBX.out _ HB1.out).1.bz;go_wp2_with fail
  have hcall:=R9 p HPS.out x hx key hkey p1 p2 p3 q1 q2 q3 W1 (HBX.out _ HB1.out).1.bu;unfold Ay at hcall;refine hcall.mono ?_;clear hcall m0 m1 m2;rintro e W2 ⟨rfl,hb2⟩;have HB2:=zm HB1 hb2;by_cases hre:Bn p x key=0
  ·have b2:(Bn p x key != 0)=false:=by simp[hre]
   have HRE:=zh hre;clear hb2;by_cases hbs:12 < body.size
   ·have hbsi:(12:Int) < (body.size:Int):=by omega
    have HEQ:=zh (show Bg p s x key body=1 by rw[HAE.out,zq (by simp[HC.out]),zq (by simp[HRE.out]),zp hbs]);obtain⟨k0,k1,k2,k3,k4,k5,k6,k7,f0,f1,f2,f3,f4,f5,f6,f7,hlt⟩:=Af (HBX.out _ HB2.out).2;go_wp2_with fail
    refine bodyPost_ret (v:= .tuple #[Ad Bd none none none 0 0 0,.int .i64 0,.int .i64 1]) (by simp[results,Tryz.results61,go_sem,Ad,Ag,Bd,k0,k1,k2,k3,k4,k5,k6,k7,hlt]) rfl
     (HERR.out _ HEQ.out (by decide) _ (Al (HBX.out _ HB2.out).1.below (by omega) _ _ _ _ _ _ _ _))
   ·have hbsi:¬ (12:Int) < (body.size:Int):=by omega
    obtain⟨hr,k,rfl,hk,_⟩:=Hr hre;have hqr:Rx p key k=Cx p k key:=by unfold Cx;rw[zp hre,Ud hr hk]
    have hcall:=Tp p hr HPS.out k hk key hkey p1 p2 p3 q1 q2 q3 W2 (HBX.out _ HB2.out).1.bu;rw[hqr] at hcall;unfold Ay at hcall;have HPK:=zh (zi hr hk);clear hqr hr hk;obtain⟨m0,m1,m2⟩:=(HBX.out _ HB2.out).1.bz;go_wp2_with fail
    refine hcall.mono ?_;clear hcall m0 m1 m2;rintro e W2 ⟨v2,rfl,hi2,hb3⟩;have HB2:=zm HB2 hb3;obtain⟨Aq,Cq,rfl,_⟩:=Ae hi2;have hfew:=J5 (p:=p) (x:=(k:Int)) (key:=key);have HPL:Hid ((Cx p (k:Int) key).map (J3 key body)=Jv p (k:Int) key body):=zh rfl;have HSM:=zh (Aci (p:=p) (x:=(k:Int)) hkey hbody);have HPLN:=zh (Ajo p (k:Int) key body);have HHN:Hid (Bg p s (k:Int) key body=Bh p s (Jv p (k:Int) key body)):=zh (by rw[HAE.out,zq (by simp[HC.out]),zq (by simp[HRE.out]),zq (by omega)]);have HPN:Hid (Bg p s (k:Int) key body=0→Cn p s (k:Int) key body=((Cx p (k:Int) key).length:Int)∧B6 p s (k:Int) key body=Cy p s (Jv p (k:Int) key body)):=zh fun h=>⟨by unfold Cn;rw[zp h],by unfold B6;rw[zp h]⟩;have hll:=hfew.1;have HI2:=zh hi2;clear hfew hi2 hre hb3;generalize Cx p (k:Int) key=ys at *;simp only[List.length_map] at *;go_wp2_with fail
    refine Aw8 w.heap.size (w.heap.size+1) (w.heap.size+1+1) W2.heap.size _ Cq Aq key body ys (by omega) W2 (zn _) _ ?_ _ 0 (.slice none 0 0) W2 rfl (Nat.zero_le _) ⟨World.ownsRow_nil _ _ _ _,HI2.out,zb _ _⟩;rintro t i vw W3 ht ⟨hO,hI,hb3⟩;obtain⟨u,rfl⟩:=An2 ht;rw[List.take_length,HPL.out] at hO;obtain⟨al,cl,rfl,hlc⟩:=Ae hO;have HB3:=zm HB2 hb3;have HCALL:=zh (R7 p s (Jv p (k:Int) key body) p1 p2 p3 a1 a2 a3 al q1 q2 q3 c1 c2 c3 cl rows W3 (HBX.out _ HB3.out).1.env (HBX.out _ HB3.out).1.bu HPS.out (HBX.out _ HB3.out).1.bc HSS.out HSI.out ((SlT.cu hO).sl.wider (Nat.zero_le _) (zn _)) (by rw[HPLN.out];omega) hlc HSM.out);clear ht hO hI hb3;obtain⟨⟨m0,m1,m2⟩,⟨n0,n1,n2,n3,n4,n5,n6,n7⟩,_,_,_,_⟩:=(HBX.out _ HB3.out).1;go_wp2_with fail
    have hcall:=HCALL.out;unfold Ad Ay Ag at hcall;refine hcall.mono ?_;clear hcall HCALL m0 m1 m2 n0 n1 n2 n3 n4 n5 n6 n7;rintro e W5 ⟨x1,x2,x3,xc1,xc2,xc3,rx,rfl,hs5,hb5⟩;unfold Ad Ag;have HB5:=zm HB3 hb5;obtain⟨X,hX⟩:=zo (Cy p s (Jv p (k:Int) key body));rw[hX] at hs5 HPN;rw[hX];go_upto_region 16 with fail
    obtain⟨W6,hW6⟩:=zo (W5.alloc (.cells (zV X x1 x2 x3 xc1 xc2 xc3) 40));have hb6:=zu hW6
    have kb6:=zw hW6
    have hs6:=hs5.kept (Ah.oqb (ts:=[]) hb6);have HB6:=zm HB5 hb6;have HS6:=zh (zi hs6 (zi hb5.size hb6.size));have HK6:=zh kb6;rw[hW6];clear hs5 hb5 hb6 kb6 hs6 hW6 hX;by_cases har:Bh p s (Jv p (k:Int) key body)=0
    ·have b3:(Bh p s (Jv p (k:Int) key body) != 0)=false:=by simp[har]
     have HOK:=zh (show Bg p s (k:Int) key body=0 by rw[HHN.out];exact har);have HPN:=zh (HPN.out HOK.out);clear har;have hzk:=(HBX.out _ HB6.out).2;have HZS:=zh hzk;unfold zeroCells at hzk;obtain⟨k0,k1,k2,k3,k4,k5,k6,k7,f0,f1,f2,f3,f4,f5,f6,f7,hlt⟩:=Af hzk;clear hzk;obtain⟨g0,g1,g2,g3,g4,g5,g6,g7⟩:=Hm HK6.out;have HLO:=zh (show w.heap.size+1+1 < W3.heap.size from by have:=HB3.out.size;have:=HZ.out;omega);go_wp2_with fail
     refine bodyPost_ret (v:= .tuple #[.agg (zV X x1 x2 x3 xc1 xc2 xc3),.int .i64 (ys.length:Int),.int .i64 0]) (by simp[results,Tryz.results61,go_sem,k0,k1,k2,k3,k4,k5,k6,k7,hlt]) rfl ?_;rw[HPN.out.1,HPN.out.2,HOK.out];exact⟨x1,x2,x3,xc1,xc2,xc3,rx,rfl,(HS6.out.1.kept (Ah.dg HZS.out (ts:=[40]) (by decide) _ _ _ _ _ _ _ _)).wider (show w.heap.size≤W3.heap.size by have:=HLO.out;omega),Al (HBX.out _ HB6.out).1.below (by omega) _ _ _ _ _ _ _ _⟩
    ·have b3:(Bh p s (Jv p (k:Int) key body) != 0)=true:=by simp[har]
     obtain⟨k0,k1,k2,k3,k4,k5,k6,k7,f0,f1,f2,f3,f4,f5,f6,f7,hlt⟩:=Af (HBX.out _ HB6.out).2;go_wp2_with fail
     refine bodyPost_ret (v:= .tuple #[Ad Bd none none none 0 0 0,.int .i64 0,.int .i64 (Bh p s (Jv p (k:Int) key body))]) (by simp[results,Tryz.results61,go_sem,Ad,Ag,Bd,k0,k1,k2,k3,k4,k5,k6,k7,hlt]) rfl
      (HERR.out _ HHN.out har _ (Al (HBX.out _ HB6.out).1.below (by omega) _ _ _ _ _ _ _ _))
  ·have b2:(Bn p x key != 0)=true:=by simp[hre]
   have HEQ:=zh (show Bg p s x key body=Bn p x key by rw[HAE.out,zq (by simp[HC.out]),zp hre]);obtain⟨k0,k1,k2,k3,k4,k5,k6,k7,f0,f1,f2,f3,f4,f5,f6,f7,hlt⟩:=Af (HBX.out _ HB2.out).2;go_wp2_with fail
   refine bodyPost_ret (v:= .tuple #[Ad Bd none none none 0 0 0,.int .i64 0,.int .i64 (Bn p x key)]) (by simp[results,Tryz.results61,go_sem,Ad,Ag,Bd,k0,k1,k2,k3,k4,k5,k6,k7,hlt]) rfl
    (HERR.out _ HEQ.out hre _ (Al (HBX.out _ HB2.out).1.below (by omega) _ _ _ _ _ _ _ _))
 ·have b1:(Am p s != 0)=true:=by simp[hc]
  have HEQ:=zh (show Bg p s x key body=Am p s by rw[HAE.out,zp hc]);obtain⟨k0,k1,k2,k3,k4,k5,k6,k7,f0,f1,f2,f3,f4,f5,f6,f7,hlt⟩:=Af (HBX.out _ HB1.out).2;go_wp2_with fail
  refine bodyPost_ret (v:= .tuple #[Ad Bd none none none 0 0 0,.int .i64 0,.int .i64 (Am p s)]) (by simp[results,Tryz.results61,go_sem,Ad,Ag,Bd,k0,k1,k2,k3,k4,k5,k6,k7,hlt]) rfl
   (HERR.out _ HEQ.out hc _ (Al (HBX.out _ HB1.out).1.below (by omega) _ _ _ _ _ _ _ _))
end Go.Proofs.YtpkneogjdfolaaaGreatDoor
