/- Lemmas. -/
import Derived.Test.YtpkneogjdfolaaaGreatDoorBunO
set_option maxHeartbeats 20000000
set_option maxRecDepth 100000
set_option linter.unusedSimpArgs false
set_option linter.unusedVariables false
namespace Go.Proofs.YtpkneogjdfolaaaGreatDoor
open Go Go.RowKit
def IntsIn(W0:zW)(v:Value)(xs:List Int):Prop:=∃a c,v= .slice a xs.length c∧xs.length≤1048576∧Sl W0 0 W0.heap.size a (xs.map (Value.int .i64))
theorem IntsIn.at_{W0 W:zW}{a:zZ}{c:Nat}{xs:List Int}(h:Sl W0 0 W0.heap.size a (xs.map (Value.int .i64)))(hb:Below W0.heap.size W0 W){j:Nat}(hj:j < xs.length):∃b o,a=some ⟨b,o,none⟩∧∀i,(hi:i < xs.length)→W.cell? ⟨b,o+i,none⟩=some (.int .i64 xs[i]):=by
 obtain⟨b,o,rfl,h1,h2⟩:=Nh h hj;refine⟨b,o,rfl,fun i hi=> ?_⟩;obtain⟨b',o',e,h3,h4⟩:=Nh h hi;simp only[Option.some.injEq,Addr.mk.injEq] at e;obtain⟨rfl,rfl,_⟩:=e;exact(hb.cell (p:=⟨b,o+i,none⟩) h1).trans h4
theorem IntsIn.since{W0 W:zW}{v:Value}{xs:List Int}(h:IntsIn W0 v xs)(hb:Below W0.heap.size W0 W):IntsIn W v xs:=by
 obtain⟨a,c,e,h1,h2⟩:=h;exact⟨a,c,e,h1,(h2.below hb (zn _)).wider (zn _) hb.size⟩
theorem Pp{w:zW}{base:Nat}{v:Value}{xs:List Int}(h:Cs w base v xs)(hl:xs.length≤1048576):IntsIn w v xs:=by
 obtain⟨a,c,rfl,_⟩:=Ae h;exact⟨a,c,rfl,hl,(Sl.cu (n:=xs.length) h).wider (Nat.zero_le _) (zn _)⟩
theorem Aca{xs:List Int}{j:Nat}(hj:j < xs.length)(q:Int):decide (q∈xs.take (j+1))=(decide (q∈xs.take j) || decide (xs[j]=q)):=by
 rw[zj hj];simp only[List.mem_append,List.mem_singleton,Bool.decide_or]
 congr 1
 simp[eq_comm]
open Go.RowKit
theorem Te(p:Ab)(n:Nat)(hn:n < p.binds.length)(key:zN)(a1 a2 a3:zZ)(c1 c2 c3 lo:Nat)(w:zW)(hp:Au w lo w.heap.size a1 a2 a3 p)(hps:Ai p)(k:Nat)(hk:k < p.aj.length)(hb:p.binds[n].src=k)(h2:key.size≤1048576):
  Calls Tryz.prog 155 #[Ay p a1 a2 a3 c1 c2 c3,.int .i64 n,.string key] w fun e w'=>e= .returned (.bool (fitsAt p n key))∧Below w.heap.size w w':=by
 obtain⟨g,o,ha,_,hg,hc⟩:=Bf J9 (by decide) hp.aj hk;obtain⟨g2,o2,ha2,_,hg2,hc2⟩:=Bf Ia (by decide) hp.binds hn;subst ha ha2;have hpat:=hps.bind _ (zg hn);have hnl:=hps.binds;have hkl:=hps.aj;have hbl1:∀o1,Below w.heap.size w (w.alloc o1):=fun o1=>(zb _ w).alloc (zn _) o1;have hbl:∀o1 o2,Below w.heap.size w ((w.alloc o1).alloc o2):=fun o1 o2=>((zb _ w).alloc (zn _) o1).alloc (by simp) o2;have e1:∀o1 o2,((w.alloc o1).alloc o2).cell? ⟨g,o+k * 2+1,none⟩=some (.int .i64 p.aj[k].kind):=fun o1 o2=>((hbl o1 o2).cell (p:=⟨g,_,none⟩) hg).trans (hc 1 _ rfl);have d0:∀o1,(w.alloc o1).cell? ⟨g2,o2+n * 4,none⟩=some (.int .i64 p.binds[n].src):=fun o1=>((hbl1 o1).cell (p:=⟨g2,_,none⟩) hg2).trans (hc2 0 _ rfl);have d1:∀o1,(w.alloc o1).cell? ⟨g2,o2+n * 4+1,none⟩=some (.bool p.binds[n].cd):=fun o1=>((hbl1 o1).cell (p:=⟨g2,_,none⟩) hg2).trans (hc2 1 _ rfl);have d2:∀o1,(w.alloc o1).cell? ⟨g2,o2+n * 4+2,none⟩=some (.int .i64 p.binds[n].to):=fun o1=>((hbl1 o1).cell (p:=⟨g2,_,none⟩) hg2).trans (hc2 2 _ rfl);have d3:∀o1,(w.alloc o1).cell? ⟨g2,o2+n * 4+3,none⟩=some (.string p.binds[n].pattern):=fun o1=>((hbl1 o1).cell (p:=⟨g2,_,none⟩) hg2).trans (hc2 3 _ rfl);have hby:fitsAt p n key=byK p.aj[k].kind p.binds[n].pattern key:=by
  simp[fitsAt,byP,Ab4,hn,hb,hk]
 have HBY:=zh hby;have HBL:=zh hbl;clear hby hc hc2 hp hps hbl hbl1;unfold Ay;rw[hb] at d0;clear hb;generalize p.aj[k].kind=kd at *;generalize p.binds[n].pattern=pat at *;generalize p.binds[n].cd=tp at *;generalize p.binds[n].to=dst at *;by_cases hk1:kd=1
 ·subst hk1
  have HR:Hid (fitsAt p n key=(pat.toList == key.toList)):=HBY.out.trans (by simp[byK]);go_enter Tryz.func155,Tryz.ntmps155
  go_wp2_with fail
  go_ret
  exact⟨by rw[HR.out];rfl,HBL.out _ _⟩
 ·by_cases hk3:kd=3
  ·subst hk3
   have HR:Hid (fitsAt p n key=Adl pat key):=HBY.out.trans (by simp[byK]);clear hk1;go_enter Tryz.func155,Tryz.ntmps155
   go_wp2_with fail
   refine(Ag7 pat key _ (by omega) (by omega)).mono ?_;rintro e w1 ⟨rfl,hb1⟩;have H1:=zh ((HBL.out _ _).trans (hb1.mono (HBL.out _ _).size));clear hb1
   go_wp2_with fail
   go_ret
   exact⟨by rw[HR.out];rfl,H1.out⟩
  ·have HR:Hid (fitsAt p n key=true):=HBY.out.trans (by simp[byK,hk1,hk3])
   have b1:(kd == 1)=false:=by simp[hk1]
   have b3:(kd == 3)=false:=by simp[hk3]
   clear hk1 hk3;go_enter Tryz.func155,Tryz.ntmps155
   go_wp2_with fail
   go_ret
   exact⟨by rw[HR.out];rfl,HBL.out _ _⟩
end Go.Proofs.YtpkneogjdfolaaaGreatDoor
namespace Go.Proofs.YtpkneogjdfolaaaGreatDoor
open Go.RowKit
open Go Go.RowKit
def Ayp(xs:List Int)(n:Int)(w:zW)(i:Value):Prop:=∃k:Nat,k≤xs.length∧i= .int .i64 k∧n∉xs.take k
theorem Aqa(a:zZ)(c:Nat)(xs:List Int)(n:Int)(w:zW)(lo:Nat)(hx:Sl w lo w.heap.size a (xs.map (Value.int .i64)))(hl:xs.length≤1048576):
  Calls Tryz.prog 154 #[.slice a xs.length c,.int .i64 n] w fun e w'=>e= .returned (.bool (decide (n∈xs)))∧w'=w:=by
 have HX:=zh hx;clear hx
 go_enter Tryz.func154,Tryz.ntmps154
 go_wp2
 go_loop [5] (fun i=>Ayp xs n w i) (fun i=>xs.length - (intOf i).toNat)
 case atStart=>exact⟨0,by omega,rfl,by simp⟩
 case round=>
  obtain⟨k,hk,rfl,hn⟩:=hrel;by_cases hlt:k < xs.length
  ·obtain⟨b,o,rfl,hb,hc⟩:=Nh HX.out hlt
   have hj2:(k:Int) < (xs.length:Int):=by omega
   have hst:=Aca hlt n;have hmem:=zg hlt;generalize xs[k]=y at *;by_cases he:y=n
   ·have heb:(y == n)=true:=by simp[he]
    subst he;have HM:=zh hmem;clear hst hmem hn
    go_wp2
    go_ret
    exact⟨by rw[decide_eq_true HM.out];rfl,rfl⟩
   ·have heb:(y == n)=false:=by simp[he]
    have HN:Hid (n∉xs.take (k+1)):=zh (by
     intro h;rw[decide_eq_true h,decide_eq_false hn,decide_eq_false he] at hst
     cases hst)
    clear hst hmem he hn
    go_wp2
    go_round
    case rel=>exact⟨k+1,by omega,by go_num,HN.out⟩
    case measure=>simp[intOf];omega
  ·have HN:Hid (n∉xs):=zh (by rwa [List.take_of_length_le (by omega)] at hn)
   clear hn
   go_wp2
   go_ret
   exact⟨by rw[decide_eq_false HN.out];rfl,rfl⟩
theorem Ajl{key:zN}{X g m:Nat}{r:Nat}{t:Array Value}(h:t=fj [[gd t 0,gd t 1,.string key,zt X,gd t 4,gd t 5,.slice none 0 0,.slice (some ⟨g,0,none⟩) m m,.int .i64 (r:Int)],fr t 9 64]):∃u:Nat→Value,t= #[u 0,u 1,.string key,zt X,u 4,u 5,.slice none 0 0,.slice (some ⟨g,0,none⟩) m m,.int .i64 (r:Int),u 9,u 10,u 11,u 12,u 13,u 14,u 15,u 16,u 17,u 18,u 19,u 20,u 21,u 22,u 23,u 24,u 25,u 26,u 27,u 28,u 29,u 30,u 31,u 32,u 33,u 34,u 35,u 36,u 37,u 38,u 39,u 40,u 41,u 42,u 43,u 44,u 45,u 46,u 47,u 48,u 49,u 50,u 51,u 52,u 53,u 54,u 55,u 56,u 57,u 58,u 59,u 60,u 61,u 62,u 63,u 64,u 65,u 66,u 67,u 68,u 69,u 70,u 71,u 72]:=⟨fun i=>t.getD i undef,h⟩
theorem Ajm{key:zN}{X g m:Nat}{r j:Nat}{t:Array Value}(h:t=fj [[gd t 0,gd t 1,.string key,zt X,gd t 4,gd t 5,.slice none 0 0,.slice (some ⟨g,0,none⟩) m m,.int .i64 (r:Int),.int .i64 (j:Int)],fr t 10 63]):∃u:Nat→Value,t= #[u 0,u 1,.string key,zt X,u 4,u 5,.slice none 0 0,.slice (some ⟨g,0,none⟩) m m,.int .i64 (r:Int),.int .i64 (j:Int),u 10,u 11,u 12,u 13,u 14,u 15,u 16,u 17,u 18,u 19,u 20,u 21,u 22,u 23,u 24,u 25,u 26,u 27,u 28,u 29,u 30,u 31,u 32,u 33,u 34,u 35,u 36,u 37,u 38,u 39,u 40,u 41,u 42,u 43,u 44,u 45,u 46,u 47,u 48,u 49,u 50,u 51,u 52,u 53,u 54,u 55,u 56,u 57,u 58,u 59,u 60,u 61,u 62,u 63,u 64,u 65,u 66,u 67,u 68,u 69,u 70,u 71,u 72]:=⟨fun i=>t.getD i undef,h⟩
def po3_T(g m i:Nat)(v:Value)(t:Array Value):Array Value:=fj [fr t 0 6,[.slice none 0 0,.slice (some ⟨g,0,none⟩) m m,gd t 8,gd t 9,gd t 10,v,.int .i64 (i:Int)],fr t 13 60]
theorem Ajn{g m i:Nat}{v:Value}{t:Array Value}(h:t=(po3_T g m i v t)):∃u:Nat→Value,t= #[u 0,u 1,u 2,u 3,u 4,u 5,.slice none 0 0,.slice (some ⟨g,0,none⟩) m m,u 8,u 9,u 10,v,.int .i64 (i:Int),u 13,u 14,u 15,u 16,u 17,u 18,u 19,u 20,u 21,u 22,u 23,u 24,u 25,u 26,u 27,u 28,u 29,u 30,u 31,u 32,u 33,u 34,u 35,u 36,u 37,u 38,u 39,u 40,u 41,u 42,u 43,u 44,u 45,u 46,u 47,u 48,u 49,u 50,u 51,u 52,u 53,u 54,u 55,u 56,u 57,u 58,u 59,u 60,u 61,u 62,u 63,u 64,u 65,u 66,u 67,u 68,u 69,u 70,u 71,u 72]:=⟨fun i=>t.getD i undef,h⟩
def Mz(W:zW)(g:Nat)(l:List Bool):Prop:=Bk W g 4 (l.map Value.bool).toArray
theorem Mz.cell{W:zW}{g:Nat}{l:List Bool}(h:Mz W g l){i:Nat}(hi:i < l.length):W.cell? ⟨g,i,none⟩=some (.bool l[i]):=by
 have:=Bk.cell h i;rw[this];simp[hi]
theorem Mz.set{W:zW}{g:Nat}{l:List Bool}(h:Mz W g l)(i:Nat)(b:Bool):Mz (W.setCell ⟨g,i,none⟩ (.bool b)) g (l.set i b):=by
 have:=Bk.ck h i (.bool b);unfold Mz;rw[List.map_set];simpa using this
structure Vb (w:zW) (p:Ab) (P:Array Value) (g:Nat) (l:List Bool) (W:zW):Prop where
 box:Bk W w.heap.size 26 P
 is:Mz W g l
 below:Below w.heap.size w W
 g:w.heap.size < g
theorem Vb.on{w W W':zW}{p:Ab}{P:Array Value}{g:Nat}{l:List Bool}(h:Vb w p P g l W)(hb:Below W.heap.size W W'):Vb w p P g l W':=
 ⟨h.box.below hb h.box.lt,Bk.below h.is hb (Bk.lt h.is),h.below.trans (hb.mono h.below.size),h.g⟩
theorem Vb.set{w W:zW}{p:Ab}{P:Array Value}{g:Nat}{l:List Bool}(h:Vb w p P g l W)(i:Nat):Vb w p P g (l.set i true) (W.setCell ⟨g,i,none⟩ (.bool true)):=
 ⟨h.box.far (p:=⟨g,i,none⟩) (by have:=h.g;show w.heap.size≠g;omega) _,h.is.set i true,h.below.setCell (p:=⟨g,i,none⟩) (by have:=h.g;show w.heap.size≤g;omega) _,h.g⟩
noncomputable def An6:Code:=It Tryz.f153 0
noncomputable def Aw9:Code:=Alt An6 0
noncomputable def Axa:Code:=It Tryz.f153 1
theorem Vu{W:zW}{lo hi:Nat}{a:zZ}{bs:List B9}(h:Sl W lo hi a (bs.flatMap D5)){i:Nat}{b:B9}(hb:bs[i]? =some b):∃g o,a=some ⟨g,o,none⟩∧zM W g (o+i * 4) (.int .i64 b.src)∧zM W g (o+i * 4+1) (.bool b.cd)∧zM W g (o+i * 4+2) (.int .i64 b.to)∧zM W g (o+i * 4+3) (.string b.pattern):=by
 have hi:=(List.getElem?_eq_some_iff.1 hb).1;obtain⟨g,o,rfl,_,_,hx⟩:=Bf Ia (by decide) h hi;rw[(List.getElem?_eq_some_iff.1 hb).2] at hx;exact⟨g,o,rfl,hx 0 _ rfl,hx 1 _ rfl,hx 2 _ rfl,hx 3 _ rfl⟩
def An4(w:zW)(p:Ab)(key:zN)(P:Array Value)(g m r:Nat)(l:List Bool)(a:Act)(wr:zW):Prop:=
 ∃(t:Array Value)(j:Nat),t=fj [[gd t 0,gd t 1,.string key,zt w.heap.size,gd t 4,gd t 5,.slice none 0 0,.slice (some ⟨g,0,none⟩) m m,.int .i64 (r:Int),.int .i64 (j:Int)],fr t 10 63]∧j≤p.binds.length∧Vb w p P g (Ea p key l j) wr∧a=⟨t,[]⟩
theorem At4(p:Ab)(hr:B8 p)(hs:Ai p)(key:zN)(hkey:key.size≤1048576)(a1 a2 a3:zZ)(c1 c2 c3:Nat)(w:zW)(g m r:Nat)(l:List Bool)(hlm:l.length=m)(hm:m=p.aj.length)
  (hpl:Au w 0 w.heap.size a1 a2 a3 p) (Q0:Exit→Act→zW→Prop)
  (hend:∀(t:Array Value)(j:Nat)(W:zW),t=fj [[gd t 0,gd t 1,.string key,zt w.heap.size,gd t 4,gd t 5,.slice none 0 0,.slice (some ⟨g,0,none⟩) m m,.int .i64 (r:Int),.int .i64 (j:Int)],fr t 10 63]→Vb w p (zP p a1 a2 a3 c1 c2 c3) g (Ea p key l p.binds.length) W→Q0 (.exit 2) ⟨t,[]⟩ W) (t:Array Value) (j:Nat) (W:zW) (ht:t=fj [[gd t 0,gd t 1,.string key,zt w.heap.size,gd t 4,gd t 5,.slice none 0 0,.slice (some ⟨g,0,none⟩) m m,.int .i64 (r:Int),.int .i64 (j:Int)],fr t 10 63]) (hj:j≤p.binds.length) (hW:Vb w p (zP p a1 a2 a3 c1 c2 c3) g (Ea p key l j) W):
  (Code.loop Aw9).wp Tryz.prog Q0 ⟨t,[]⟩ W:=by
 refine wp_loop (An4 w p key (zP p a1 a2 a3 c1 c2 c3) g m r l) (fun a _=>p.binds.length - (intOf (a.tmps.getD 9 undef)).toNat) ⟨t,j,ht,hj,hW,rfl⟩ ?_;clear ht hj hW t j W;rintro a' wr ⟨t,j,ht,hj,hW,rfl⟩;obtain⟨u,rfl⟩:=Ajm ht;clear ht;have hm1:m≤p.aj.length:=by omega
 have hm2:p.aj.length≤m:=by omega
 have HLM:=zh hlm;clear hm hlm;have HEND:=zh hend;have m2:=hW.box.cell 2;have m0:=hW.box.cell 0;have m1:=hW.box.cell 1;simp only[zI,zJ,zK] at m0 m1 m2;have HW:=zh hW;have HPL:=zh hpl;have hbn:=hr.binds;have hpn:=hr.aj;clear hend hW hpl
 conv=>arg 2;whnf
 by_cases hlt:j < p.binds.length
 ·obtain⟨b,hb⟩:∃b,p.binds[j]? =some b:=⟨_,zG hlt⟩
  have hbr:=hr.bind b (List.mem_of_getElem? hb);have hj2:(j:Int) < (p.binds.length:Int):=by omega
  obtain⟨gb,ob,hga,n0,n1,n2,n3⟩:=Vu (HPL.out.binds.keep fun x hx=>HW.out.below.cell (p:=x) hx) hb;subst hga;have hsucc:=Aha (p:=p) (key:=key) (l:=l) hb;have hlen:=Z8 p key l j;rw[HLM.out] at hlen;obtain⟨s,hs1⟩:∃s:Nat,b.src=(s:Int):=⟨b.src.toNat,by omega⟩;have hsl:s < (Ea p key l j).length:=by omega
  have HFIT:Hid (∀W,Below wr.heap.size wr W→Calls Tryz.prog 155 #[.agg (zP p a1 a2 (some ⟨gb,ob,none⟩) c1 c2 c3),.int .i64 (j:Int),.string key] W fun e w'=>e= .returned (.bool (byP p b key))∧Below W.heap.size W w'):=zh fun W hWb=>by
   have hbw:=HW.out.below.trans (hWb.mono HW.out.below.size);have h:=Te p j hlt key a1 a2 (some ⟨gb,ob,none⟩) c1 c2 c3 0 W ((HPL.out.below hbw (zn _)).wider (zn _) hbw.size) hs s (by omega) (by have:=(List.getElem?_eq_some_iff.1 hb).2;rw[this];exact hs1) hkey;have e:fitsAt p (j:Int) key=byP p b key:=by unfold fitsAt;rw[show((j:Int)).toNat=j by omega,hb]
   rw[e] at h;exact h
  obtain⟨W1,hW1⟩:=zo (wr.alloc (.cells #[.int .i64 b.src,.bool b.cd,.int .i64 b.to,.string b.pattern] 83));have hal:=zu hW1
  have kb:=zw hW1
  have s0:=kb.cell 0;have s1:=kb.cell 1;have s2:=kb.cell 2;have k1:=HW.out.on hal;have t0:=k1.box.cell 0;have t1:=k1.box.cell 1;have t2:=k1.box.cell 2;have t4:=k1.is.cell hsl;simp only[zI,zJ,zK] at s0 s1 s2 t0 t1 t2;rw[hs1] at s0;have HK1:=zh (zi k1 (zi kb hal));have HSUC:=zh hsucc;have HSL:=zh (zi hsl (zi hlen (zi hs1 hbr)));have hsm:(s:Int) < (m:Int):=by omega
  have HR:Hid (∀t:Array Value,∀(j':Nat),j'=j+1→t=fj [[gd t 0,gd t 1,.string key,zt w.heap.size,gd t 4,gd t 5,.slice none 0 0,.slice (some ⟨g,0,none⟩) m m,.int .i64 (r:Int),.int .i64 (j':Int)],fr t 10 63]→∀W,Vb w p (zP p a1 a2 (some ⟨gb,ob,none⟩) c1 c2 c3) g (G6 p key (Ea p key l j) b) W→An4 w p key (zP p a1 a2 (some ⟨gb,ob,none⟩) c1 c2 c3) g m r l ⟨t,[]⟩ W):=
   zh fun t j' hj' ht W hW=>⟨t,j',ht,by omega,by rw[hj',hsucc];exact hW,rfl⟩
  have HGET:Hid ((Ea p key l j)[b.src.toNat]? =some (Ea p key l j)[s]):=zh (by rw[show b.src.toNat=s by omega];exact zG hsl);generalize hcur:(Ea p key l j)[s]=cur at *;clear hsucc hlen hs1 hsl hbr k1 kb hal hcur
  cases htp:b.cd
  ·rw[htp] at s1
   have HE:Hid (G6 p key (Ea p key l j) b=Ea p key l j):=zh (by unfold G6;rw[htp];simp);have n1':=htp;have HT:=zh htp;clear htp n1'
   go_wp2
   exact⟨HR.out _ _ rfl rfl _ (by rw[HE.out];exact HK1.out.1),by simp[intOf];omega⟩
  ·rw[htp] at s1
   have HT:=zh htp
   cases cur
   ·have HE:Hid (G6 p key (Ea p key l j) b=Ea p key l j):=zh (by unfold G6;rw[HGET.out];simp)
    clear htp
    go_wp2
    exact⟨HR.out _ _ rfl rfl _ (by rw[HE.out];exact HK1.out.1),by simp[intOf];omega⟩
   ·have hto:0≤b.to∧b.to < (p.aj.length:Int):=by
     have h:=HSL.out.2.2.2;rw[htp] at h;simp only[if_true] at h;exact h.2.2
    obtain⟨d,hd⟩:∃d:Nat,b.to=(d:Int):=⟨b.to.toNat,by omega⟩;have hdm:(d:Int) < (m:Int):=by omega
    have HD:=zh hd;rw[hd] at s2;have HE:Hid (G6 p key (Ea p key l j) b=if byP p b key=true then (Ea p key l j).set d true else Ea p key l j):=zh (by
     unfold G6;rw[HGET.out,htp];have:b.to.toNat=d:=by omega
     rw[this];simp)
    have HDL:Hid (d < (Ea p key l j).length):=zh (by have:=HSL.out.2.1;omega);clear htp hto hd;go_wp2_with fail
    refine(HFIT.out W1 HK1.out.2.2).mono ?_;rintro e W2 ⟨rfl,hb2⟩;have k2:=HK1.out.1.on hb2;have kb2:=HK1.out.2.1.below hb2 HK1.out.2.1.lt;have z2:=kb2.cell 2;have z4:=k2.is.cell HDL.out;have zf:=Bk.frozen k2.is d;have zl:=Bk.lt k2.is;simp only[zI,zJ,zK] at z2;rw[HD.out] at z2;have HK2:=zh k2;clear hb2 k2 kb2 t0 t1 t2 t4 s0 s1 s2 m0 m1 m2 n0 n1 n2 n3;generalize (Ea p key l j)[d]=od at z4
    cases hby:byP p b key
    ·have HE2:Hid (G6 p key (Ea p key l j) b=Ea p key l j):=zh (by rw[HE.out,hby];simp)
     clear hby
     go_wp2
     exact⟨HR.out _ _ rfl rfl _ (by rw[HE2.out];exact HK2.out),by simp[intOf];omega⟩
    ·have HE2:Hid (G6 p key (Ea p key l j) b=(Ea p key l j).set d true):=zh (by rw[HE.out,hby];simp)
     clear hby
     go_wp2
     exact⟨HR.out _ _ rfl rfl _ (by rw[HE2.out];exact HK2.out.set d),by simp[intOf];omega⟩
 ·obtain rfl:j=p.binds.length:=by omega
  go_wp2
  exact HEND.out _ p.binds.length _ rfl HW.out
def An3(w:zW)(p:Ab)(key:zN)(P:Array Value)(g m k:Nat)(a:Act)(wr:zW):Prop:=
 ∃(t:Array Value)(r:Nat),t=fj [[gd t 0,gd t 1,.string key,zt w.heap.size,gd t 4,gd t 5,.slice none 0 0,.slice (some ⟨g,0,none⟩) m m,.int .i64 (r:Int)],fr t 9 64]∧r≤p.aj.length∧Vb w p P g (Dz p key k r) wr∧a=⟨t,[]⟩
theorem At3(p:Ab)(hr:B8 p)(hs:Ai p)(key:zN)(hkey:key.size≤1048576)(a1 a2 a3:zZ)(c1 c2 c3:Nat)(w:zW)(g m k:Nat)(hm:m=p.aj.length)
  (hpl:Au w 0 w.heap.size a1 a2 a3 p) (Q0:Exit→Act→zW→Prop)
  (hend:∀(t:Array Value)(r:Nat)(W:zW),t=fj [[gd t 0,gd t 1,.string key,zt w.heap.size,gd t 4,gd t 5,.slice none 0 0,.slice (some ⟨g,0,none⟩) m m,.int .i64 (r:Int)],fr t 9 64]→Vb w p (zP p a1 a2 a3 c1 c2 c3) g (Dz p key k p.aj.length) W→Q0 (.exit 0) ⟨t,[]⟩ W) (t:Array Value) (r:Nat) (W:zW) (ht:t=fj [[gd t 0,gd t 1,.string key,zt w.heap.size,gd t 4,gd t 5,.slice none 0 0,.slice (some ⟨g,0,none⟩) m m,.int .i64 (r:Int)],fr t 9 64]) (hj:r≤p.aj.length) (hW:Vb w p (zP p a1 a2 a3 c1 c2 c3) g (Dz p key k r) W):
  (Code.loop An6).wp Tryz.prog Q0 ⟨t,[]⟩ W:=by
 refine wp_loop (An3 w p key (zP p a1 a2 a3 c1 c2 c3) g m k) (fun a _=>p.aj.length - (intOf (a.tmps.getD 8 undef)).toNat) ⟨t,r,ht,hj,hW,rfl⟩ ?_;clear ht hj hW t r W;rintro a' wr ⟨t,r,ht,hj,hW,rfl⟩;obtain⟨u,rfl⟩:=Ajl ht;clear ht;have HM:=zh hm;clear hm;have HEND:=zh hend;have m0:=hW.box.cell 0;have m2:=hW.box.cell 2;simp only[zI,zJ,zK] at m0 m2;have HW:=zh hW;have hpn:=hr.aj;clear hend hW
 conv=>arg 2;whnf
 by_cases hlt:r < p.aj.length
 ·have hj2:(r:Int) < (p.aj.length:Int):=by omega
  have HLT:=zh hlt;have HR:Hid (∀t:Array Value,∀(r':Nat),r'=r+1→t=fj [[gd t 0,gd t 1,.string key,zt w.heap.size,gd t 4,gd t 5,.slice none 0 0,.slice (some ⟨g,0,none⟩) m m,.int .i64 (r':Int)],fr t 9 64]→∀W,Vb w p (zP p a1 a2 a3 c1 c2 c3) g (Ea p key (Dz p key k r) p.binds.length) W→An3 w p key (zP p a1 a2 a3 c1 c2 c3) g m k ⟨t,[]⟩ W):=
   zh fun t r' hr' ht W hW=>⟨t,r',ht,by omega,by rw[hr'];exact hW,rfl⟩
  go_wp2
  refine At4 p hr hs key hkey a1 a2 a3 c1 c2 c3 w g _ r (Dz p key k r) (by rw[Mq];exact HM.out.symm) HM.out hpl _ ?_ _ 0 wr rfl (Nat.zero_le _) (by unfold Ea;simpa using HW.out);rintro t j W ht hW;obtain⟨u',rfl⟩:=Ajm ht;have HW2:=zh hW;clear ht hW
  go_wp2
  exact⟨HR.out _ _ rfl rfl _ HW2.out,by simp[intOf];omega⟩
 ·obtain rfl:r=p.aj.length:=by omega
  go_wp2
  exact HEND.out _ p.aj.length _ rfl HW.out
def An5(w:zW)(g m:Nat)(l:List Bool)(a:Act)(wr:zW):Prop:=
 ∃(t:Array Value)(v:Value)(i:Nat),t=(po3_T g m i v t)∧i≤m∧Mz wr g l∧Cs wr w.heap.size v (Jh (fun i=>(l[i]?).getD false) i)∧Below w.heap.size w wr∧w.heap.size < g∧a=⟨t,[]⟩
theorem At5(w:zW)(g m:Nat)(l:List Bool)(hlm:l.length=m)(hm:m≤1048576)(Q0:Exit→Act→zW→Prop)
  (hend:∀(t:Array Value)(v:Value)(i:Nat)(W:zW),t=(po3_T g m i v t)→Cs W w.heap.size v (Jh (fun i=>(l[i]?).getD false) m)→Below w.heap.size w W→Q0 (.exit 4) ⟨t,[]⟩ W) (t:Array Value) (v:Value) (i:Nat) (W:zW) (ht:t=(po3_T g m i v t)) (hi:i≤m) (h1:Mz W g l) (h2:Cs W w.heap.size v (Jh (fun i=>(l[i]?).getD false) i)) (h3:Below w.heap.size w W) (h4:w.heap.size < g):
  (Code.loop Axa).wp Tryz.prog Q0 ⟨t,[]⟩ W:=by
 refine wp_loop (An5 w g m l) (fun a _=>m - (intOf (a.tmps.getD 12 undef)).toNat) ⟨t,v,i,ht,hi,h1,h2,h3,h4,rfl⟩ ?_;clear ht hi h1 h2 h3 h4 t v i W;rintro a' wr ⟨t,v,i,ht,hi,h1,h2,h3,h4,rfl⟩;obtain⟨u,rfl⟩:=Ajn ht;obtain⟨av,cv,rfl,_⟩:=Ae h2;clear ht;have HEND:=zh hend;have HH:=zh (zi h1 (zi h2 (zi h3 h4)));clear hend
 conv=>arg 2;whnf
 by_cases hlt:i < m
 ·have m4:=h1.cell (i:=i) (by omega)
  have hsu:=Acg (fun i=>(l[i]?).getD false) i;have hpl:=Yu (fun i=>(l[i]?).getD false) i;rw[zG (show i < l.length by omega),Option.getD_some] at hsu;generalize l[i]'(by omega)=x at *;have HS:=zh hsu;have hj2:(i:Int) < (m:Int):=by omega
  clear hsu h1 h2 h3 h4;have HR:Hid (∀t:Array Value,∀(v:Value)(i':Nat),i'=i+1→t=fj [fr t 0 6,[.slice none 0 0,.slice (some ⟨g,0,none⟩) m m,gd t 8,gd t 9,gd t 10,v,.int .i64 (i':Int)],fr t 13 60]→∀W,Mz W g l→Cs W w.heap.size v (if x=true then Jh (fun i=>(l[i]?).getD false) i++[(i:Int)] else Jh (fun i=>(l[i]?).getD false) i)→Below w.heap.size w W→An5 w g m l ⟨t,[]⟩ W):=
   zh fun t v i' hi' ht W q1 q2 q3=>⟨t,v,i',ht,by omega,q1,by rw[hi',HS.out];exact q2,q3,HH.out.2.2.2,rfl⟩
  cases x
  ·go_wp2
   exact⟨HR.out _ _ _ rfl rfl _ HH.out.1 (by simpa using HH.out.2.1) HH.out.2.2.1,by simp[intOf];omega⟩
  ·have hbs:=HH.out.2.2.1.size
   have HLN:=zh (show(Jh (fun i=>(l[i]?).getD false) i).length < 4294967296 by omega);go_wp2_with (at_builtin;refine Em rfl _ _ 92 rfl w.heap.size 3 Js Tryz.underlying92 rfl (by decide) (by decide) wr _ _ _ rfl HH.out.2.1 [.int .i64 (i:Int)] rfl rfl rfl (by simp[Value.oneCell']) HLN.out hbs ?_;intro v3 w3 hown' hgrow;have HO3:=zh (zi hown' hgrow);clear hown' hgrow)
   refine⟨HR.out _ _ _ rfl rfl _ (HH.out.1.grown HO3.out.2 (HH.out.2.1.ne HH.out.1 (by decide))) ?_ (Br HH.out.2.1 HO3.out.2 HH.out.2.2.1 (zn _) hbs),by simp[intOf];omega⟩;simp only[if_true];unfold Cs;rw[ze,List.map_append];exact HO3.out.1
 ·obtain rfl:i=m:=by omega
  clear h1 h2 h3 h4
  go_wp2
  exact HEND.out _ _ i _ rfl HH.out.2.1 HH.out.2.2.1
theorem Ac8(p:Ab)(hr:B8 p)(hs:Ai p)(k:Nat)(hk:k < p.aj.length)(key:zN)(hkey:key.size≤1048576)(a1 a2 a3:zZ)(c1 c2 c3:Nat)(w:zW)(hp:Au w 0 w.heap.size a1 a2 a3 p):
  Calls Tryz.prog 153 #[Ay p a1 a2 a3 c1 c2 c3,.int .i64 (k:Int),.string key] w fun e w'=>∃v,e= .returned v∧Cs w' w.heap.size v (Lv p key k)∧Below w.heap.size w w':=by
 unfold Ay;have hpn:=hr.aj;have hkm:(k:Int) < (p.aj.length:Int):=by omega
 obtain⟨W0,hW0⟩:=zo (w.alloc (.cells (zP p a1 a2 a3 c1 c2 c3) 26));have k0:=zw hW0
 have hb0:=zu hW0
 have hz0:W0.heap.size=w.heap.size+1:=by rw[←hW0];simp
 have m0:=k0.cell 0;simp only[zI,zJ] at m0;have hmk:=P9 (P:=Tryz.prog) (t:=196) (e:=4) (z:= .bool false) (bytes:=1) Tryz.underlying196 (by kernel_rfl) rfl p.aj.length (p.aj.length:Int) rfl (by decide) (by omega) W0;obtain⟨W1,hW1⟩:=zo (W0.alloc (.cells (List.replicate p.aj.length (.bool false)).toArray 4));rw[hW1] at hmk;have hi1:Mz W1 W0.heap.size (List.replicate p.aj.length false):=by
  unfold Mz;rw[←hW1,List.map_replicate];exact Bk.new _ _ _
 have z4:=hi1.cell (i:=k) (by simpa using hk);have zf:=Bk.frozen hi1 k;have zl:=Bk.lt hi1;have hP1:Vb w p (zP p a1 a2 a3 c1 c2 c3) W0.heap.size (List.replicate p.aj.length false) W1:=by
  have hal:=zu hW1
  exact⟨k0.below hal k0.lt,hi1,hb0.trans (hal.mono hb0.size),by omega⟩
 have HP1:=zh hP1;have HZ:=zh hz0;clear k0 hb0 hi1 hP1 hz0 hW1;go_enter Tryz.func153,Tryz.ntmps153
 go_wp2
 clear z4 zf zl;refine At3 p hr hs key hkey a1 a2 a3 c1 c2 c3 w W0.heap.size _ k rfl hp _ ?_ _ 0 _ rfl (Nat.zero_le _) (HP1.out.set k);rintro t r W ht hW;obtain⟨u,rfl⟩:=Ajl ht;have HW:=zh hW;clear ht hW
 go_wp2
 refine At5 w W0.heap.size p.aj.length (Dz p key k p.aj.length) (Mq _ _ _ _) (by omega) _ ?_ _ (.slice none 0 0) 0 W rfl (Nat.zero_le _) HW.out.is (World.ownsRow_nil _ _ _ _) HW.out.below HW.out.g;rintro t v i W2 ht h1 h2;obtain⟨u,rfl⟩:=Ajn ht;obtain⟨av,cv,rfl,_⟩:=Ae h1;have HF:=zh (zi h1 h2);clear ht h1 h2
 go_wp2
 go_ret
 exact⟨_,rfl,HF.out.1,HF.out.2⟩
def qo1q_T(w:zW)(key:zN)(q:Nat)(vp v:Value)(t:Array Value):Array Value:=fj [[gd t 0,gd t 1,.string key,zt w.heap.size,gd t 4,gd t 5,.slice none 0 0,vp,v,.int .i64 (q:Int)],fr t 10 56]
theorem Afd{w:zW}{key:zN}{q:Nat}{vp v:Value}{t:Array Value}(h:t=(qo1q_T w key q vp v t)):∃u:Nat→Value,t= #[u 0,u 1,.string key,zt w.heap.size,u 4,u 5,.slice none 0 0,vp,v,.int .i64 (q:Int),u 10,u 11,u 12,u 13,u 14,u 15,u 16,u 17,u 18,u 19,u 20,u 21,u 22,u 23,u 24,u 25,u 26,u 27,u 28,u 29,u 30,u 31,u 32,u 33,u 34,u 35,u 36,u 37,u 38,u 39,u 40,u 41,u 42,u 43,u 44,u 45,u 46,u 47,u 48,u 49,u 50,u 51,u 52,u 53,u 54,u 55,u 56,u 57,u 58,u 59,u 60,u 61,u 62,u 63,u 64,u 65]:=⟨fun i=>t.getD i undef,h⟩
def qo2q_T(w:zW)(key:zN)(q:Nat)(vp v:Value)(j:Nat)(c:Bool)(t:Array Value):Array Value:=fj [[gd t 0,gd t 1,.string key,zt w.heap.size,gd t 4,gd t 5,.slice none 0 0,vp,v,.int .i64 (q:Int),.bool c,.int .i64 (j:Int)],fr t 12 54]
theorem Afe{w:zW}{key:zN}{q:Nat}{vp v:Value}{j:Nat}{c:Bool}{t:Array Value}(h:t=(qo2q_T w key q vp v j c t)):∃u:Nat→Value,t= #[u 0,u 1,.string key,zt w.heap.size,u 4,u 5,.slice none 0 0,vp,v,.int .i64 (q:Int),.bool c,.int .i64 (j:Int),u 12,u 13,u 14,u 15,u 16,u 17,u 18,u 19,u 20,u 21,u 22,u 23,u 24,u 25,u 26,u 27,u 28,u 29,u 30,u 31,u 32,u 33,u 34,u 35,u 36,u 37,u 38,u 39,u 40,u 41,u 42,u 43,u 44,u 45,u 46,u 47,u 48,u 49,u 50,u 51,u 52,u 53,u 54,u 55,u 56,u 57,u 58,u 59,u 60,u 61,u 62,u 63,u 64,u 65]:=⟨fun i=>t.getD i undef,h⟩
noncomputable def Aob:Code:=It Tryz.f103 0
noncomputable def Axf:Code:=Alt Aob 0
structure Aau (w:zW) (p:Ab) (a1 a2 a3:zZ) (c1 c2 c3:Nat) (W0:zW):Prop where
 box:Bk W0 w.heap.size 26 (zP p a1 a2 a3 c1 c2 c3)
 bz:Au W0 0 W0.heap.size a1 a2 a3 p
theorem Aau.since{w W0 W:zW}{p:Ab}{a1 a2 a3:zZ}{c1 c2 c3:Nat}(h:Aau w p a1 a2 a3 c1 c2 c3 W0)(hb:Below W0.heap.size W0 W):Aau w p a1 a2 a3 c1 c2 c3 W:=
 ⟨h.box.below hb h.box.lt,(h.bz.below hb (zn _)).wider (zn _) hb.size⟩
theorem Ar7{α:Type}{l:List α}{j:Nat}{x:α}(h:l[j]? =some x)(f:α→Bool):(l.take (j+1)).any f=((l.take j).any f || f x):=by
 obtain⟨hj,rfl⟩:=List.getElem?_eq_some_iff.1 h;rw[zj hj,List.any_append];simp
def Aoa(w:zW)(p:Ab)(key:zN)(vp v:Value)(ps:List Int)(q:Nat)(W0:zW)(a:Act)(wr:zW):Prop:=
 ∃(t:Array Value)(c:Bool)(j:Nat),t=(qo2q_T w key q vp v j c t)∧j≤p.binds.length∧c=(p.binds.take j).any (Ff p key ps q)∧Below W0.heap.size W0 wr∧a=⟨t,[]⟩
theorem Auc(p:Ab)(hr:B8 p)(hs:Ai p)(key:zN)(hkey:key.size≤1048576)(a1 a2 a3:zZ)(c1 c2 c3:Nat)(w:zW)(vp v:Value)(ps:List Int)(q:Nat)(W0:zW)(hq0:IntsIn W0 vp ps)(hIn:Aau w p a1 a2 a3 c1 c2 c3 W0)(Q0:Exit→Act→zW→Prop)
  (hend:∀(t:Array Value)(c:Bool)(j:Nat)(W:zW),t=(qo2q_T w key q vp v j c t)→c=p.binds.any (Ff p key ps q)→Below W0.heap.size W0 W→Q0 (.exit 2) ⟨t,[]⟩ W) (t:Array Value) (c:Bool) (j:Nat) (W:zW) (ht:t=(qo2q_T w key q vp v j c t)) (hj:j≤p.binds.length) (hc:c=(p.binds.take j).any (Ff p key ps q)) (hW:Below W0.heap.size W0 W):
  (Code.loop Axf).wp Tryz.prog Q0 ⟨t,[]⟩ W:=by
 refine wp_loop (Aoa w p key vp v ps q W0) (fun a _=>p.binds.length - (intOf (a.tmps.getD 11 undef)).toNat) ⟨t,c,j,ht,hj,hc,hW,rfl⟩ ?_;clear ht hj hc hW t c j W;rintro a' wr ⟨t,c,j,ht,hj,hc,hW,rfl⟩;obtain⟨u,rfl⟩:=Afe ht;obtain⟨ap,cp,rfl,hpl,hsl⟩:=hq0;clear ht;have hI:=hIn.since hW;have m2:=hI.box.cell 2;simp only[zI,zJ,zK] at m2;have HEND:=zh hend;have HW:=zh hW;have HI:=zh hI;have HC:=zh hc;have HSL:=zh hsl;have hbn:=hr.binds;clear hend hW hI hc hIn hsl
 conv=>arg 2;whnf
 by_cases hlt:j < p.binds.length
 ·obtain⟨b,hb⟩:∃b,p.binds[j]? =some b:=⟨_,zG hlt⟩
  have hbr:=hr.bind b (List.mem_of_getElem? hb);have hj2:(j:Int) < (p.binds.length:Int):=by omega
  obtain⟨gb,ob,hga,n0,n1,n2,n3⟩:=Vu HI.out.bz.binds hb;subst hga;have hst:=Ar7 hb (Ff p key ps q);rw[←HC.out] at hst;have HST:=zh hst;obtain⟨s,hs1⟩:∃s:Nat,b.src=(s:Int):=⟨b.src.toNat,by omega⟩;have HFIT:Hid (∀W,Below wr.heap.size wr W→Calls Tryz.prog 155 #[.agg (zP p a1 a2 (some ⟨gb,ob,none⟩) c1 c2 c3),.int .i64 (j:Int),.string key] W fun e w'=>e= .returned (.bool (byP p b key))∧Below W.heap.size W w'):=zh fun W hWb=>by
   have h:=Te p j hlt key a1 a2 (some ⟨gb,ob,none⟩) c1 c2 c3 0 W (HI.out.since hWb).bz hs s (by omega) (by have:=(List.getElem?_eq_some_iff.1 hb).2;rw[this];exact hs1) hkey;have e:fitsAt p (j:Int) key=byP p b key:=by unfold fitsAt;rw[show((j:Int)).toNat=j by omega,hb]
   rw[e] at h;exact h
  have HIN:Hid (∀W,Below wr.heap.size wr W→Calls Tryz.prog 154 #[.slice ap ps.length cp,.int .i64 b.src] W fun e w'=>e= .returned (.bool (decide (b.src∈ps)))∧w'=W):=zh fun W hWb=>
   Aqa ap cp ps b.src W 0 ((HSL.out.below (HW.out.trans (hWb.mono HW.out.size)) (zn _)).wider (zn _) (zr HW.out.size hWb.size)) hpl
  obtain⟨W1,hW1⟩:=zo (wr.alloc (.cells #[.int .i64 b.src,.bool b.cd,.int .i64 b.to,.string b.pattern] 83));have hal:=zu hW1
  have kb:=zw hW1
  have s0:=kb.cell 0;have s1:=kb.cell 1;have s2:=kb.cell 2;have k1:=HI.out.since hal;have t0:=k1.box.cell 0;have t1:=k1.box.cell 1;have t2:=k1.box.cell 2;simp only[zI,zJ,zK] at s0 s1 s2 t0 t1 t2;have HAL:=zh hal;have HWW:Hid (∀W,Below W1.heap.size W1 W→Below W0.heap.size W0 W):=zh fun W h=>HW.out.trans ((hal.trans (h.mono hal.size)).mono HW.out.size);have HR:Hid (∀t:Array Value,∀(c':Bool)(j':Nat),j'=j+1→t=fj [[gd t 0,gd t 1,.string key,zt w.heap.size,gd t 4,gd t 5,.slice none 0 0,.slice ap ps.length cp,v,.int .i64 (q:Int),.bool c',.int .i64 (j':Int)],fr t 12 54]→c'=(c || Ff p key ps q b)→∀W,Below W0.heap.size W0 W→Aoa w p key (.slice ap ps.length cp) v ps q W0 ⟨t,[]⟩ W):=
   zh fun t c' j' hj' ht hc' W hW=>⟨t,c',j',ht,by omega,by rw[hj',HST.out];exact hc',hW,rfl⟩
  have HTQ:Hid (Ff p key ps q b=(!b.cd && decide (b.to=(q:Int)) && decide (b.src∈ps) && byP p b key)):=zh (by unfold Ff;rw[List.contains_eq_mem]);have HMS:=zh hs1;clear hst hbr hal kb k1 hs1
  cases c
  ·cases htp:b.cd
   ·rw[htp] at s1
    by_cases hto:b.to=(q:Int)
    ·have htb:(b.to == (q:Int))=true:=by simp[hto]
     have HTO:=zh hto;have HTP:=zh htp;clear htp hto;go_wp2_with fail
     refine(HIN.out W1 HAL.out).mono ?_;rintro e W2 ⟨rfl,rfl⟩;by_cases hin:b.src∈ps
     ·rw[decide_eq_true hin]
      have HIM:=zh hin;clear hin;go_wp2_with fail
      refine(HFIT.out W2 HAL.out).mono ?_;rintro e W3 ⟨rfl,hb3⟩;have HB3:=zh (HWW.out _ hb3);clear hb3 s0 s1 s2 t0 t1 t2;have HE:=zh (show(false || Ff p key ps q b)=byP p b key by rw[HTQ.out,HTP.out,decide_eq_true HTO.out,decide_eq_true HIM.out];simp);generalize byP p b key=bb at *
      go_wp2
      exact⟨HR.out _ bb _ rfl rfl HE.out.symm _ HB3.out,by simp[intOf];omega⟩
     ·rw[decide_eq_false hin]
      have HE:=zh (show(false || Ff p key ps q b)=false by rw[HTQ.out,decide_eq_false hin];simp);clear hin
      go_wp2
      exact⟨HR.out _ false _ rfl rfl HE.out.symm _ (HWW.out _ (zb _ _)),by simp[intOf];omega⟩
    ·have htb:(b.to == (q:Int))=false:=by simp[hto]
     have HE:=zh (show(false || Ff p key ps q b)=false by rw[HTQ.out,decide_eq_false hto];simp);clear htp hto
     go_wp2
     exact⟨HR.out _ false _ rfl rfl HE.out.symm _ (HWW.out _ (zb _ _)),by simp[intOf];omega⟩
   ·rw[htp] at s1
    have HE:=zh (show(false || Ff p key ps q b)=false by rw[HTQ.out,htp];simp);clear htp
    go_wp2
    exact⟨HR.out _ false _ rfl rfl HE.out.symm _ (HWW.out _ (zb _ _)),by simp[intOf];omega⟩
  ·go_wp2
   exact⟨HR.out _ true _ rfl rfl rfl _ (HWW.out _ (zb _ _)),by simp[intOf];omega⟩
 ·obtain rfl:j=p.binds.length:=by omega
  have hcc:c=p.binds.any (Ff p key ps q):=by have:=HC.out;rwa [List.take_length] at this
  have HCC:=zh hcc;clear hcc
  go_wp2
  exact HEND.out _ c p.binds.length _ rfl HCC.out HW.out
def An9(w:zW)(p:Ab)(key:zN)(vp:Value)(ps:List Int)(W0:zW)(a:Act)(wr:zW):Prop:=
 ∃(t:Array Value)(v:Value)(q:Nat),t=(qo1q_T w key q vp v t)∧q≤p.ag.length∧Cs wr W0.heap.size v (Jh (fun q=>p.binds.any (Ff p key ps q)) q)∧Below W0.heap.size W0 wr∧a=⟨t,[]⟩
theorem Aub(p:Ab)(hr:B8 p)(hs:Ai p)(key:zN)(hkey:key.size≤1048576)(a1 a2 a3:zZ)(c1 c2 c3:Nat)(w:zW)(vp:Value)(ps:List Int)(W0:zW)(hq0:IntsIn W0 vp ps)(hIn:Aau w p a1 a2 a3 c1 c2 c3 W0)(Q0:Exit→Act→zW→Prop)
  (hend:∀(t:Array Value)(v:Value)(q:Nat)(W:zW),t=(qo1q_T w key q vp v t)→Cs W W0.heap.size v (Jh (fun q=>p.binds.any (Ff p key ps q)) p.ag.length)→Below W0.heap.size W0 W→Q0 (.exit 0) ⟨t,[]⟩ W) (t:Array Value) (v:Value) (q:Nat) (W:zW) (ht:t=(qo1q_T w key q vp v t)) (hq:q≤p.ag.length) (hv:Cs W W0.heap.size v (Jh (fun q=>p.binds.any (Ff p key ps q)) q)) (hW:Below W0.heap.size W0 W):
  (Code.loop Aob).wp Tryz.prog Q0 ⟨t,[]⟩ W:=by
 refine wp_loop (An9 w p key vp ps W0) (fun a _=>p.ag.length - (intOf (a.tmps.getD 9 undef)).toNat) ⟨t,v,q,ht,hq,hv,hW,rfl⟩ ?_;clear ht hq hv hW t v q W;rintro a' wr ⟨t,v,q,ht,hq,hv,hW,rfl⟩;obtain⟨u,rfl⟩:=Afd ht;obtain⟨av,cv,rfl,_⟩:=Ae hv;clear ht;have hI:=hIn.since hW;have m1:=hI.box.cell 1;simp only[zI,zJ,zK] at m1;have HEND:=zh hend;have HW:=zh hW;have HV:=zh hv;have HI:=zh hI;have HIN:=zh (zi hIn hq0);have hqn:=hr.ag;have hpl:=Yu (fun q=>p.binds.any (Ff p key ps q)) q;clear hend hW hv hI hIn hq0
 conv=>arg 2;whnf
 by_cases hlt:q < p.ag.length
 ·have hj2:(q:Int) < (p.ag.length:Int):=by omega
  have HS:=zh (Acg (fun q=>p.binds.any (Ff p key ps q)) q);have HR:Hid (∀t:Array Value,∀(v':Value)(q':Nat),q'=q+1→t=fj [[gd t 0,gd t 1,.string key,zt w.heap.size,gd t 4,gd t 5,.slice none 0 0,vp,v',.int .i64 (q':Int)],fr t 10 56]→∀W,Cs W W0.heap.size v' (if p.binds.any (Ff p key ps q)=true then Jh (fun q=>p.binds.any (Ff p key ps q)) q++[(q:Int)] else Jh (fun q=>p.binds.any (Ff p key ps q)) q)→Below W0.heap.size W0 W→An9 w p key vp ps W0 ⟨t,[]⟩ W):=
   zh fun t v' q' hq' ht W q1 q2=>⟨t,v',q',ht,by omega,by rw[hq',HS.out];exact q1,q2,rfl⟩
  go_wp2
  refine Auc p hr hs key hkey a1 a2 a3 c1 c2 c3 w vp _ ps q wr (HIN.out.2.since HW.out) HI.out _ ?_ _ false 0 wr rfl (Nat.zero_le _) rfl (zb _ _);rintro t c j W ht hc hW;obtain⟨u',rfl⟩:=Afe ht;have HC:=zh hc;have hb:=HW.out.trans (hW.mono HW.out.size);have HB:=zh hb;have HV2:=zh (HV.out.grown' hW);clear ht hc hW hb
  cases c
  ·go_wp2
   exact⟨HR.out _ _ _ rfl rfl _ (by rw[←HC.out];simpa using HV2.out) HB.out,by simp[intOf];omega⟩
  ·have hbs:=HB.out.size
   have HLN:=zh (show(Jh (fun q=>p.binds.any (Ff p key ps q)) q).length < 4294967296 by omega);go_wp2_with (at_builtin;refine Em rfl _ _ 92 rfl W0.heap.size 3 Js Tryz.underlying92 rfl (by decide) (by decide) W _ _ _ rfl HV2.out [.int .i64 (q:Int)] rfl rfl rfl (by simp[Value.oneCell']) HLN.out hbs ?_;intro v3 w3 hown' hgrow;have HO3:=zh (zi hown' hgrow);clear hown' hgrow)
   refine⟨HR.out _ _ _ rfl rfl _ ?_ (Br HV2.out HO3.out.2 HB.out (zn _) hbs),by simp[intOf];omega⟩;rw[←HC.out];simp only[if_true];unfold Cs;rw[ze,List.map_append];exact HO3.out.1
 ·obtain rfl:q=p.ag.length:=by omega
  go_wp2
  exact HEND.out _ _ p.ag.length _ rfl HV.out HW.out
theorem Tp(p:Ab)(hr:B8 p)(hs:Ai p)(k:Nat)(hk:k < p.aj.length)(key:zN)(hkey:key.size≤1048576)(a1 a2 a3:zZ)(c1 c2 c3:Nat)(w:zW)(hp:Au w 0 w.heap.size a1 a2 a3 p):
  Calls Tryz.prog 103 #[Ay p a1 a2 a3 c1 c2 c3,.int .i64 (k:Int),.string key] w fun e w'=>∃v,e= .returned v∧Cs w' w.heap.size v (Rx p key k)∧Below w.heap.size w w':=by
 unfold Ay;obtain⟨W0,hW0⟩:=zo (w.alloc (.cells (zP p a1 a2 a3 c1 c2 c3) 26));have k0:=zw hW0
 have hb0:=zu hW0
 have m0:=k0.cell 0;have m1:=k0.cell 1;have m2:=k0.cell 2;simp only[zI,zJ,zK] at m0 m1 m2;have HIN:Hid (Aau w p a1 a2 a3 c1 c2 c3 W0∧Below w.heap.size w W0):=zh ⟨⟨k0,(hp.below hb0 (zn _)).wider (zn _) hb0.size⟩,hb0⟩;clear k0 hb0 hp;go_enter Tryz.func103,Tryz.ntmps103
 go_wp2_with fail
 have hcall:=Ac8 p hr hs k hk key hkey a1 a2 a3 c1 c2 c3 W0 HIN.out.1.bz;unfold Ay at hcall;refine hcall.mono ?_;clear hcall m0 m1 m2 hW0;rintro e W1 ⟨vp,rfl,n1,n2⟩;have hlen:(Lv p key k).length≤1048576:=by
  have:=Yu (fun i=>((Dz p key k p.aj.length)[i]?).getD false) p.aj.length;have:=hr.aj;unfold Lv;omega
 obtain⟨avp,cvp,rfl,_⟩:=Ae n1;have HIP:=zh (zi (Pp n1 hlen) n2);clear n1 n2 hlen
 go_wp2
 refine Aub p hr hs key hkey a1 a2 a3 c1 c2 c3 w _ (Lv p key k) W1 HIP.out.1 (HIN.out.1.since HIP.out.2) _ ?_ _ (.slice none 0 0) 0 W1 rfl (Nat.zero_le _) (World.ownsRow_nil _ _ _ _) (zb _ _);rintro t v q W2 ht h1 h2;obtain⟨u,rfl⟩:=Afd ht;obtain⟨av,cv,rfl,_⟩:=Ae h1;have hb1:Below w.heap.size w W1:=HIN.out.2.trans (HIP.out.2.mono HIN.out.2.size);have HF:=zh (zi (Cs.lower h1 hb1.size) (hb1.trans (h2.mono hb1.size)));clear ht h1 h2 hb1
 go_wp2
 go_ret
 exact⟨_,rfl,HF.out.1,HF.out.2⟩
theorem R9(p:Ab)(hs:Ai p)(n:Int)(hn: -9223372036854775808≤n∧n≤9223372036854775807)(key:zN)(hkey:key.size≤1048576)(a1 a2 a3:zZ)(c1 c2 c3:Nat)(w:zW)(hp:Au w 0 w.heap.size a1 a2 a3 p):
  Calls Tryz.prog 102 #[Ay p a1 a2 a3 c1 c2 c3,.int .i64 n,.string key] w fun e w'=>e= .returned (.int .i64 (Bn p n key))∧Below w.heap.size w w':=by
 unfold Ay;obtain⟨W0,hW0⟩:=zo (w.alloc (.cells (zP p a1 a2 a3 c1 c2 c3) 26));have k0:=zw hW0
 have hb0:=zu hW0
 have m0:=k0.cell 0;have m1:=k0.cell 1;have m2:=k0.cell 2;simp only[zI,zJ,zK] at m0 m1 m2;have HIN:Hid (Aau w p a1 a2 a3 c1 c2 c3 W0∧Below w.heap.size w W0):=zh ⟨⟨k0,(hp.below hb0 (zn _)).wider (zn _) hb0.size⟩,hb0⟩;have hpl:=hs.aj;clear k0 hb0 hp;go_enter Tryz.func102,Tryz.ntmps102
 go_wp2_with fail
 have hcall:=G2 p a1 a2 a3 c1 c2 c3 0 W0 HIN.out.1.bz hs;unfold Ay at hcall;refine hcall.mono ?_;clear hcall m0 m1 m2 hW0;rintro e W1 ⟨rfl,n2⟩;have HB:=zh (HIN.out.2.trans (n2.mono HIN.out.2.size));have m0:=(HIN.out.1.since n2).box.cell 0;simp only[zI,zJ] at m0;clear n2;by_cases hc:Bc p=0
 ·have b1:(Bc p != 0)=false:=by simp[hc]
  by_cases hn2:n < 0∨(p.aj.length:Int)≤n
  ·have HE:=zh (show Bn p n key=5 by unfold Bn;rw[zq (by simp[hc]),zp hn2])
   have HD:=zh (show(decide ((0:Int)≤n) && decide (n≤(p.aj.length:Int) - 1))=false by rw[Bool.and_eq_false_iff];simp;omega);clear hc hn2;go_wp2_with (go_at_call 55;refine(Cc _ _ _ _).mono ?_;rintro e W2 ⟨rfl,rfl⟩;rw[HD.out])
   go_ret
   exact⟨by rw[HE.out];rfl,HB.out⟩
  ·have HE:=zh (show Bn p n key=Be isWord key by unfold Bn;rw[zq (by simp[hc]),zq hn2])
   have HD:=zh (show(decide ((0:Int)≤n) && decide (n≤(p.aj.length:Int) - 1))=true by rw[zc];simp;omega);clear hc hn2;go_wp2_with (first|(go_at_call 55;refine(Cc _ _ _ _).mono ?_;rintro e W2 ⟨rfl,rfl⟩;rw[HD.out])|(go_at_call 152;refine(Kd key _ (by omega)).mono ?_;rintro e W3 ⟨rfl,n3⟩;have HB3:=zh n3;clear n3))
   go_ret
   exact⟨by rw[HE.out];rfl,HB.out.trans (HB3.out.mono HB.out.size)⟩
 ·have b1:(Bc p != 0)=true:=by simp[hc]
  have HE:=zh (show Bn p n key=Bc p by unfold Bn;rw[zp hc]);clear hc
  go_wp2
  go_ret
  exact⟨by rw[HE.out];rfl,HB.out⟩
end Go.Proofs.YtpkneogjdfolaaaGreatDoor
