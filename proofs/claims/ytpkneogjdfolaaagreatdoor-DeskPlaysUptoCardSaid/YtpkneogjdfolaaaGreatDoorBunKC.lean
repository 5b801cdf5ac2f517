/- Lemmas. -/
import Derived.Test.YtpkneogjdfolaaaGreatDoorBunKB
import Derived.Test.YtpkneogjdfolaaaGreatDoorBunCC
set_option maxHeartbeats 20000000
set_option maxRecDepth 100000
set_option linter.unusedSimpArgs false
set_option linter.unusedVariables false
namespace Go.Proofs.YtpkneogjdfolaaaGreatDoor
open Go Go.RowKit
def O5(W0 W:zW)(p:Ab)(p1 p2 p3:zZ)(q1 q2 q3:Nat)(x:Told)(e:Ending)(W':zW):Prop:=
 W.grownBy W' (some W0.heap.size)∧TbS W0 W' p p1 p2 p3 q1 q2 q3 x.1∧(x.2.2=0→e= .returned (.string (bs x.2.1)))∧(x.2.2≠0→e= .panicked [dkE x.2.2])
theorem D9{W0 W W':zW}{p:Ab}{p1 p2 p3:zZ}{q1 q2 q3:Nat}{s:Aa}{x:Told}{k:Int}(hx:x=(s,[],k))(hk:k≠0)(h:TbS W0 W p p1 p2 p3 q1 q2 q3 s)(hb:Below W.heap.size W W'):O5 W0 W p p1 p2 p3 q1 q2 q3 x (.panicked [dkE k]) W':=by
 subst hx;exact⟨Bs hb _,h.keep hb,fun h=>absurd h hk,fun _=>rfl⟩
theorem I2{W0 W W':zW}{p:Ab}{p1 p2 p3:zZ}{q1 q2 q3:Nat}{n:Aa}{o:List UInt8}{x:Told}(hx:x=(n,o,0))(h:TbS W0 W' p p1 p2 p3 q1 q2 q3 n)(hg:W.grownBy W' (some W0.heap.size)):O5 W0 W p p1 p2 p3 q1 q2 q3 x (.returned (.string (bs o))) W':=by
 subst hx;exact⟨hg,h,fun _=>rfl,fun h=>absurd rfl h⟩
theorem Ii{s n:Aa}{o:List UInt8}{e:Int}(h:e=0):Ew s n o e=(n,o,0):=by unfold Ew;rw[zp h]
theorem Hf{s n:Aa}{o:List UInt8}{e:Int}(h:e≠0):Ew s n o e=(s,[],e):=by unfold Ew;rw[zq h]
theorem Afo{W0 W:zW}{p:Ab}{p1 p2 p3:zZ}{q1 q2 q3:Nat}{s:Aa}{a1 a2 a3:zZ}{c1 c2 c3:Nat}{rows:List Bm}(h:Rz W0 W p p1 p2 p3 q1 q2 q3 s a1 a2 a3 c1 c2 c3 rows){bx:Nat}(hbx:Bk W bx 35 #[zt W0.heap.size]):Hid (∀V n,W.grownBy V (some W0.heap.size)→TbS W0 V p p1 p2 p3 q1 q2 q3 n→zM V bx 0 (zt W0.heap.size)∧zM V W0.heap.size 0 (.slice p1 p.aj.length q1)∧zM V W0.heap.size 1 (.slice p2 p.ag.length q2)∧zM V W0.heap.size 2 (.slice p3 p.binds.length q3)):=zh fun V n hV hT=>by
 obtain⟨b1,b2,b3,d1,d2,d3,ry,hT⟩:=hT;obtain⟨⟨m0,m1,m2⟩,_⟩:=hT.cells;have hne:bx≠W0.heap.size:=fun e=>by
  subst e;exact absurd (hbx.ty h.bk) (by decide)
 exact⟨(hbx.grown hV (fun e=>hne (Option.some.inj e))).cell 0,m0,m1,m2⟩
theorem Aj2{W0 W:zW}{p:Ab}{p1 p2 p3:zZ}{q1 q2 q3:Nat}{s:Aa}{a1 a2 a3:zZ}{c1 c2 c3:Nat}{rows:List Bm}(h:Rz W0 W p p1 p2 p3 q1 q2 q3 s a1 a2 a3 c1 c2 c3 rows){bx:Nat}(hbx:Bk W bx 35 #[zt W0.heap.size]):Hid (∀V,Below W.heap.size W V→zM V bx 0 (zt W0.heap.size)∧zM V W0.heap.size 0 (.slice p1 p.aj.length q1)∧zM V W0.heap.size 1 (.slice p2 p.ag.length q2)∧zM V W0.heap.size 2 (.slice p3 p.binds.length q3)):=
 zh fun V hV=>(Afo h hbx).out V s (Bs hV _) ⟨_,_,_,_,_,_,_,h.keep hV⟩
theorem Ac1{W0 W:zW}{p:Ab}{p1 p2 p3:zZ}{q1 q2 q3:Nat}{s:Aa}{a1 a2 a3:zZ}{c1 c2 c3:Nat}{rows:List Bm}(h:Rz W0 W p p1 p2 p3 q1 q2 q3 s a1 a2 a3 c1 c2 c3 rows):Hid (∀V,Below W.heap.size W V→zM V W0.heap.size 3 (.slice a1 s.ready.length c1)∧zM V W0.heap.size 4 (.slice a2 s.outs.length c2)∧zM V W0.heap.size 5 (.slice a3 s.ae.length c3)∧zM V W0.heap.size 6 (.int .i64 s.ah)∧zM V W0.heap.size 7 (.int .i64 s.af)∧zM V W0.heap.size 8 (.int .i64 s.aw)∧zM V W0.heap.size 9 (.int .i64 s.ar)∧zM V W0.heap.size 10 (.int .i64 s.dropped)):=zh fun _ hV=>(h.keep hV).cells.2
theorem Ac2{W0 W:zW}{p:Ab}{p1 p2 p3:zZ}{q1 q2 q3:Nat}{s:Aa}{a1 a2 a3:zZ}{c1 c2 c3:Nat}{rows:List Bm}(hw:DkW W0 p p1 p2 p3)(h:Rz W0 W p p1 p2 p3 q1 q2 q3 s a1 a2 a3 c1 c2 c3 rows):Hid (∀V,Below W.heap.size W V→Rz W0 V p p1 p2 p3 q1 q2 q3 s a1 a2 a3 c1 c2 c3 rows∧Au V 0 V.heap.size p1 p2 p3 p∧Qg V∧Env V∧Av V 0 V.heap.size a1 a2 a3 rows s):=zh fun _ hV=>⟨h.keep hV,(h.keep hV).bu hw⟩
theorem Lj{P:Program}{ops:Array Oper}{Q:Exit→Act→zW→Prop}{S:zW→Prop}{w:zW}(hk:Hid (∀W,Below w.heap.size w W→S W)){id:Nat}{a:Act}(hm:P.follows .mixedOrders=true)
  (h:S w.drew→wpAnyH P .any ops Q S ops.size (Array.replicate ops.size false) a w.drew):(Code.region id ops true).wp P Q a w:=wp_region_held_drew hm (hk.out _ (zb _ _).drew) h
theorem Sj(s:zN)(hs:s.size≤1048576)(w:zW)(hE:Qg w):
  Calls Tryz.prog 87 #[.string s] w fun e w'=>Below w.heap.size w w'∧((Dp s.toList < 0∧e= .panicked [dkE 1])∨(0≤Dp s.toList∧e= .returned (.int .i64 (Dp s.toList)))):=by
 by_cases h:Dp s.toList < 0
 ·exact(Awc s hs h w hE).mono fun e w' hq=>⟨hq.2,.inl ⟨h,hq.1⟩⟩
 ·exact(Awd s hs (by omega) w hE).mono fun e w' hq=>⟨hq.2,.inr ⟨by omega,hq.1⟩⟩
theorem Mp{W0 W:zW}{p:Ab}{p1 p2 p3:zZ}{q1 q2 q3:Nat}{s:Aa}(h:TbS W0 W p p1 p2 p3 q1 q2 q3 s){x:Aa}{lo:Nat}{b1 b2 b3:zZ}(d1 d2 d3:Nat){ry:List Bm}
  (hl:W0.heap.size < lo) (hx:Ca W lo (.slice b1 x.ready.length d1) (.slice b2 x.outs.length d2) (.slice b3 x.ae.length d3) ry x) (er:Int):
  Calls Tryz.prog 93 #[zt W0.heap.size,Ad x b1 b2 b3 d1 d2 d3,.int .i64 er] W fun e W'=>(er=0∧e= .returned (.string (bs wOk))∧TbS W0 W' p p1 p2 p3 q1 q2 q3 x∧W.grownBy W' (some W0.heap.size))∨(er≠0∧e= .panicked [dkE er]∧Below W.heap.size W W'):=by
 by_cases he:er=0
 ·subst he
  exact(Awn h d1 d2 d3 hl hx).mono fun e w' hq=> .inl ⟨rfl,hq⟩
 ·exact(Awm _ x b1 b2 b3 d1 d2 d3 he W).mono fun e w' hq=> .inr ⟨he,hq⟩
theorem Tj{W0 W:zW}{p:Ab}{p1 p2 p3:zZ}{q1 q2 q3:Nat}{s:Aa}(h:TbS W0 W p p1 p2 p3 q1 q2 q3 s){x:Aa}{lo:Nat}{b1 b2 b3:zZ}(d1 d2 d3:Nat){ry:List Bm}
  (hl:W0.heap.size < lo) (hx:Ca W lo (.slice b1 x.ready.length d1) (.slice b2 x.outs.length d2) (.slice b3 x.ae.length d3) ry x) (n er:Int):
  Calls Tryz.prog 88 #[zt W0.heap.size,Ad x b1 b2 b3 d1 d2 d3,.int .i64 n,.int .i64 er] W fun e W'=>(er=0∧e= .returned (.int .i64 n)∧TbS W0 W' p p1 p2 p3 q1 q2 q3 x∧W.grownBy W' (some W0.heap.size))∨(er≠0∧e= .panicked [dkE er]∧Below W.heap.size W W'):=by
 by_cases he:er=0
 ·subst he
  exact(Aol h d1 d2 d3 hl hx n).mono fun e w' hq=> .inl ⟨rfl,hq⟩
 ·exact(Aok _ x b1 b2 b3 d1 d2 d3 n he W).mono fun e w' hq=> .inr ⟨he,hq⟩
theorem Anl{W0 W:zW}{p:Ab}{p1 p2 p3:zZ}{q1 q2 q3:Nat}{s:Aa}(hw:DkW W0 p p1 p2 p3)(hr:Bw p s)(h:TbS W0 W p p1 p2 p3 q1 q2 q3 s){bx:Nat}(hbx:Bk W bx 35 #[zt W0.heap.size])(rest:zN)(hs:rest.size≤1048576):
  Calls Tryz.prog 92 #[.string rest,zt bx] W (O5 W0 W p p1 p2 p3 q1 q2 q3 (if Dp rest.toList < 0 then (s,[],1) else Nx s (De p s (Dp rest.toList)) (Bv p s (Dp rest.toList)))):=by
 obtain⟨a1,a2,a3,c1,c2,c3,rows,h⟩:=h;have HT:=Ac2 hw h;have HG:=Afo h hbx;have HK:=Aj2 h hbx;have HC:=Ac1 h;have HLT:=zh h.below.size;have hlt:=h.bk.lt;have hb0:Below W.heap.size W W.drew:=(zb _ _).drew;clear h hbx;have HN:=zh fun V hV=>Sj rest hs V (HT.out V hV).2.2.1;generalize Dp rest.toList=v at *;have HA:Hid (∀V,Below W.heap.size W V→Calls Tryz.prog 94 #[.agg (zP p p1 p2 p3 q1 q2 q3),.agg (zV s a1 a2 a3 c1 c2 c3),.int .i64 v] V (G1 (De p s v) (Bv p s v) V)):=zh fun V hV=>
  Va p s v p1 p2 p3 a1 a2 a3 q1 q2 q3 c1 c2 c3 rows V (HT.out V hV).2.2.2.1 (HT.out V hV).2.1 hw.small (HT.out V hV).2.2.2.2 hr.small hr.ints
 generalize De p s v=X at *;generalize Bv p s v=er at *;obtain⟨x,hx⟩:∃x:Told,x=if v < 0 then (s,[],1) else Nx s X er:=⟨_,rfl⟩
 rw[←hx];have HX:=zh hx;clear hx;go_enter Tryz.func92,Tryz.ntmps92
 go_wp2_with fail
 refine Lj HK (by kernel_rfl) (fun hHeld=> ?_);refine zH 0 ?_;refine zH 1 ?_;refine zH 2 ?_;refine zH 3 ?_;refine zH 4 ?_;refine zH 5 ?_;refine zH 6 ?_;refine zH 7 ?_;refine zH 9 ?_
 refine zR2 8 10 (fun K hK=> ?_) (fun K hK=> ?_)
 ·have hb:=hb0
  obtain⟨l0,l1,l2,l3,l4,l5,l6,l7⟩:=HC.out _ hb
  go_simp
  refine zk hK (by exact HK.out _ hb) (fun hHeld=> ?_);clear hK K
  clear l0 l1 l2 l3 l4 l5 l6 l7;refine zR 10 fun K hK=> ?_
  go_simp
  go_at_call 87
  refine(HN.out _ hb).mono ?_;rintro e w4 ⟨hb4,⟨hn,rfl⟩|⟨hn,rfl⟩⟩
  ·exact⟨rfl,D9 (by rw[HX.out,zp hn]) (by decide) ⟨_,_,_,_,_,_,_,(HT.out W (zb _ _)).1⟩ (hb.trans (hb4.mono hb.size))⟩
  replace hb:=hb.trans (hb4.mono hb.size)
  refine zk hK (by exact HK.out _ hb) (fun hHeld=> ?_);clear hK K
  refine zR 11 fun K hK=> ?_
  go_simp
  go_at_call 94
  refine(HA.out _ hb).mono ?_;rintro e w5 ⟨y1,y2,y3,d1,d2,d3,ry,rfl,hs5,hb5⟩;have hl5:=Nat.lt_of_lt_of_le hlt hb.size
  replace hb:=hb.trans (hb5.mono hb.size)
  have hs5':=hs5;unfold Ad Ag;refine zk hK (by exact HK.out _ hb) (fun hHeld=> ?_);clear hK K
  refine zH 12 ?_;refine zH 13 ?_
  refine zR 14 fun K hK=> ?_
  go_simp
  go_at_call 93
  refine(Mp ⟨_,_,_,_,_,_,_,(HT.out _ hb).1⟩ d1 d2 d3 hl5 hs5' er).mono ?_;rintro e w6 (⟨he,rfl,ht6,hg6⟩|⟨he,rfl,hb6⟩)
  ·have hg:=Ci (Bs hb (some W0.heap.size)) hg6
   refine zk hK (by exact HG.out _ _ hg ht6) (fun hHeld=> ?_);clear hK K
   refine zH 15 ?_
   refine zx ?_;go_wp2_with fail
   go_ret
   exact I2 (by rw[HX.out,zq (by omega)];exact Ii he) ht6 hg
  ·exact⟨rfl,D9 (by rw[HX.out,zq (by omega)];exact Hf he) he ⟨_,_,_,_,_,_,_,(HT.out W (zb _ _)).1⟩ (hb.trans (hb6.mono hb.size))⟩
 ·have hb:=hb0
  go_simp
  go_at_call 87
  refine(HN.out _ hb).mono ?_;rintro e w4 ⟨hb4,⟨hn,rfl⟩|⟨hn,rfl⟩⟩
  ·exact⟨rfl,D9 (by rw[HX.out,zp hn]) (by decide) ⟨_,_,_,_,_,_,_,(HT.out W (zb _ _)).1⟩ (hb.trans (hb4.mono hb.size))⟩
  replace hb:=hb.trans (hb4.mono hb.size)
  refine zk hK (by exact HK.out _ hb) (fun hHeld=> ?_);clear hK K
  refine zR 8 fun K hK=> ?_;obtain⟨l0,l1,l2,l3,l4,l5,l6,l7⟩:=HC.out _ hb
  go_simp
  refine zk hK (by exact HK.out _ hb) (fun hHeld=> ?_);clear hK K
  clear l0 l1 l2 l3 l4 l5 l6 l7;refine zR 11 fun K hK=> ?_
  go_simp
  go_at_call 94
  refine(HA.out _ hb).mono ?_;rintro e w5 ⟨y1,y2,y3,d1,d2,d3,ry,rfl,hs5,hb5⟩;have hl5:=Nat.lt_of_lt_of_le hlt hb.size
  replace hb:=hb.trans (hb5.mono hb.size)
  have hs5':=hs5;unfold Ad Ag;refine zk hK (by exact HK.out _ hb) (fun hHeld=> ?_);clear hK K
  refine zH 12 ?_;refine zH 13 ?_
  refine zR 14 fun K hK=> ?_
  go_simp
  go_at_call 93
  refine(Mp ⟨_,_,_,_,_,_,_,(HT.out _ hb).1⟩ d1 d2 d3 hl5 hs5' er).mono ?_;rintro e w6 (⟨he,rfl,ht6,hg6⟩|⟨he,rfl,hb6⟩)
  ·have hg:=Ci (Bs hb (some W0.heap.size)) hg6
   refine zk hK (by exact HG.out _ _ hg ht6) (fun hHeld=> ?_);clear hK K
   refine zH 15 ?_
   refine zx ?_;go_wp2_with fail
   go_ret
   exact I2 (by rw[HX.out,zq (by omega)];exact Ii he) ht6 hg
  ·exact⟨rfl,D9 (by rw[HX.out,zq (by omega)];exact Hf he) he ⟨_,_,_,_,_,_,_,(HT.out W (zb _ _)).1⟩ (hb.trans (hb6.mono hb.size))⟩
theorem Avv{W0 W:zW}{p:Ab}{p1 p2 p3:zZ}{q1 q2 q3:Nat}{s:Aa}(hw:DkW W0 p p1 p2 p3)(hr:Bw p s)(h:TbS W0 W p p1 p2 p3 q1 q2 q3 s){bx:Nat}(hbx:Bk W bx 35 #[zt W0.heap.size])(rest:zN)(hs:rest.size≤1048576):
  Calls Tryz.prog 95 #[.string rest,zt bx] W (O5 W0 W p p1 p2 p3 q1 q2 q3 (if Dp rest.toList < 0 then (s,[],1) else Nx s (Gy p s (Dp rest.toList)) (Df p s (Dp rest.toList)))):=by
 obtain⟨a1,a2,a3,c1,c2,c3,rows,h⟩:=h;have HT:=Ac2 hw h;have HG:=Afo h hbx;have HK:=Aj2 h hbx;have HC:=Ac1 h;have HLT:=zh h.below.size;have hlt:=h.bk.lt;have hb0:Below W.heap.size W W.drew:=(zb _ _).drew;clear h hbx;have HN:=zh fun V hV=>Sj rest hs V (HT.out V hV).2.2.1;generalize Dp rest.toList=v at *;have HA:Hid (∀V,Below W.heap.size W V→Calls Tryz.prog 96 #[.agg (zP p p1 p2 p3 q1 q2 q3),.agg (zV s a1 a2 a3 c1 c2 c3),.int .i64 v] V (G1 (Gy p s v) (Df p s v) V)):=zh fun V hV=>
  Y9 p s v p1 p2 p3 a1 a2 a3 q1 q2 q3 c1 c2 c3 rows V (HT.out V hV).2.2.2.1 (HT.out V hV).2.1 hw.small (HT.out V hV).2.2.2.2 hr.small hr.ints
 generalize Gy p s v=X at *;generalize Df p s v=er at *;obtain⟨x,hx⟩:∃x:Told,x=if v < 0 then (s,[],1) else Nx s X er:=⟨_,rfl⟩
 rw[←hx];have HX:=zh hx;clear hx;go_enter Tryz.func95,Tryz.ntmps95
 go_wp2_with fail
 refine Lj HK (by kernel_rfl) (fun hHeld=> ?_);refine zH 0 ?_;refine zH 1 ?_;refine zH 2 ?_;refine zH 3 ?_;refine zH 4 ?_;refine zH 5 ?_;refine zH 6 ?_;refine zH 7 ?_;refine zH 9 ?_
 refine zR2 8 10 (fun K hK=> ?_) (fun K hK=> ?_)
 ·have hb:=hb0
  obtain⟨l0,l1,l2,l3,l4,l5,l6,l7⟩:=HC.out _ hb
  go_simp
  refine zk hK (by exact HK.out _ hb) (fun hHeld=> ?_);clear hK K
  clear l0 l1 l2 l3 l4 l5 l6 l7;refine zR 10 fun K hK=> ?_
  go_simp
  go_at_call 87
  refine(HN.out _ hb).mono ?_;rintro e w4 ⟨hb4,⟨hn,rfl⟩|⟨hn,rfl⟩⟩
  ·exact⟨rfl,D9 (by rw[HX.out,zp hn]) (by decide) ⟨_,_,_,_,_,_,_,(HT.out W (zb _ _)).1⟩ (hb.trans (hb4.mono hb.size))⟩
  replace hb:=hb.trans (hb4.mono hb.size)
  refine zk hK (by exact HK.out _ hb) (fun hHeld=> ?_);clear hK K
  refine zR 11 fun K hK=> ?_
  go_simp
  go_at_call 96
  refine(HA.out _ hb).mono ?_;rintro e w5 ⟨y1,y2,y3,d1,d2,d3,ry,rfl,hs5,hb5⟩;have hl5:=Nat.lt_of_lt_of_le hlt hb.size
  replace hb:=hb.trans (hb5.mono hb.size)
  have hs5':=hs5;unfold Ad Ag;refine zk hK (by exact HK.out _ hb) (fun hHeld=> ?_);clear hK K
  refine zH 12 ?_;refine zH 13 ?_
  refine zR 14 fun K hK=> ?_
  go_simp
  go_at_call 93
  refine(Mp ⟨_,_,_,_,_,_,_,(HT.out _ hb).1⟩ d1 d2 d3 hl5 hs5' er).mono ?_;rintro e w6 (⟨he,rfl,ht6,hg6⟩|⟨he,rfl,hb6⟩)
  ·have hg:=Ci (Bs hb (some W0.heap.size)) hg6
   refine zk hK (by exact HG.out _ _ hg ht6) (fun hHeld=> ?_);clear hK K
   refine zH 15 ?_
   refine zx ?_;go_wp2_with fail
   go_ret
   exact I2 (by rw[HX.out,zq (by omega)];exact Ii he) ht6 hg
  ·exact⟨rfl,D9 (by rw[HX.out,zq (by omega)];exact Hf he) he ⟨_,_,_,_,_,_,_,(HT.out W (zb _ _)).1⟩ (hb.trans (hb6.mono hb.size))⟩
 ·have hb:=hb0
  go_simp
  go_at_call 87
  refine(HN.out _ hb).mono ?_;rintro e w4 ⟨hb4,⟨hn,rfl⟩|⟨hn,rfl⟩⟩
  ·exact⟨rfl,D9 (by rw[HX.out,zp hn]) (by decide) ⟨_,_,_,_,_,_,_,(HT.out W (zb _ _)).1⟩ (hb.trans (hb4.mono hb.size))⟩
  replace hb:=hb.trans (hb4.mono hb.size)
  refine zk hK (by exact HK.out _ hb) (fun hHeld=> ?_);clear hK K
  refine zR 8 fun K hK=> ?_;obtain⟨l0,l1,l2,l3,l4,l5,l6,l7⟩:=HC.out _ hb
  go_simp
  refine zk hK (by exact HK.out _ hb) (fun hHeld=> ?_);clear hK K
  clear l0 l1 l2 l3 l4 l5 l6 l7;refine zR 11 fun K hK=> ?_
  go_simp
  go_at_call 96
  refine(HA.out _ hb).mono ?_;rintro e w5 ⟨y1,y2,y3,d1,d2,d3,ry,rfl,hs5,hb5⟩;have hl5:=Nat.lt_of_lt_of_le hlt hb.size
  replace hb:=hb.trans (hb5.mono hb.size)
  have hs5':=hs5;unfold Ad Ag;refine zk hK (by exact HK.out _ hb) (fun hHeld=> ?_);clear hK K
  refine zH 12 ?_;refine zH 13 ?_
  refine zR 14 fun K hK=> ?_
  go_simp
  go_at_call 93
  refine(Mp ⟨_,_,_,_,_,_,_,(HT.out _ hb).1⟩ d1 d2 d3 hl5 hs5' er).mono ?_;rintro e w6 (⟨he,rfl,ht6,hg6⟩|⟨he,rfl,hb6⟩)
  ·have hg:=Ci (Bs hb (some W0.heap.size)) hg6
   refine zk hK (by exact HG.out _ _ hg ht6) (fun hHeld=> ?_);clear hK K
   refine zH 15 ?_
   refine zx ?_;go_wp2_with fail
   go_ret
   exact I2 (by rw[HX.out,zq (by omega)];exact Ii he) ht6 hg
  ·exact⟨rfl,D9 (by rw[HX.out,zq (by omega)];exact Hf he) he ⟨_,_,_,_,_,_,_,(HT.out W (zb _ _)).1⟩ (hb.trans (hb6.mono hb.size))⟩
theorem Aq6{W0 W:zW}{p:Ab}{p1 p2 p3:zZ}{q1 q2 q3:Nat}{s:Aa}(hw:DkW W0 p p1 p2 p3)(hr:Bw p s)(h:TbS W0 W p p1 p2 p3 q1 q2 q3 s){bx:Nat}(hbx:Bk W bx 35 #[zt W0.heap.size])(rest:zN)(hs:rest.size≤1048576):
  Calls Tryz.prog 97 #[.string rest,zt bx] W (O5 W0 W p p1 p2 p3 q1 q2 q3 (if Dp rest.toList < 0 then (s,[],1) else Nx s (Cb p s (Dp rest.toList) true) (Az p s (Dp rest.toList)))):=by
 obtain⟨a1,a2,a3,c1,c2,c3,rows,h⟩:=h;have HT:=Ac2 hw h;have HG:=Afo h hbx;have HK:=Aj2 h hbx;have HC:=Ac1 h;have HLT:=zh h.below.size;have hlt:=h.bk.lt;have hb0:Below W.heap.size W W.drew:=(zb _ _).drew;clear h hbx;have HN:=zh fun V hV=>Sj rest hs V (HT.out V hV).2.2.1;generalize Dp rest.toList=v at *;have HA:Hid (∀V,Below W.heap.size W V→Calls Tryz.prog 98 #[.agg (zP p p1 p2 p3 q1 q2 q3),.agg (zV s a1 a2 a3 c1 c2 c3),.int .i64 v,.bool true] V (G1 (Cb p s v true) (Az p s v) V)):=zh fun V hV=>
  Oq p s v true p1 p2 p3 a1 a2 a3 q1 q2 q3 c1 c2 c3 rows V (HT.out V hV).2.2.2.1 (HT.out V hV).2.1 hw.small (HT.out V hV).2.2.2.2 hr.small hr.ints
 generalize Cb p s v true=X at *;generalize Az p s v=er at *;obtain⟨x,hx⟩:∃x:Told,x=if v < 0 then (s,[],1) else Nx s X er:=⟨_,rfl⟩
 rw[←hx];have HX:=zh hx;clear hx;go_enter Tryz.func97,Tryz.ntmps97
 go_wp2_with fail
 refine Lj HK (by kernel_rfl) (fun hHeld=> ?_);refine zH 0 ?_;refine zH 1 ?_;refine zH 2 ?_;refine zH 3 ?_;refine zH 4 ?_;refine zH 5 ?_;refine zH 6 ?_;refine zH 7 ?_;refine zH 9 ?_
 refine zR2 8 10 (fun K hK=> ?_) (fun K hK=> ?_)
 ·have hb:=hb0
  obtain⟨l0,l1,l2,l3,l4,l5,l6,l7⟩:=HC.out _ hb
  go_simp
  refine zk hK (by exact HK.out _ hb) (fun hHeld=> ?_);clear hK K
  clear l0 l1 l2 l3 l4 l5 l6 l7;refine zR 10 fun K hK=> ?_
  go_simp
  go_at_call 87
  refine(HN.out _ hb).mono ?_;rintro e w4 ⟨hb4,⟨hn,rfl⟩|⟨hn,rfl⟩⟩
  ·exact⟨rfl,D9 (by rw[HX.out,zp hn]) (by decide) ⟨_,_,_,_,_,_,_,(HT.out W (zb _ _)).1⟩ (hb.trans (hb4.mono hb.size))⟩
  replace hb:=hb.trans (hb4.mono hb.size)
  refine zk hK (by exact HK.out _ hb) (fun hHeld=> ?_);clear hK K
  refine zR 11 fun K hK=> ?_
  go_simp
  go_at_call 98
  refine(HA.out _ hb).mono ?_;rintro e w5 ⟨y1,y2,y3,d1,d2,d3,ry,rfl,hs5,hb5⟩;have hl5:=Nat.lt_of_lt_of_le hlt hb.size
  replace hb:=hb.trans (hb5.mono hb.size)
  have hs5':=hs5;unfold Ad Ag;refine zk hK (by exact HK.out _ hb) (fun hHeld=> ?_);clear hK K
  refine zH 12 ?_;refine zH 13 ?_
  refine zR 14 fun K hK=> ?_
  go_simp
  go_at_call 93
  refine(Mp ⟨_,_,_,_,_,_,_,(HT.out _ hb).1⟩ d1 d2 d3 hl5 hs5' er).mono ?_;rintro e w6 (⟨he,rfl,ht6,hg6⟩|⟨he,rfl,hb6⟩)
  ·have hg:=Ci (Bs hb (some W0.heap.size)) hg6
   refine zk hK (by exact HG.out _ _ hg ht6) (fun hHeld=> ?_);clear hK K
   refine zH 15 ?_
   refine zx ?_;go_wp2_with fail
   go_ret
   exact I2 (by rw[HX.out,zq (by omega)];exact Ii he) ht6 hg
  ·exact⟨rfl,D9 (by rw[HX.out,zq (by omega)];exact Hf he) he ⟨_,_,_,_,_,_,_,(HT.out W (zb _ _)).1⟩ (hb.trans (hb6.mono hb.size))⟩
 ·have hb:=hb0
  go_simp
  go_at_call 87
  refine(HN.out _ hb).mono ?_;rintro e w4 ⟨hb4,⟨hn,rfl⟩|⟨hn,rfl⟩⟩
  ·exact⟨rfl,D9 (by rw[HX.out,zp hn]) (by decide) ⟨_,_,_,_,_,_,_,(HT.out W (zb _ _)).1⟩ (hb.trans (hb4.mono hb.size))⟩
  replace hb:=hb.trans (hb4.mono hb.size)
  refine zk hK (by exact HK.out _ hb) (fun hHeld=> ?_);clear hK K
  refine zR 8 fun K hK=> ?_;obtain⟨l0,l1,l2,l3,l4,l5,l6,l7⟩:=HC.out _ hb
  go_simp
  refine zk hK (by exact HK.out _ hb) (fun hHeld=> ?_);clear hK K
  clear l0 l1 l2 l3 l4 l5 l6 l7;refine zR 11 fun K hK=> ?_
  go_simp
  go_at_call 98
  refine(HA.out _ hb).mono ?_;rintro e w5 ⟨y1,y2,y3,d1,d2,d3,ry,rfl,hs5,hb5⟩;have hl5:=Nat.lt_of_lt_of_le hlt hb.size
  replace hb:=hb.trans (hb5.mono hb.size)
  have hs5':=hs5;unfold Ad Ag;refine zk hK (by exact HK.out _ hb) (fun hHeld=> ?_);clear hK K
  refine zH 12 ?_;refine zH 13 ?_
  refine zR 14 fun K hK=> ?_
  go_simp
  go_at_call 93
  refine(Mp ⟨_,_,_,_,_,_,_,(HT.out _ hb).1⟩ d1 d2 d3 hl5 hs5' er).mono ?_;rintro e w6 (⟨he,rfl,ht6,hg6⟩|⟨he,rfl,hb6⟩)
  ·have hg:=Ci (Bs hb (some W0.heap.size)) hg6
   refine zk hK (by exact HG.out _ _ hg ht6) (fun hHeld=> ?_);clear hK K
   refine zH 15 ?_
   refine zx ?_;go_wp2_with fail
   go_ret
   exact I2 (by rw[HX.out,zq (by omega)];exact Ii he) ht6 hg
  ·exact⟨rfl,D9 (by rw[HX.out,zq (by omega)];exact Hf he) he ⟨_,_,_,_,_,_,_,(HT.out W (zb _ _)).1⟩ (hb.trans (hb6.mono hb.size))⟩
theorem Aq7{W0 W:zW}{p:Ab}{p1 p2 p3:zZ}{q1 q2 q3:Nat}{s:Aa}(hw:DkW W0 p p1 p2 p3)(hr:Bw p s)(h:TbS W0 W p p1 p2 p3 q1 q2 q3 s){bx:Nat}(hbx:Bk W bx 35 #[zt W0.heap.size])(rest:zN)(hs:rest.size≤1048576):
  Calls Tryz.prog 99 #[.string rest,zt bx] W (O5 W0 W p p1 p2 p3 q1 q2 q3 (if Dp rest.toList < 0 then (s,[],1) else Nx s (Cb p s (Dp rest.toList) false) (Az p s (Dp rest.toList)))):=by
 obtain⟨a1,a2,a3,c1,c2,c3,rows,h⟩:=h;have HT:=Ac2 hw h;have HG:=Afo h hbx;have HK:=Aj2 h hbx;have HC:=Ac1 h;have HLT:=zh h.below.size;have hlt:=h.bk.lt;have hb0:Below W.heap.size W W.drew:=(zb _ _).drew;clear h hbx;have HN:=zh fun V hV=>Sj rest hs V (HT.out V hV).2.2.1;generalize Dp rest.toList=v at *;have HA:Hid (∀V,Below W.heap.size W V→Calls Tryz.prog 98 #[.agg (zP p p1 p2 p3 q1 q2 q3),.agg (zV s a1 a2 a3 c1 c2 c3),.int .i64 v,.bool false] V (G1 (Cb p s v false) (Az p s v) V)):=zh fun V hV=>
  Oq p s v false p1 p2 p3 a1 a2 a3 q1 q2 q3 c1 c2 c3 rows V (HT.out V hV).2.2.2.1 (HT.out V hV).2.1 hw.small (HT.out V hV).2.2.2.2 hr.small hr.ints
 generalize Cb p s v false=X at *;generalize Az p s v=er at *;obtain⟨x,hx⟩:∃x:Told,x=if v < 0 then (s,[],1) else Nx s X er:=⟨_,rfl⟩
 rw[←hx];have HX:=zh hx;clear hx;go_enter Tryz.func99,Tryz.ntmps99
 go_wp2_with fail
 refine Lj HK (by kernel_rfl) (fun hHeld=> ?_);refine zH 0 ?_;refine zH 1 ?_;refine zH 2 ?_;refine zH 3 ?_;refine zH 4 ?_;refine zH 5 ?_;refine zH 6 ?_;refine zH 7 ?_;refine zH 9 ?_
 refine zR2 8 10 (fun K hK=> ?_) (fun K hK=> ?_)
 ·have hb:=hb0
  obtain⟨l0,l1,l2,l3,l4,l5,l6,l7⟩:=HC.out _ hb
  go_simp
  refine zk hK (by exact HK.out _ hb) (fun hHeld=> ?_);clear hK K
  clear l0 l1 l2 l3 l4 l5 l6 l7;refine zR 10 fun K hK=> ?_
  go_simp
  go_at_call 87
  refine(HN.out _ hb).mono ?_;rintro e w4 ⟨hb4,⟨hn,rfl⟩|⟨hn,rfl⟩⟩
  ·exact⟨rfl,D9 (by rw[HX.out,zp hn]) (by decide) ⟨_,_,_,_,_,_,_,(HT.out W (zb _ _)).1⟩ (hb.trans (hb4.mono hb.size))⟩
  replace hb:=hb.trans (hb4.mono hb.size)
  refine zk hK (by exact HK.out _ hb) (fun hHeld=> ?_);clear hK K
  refine zR 11 fun K hK=> ?_
  go_simp
  go_at_call 98
  refine(HA.out _ hb).mono ?_;rintro e w5 ⟨y1,y2,y3,d1,d2,d3,ry,rfl,hs5,hb5⟩;have hl5:=Nat.lt_of_lt_of_le hlt hb.size
  replace hb:=hb.trans (hb5.mono hb.size)
  have hs5':=hs5;unfold Ad Ag;refine zk hK (by exact HK.out _ hb) (fun hHeld=> ?_);clear hK K
  refine zH 12 ?_;refine zH 13 ?_
  refine zR 14 fun K hK=> ?_
  go_simp
  go_at_call 93
  refine(Mp ⟨_,_,_,_,_,_,_,(HT.out _ hb).1⟩ d1 d2 d3 hl5 hs5' er).mono ?_;rintro e w6 (⟨he,rfl,ht6,hg6⟩|⟨he,rfl,hb6⟩)
  ·have hg:=Ci (Bs hb (some W0.heap.size)) hg6
   refine zk hK (by exact HG.out _ _ hg ht6) (fun hHeld=> ?_);clear hK K
   refine zH 15 ?_
   refine zx ?_;go_wp2_with fail
   go_ret
   exact I2 (by rw[HX.out,zq (by omega)];exact Ii he) ht6 hg
  ·exact⟨rfl,D9 (by rw[HX.out,zq (by omega)];exact Hf he) he ⟨_,_,_,_,_,_,_,(HT.out W (zb _ _)).1⟩ (hb.trans (hb6.mono hb.size))⟩
 ·have hb:=hb0
  go_simp
  go_at_call 87
  refine(HN.out _ hb).mono ?_;rintro e w4 ⟨hb4,⟨hn,rfl⟩|⟨hn,rfl⟩⟩
  ·exact⟨rfl,D9 (by rw[HX.out,zp hn]) (by decide) ⟨_,_,_,_,_,_,_,(HT.out W (zb _ _)).1⟩ (hb.trans (hb4.mono hb.size))⟩
  replace hb:=hb.trans (hb4.mono hb.size)
  refine zk hK (by exact HK.out _ hb) (fun hHeld=> ?_);clear hK K
  refine zR 8 fun K hK=> ?_;obtain⟨l0,l1,l2,l3,l4,l5,l6,l7⟩:=HC.out _ hb
  go_simp
  refine zk hK (by exact HK.out _ hb) (fun hHeld=> ?_);clear hK K
  clear l0 l1 l2 l3 l4 l5 l6 l7;refine zR 11 fun K hK=> ?_
  go_simp
  go_at_call 98
  refine(HA.out _ hb).mono ?_;rintro e w5 ⟨y1,y2,y3,d1,d2,d3,ry,rfl,hs5,hb5⟩;have hl5:=Nat.lt_of_lt_of_le hlt hb.size
  replace hb:=hb.trans (hb5.mono hb.size)
  have hs5':=hs5;unfold Ad Ag;refine zk hK (by exact HK.out _ hb) (fun hHeld=> ?_);clear hK K
  refine zH 12 ?_;refine zH 13 ?_
  refine zR 14 fun K hK=> ?_
  go_simp
  go_at_call 93
  refine(Mp ⟨_,_,_,_,_,_,_,(HT.out _ hb).1⟩ d1 d2 d3 hl5 hs5' er).mono ?_;rintro e w6 (⟨he,rfl,ht6,hg6⟩|⟨he,rfl,hb6⟩)
  ·have hg:=Ci (Bs hb (some W0.heap.size)) hg6
   refine zk hK (by exact HG.out _ _ hg ht6) (fun hHeld=> ?_);clear hK K
   refine zH 15 ?_
   refine zx ?_;go_wp2_with fail
   go_ret
   exact I2 (by rw[HX.out,zq (by omega)];exact Ii he) ht6 hg
  ·exact⟨rfl,D9 (by rw[HX.out,zq (by omega)];exact Hf he) he ⟨_,_,_,_,_,_,_,(HT.out W (zb _ _)).1⟩ (hb.trans (hb6.mono hb.size))⟩
theorem Aay(s:zN)(hs:s.size≤1048576)(w:zW)(hE:Env w):
  Calls Tryz.prog 49 #[.string s] w fun e w'=>Below w.heap.size w w'∧((Gt s.toList=none∧e= .panicked [dkE 1])∨∃a r,Gt s.toList=some (a,r)∧(bs a).size≤1048576∧(bs r).size≤1048576∧e= .returned (.tuple #[.string (bs a),.string (bs r)])):=by
 cases h:Gt s.toList with
 |none=>exact(Ay3 s hs h w hE).mono fun e w' hq=>⟨hq.2,.inl ⟨rfl,hq.1⟩⟩
 |some x=>
  obtain⟨a,r⟩:=x;have hl:=Eo s;obtain⟨e1,_⟩:=Tv h;rw[e1,ze,List.length_cons] at hl;exact(Ay4 s hs h w hE).mono fun e w' hq=>⟨hq.2,.inr ⟨a,r,rfl,by rw[D7];omega,by rw[D7];omega,hq.1⟩⟩
theorem Aff{W0 W:zW}{p:Ab}{p1 p2 p3:zZ}{q1 q2 q3:Nat}{s:Aa}(hw:DkW W0 p p1 p2 p3)(h:TbS W0 W p p1 p2 p3 q1 q2 q3 s)(name:zN):
  Calls Tryz.prog 90 #[zt W0.heap.size,.string name] W fun e W'=>Below W.heap.size W W'∧((Cl p name.toList < 0∧e= .panicked [dkE 5])∨(0≤Cl p name.toList∧e= .returned (.int .i64 (Cl p name.toList)))):=by
 by_cases hq:Cl p name.toList < 0
 ·exact(Aue hw h name hq).mono fun e w' h=>⟨h.2,.inl ⟨hq,h.1⟩⟩
 ·exact(Auf hw h name (by omega)).mono fun e w' h=>⟨h.2,.inr ⟨by omega,h.1⟩⟩
theorem Nf(p:Ab)(s:Aa)(x:Int)(key body:zN):0≤Cn p s x key body∧Cn p s x key body≤4:=by
 have:=(J5 (p:=p) (x:=x) (key:=key)).1;unfold Cn
 split<;>omega
theorem Yh{p:Ab}{s:Aa}(hr:Bw p s)(q m:Int):Ge p s q m≤4:=by
 have h4:=hr.many;unfold Ge Gh
 split
 ·cases hg:Jk s.ae with
  |none=>simpa using h4
  |some k=>
   have:=(List.findIdx?_eq_some_iff_getElem.1 hg).1;simp only;omega
 ·omega
theorem Aqi{n:Int}(h:0≤n∧n < 1000000000000):Abl [n]:=⟨by simp,fun x hx=>by rw[List.mem_singleton.1 hx];exact h⟩
theorem Ang{α:Type}(f:α→Bool)(l:List α)(h:l.length≤4294967296): -9223372036854775808≤idxOf f l∧idxOf f l≤9223372036854775807:=by
 have:=Ais f l;have:=Ait f l;omega
theorem Auu{W0:zW}{p:Ab}(p1 p2 p3:zZ)(q1 q2 q3:Nat):Hid (∀V n,TbS W0 V p p1 p2 p3 q1 q2 q3 n→zM V W0.heap.size 0 (.slice p1 p.aj.length q1)∧zM V W0.heap.size 1 (.slice p2 p.ag.length q2)∧zM V W0.heap.size 2 (.slice p3 p.binds.length q3)):=zh fun V n hT=>by
 obtain⟨b1,b2,b3,d1,d2,d3,ry,hT⟩:=hT;exact hT.cells.1
theorem Ayc{W0 W:zW}{p:Ab}{p1 p2 p3:zZ}{q1 q2 q3:Nat}{s:Aa}{a1 a2 a3:zZ}{c1 c2 c3:Nat}{rows:List Bm}(h:Rz W0 W p p1 p2 p3 q1 q2 q3 s a1 a2 a3 c1 c2 c3 rows):Hid (∀V,Below W.heap.size W V→zM V W0.heap.size 0 (.slice p1 p.aj.length q1)∧zM V W0.heap.size 1 (.slice p2 p.ag.length q2)∧zM V W0.heap.size 2 (.slice p3 p.binds.length q3)):=
 zh fun V hV=>(Auu p1 p2 p3 q1 q2 q3).out V s ⟨_,_,_,_,_,_,_,h.keep hV⟩
theorem Ri{W0 W:zW}{p:Ab}{p1 p2 p3:zZ}{q1 q2 q3:Nat}{s:Aa}(hw:DkW W0 p p1 p2 p3)(h:TbS W0 W p p1 p2 p3 q1 q2 q3 s):Qg W∧W0.heap.size < W.heap.size:=by
 obtain⟨b1,b2,b3,d1,d2,d3,ry,hT⟩:=h;exact⟨(hT.bu hw).2.1,hT.bk.lt⟩
theorem Agx{W0 W:zW}{p:Ab}{p1 p2 p3:zZ}{q1 q2 q3:Nat}{s:Aa}(hw:DkW W0 p p1 p2 p3)(h:TbS W0 W p p1 p2 p3 q1 q2 q3 s){V:zW}{n:Int}(hV:W.alloc (.cells #[.int .i64 n] 3)=V)(hn:0≤n∧n < 1000000000000):
  Calls Tryz.prog 48 #[.slice (some ⟨W.heap.size,0,none⟩) 1 1] V fun e W'=>e= .returned (.string (bs (Lib.itoa n)))∧TbS W0 W' p p1 p2 p3 q1 q2 q3 s∧Below W.heap.size W W':=by
 subst hV;have hb:Below W.heap.size W (W.alloc (.cells #[.int .i64 n] 3)):=(zb _ _).alloc (zn _) _;refine(Nl [n] _ 1 0 _ (Ri hw (h.keep hb)).1 (Aqi hn) (by simp) (Sl.of_bk (Bk.new W 3 #[.int .i64 n]) (Nat.zero_le _) (by simp) rfl)).mono ?_;rintro e w' ⟨rfl,hb'⟩;have hb2:=hb.trans (hb'.mono hb.size);exact⟨rfl,h.keep hb2,hb2⟩
theorem Aog{W0 W:zW}{p:Ab}{p1 p2 p3:zZ}{q1 q2 q3:Nat}{s:Aa}(hw:DkW W0 p p1 p2 p3)(hr:Bw p s)(h:TbS W0 W p p1 p2 p3 q1 q2 q3 s)(rest:zN)(hs:rest.size≤1048576):
  Calls Tryz.prog 85 #[zt W0.heap.size,.string rest] W (O5 W0 W p p1 p2 p3 q1 q2 q3 (Lw p s rest.toList)):=by
 obtain⟨a1,a2,a3,c1,c2,c3,rows,h⟩:=h;have hmf:∀(fn:Fn)(first cap:Array Value)(w:zW),(Instr.makeFunc fn first cap).run Tryz.prog w= .ok (.func fn first cap) w:=fun _ _ _ _=>rfl;have HT:=Ac2 hw h;have HG:=Auu (W0:=W0) (p:=p) p1 p2 p3 q1 q2 q3;have HK:=Ayc h;have HC:=Ac1 h;have hlt:=h.bk.lt;clear h;obtain⟨x,hx⟩:∃x:Told,x=Lw p s rest.toList:=⟨_,rfl⟩;rw[←hx];have HX:=zh hx;have HB0:=zh (zb W.heap.size W);clear hx;go_enter Tryz.func85,Tryz.ntmps85
 go_wp2_with fail
 refine(Aay rest hs _ (HT.out _ HB0.out).2.2.2.1).mono ?_;rintro e w1 ⟨hb1,⟨hc,rfl⟩|⟨a,r,hc,ha,hrs,rfl⟩⟩
 ·have HX2:Hid (x=(s,[],1)):=zh (by rw[HX.out];unfold Lw;rw[hc])
  have HB:=zh hb1;clear hc hb1;go_wp2_with fail
  exact⟨rfl,D9 HX2.out (by decide) ⟨_,_,_,_,_,_,_,(HT.out W (zb _ _)).1⟩ HB.out⟩
 have HB1:=zh hb1;have HX2:=zh hc;clear hc hb1;go_upto_region 2 with fail
 obtain⟨W2,hW2⟩:=zo (w1.alloc (.cells #[.string (bs a)] 9));have HBX:=zh (zw hW2);have HB2:Hid (Below W.heap.size W W2):=zh (by rw[←hW2];exact HB1.out.alloc HB1.out.size _);rw[hW2];clear hW2;go_wp2_with fail
 refine(Aay (bs r) hrs _ (HT.out _ HB2.out).2.2.2.1).mono ?_;rw[Di];rintro e w3 ⟨hb3,⟨hc,rfl⟩|⟨key,body,hc,hk,hbo,rfl⟩⟩
 ·have HX3:Hid (x=(s,[],1)):=zh (by rw[HX.out];unfold Lw;rw[HX2.out];simp only;rw[hc])
  have HB:=zm HB2 hb3;clear hc hb3;go_wp2_with fail
  exact⟨rfl,D9 HX3.out (by decide) ⟨_,_,_,_,_,_,_,(HT.out W (zb _ _)).1⟩ HB.out⟩
 have HX3:Hid (x=if Fz p a < 0 then (s,[],5) else Ew s (B6 p s (Fz p a) (bs key) (bs body)) (Lib.itoa (Cn p s (Fz p a) (bs key) (bs body))) (Bg p s (Fz p a) (bs key) (bs body))):=zh (by rw[HX.out];unfold Lw;rw[HX2.out];simp only;rw[hc]);have HB3:=zm HB2 hb3;have HP:=zh (Al7 q1 (HT.out _ HB3.out).2.1 hw.small (bs a) w1.heap.size (HBX.out.below hb3 HBX.out.lt));rw[Di] at HP;have HI:Hid (-9223372036854775808≤Fz p a∧Fz p a≤9223372036854775807):=zh (Ang _ _ (by have:=hw.small.aj;omega));obtain⟨n0,n1,n2⟩:=HK.out _ HB3.out;clear hc hb3 HX HX2 HBX;generalize Fz p a=k at *;go_wp2_with fail
 refine HP.out.mono ?_;rintro e w4 ⟨rfl,hb4⟩;have hbe:=HB3.out.trans (hb4.mono HB3.out.size);have HBE:=zh hbe;clear hb4 n0 n1 n2;by_cases hk0:k < 0
 ·have hq:decide (0≤k)=false:=by simp;omega
  have HX4:Hid (x=(s,[],5)):=zh (by rw[HX3.out,zp hk0]);clear hk0 hbe;go_wp2_with fail
  refine(Hu 5 _).mono ?_;rintro e w5 ⟨rfl,rfl⟩;go_wp2_with fail
  exact⟨rfl,D9 HX4.out (by decide) ⟨_,_,_,_,_,_,_,(HT.out W (zb _ _)).1⟩ HBE.out⟩
 have hq:decide (0≤k)=true:=by simp;omega
 have HX4:=zh (show x=_ by rw[HX3.out,zq hk0]);clear hk0 HX3;go_wp2_with fail
 refine(Kj 5 _).mono ?_;rintro e w5 ⟨rfl,rfl⟩;clear hq;have HN:=zh (Nf p s k (bs key) (bs body));have HA:Hid (∀V,Below W.heap.size W V→Calls Tryz.prog 132 #[.agg (zP p p1 p2 p3 q1 q2 q3),.agg (zV s a1 a2 a3 c1 c2 c3),.int .i64 k,.string (bs key),.string (bs body)] V (Gj (B6 p s k (bs key) (bs body)) (Cn p s k (bs key) (bs body)) (Bg p s k (bs key) (bs body)) V)):=zh fun V hV=>
  Qi p s k (bs key) (bs body) p1 p2 p3 a1 a2 a3 q1 q2 q3 c1 c2 c3 rows V (HT.out V hV).2.2.2.1 (HT.out V hV).2.1 hw.small (HT.out V hV).2.2.2.2 hr.small hr.ints hk hbo HI.out
 generalize B6 p s k (bs key) (bs body)=X at *;generalize Cn p s k (bs key) (bs body)=n at *;generalize Bg p s k (bs key) (bs body)=er at *;have HX:=HX4;clear HX4;have HK2:Hid (∀V,Below w5.heap.size w5 V→zM V W0.heap.size 0 (.slice p1 p.aj.length q1)∧zM V W0.heap.size 1 (.slice p2 p.ag.length q2)∧zM V W0.heap.size 2 (.slice p3 p.binds.length q3)):=zh fun V hV=>HK.out V (HBE.out.trans (hV.mono HBE.out.size));have hlt:=Nat.lt_of_lt_of_le hlt hbe.size;go_upto_region 5 with fail
 refine Lj HK2 (by kernel_rfl) (fun hHeld=> ?_);have hb:=hbe.drew
 refine zH 0 ?_;refine zH 1 ?_;refine zH 2 ?_;refine zH 3 ?_;refine zH 4 ?_;refine zH 5 ?_;refine zH 6 ?_;refine zH 7 ?_;refine zH 9 ?_;refine zH 10 ?_;refine zH 11 ?_
 refine zR 8 fun K hK=> ?_;obtain⟨l0,l1,l2,l3,l4,l5,l6,l7⟩:=HC.out _ hb
 go_simp
 refine zk hK (by exact HK.out _ hb) (fun hHeld=> ?_);clear hK K
 clear l0 l1 l2 l3 l4 l5 l6 l7;refine zR 12 fun K hK=> ?_
 go_simp
 go_at_call 132
 refine(HA.out _ hb).mono ?_;rintro e w5 ⟨y1,y2,y3,d1,d2,d3,ry,rfl,hs5,hb5⟩;have hl5:=(Ri hw ⟨_,_,_,_,_,_,_,(HT.out _ hb).1⟩).2
 replace hb:=hb.trans (hb5.mono hb.size)
 have hs5':=hs5;unfold Ad Ag;refine zk hK (by exact HK.out _ hb) (fun hHeld=> ?_);clear hK K
 refine zH 13 ?_;refine zH 14 ?_;refine zH 15 ?_
 refine zR 16 fun K hK=> ?_
 go_simp
 go_at_call 88
 refine(Tj ⟨_,_,_,_,_,_,_,(HT.out _ hb).1⟩ d1 d2 d3 hl5 hs5' n er).mono ?_;rintro e w6 (⟨he,rfl,ht6,hg6⟩|⟨he,rfl,hb6⟩)
 ·have hg:=Ci (Bs hb (some W0.heap.size)) hg6
  refine zk hK (by exact HG.out _ _ ht6) (fun hHeld=> ?_);clear hK K
  refine zR 17 fun K hK=> ?_
  go_simp
  obtain⟨v7x,hv7⟩:=zo (w6.alloc (.cells #[.int .i64 n] 3));have hb7:=zu hv7
  have HL:=zh (Agx hw ht6 hv7 (by have:=HN.out;omega));have hg7:=Ci hg (Bs hb7 (some W0.heap.size));rw[hv7];clear hv7;refine zk hK (by exact HG.out _ _ (ht6.keep hb7)) (fun hHeld=> ?_);clear hK K
  refine zR 18 fun K hK=> ?_
  go_simp
  go_at_call 48
  refine HL.out.mono ?_;rintro e w8 ⟨rfl,ht8,hb8⟩;have hg8:=Ci hg (Bs hb8 (some W0.heap.size));refine zk hK (by exact HG.out _ _ ht8) (fun hHeld=> ?_);clear hK K
  refine zH 19 ?_
  refine zx ?_;go_wp2_with fail
  go_ret
  exact I2 (by rw[HX.out];exact Ii he) ht8 hg8
 ·exact⟨rfl,D9 (by rw[HX.out];exact Hf he) he ⟨_,_,_,_,_,_,_,(HT.out W (zb _ _)).1⟩ (hb.trans (hb6.mono hb.size))⟩
theorem Aq8{W0 W:zW}{p:Ab}{p1 p2 p3:zZ}{q1 q2 q3:Nat}{s:Aa}(hw:DkW W0 p p1 p2 p3)(hr:Bw p s)(h:TbS W0 W p p1 p2 p3 q1 q2 q3 s){bx:Nat}(hbx:Bk W bx 35 #[zt W0.heap.size])(rest:zN)(hs:rest.size≤1048576):
  Calls Tryz.prog 86 #[.string rest,zt bx] W (O5 W0 W p p1 p2 p3 q1 q2 q3 (Ld p s rest.toList)):=by
 obtain⟨a1,a2,a3,c1,c2,c3,rows,h⟩:=h;have HT:=Ac2 hw h;have HG:=Afo h hbx;have HK:=Aj2 h hbx;have HC:=Ac1 h;have HLT:=zh h.below.size;have hlt:=h.bk.lt;have hb0:Below W.heap.size W W.drew:=(zb _ _).drew;clear h hbx;clear hb0;obtain⟨x,hx⟩:∃x:Told,x=Ld p s rest.toList:=⟨_,rfl⟩;rw[←hx];have HX:=zh hx;have HB0:=zh (zb W.heap.size W);clear hx;go_enter Tryz.func86,Tryz.ntmps86
 go_wp2_with fail
 refine(Aay rest hs _ (HT.out _ HB0.out).2.2.2.1).mono ?_;rintro e w1 ⟨hb1,⟨hc,rfl⟩|⟨a,r,hc,ha,hrs,rfl⟩⟩
 ·have HX2:Hid (x=(s,[],1)):=zh (by rw[HX.out];unfold Ld;rw[hc])
  have HB:=zh hb1;clear hc hb1;go_wp2_with fail
  exact⟨rfl,D9 HX2.out (by decide) ⟨_,_,_,_,_,_,_,(HT.out W (zb _ _)).1⟩ HB.out⟩
 have HB1:=zh hb1;have HX2:Hid (x=if Dp r < 0 then (s,[],1) else if Cl p a < 0 then (s,[],5) else Ew s (Eu p s (Cl p a) (Dp r)) (Lib.itoa (Ge p s (Cl p a) (Dp r))) (Ce p s (Cl p a) (Dp r))):=zh (by rw[HX.out];unfold Ld;rw[hc]);clear hc hb1 HX;go_wp2_with fail
 refine(Sj (bs r) hrs _ (HT.out _ HB1.out).2.2.1).mono ?_;rw[Di];generalize Dp r=v at *;rintro e w3 ⟨hb3,⟨hn,rfl⟩|⟨hn,rfl⟩⟩
 ·have HX3:Hid (x=(s,[],1)):=zh (by rw[HX2.out,zp hn])
  have HB:=zm HB1 hb3;clear hn hb3;go_wp2_with fail
  exact⟨rfl,D9 HX3.out (by decide) ⟨_,_,_,_,_,_,_,(HT.out W (zb _ _)).1⟩ HB.out⟩
 have HX3:=zh (show x=_ by rw[HX2.out,zq (by omega)]);have hbe:=HB1.out.trans (hb3.mono HB1.out.size);have HBE:=zh hbe;have HQ:Hid (∀V,Below W.heap.size W V→_):=zh fun V hV=>Aff hw ⟨_,_,_,_,_,_,_,(HT.out V hV).1⟩ (bs a);rw[Di] at HQ;have HN:Hid (∀q,_):=zh fun q=>Yh hr q v;clear hn hb3 HX2;generalize Cl p a=k at *;have HA:Hid (∀V,Below W.heap.size W V→Calls Tryz.prog 89 #[.agg (zP p p1 p2 p3 q1 q2 q3),.agg (zV s a1 a2 a3 c1 c2 c3),.int .i64 k,.int .i64 v] V (Gj (Eu p s k v) (Ge p s k v) (Ce p s k v) V)):=zh fun V hV=>
  Vp p s k v p1 p2 p3 a1 a2 a3 q1 q2 q3 c1 c2 c3 rows V (HT.out V hV).2.2.2.1 (HT.out V hV).2.1 hw.small (HT.out V hV).2.2.2.2 hr.small hr.ints
 have HN2:=zh (HN.out k);generalize Eu p s k v=X at *;generalize Ge p s k v=n at *;generalize Ce p s k v=er at *;have HX:=HX3;clear HX3 HN;have HK2:=zh fun V (hV:Below w3.heap.size w3 V)=>HK.out V (HBE.out.trans (hV.mono HBE.out.size));go_upto_region 3 with fail
 refine Lj HK2 (by kernel_rfl) (fun hHeld=> ?_);have hb0:=hbe.drew
 refine zH 0 ?_;refine zH 1 ?_;refine zH 2 ?_;refine zH 3 ?_;refine zH 4 ?_;refine zH 5 ?_;refine zH 6 ?_;refine zH 7 ?_;refine zH 9 ?_;refine zH 10 ?_;refine zH 12 ?_
 refine zR2 8 11 (fun K hK=> ?_) (fun K hK=> ?_)
 ·have hb:=hb0
  obtain⟨l0,l1,l2,l3,l4,l5,l6,l7⟩:=HC.out _ hb
  go_simp
  refine zk hK (by exact HK.out _ hb) (fun hHeld=> ?_);clear hK K
  clear l0 l1 l2 l3 l4 l5 l6 l7;refine zR 11 fun K hK=> ?_
  go_simp
  go_at_call 90
  refine(HQ.out _ hb).mono ?_;rintro e w4 ⟨hb4,⟨hn,rfl⟩|⟨hn,rfl⟩⟩
  ·exact⟨rfl,D9 (by rw[HX.out,zp hn]) (by decide) ⟨_,_,_,_,_,_,_,(HT.out W (zb _ _)).1⟩ (hb.trans (hb4.mono hb.size))⟩
  replace hb:=hb.trans (hb4.mono hb.size)
  refine zk hK (by exact HK.out _ hb) (fun hHeld=> ?_);clear hK K
  refine zR 13 fun K hK=> ?_
  go_simp
  go_at_call 89
  refine(HA.out _ hb).mono ?_;rintro e w5 ⟨y1,y2,y3,d1,d2,d3,ry,rfl,hs5,hb5⟩;have hl5:=Nat.lt_of_lt_of_le hlt hb.size
  replace hb:=hb.trans (hb5.mono hb.size)
  have hs5':=hs5;unfold Ad Ag;refine zk hK (by exact HK.out _ hb) (fun hHeld=> ?_);clear hK K
  refine zH 14 ?_;refine zH 15 ?_;refine zH 16 ?_
  refine zR 17 fun K hK=> ?_
  go_simp
  go_at_call 88
  refine(Tj ⟨_,_,_,_,_,_,_,(HT.out _ hb).1⟩ d1 d2 d3 hl5 hs5' n er).mono ?_;rintro e w6 (⟨he,rfl,ht6,hg6⟩|⟨he,rfl,hb6⟩)
  ·have hg:=Ci (Bs hb (some W0.heap.size)) hg6
   refine zk hK (by exact HG.out _ _ hg ht6) (fun hHeld=> ?_);clear hK K
   refine zR 18 fun K hK=> ?_
   go_simp
   obtain⟨v7x,hv7⟩:=zo (w6.alloc (.cells #[.int .i64 n] 3));have hb7:=zu hv7
   have HL:=zh (Agx hw ht6 hv7 (by have:=HN2.out;omega));have hg7:=Ci hg (Bs hb7 (some W0.heap.size));rw[hv7];clear hv7;refine zk hK (by exact HG.out _ _ hg7 (ht6.keep hb7)) (fun hHeld=> ?_);clear hK K
   refine zR 19 fun K hK=> ?_
   go_simp
   go_at_call 48
   refine HL.out.mono ?_;rintro e w8 ⟨rfl,ht8,hb8⟩;have hg8:=Ci hg (Bs hb8 (some W0.heap.size));refine zk hK (by exact HG.out _ _ hg8 ht8) (fun hHeld=> ?_);clear hK K
   refine zH 20 ?_
   refine zx ?_;go_wp2_with fail
   go_ret
   exact I2 (by rw[HX.out,zq (by omega)];exact Ii he) ht8 hg8
  ·exact⟨rfl,D9 (by rw[HX.out,zq (by omega)];exact Hf he) he ⟨_,_,_,_,_,_,_,(HT.out W (zb _ _)).1⟩ (hb.trans (hb6.mono hb.size))⟩
 ·have hb:=hb0
  go_simp
  go_at_call 90
  refine(HQ.out _ hb).mono ?_;rintro e w4 ⟨hb4,⟨hn,rfl⟩|⟨hn,rfl⟩⟩
  ·exact⟨rfl,D9 (by rw[HX.out,zp hn]) (by decide) ⟨_,_,_,_,_,_,_,(HT.out W (zb _ _)).1⟩ (hb.trans (hb4.mono hb.size))⟩
  replace hb:=hb.trans (hb4.mono hb.size)
  refine zk hK (by exact HK.out _ hb) (fun hHeld=> ?_);clear hK K
  refine zR 8 fun K hK=> ?_;obtain⟨l0,l1,l2,l3,l4,l5,l6,l7⟩:=HC.out _ hb
  go_simp
  refine zk hK (by exact HK.out _ hb) (fun hHeld=> ?_);clear hK K
  clear l0 l1 l2 l3 l4 l5 l6 l7;refine zR 13 fun K hK=> ?_
  go_simp
  go_at_call 89
  refine(HA.out _ hb).mono ?_;rintro e w5 ⟨y1,y2,y3,d1,d2,d3,ry,rfl,hs5,hb5⟩;have hl5:=Nat.lt_of_lt_of_le hlt hb.size
  replace hb:=hb.trans (hb5.mono hb.size)
  have hs5':=hs5;unfold Ad Ag;refine zk hK (by exact HK.out _ hb) (fun hHeld=> ?_);clear hK K
  refine zH 14 ?_;refine zH 15 ?_;refine zH 16 ?_
  refine zR 17 fun K hK=> ?_
  go_simp
  go_at_call 88
  refine(Tj ⟨_,_,_,_,_,_,_,(HT.out _ hb).1⟩ d1 d2 d3 hl5 hs5' n er).mono ?_;rintro e w6 (⟨he,rfl,ht6,hg6⟩|⟨he,rfl,hb6⟩)
  ·have hg:=Ci (Bs hb (some W0.heap.size)) hg6
   refine zk hK (by exact HG.out _ _ hg ht6) (fun hHeld=> ?_);clear hK K
   refine zR 18 fun K hK=> ?_
   go_simp
   obtain⟨v7x,hv7⟩:=zo (w6.alloc (.cells #[.int .i64 n] 3));have hb7:=zu hv7
   have HL:=zh (Agx hw ht6 hv7 (by have:=HN2.out;omega));have hg7:=Ci hg (Bs hb7 (some W0.heap.size));rw[hv7];clear hv7;refine zk hK (by exact HG.out _ _ hg7 (ht6.keep hb7)) (fun hHeld=> ?_);clear hK K
   refine zR 19 fun K hK=> ?_
   go_simp
   go_at_call 48
   refine HL.out.mono ?_;rintro e w8 ⟨rfl,ht8,hb8⟩;have hg8:=Ci hg (Bs hb8 (some W0.heap.size));refine zk hK (by exact HG.out _ _ hg8 ht8) (fun hHeld=> ?_);clear hK K
   refine zH 20 ?_
   refine zx ?_;go_wp2_with fail
   go_ret
   exact I2 (by rw[HX.out,zq (by omega)];exact Ii he) ht8 hg8
  ·exact⟨rfl,D9 (by rw[HX.out,zq (by omega)];exact Hf he) he ⟨_,_,_,_,_,_,_,(HT.out W (zb _ _)).1⟩ (hb.trans (hb6.mono hb.size))⟩
end Go.Proofs.YtpkneogjdfolaaaGreatDoor
