/-
  ae.Deliver, walked.
-/
import Derived.Test.YtaanpcjkflhomaaGreatDoorBunA
import Derived.Test.YtaanpcjkflhomaaGreatDoorBunI
import Derived.Test.YtaanpcjkflhomaaGreatDoorBunH
import Derived.Test.YtaanpcjkflhomaaGreatDoorBunG
set_option maxHeartbeats 20000000
set_option maxRecDepth 100000
set_option linter.unusedSimpArgs false
set_option linter.unusedVariables false
namespace Go.Proofs.YtaanpcjkflhomaaGreatDoor
open Go.RowKit
theorem U5 {p:Ab} {s:Aa} {q:Int} (h:De p s q≠0):Bw p s q=De p s q∧Dm p s q=0∧Ca p s q=Ay:=by
 have e:Bw p s q=De p s q:=by unfold Bw;rw[zp h]
 exact⟨e,by unfold Dm;rw[e,zq h],by unfold Ca;rw[e,zq h]⟩
theorem U4 {p:Ab} {s:Aa} {q:Int} (h:De p s q=0) (ht:s.af=1048576):Bw p s q=2∧Dm p s q=0∧Ca p s q=Ay:=by
 have e:Bw p s q=2:=by unfold Bw;rw[zq (by simp[h]),zp ht]
 exact⟨e,by unfold Dm;rw[e];rfl,by unfold Ca;rw[e];rfl⟩
theorem Sq {p:Ab} {s:Aa} {q:Int} (h:De p s q=0) (ht:s.af≠1048576):Bw p s q=0∧Dm p s q=s.af∧Ca p s q=Du s q (Io s q):=by
 have e:Bw p s q=0:=by unfold Bw;rw[zq (by simp[h]),zq ht]
 exact⟨e,by unfold Dm;rw[zp e],by unfold Ca;rw[zp e]⟩
theorem Aio (ra:Option Addr) (n rc:Nat) (hn:1≤n) (W:World):(Instr.slice 50 (.slice ra n rc) (some (.int .i64 1)) none none).run Tryz.prog W= .ok (.slice (E6 ra rc 1 5) (n - 1) (rc - 1)) W:=
 Lt (P:=Tryz.prog) (t:=50) (size:=5) Tryz.underlying50 Hd ra n rc 1 1 rfl hn W
theorem Deliver_held (p:Ab) (s:Aa) (q:Int) (p1 p2 p3 a1 a2 a3:Option Addr) (q1 q2 q3 c1 c2 c3:Nat) (rows:List Bq) (w:World) (hE:Env w) (hp:Az w 0 w.heap.size p1 p2 p3 p) (hps:Ai p) (hs:Ax w 0 w.heap.size a1 a2 a3 rows s) (hss:Am s) (hsi:Ba s):
  Calls Tryz.prog 66 #[Bc p p1 p2 p3 q1 q2 q3,Ac s a1 a2 a3 c1 c2 c3,.int .i64 q] w (Kl (Ca p s q) (Dm p s q) (Bw p s q) w):=by
 have hbx:=B9 q1 q2 q3 c1 c2 c3 hE hp hs 26 31;unfold Ag at hbx;unfold Ac Bc Ag;have htl:=hss.ae;have HPS:=zh hps;have HSS:=zh hss;have HSI:=zh hsi;clear hE hp hs hps hss hsi;go_enter Tryz.func66,Tryz.ntmps66
 obtain⟨⟨m0,m1,m2⟩,⟨n0,n1,n2,n3,n4,n5,n6,n7⟩,_,_,_,_⟩:=hbx _ ((zb _ _).alloc (zn _) (.cells zO 31));go_wp2_with fail
 clear m0 m1 m2 n0 n1 n2 n3 n4 n5 n6 n7;obtain⟨V0,hV0⟩:∃V0,((w.alloc (.cells (zP p p1 p2 p3 q1 q2 q3) 26)).alloc (.cells (zV s a1 a2 a3 c1 c2 c3) 31))=V0:=⟨_,rfl⟩;have hzV:V0.heap.size=w.heap.size+1+1:=by rw[←hV0];simp
 rw[hV0] at hbx;have HBV:=zh hbx;obtain⟨W0,hW0⟩:∃W0,V0.alloc (.cells zO 31)=W0:=⟨_,rfl⟩;have hbV:Below V0.heap.size V0 W0:=by rw[←hW0];exact(zb _ _).alloc (zn _) _
 have HZ:Hid (W0.heap.size=w.heap.size+1+1+1):=by refine(?_:W0.heap.size=_);rw[←hW0,←hzV];simp
 have HBX:Hid (∀W,Below W0.heap.size W0 W→La w p s p1 p2 p3 a1 a2 a3 q1 q2 q3 c1 c2 c3 rows W∧Bk W (w.heap.size+1+1) 31 zeroCells):=fun W hW=>by
  have k:Bk W0 (w.heap.size+1+1) 31 zeroCells:=by rw[←hW0];exact Bk.cg _ _ _ hzV.symm
  exact⟨HBV.out W (hbV.trans (hW.mono hbV.size)),k.below hW k.lt⟩
 rw[hV0,hW0];clear hbx hbV hzV HBV hV0 hW0;refine(Afn p s q p1 p2 p3 a1 a2 a3 q1 q2 q3 c1 c2 c3 rows W0 (HBX.out _ (zb _ _)).1.env (HBX.out _ (zb _ _)).1.bu HPS.out (HBX.out _ (zb _ _)).1.bc HSS.out HSI.out).mono ?_;rintro e W1 ⟨rfl,hb1⟩;have HB1:=zh hb1;clear hb1;by_cases hc:De p s q=0
 ·have b1:(De p s q != 0)=false:=by simp[hc]
  obtain⟨h0,h1,hbn⟩:=Lq.1 hc;obtain⟨hR,hq0,hq1⟩:=Fv.1 h0;have hnn:Ln p s q=Io s q:=by unfold Ln;rw[zp hc]
  have hnt:0≤s.af∧s.af≤1048576:=by
   have:=hR.af;unfold countB at this;simpa [zc,zd] using this
  obtain⟨bi,hbi,_,_⟩:=Vt hR hbn;obtain⟨k,rfl⟩:∃k:Nat,q=(k:Int):=⟨q.toNat,by omega⟩;have hkr:k < s.ready.length:=by rw[hR.len];omega
  obtain⟨rest,hline,hrow⟩:=Mg hc;rw[Int.toNat_natCast] at hrow;generalize hx:Ii s (k:Int)=x at hline hrow;have hrl:=HSS.out.ready;have hol:=HSS.out.outs;have HLN:Hid (Ah s (k:Int)=x::rest):=hline;have HX:=zh hx;have HROW:=zh hrow;have HBN:Hid (Io s (k:Int)=(bi:Int)):=hbi;rw[hnn,HBN.out];have HC:=zh hc;clear h0 h1 hbn hR hq0 hq1 hnn hbi hline hrow hx hc;obtain⟨_,⟨n0,n1,n2,n3,n4,n5,n6,n7⟩,_,_,_,_⟩:=(HBX.out _ HB1.out).1;by_cases ht:s.af=1048576
  ·have HR:=zh (U4 HC.out ht)
   have b4:(s.af == 1048576)=true:=by simp[ht]
   clear ht;have hzk:=(HBX.out _ HB1.out).2;unfold zeroCells at hzk;obtain⟨k0,k1,k2,k3,k4,k5,k6,k7,f0,f1,f2,f3,f4,f5,f6,f7,hlt⟩:=Af hzk;clear hzk;go_wp2_with fail
   refine bodyPost_ret (v:= .tuple #[Ac Ay none none none 0 0 0,.int .i64 0,.int .i64 2]) (by simp[results,Tryz.results66,go_sem,Ac,Ag,Ay,k0,k1,k2,k3,k4,k5,k6,k7,hlt]) rfl
    ⟨none,none,none,0,0,0,[],by rw[HR.out.1,HR.out.2.1,HR.out.2.2],by rw[HR.out.2.2];exact Dx _ _,Ak (HBX.out _ HB1.out).1.below (by omega) _ _ _ _ _ _ _ _⟩
  ·have HR:=zh (Sq HC.out ht)
   have b4:(s.af == 1048576)=false:=by simp[ht]
   have hn1:s.af+1≤1048576:=by omega
   have hlim:(0:Int)≤(k:Int)∧(k:Int) < (s.ready.length:Int):=by omega
   obtain⟨hlim0,hlim1⟩:=hlim;clear ht;go_wp2_with fail
   refine(Yl s a1 a2 a3 c1 c2 c3 rows W1 (HBX.out _ HB1.out).1.bc HSS.out).mono ?_;rintro e W2 ⟨v1,v2,v3,rows2,rfl,ho,hb2⟩;obtain⟨A1,C1,rfl,_⟩:=Ad ho.ready;obtain⟨A2,C2,rfl,_⟩:=Ad ho.outs;obtain⟨A3,C3,rfl,hC3⟩:=Ad ho.ae;have HB2:=zh (HB1.out.trans (hb2.mono HB1.out.size));have hlo:w.heap.size+1+1 < W1.heap.size:=by have:=HB1.out.size;have:=HZ.out;omega
   have HLO:=zh hlo;have hbb2:=hb2.size;clear n0 n1 n2 n3 n4 n5 n6 n7 hlo hb2;have hX:Below W0.heap.size W0 (W2.alloc (.cells (zV s A1 A2 A3 C1 C2 C3) 31)):=HB2.out.alloc HB2.out.size _;have hxo:=ho.below ((zb _ W2).alloc (zn _) (.cells (zV s A1 A2 A3 C1 C2 C3) 31));have hxd:=Bk.new W2 31 (zV s A1 A2 A3 C1 C2 C3);obtain⟨n0,n1,n2,n3,n4,n5,n6,n7,_,_,_,_,_,_,_,_,hlt2⟩:=Af hxd;have HLT2:Hid (W1.heap.size≤W2.heap.size):=hbb2;have HLT:Hid (w.heap.size+1+1 < W2.heap.size):=by refine(?_:w.heap.size+1+1 < W2.heap.size);have:=HB2.out.size;have:=HZ.out;omega
   unfold Ey;go_upto_region 8 with fail
   clear n0 n1 n2 n3 n4 n5 n6 n7 hlt2;obtain⟨X,hXX⟩:∃X,W2.alloc (.cells (zV s A1 A2 A3 C1 C2 C3) 31)=X:=⟨_,rfl⟩;rw[hXX] at hX hxo hxd;rw[hXX];clear hXX ho;obtain⟨g,rfl⟩:=Fa hxo.ready (by omega);obtain⟨n0,n1,n2,n3,n4,n5,n6,n7,g0,g1,g2,g3,g4,g5,g6,g7,hltX⟩:=Af hxd;go_upto_region 9 with fail
   clear n0 n1 n2 n3 n4 n5 n6 n7 g0 g1 g2 g3 g4 g5 g6 g7 hltX;have hky:Al [31] X (X.setCell ⟨W2.heap.size,4,none⟩ (.int .i64 (s.af+1))):=Al.set hxd (by decide) 4 _;have hyh:=(hxo.held.kept hky);have hyd:Bk (X.setCell ⟨W2.heap.size,4,none⟩ (.int .i64 (s.af+1))) W2.heap.size 31 #[.slice (some ⟨g,0,none⟩) s.ready.length C1,.slice A2 s.outs.length C2,.slice A3 s.ae.length C3,.int .i64 s.ah,.int .i64 (s.af+1),.int .i64 s.aw,.int .i64 s.ar,.int .i64 s.dropped]:=hxd.ck 4 _;have hyb:Below W0.heap.size W0 (X.setCell ⟨W2.heap.size,4,none⟩ (.int .i64 (s.af+1))):=hX.setCell (p:=⟨W2.heap.size,4,none⟩) (by show W0.heap.size≤W2.heap.size;exact HB2.out.size) _;obtain⟨Y,hYY⟩:∃Y,X.setCell ⟨W2.heap.size,4,none⟩ (.int .i64 (s.af+1))=Y:=⟨_,rfl⟩;rw[hYY] at hyh hyd hyb;rw[hYY];clear hYY hxo hxd hX hky;obtain⟨ra,rc,hrc,hsl,hcell⟩:=hyh.rowAt rfl HROW.out;obtain⟨rb,ro,rfl,hlrb,hitem⟩:=hsl.head;obtain⟨nl,hnl⟩:∃nl,(x::rest).length=nl:=⟨_,rfl⟩;have hnl1:1≤nl:=by rw[←hnl];exact Nat.succ_le_succ (Nat.zero_le _)
   rw[hnl] at hcell hrc;have hnl0:0 < nl:=hnl1;have hcut:=Aio (some ⟨rb,ro,none⟩) nl rc hnl1;have HTAIL:Hid (SlT Y W1.heap.size 52 (E6 (some ⟨rb,ro,none⟩) rc 1 5) (rest.flatMap A9)∧rest.length=nl - 1∧rest.length≤rc - 1):=by
    have hl2:((x::rest).flatMap A9).length=nl * 5:=by rw[Dc Cg,hnl]
    have h:=hsl.cut (k:=1) hl2 hnl1 hrc;have hd:((x::rest).flatMap A9).drop (1 * 5)=rest.flatMap A9:=by rw[List.flatMap_cons];rfl
    rw[hd] at h;have hl:rest.length=nl - 1:=by rw[←hnl];rfl
    exact⟨h,hl,by omega⟩
   have HNL:=zh hnl;clear hsl hnl;have KS:Hid (∀W,Al [77,31] Y W→W.cell? ⟨W2.heap.size,0,none⟩=some (.slice (some ⟨g,0,none⟩) s.ready.length C1)→(W.cell? ⟨W2.heap.size,0,none⟩=some (.slice (some ⟨g,0,none⟩) s.ready.length C1)∧W.cell? ⟨g,k,none⟩=some (.slice (some ⟨rb,ro,none⟩) nl rc)∧W.cell? ⟨rb,ro,none⟩=some (.int .i64 x.seq)∧W.cell? ⟨rb,ro+1,none⟩=some (.string x.key)∧W.cell? ⟨rb,ro+2,none⟩=some (.string x.body)∧W.cell? ⟨rb,ro+3,none⟩=some (.bool x.again)∧W.cell? ⟨rb,ro+4,none⟩=some (.int .i64 x.au))):=fun W hW h0=>⟨h0,(hcell _ W (by decide) hW).1,hitem _ W (by decide) hW⟩;have HCELL:Hid (∀W,Al [77,31] Y W→W.cell? ⟨g,k,none⟩=some (.slice (some ⟨rb,ro,none⟩) nl rc)∧W.frozen? ⟨g,k,none⟩=false∧g < W.heap.size):=fun W hW=>hcell _ W (by decide) hW;clear hcell hitem;have k0:=KS.out Y.drew (Al.drew _ Y) (hyd.cell 0);have k1:=KS.out (Y.drew.alloc (.cells #[.int .i64 s.af,.int .i64 (bi:Int),.int .i64 (k:Int),.int .i64 x.seq,.string x.key,.string x.body,.bool x.again,.int .i64 x.au] 77)) ((Al.drew _ Y).trans (Al.alloc _ Y.drew _)) ((Bk.alloc (w:=Y.drew) hyd _).cell 0);have t0:Y.drew.cell? ⟨W2.heap.size,1,none⟩=some (.slice A2 s.outs.length C2):=hyd.cell 1;have t1:Y.cell? ⟨W2.heap.size,1,none⟩=some (.slice A2 s.outs.length C2):=hyd.cell 1;have t2:(Y.drew.alloc (.cells #[.int .i64 s.af,.int .i64 (bi:Int),.int .i64 (k:Int),.int .i64 x.seq,.string x.key,.string x.body,.bool x.again,.int .i64 x.au] 77)).cell? ⟨W2.heap.size,1,none⟩=some (.slice A2 s.outs.length C2):=(Bk.alloc (w:=Y.drew) hyd _).cell 1;have t3:(Y.alloc (.cells #[.int .i64 s.af,.int .i64 (bi:Int),.int .i64 (k:Int),.int .i64 x.seq,.string x.key,.string x.body,.bool x.again,.int .i64 x.au] 77)).cell? ⟨W2.heap.size,1,none⟩=some (.slice A2 s.outs.length C2):=(Bk.alloc hyd _).cell 1;have hbase:W1.heap.size≤Y.heap.size:=by have h1:=hyd.lt;have h2:=HLT2.out;omega
   have HOW:Hid ((Y.drew.alloc (.cells #[.int .i64 s.af,.int .i64 (bi:Int),.int .i64 (k:Int),.int .i64 x.seq,.string x.key,.string x.body,.bool x.again,.int .i64 x.au] 77)).ownsRow W1.heap.size 77 8 (.slice A2 s.outs.length C2) s.outs.length (s.outs.flatMap Eg)∧W1.heap.size≤(Y.drew.alloc (.cells #[.int .i64 s.af,.int .i64 (bi:Int),.int .i64 (k:Int),.int .i64 x.seq,.string x.key,.string x.body,.bool x.again,.int .i64 x.au] 77)).heap.size):=by
    have h:Y.drew.ownsRow W1.heap.size 77 8 (.slice A2 s.outs.length C2) s.outs.length (s.outs.flatMap Eg):=hyh.outs.drew;exact⟨h.alloc _,zr hbase (by simp)⟩
   have HYH:=zh hyh;have HYD:=zh hyd;have HYB:=zh hyb;clear hyh hyd hyb hbase;refine wp_region_held_drew (S:=(fun W=>(W.cell? ⟨W2.heap.size,0,none⟩=some (.slice (some ⟨g,0,none⟩) s.ready.length C1)∧W.cell? ⟨g,k,none⟩=some (.slice (some ⟨rb,ro,none⟩) nl rc)∧W.cell? ⟨rb,ro,none⟩=some (.int .i64 x.seq)∧W.cell? ⟨rb,ro+1,none⟩=some (.string x.key)∧W.cell? ⟨rb,ro+2,none⟩=some (.string x.body)∧W.cell? ⟨rb,ro+3,none⟩=some (.bool x.again)∧W.cell? ⟨rb,ro+4,none⟩=some (.int .i64 x.au)))) (by kernel_rfl) (by first|assumption|exact k0) (fun hHeld=> ?_)
   first|(refine zH 0 ?_)|(refine zU 0 ?_)
   first|(refine zH 2 ?_)|(refine zU 2 ?_)
   first|(refine zH 3 ?_)|(refine zU 3 ?_)
   first|(refine zH 4 ?_)|(refine zU 4 ?_)
   first|(refine zH 5 ?_)|(refine zU 5 ?_)
   first|(refine zH 6 ?_)|(refine zU 6 ?_)
   first|(refine zH 7 ?_)|(refine zU 7 ?_)
   first|(refine zH 8 ?_)|(refine zU 8 ?_)
   first|(refine zH 9 ?_)|(refine zU 9 ?_)
   first|(refine zH 10 ?_)|(refine zU 10 ?_)
   first|(refine zH 11 ?_)|(refine zU 11 ?_)
   first|(refine zH 12 ?_)|(refine zU 12 ?_)
   refine zR2 1 13 (fun K hK=> ?_) (fun K hK=> ?_)
   ·go_simp
    refine hK.out _ _ (by first|assumption|exact k0|exact k1) (fun hHeld=> ?_);clear hK K
    try simp only[Act.put,zA,zB,zC,zD,zE,zF]
    refine zR 13 fun K hK=> ?_
    go_simp
    refine hK.out _ _ (by first|assumption|exact k0|exact k1) (fun hHeld=> ?_);clear hK K
    try simp only[Act.put,zA,zB,zC,zD,zE,zF]
    refine zR 14 fun K hK=> ?_;rw[zp (by rfl)];refine Am2 (.tmp 36) (.tmp 48) rfl rfl HOW.out.1 rfl HOW.out.2 (m:=1) (news:=Eg (⟨s.af,(bi:Int),(k:Int),x⟩:Eh)) rfl (by omega) (Sl.new Y.drew (Eg (⟨s.af,(bi:Int),(k:Int),x⟩:Eh)) 77 (Y.drew.heap.size+1) (by omega)) (Vd _) ?_;rintro v4 w4 ho4 hg4;obtain⟨A4,C4,rfl,_⟩:=Ad ho4;have hk4:Al [77] (Y.drew.alloc (.cells #[.int .i64 s.af,.int .i64 (bi:Int),.int .i64 (k:Int),.int .i64 x.seq,.string x.key,.string x.body,.bool x.again,.int .i64 x.au] 77)) w4:=Al.grown HOW.out.1 hg4 (by decide);have hk5:Al [77] Y w4:=(Al.trans (Al.drew _ Y) (Al.alloc _ Y.drew _)).trans hk4;have hd4:Bk w4 W2.heap.size 31 #[.slice (some ⟨g,0,none⟩) s.ready.length C1,.slice A2 s.outs.length C2,.slice A3 s.ae.length C3,.int .i64 s.ah,.int .i64 (s.af+1),.int .i64 s.aw,.int .i64 s.ar,.int .i64 s.dropped]:=hk5 _ _ _ (by decide) HYD.out;have hk6:Al [31] w4 (w4.setCell ⟨W2.heap.size,1,none⟩ (.slice A4 (s.outs.length+1) C4)):=Al.set hd4 (by decide) 1 _;have hk7:Al [77,31] Y (w4.setCell ⟨W2.heap.size,1,none⟩ (.slice A4 (s.outs.length+1) C4)):=(hk5.more (by decide)).trans (hk6.more (by decide));have hd6:Bk (w4.setCell ⟨W2.heap.size,1,none⟩ (.slice A4 (s.outs.length+1) C4)) W2.heap.size 31 #[.slice (some ⟨g,0,none⟩) s.ready.length C1,.slice A4 (s.outs.length+1) C4,.slice A3 s.ae.length C3,.int .i64 s.ah,.int .i64 (s.af+1),.int .i64 s.aw,.int .i64 s.ar,.int .i64 s.dropped]:=hd4.ck 1 _;have k4:=KS.out w4 (hk5.more (by decide)) (hd4.cell 0);have k6:=KS.out _ hk7 (hd6.cell 0);have c4:=hd4.cell 1;have f4:=hd4.frozen 1;have l4:=hd4.lt;have HW4:=zh (zi ho4 (zi hg4 (zi hk5 (zi hk6 (zi hd6 hk7)))));clear ho4 hg4 hk4 hk5 hd4 hk6 hk7 hd6;refine hK.out _ _ (by first|assumption|exact k0|exact k1|exact k4|exact k6) (fun hHeld=> ?_);clear hK K
    try simp only[Act.put,zA,zB,zC,zD,zE,zF]
    (refine zH 15 ?_)
    refine zR 16 fun K hK=> ?_
    go_simp
    refine hK.out _ _ (by first|assumption|exact k0|exact k1|exact k4|exact k6) (fun hHeld=> ?_);clear hK K
    try simp only[Act.put,zA,zB,zC,zD,zE,zF]
    refine wpAnyH_done (by kernel_rfl) ?_ _;clear k0 k1 k4 k6 t0 t1 t2 t3 c4 f4 l4 hHeld;go_wp2_with fail
    have HZ9:Hid (Cm (w4.setCell ⟨W2.heap.size,1,none⟩ (.slice A4 (s.outs.length+1) C4)) W1.heap.size (.slice (some ⟨g,0,none⟩) s.ready.length C1) (.slice A4 (s.outs.length+1) C4) (.slice A3 s.ae.length C3) rows2 { s with outs:=s.outs++[(⟨s.af,(bi:Int),(k:Int),x⟩:Eh)] } ∧Bk (w4.setCell ⟨W2.heap.size,1,none⟩ (.slice A4 (s.outs.length+1) C4)) W2.heap.size 31 #[.slice (some ⟨g,0,none⟩) s.ready.length C1,.slice A4 (s.outs.length+1) C4,.slice A3 s.ae.length C3,.int .i64 s.ah,.int .i64 (s.af+1),.int .i64 s.aw,.int .i64 s.ar,.int .i64 s.dropped]∧Below W0.heap.size W0 (w4.setCell ⟨W2.heap.size,1,none⟩ (.slice A4 (s.outs.length+1) C4))∧Al [77,31] Y (w4.setCell ⟨W2.heap.size,1,none⟩ (.slice A4 (s.outs.length+1) C4))):=by
     obtain⟨ho4,hg4,hk5,hk6,hd6,hk7⟩:=HW4.out;refine⟨(HYH.out.outsTo (l:=s.outs++[(⟨s.af,(bi:Int),(k:Int),x⟩:Eh)]) hk5 ?_).kept hk6,hd6,(Bl HOW.out.1 hg4 (HYB.out.drew.alloc HYB.out.size _) HB1.out.size (zr HYB.out.size (by simp))).setCell (p:=⟨W2.heap.size,1,none⟩) (by show W0.heap.size≤W2.heap.size;exact HB2.out.size) _,hk7⟩;rw[ze,List.flatMap_append];exact ho4
    obtain⟨Z,hZZ⟩:∃Z,w4.setCell ⟨W2.heap.size,1,none⟩ (.slice A4 (s.outs.length+1) C4)=Z:=⟨_,rfl⟩;rw[hZZ] at HZ9;rw[hZZ];clear hZZ HW4;have e0:Z.drew.cell? ⟨W2.heap.size,0,none⟩=some (.slice (some ⟨g,0,none⟩) s.ready.length C1):=HZ9.out.2.1.cell 0;have z0:Z.drew.cell? ⟨g,k,none⟩=some (.slice (some ⟨rb,ro,none⟩) nl rc):=(HCELL.out Z HZ9.out.2.2.2).1;have z1:Z.cell? ⟨g,k,none⟩=some (.slice (some ⟨rb,ro,none⟩) nl rc):=(HCELL.out Z HZ9.out.2.2.2).1;have z2:Z.frozen? ⟨g,k,none⟩=false:=(HCELL.out Z HZ9.out.2.2.2).2.1;have z3:g < Z.heap.size:=(HCELL.out Z HZ9.out.2.2.2).2.2;have HZR:Hid (Cm ((Z.setCell ⟨g,k,none⟩ (.slice (E6 (some ⟨rb,ro,none⟩) rc 1 5) (nl - 1) (rc - 1))).drew) W1.heap.size (.slice (some ⟨g,0,none⟩) s.ready.length C1) (.slice A4 (s.outs.length+1) C4) (.slice A3 s.ae.length C3) (rows2.set k ⟨E6 (some ⟨rb,ro,none⟩) rc 1 5,rc - 1,rest⟩) ⟨s.ready.set k rest,s.outs++[(⟨s.af,(bi:Int),(k:Int),x⟩:Eh)],s.ae,s.ah,s.af+1,s.aw,s.ar,s.dropped⟩∧Bk ((Z.setCell ⟨g,k,none⟩ (.slice (E6 (some ⟨rb,ro,none⟩) rc 1 5) (nl - 1) (rc - 1))).drew) W2.heap.size 31 #[.slice (some ⟨g,0,none⟩) s.ready.length C1,.slice A4 (s.outs.length+1) C4,.slice A3 s.ae.length C3,.int .i64 s.ah,.int .i64 (s.af+1),.int .i64 s.aw,.int .i64 s.ar,.int .i64 s.dropped]∧Below W0.heap.size W0 ((Z.setCell ⟨g,k,none⟩ (.slice (E6 (some ⟨rb,ro,none⟩) rc 1 5) (nl - 1) (rc - 1))).drew)):=by
     obtain⟨h1,h2,h3,h4⟩:=HZ9.out;obtain⟨t1,t2,t3⟩:=HTAIL.out;have hd:=(h1.kept (Al.drew [] Z)).rowSet (k:=k) rfl (E6 (some ⟨rb,ro,none⟩) rc 1 5) (rc - 1) rest (t1.keep (h4.trans (Al.drew _ Z)) (by decide)) t3;rw[t2] at hd;refine⟨hd.1.nums _ _ _ _ _,hd.2 _ _ _ (by decide) h2,h3.drew.setCell (p:=⟨g,k,none⟩) ?_ _⟩;have:=(h1.ready.lt g rfl).1
     show W0.heap.size≤g
     exact zr HB1.out.size this
    have e1:((Z.setCell ⟨g,k,none⟩ (.slice (E6 (some ⟨rb,ro,none⟩) rc 1 5) (nl - 1) (rc - 1))).drew).cell? ⟨W2.heap.size,0,none⟩=some (.slice (some ⟨g,0,none⟩) s.ready.length C1):=HZR.out.2.1.cell 0;refine Jn [(0,false),(1,false),(2,false),(3,false),(4,false),(5,false),(6,false),(7,true),(8,false),(9,false),(10,true)] (by kernel_rfl) (fun hOrd=> ?_);refine Ir (S:=(fun W=>W.cell? ⟨W2.heap.size,0,none⟩=some (.slice (some ⟨g,0,none⟩) s.ready.length C1))) hOrd (by kernel_rfl) (by first|assumption|exact e0|exact e1) (fun hHeld=> ?_);clear hOrd
    iterate 11 ((first|(refine zT ?_)|(refine zL ?_)|(refine NW.call rfl (fun K hK=> ?_);go_simp;refine hK.out _ _ (by first|assumption|exact e0|exact e1) (fun hHeld=> ?_);clear hK K));try simp only[Act.put,zA,zB,zC,zD,zE,zF])
    refine NW.done ?_;clear e0 e1 z0 z1 z2 z3 hHeld hcut;obtain⟨U,hUU⟩:∃U,(Z.setCell ⟨g,k,none⟩ (.slice (E6 (some ⟨rb,ro,none⟩) rc 1 5) (nl - 1) (rc - 1))).drew=U:=⟨_,rfl⟩;rw[hUU] at HZR;rw[hUU];clear hUU;have HGV:Hid (Ca p s (k:Int)=⟨s.ready.set k rest,s.outs++[(⟨s.af,(bi:Int),(k:Int),x⟩:Eh)],s.ae,s.ah,s.af+1,s.aw,s.ar,s.dropped⟩):=by
     refine(?_:Ca p s (k:Int)=_);rw[HR.out.2.2,HBN.out];unfold Du;rw[Int.toNat_natCast,HLN.out,HX.out];rfl
    obtain⟨n0,n1,n2,n3,n4,n5,n6,n7,_,_,_,_,_,_,_,_,hlt2⟩:=Af HZR.out.2.1;have hzk:=(HBX.out _ HZR.out.2.2).2;have HZS:=zh hzk;unfold zeroCells at hzk;obtain⟨k0,k1,k2,k3,k4,k5,k6,k7,f0,f1,f2,f3,f4,f5,f6,f7,hlt⟩:=Af hzk;clear hzk;go_wp2_with fail
    refine bodyPost_ret (v:= .tuple #[.agg #[.slice (some ⟨g,0,none⟩) s.ready.length C1,.slice A4 (s.outs.length+1) C4,.slice A3 s.ae.length C3,.int .i64 s.ah,.int .i64 (s.af+1),.int .i64 s.aw,.int .i64 s.ar,.int .i64 s.dropped],.int .i64 s.af,.int .i64 0]) (by simp[results,Tryz.results66,go_sem,k0,k1,k2,k3,k4,k5,k6,k7,hlt]) rfl ?_;have hfin:=HZR.out.1.kept (Al.dg HZS.out (ts:=[31]) (by decide) (.slice (some ⟨g,0,none⟩) s.ready.length C1) (.slice A4 (s.outs.length+1) C4) (.slice A3 s.ae.length C3) (.int .i64 s.ah) (.int .i64 (s.af+1)) (.int .i64 s.aw) (.int .i64 s.ar) (.int .i64 s.dropped));obtain⟨_,e1,e2,e3⟩:=hfin.bc;refine⟨some ⟨g,0,none⟩,A4,A3,C1,C4,C3,_,?_,by rw[HGV.out];exact hfin.lens (Nat.le_of_lt (Nat.lt_trans (by omega) HLO.out)),Ak (HBX.out _ HZR.out.2.2).1.below (by omega) _ _ _ _ _ _ _ _⟩;rw[HR.out.1,HR.out.2.1,HGV.out];unfold Ac Ag;dsimp only;rw[List.length_set,ze];rfl
   ·go_simp
    refine hK.out _ _ (by first|assumption|exact k0|exact k1) (fun hHeld=> ?_);clear hK K
    try simp only[Act.put,zA,zB,zC,zD,zE,zF]
    refine zR 1 fun K hK=> ?_
    go_simp
    refine hK.out _ _ (by first|assumption|exact k0|exact k1) (fun hHeld=> ?_);clear hK K
    try simp only[Act.put,zA,zB,zC,zD,zE,zF]
    refine zR 14 fun K hK=> ?_;rw[zp (by rfl)];refine Am2 (.tmp 36) (.tmp 48) rfl rfl HOW.out.1 rfl HOW.out.2 (m:=1) (news:=Eg (⟨s.af,(bi:Int),(k:Int),x⟩:Eh)) rfl (by omega) (Sl.new Y.drew (Eg (⟨s.af,(bi:Int),(k:Int),x⟩:Eh)) 77 (Y.drew.heap.size+1) (by omega)) (Vd _) ?_;rintro v4 w4 ho4 hg4;obtain⟨A4,C4,rfl,_⟩:=Ad ho4;have hk4:Al [77] (Y.drew.alloc (.cells #[.int .i64 s.af,.int .i64 (bi:Int),.int .i64 (k:Int),.int .i64 x.seq,.string x.key,.string x.body,.bool x.again,.int .i64 x.au] 77)) w4:=Al.grown HOW.out.1 hg4 (by decide);have hk5:Al [77] Y w4:=(Al.trans (Al.drew _ Y) (Al.alloc _ Y.drew _)).trans hk4;have hd4:Bk w4 W2.heap.size 31 #[.slice (some ⟨g,0,none⟩) s.ready.length C1,.slice A2 s.outs.length C2,.slice A3 s.ae.length C3,.int .i64 s.ah,.int .i64 (s.af+1),.int .i64 s.aw,.int .i64 s.ar,.int .i64 s.dropped]:=hk5 _ _ _ (by decide) HYD.out;have hk6:Al [31] w4 (w4.setCell ⟨W2.heap.size,1,none⟩ (.slice A4 (s.outs.length+1) C4)):=Al.set hd4 (by decide) 1 _;have hk7:Al [77,31] Y (w4.setCell ⟨W2.heap.size,1,none⟩ (.slice A4 (s.outs.length+1) C4)):=(hk5.more (by decide)).trans (hk6.more (by decide));have hd6:Bk (w4.setCell ⟨W2.heap.size,1,none⟩ (.slice A4 (s.outs.length+1) C4)) W2.heap.size 31 #[.slice (some ⟨g,0,none⟩) s.ready.length C1,.slice A4 (s.outs.length+1) C4,.slice A3 s.ae.length C3,.int .i64 s.ah,.int .i64 (s.af+1),.int .i64 s.aw,.int .i64 s.ar,.int .i64 s.dropped]:=hd4.ck 1 _;have k4:=KS.out w4 (hk5.more (by decide)) (hd4.cell 0);have k6:=KS.out _ hk7 (hd6.cell 0);have c4:=hd4.cell 1;have f4:=hd4.frozen 1;have l4:=hd4.lt;have HW4:=zh (zi ho4 (zi hg4 (zi hk5 (zi hk6 (zi hd6 hk7)))));clear ho4 hg4 hk4 hk5 hd4 hk6 hk7 hd6;refine hK.out _ _ (by first|assumption|exact k0|exact k1|exact k4|exact k6) (fun hHeld=> ?_);clear hK K
    try simp only[Act.put,zA,zB,zC,zD,zE,zF]
    (refine zH 15 ?_)
    refine zR 16 fun K hK=> ?_
    go_simp
    refine hK.out _ _ (by first|assumption|exact k0|exact k1|exact k4|exact k6) (fun hHeld=> ?_);clear hK K
    try simp only[Act.put,zA,zB,zC,zD,zE,zF]
    refine wpAnyH_done (by kernel_rfl) ?_ _;clear k0 k1 k4 k6 t0 t1 t2 t3 c4 f4 l4 hHeld;go_wp2_with fail
    have HZ9:Hid (Cm (w4.setCell ⟨W2.heap.size,1,none⟩ (.slice A4 (s.outs.length+1) C4)) W1.heap.size (.slice (some ⟨g,0,none⟩) s.ready.length C1) (.slice A4 (s.outs.length+1) C4) (.slice A3 s.ae.length C3) rows2 { s with outs:=s.outs++[(⟨s.af,(bi:Int),(k:Int),x⟩:Eh)] } ∧Bk (w4.setCell ⟨W2.heap.size,1,none⟩ (.slice A4 (s.outs.length+1) C4)) W2.heap.size 31 #[.slice (some ⟨g,0,none⟩) s.ready.length C1,.slice A4 (s.outs.length+1) C4,.slice A3 s.ae.length C3,.int .i64 s.ah,.int .i64 (s.af+1),.int .i64 s.aw,.int .i64 s.ar,.int .i64 s.dropped]∧Below W0.heap.size W0 (w4.setCell ⟨W2.heap.size,1,none⟩ (.slice A4 (s.outs.length+1) C4))∧Al [77,31] Y (w4.setCell ⟨W2.heap.size,1,none⟩ (.slice A4 (s.outs.length+1) C4))):=by
     obtain⟨ho4,hg4,hk5,hk6,hd6,hk7⟩:=HW4.out;refine⟨(HYH.out.outsTo (l:=s.outs++[(⟨s.af,(bi:Int),(k:Int),x⟩:Eh)]) hk5 ?_).kept hk6,hd6,(Bl HOW.out.1 hg4 (HYB.out.drew.alloc HYB.out.size _) HB1.out.size (zr HYB.out.size (by simp))).setCell (p:=⟨W2.heap.size,1,none⟩) (by show W0.heap.size≤W2.heap.size;exact HB2.out.size) _,hk7⟩;rw[ze,List.flatMap_append];exact ho4
    obtain⟨Z,hZZ⟩:∃Z,w4.setCell ⟨W2.heap.size,1,none⟩ (.slice A4 (s.outs.length+1) C4)=Z:=⟨_,rfl⟩;rw[hZZ] at HZ9;rw[hZZ];clear hZZ HW4;have e0:Z.drew.cell? ⟨W2.heap.size,0,none⟩=some (.slice (some ⟨g,0,none⟩) s.ready.length C1):=HZ9.out.2.1.cell 0;have z0:Z.drew.cell? ⟨g,k,none⟩=some (.slice (some ⟨rb,ro,none⟩) nl rc):=(HCELL.out Z HZ9.out.2.2.2).1;have z1:Z.cell? ⟨g,k,none⟩=some (.slice (some ⟨rb,ro,none⟩) nl rc):=(HCELL.out Z HZ9.out.2.2.2).1;have z2:Z.frozen? ⟨g,k,none⟩=false:=(HCELL.out Z HZ9.out.2.2.2).2.1;have z3:g < Z.heap.size:=(HCELL.out Z HZ9.out.2.2.2).2.2;have HZR:Hid (Cm ((Z.setCell ⟨g,k,none⟩ (.slice (E6 (some ⟨rb,ro,none⟩) rc 1 5) (nl - 1) (rc - 1))).drew) W1.heap.size (.slice (some ⟨g,0,none⟩) s.ready.length C1) (.slice A4 (s.outs.length+1) C4) (.slice A3 s.ae.length C3) (rows2.set k ⟨E6 (some ⟨rb,ro,none⟩) rc 1 5,rc - 1,rest⟩) ⟨s.ready.set k rest,s.outs++[(⟨s.af,(bi:Int),(k:Int),x⟩:Eh)],s.ae,s.ah,s.af+1,s.aw,s.ar,s.dropped⟩∧Bk ((Z.setCell ⟨g,k,none⟩ (.slice (E6 (some ⟨rb,ro,none⟩) rc 1 5) (nl - 1) (rc - 1))).drew) W2.heap.size 31 #[.slice (some ⟨g,0,none⟩) s.ready.length C1,.slice A4 (s.outs.length+1) C4,.slice A3 s.ae.length C3,.int .i64 s.ah,.int .i64 (s.af+1),.int .i64 s.aw,.int .i64 s.ar,.int .i64 s.dropped]∧Below W0.heap.size W0 ((Z.setCell ⟨g,k,none⟩ (.slice (E6 (some ⟨rb,ro,none⟩) rc 1 5) (nl - 1) (rc - 1))).drew)):=by
     obtain⟨h1,h2,h3,h4⟩:=HZ9.out;obtain⟨t1,t2,t3⟩:=HTAIL.out;have hd:=(h1.kept (Al.drew [] Z)).rowSet (k:=k) rfl (E6 (some ⟨rb,ro,none⟩) rc 1 5) (rc - 1) rest (t1.keep (h4.trans (Al.drew _ Z)) (by decide)) t3;rw[t2] at hd;refine⟨hd.1.nums _ _ _ _ _,hd.2 _ _ _ (by decide) h2,h3.drew.setCell (p:=⟨g,k,none⟩) ?_ _⟩;have:=(h1.ready.lt g rfl).1
     show W0.heap.size≤g
     exact zr HB1.out.size this
    have e1:((Z.setCell ⟨g,k,none⟩ (.slice (E6 (some ⟨rb,ro,none⟩) rc 1 5) (nl - 1) (rc - 1))).drew).cell? ⟨W2.heap.size,0,none⟩=some (.slice (some ⟨g,0,none⟩) s.ready.length C1):=HZR.out.2.1.cell 0;refine Jn [(0,false),(1,false),(2,false),(3,false),(4,false),(5,false),(6,false),(7,true),(8,false),(9,false),(10,true)] (by kernel_rfl) (fun hOrd=> ?_);refine Ir (S:=(fun W=>W.cell? ⟨W2.heap.size,0,none⟩=some (.slice (some ⟨g,0,none⟩) s.ready.length C1))) hOrd (by kernel_rfl) (by first|assumption|exact e0|exact e1) (fun hHeld=> ?_);clear hOrd
    iterate 11 ((first|(refine zT ?_)|(refine zL ?_)|(refine NW.call rfl (fun K hK=> ?_);go_simp;refine hK.out _ _ (by first|assumption|exact e0|exact e1) (fun hHeld=> ?_);clear hK K));try simp only[Act.put,zA,zB,zC,zD,zE,zF])
    refine NW.done ?_;clear e0 e1 z0 z1 z2 z3 hHeld hcut;obtain⟨U,hUU⟩:∃U,(Z.setCell ⟨g,k,none⟩ (.slice (E6 (some ⟨rb,ro,none⟩) rc 1 5) (nl - 1) (rc - 1))).drew=U:=⟨_,rfl⟩;rw[hUU] at HZR;rw[hUU];clear hUU;have HGV:Hid (Ca p s (k:Int)=⟨s.ready.set k rest,s.outs++[(⟨s.af,(bi:Int),(k:Int),x⟩:Eh)],s.ae,s.ah,s.af+1,s.aw,s.ar,s.dropped⟩):=by
     refine(?_:Ca p s (k:Int)=_);rw[HR.out.2.2,HBN.out];unfold Du;rw[Int.toNat_natCast,HLN.out,HX.out];rfl
    obtain⟨n0,n1,n2,n3,n4,n5,n6,n7,_,_,_,_,_,_,_,_,hlt2⟩:=Af HZR.out.2.1;have hzk:=(HBX.out _ HZR.out.2.2).2;have HZS:=zh hzk;unfold zeroCells at hzk;obtain⟨k0,k1,k2,k3,k4,k5,k6,k7,f0,f1,f2,f3,f4,f5,f6,f7,hlt⟩:=Af hzk;clear hzk;go_wp2_with fail
    refine bodyPost_ret (v:= .tuple #[.agg #[.slice (some ⟨g,0,none⟩) s.ready.length C1,.slice A4 (s.outs.length+1) C4,.slice A3 s.ae.length C3,.int .i64 s.ah,.int .i64 (s.af+1),.int .i64 s.aw,.int .i64 s.ar,.int .i64 s.dropped],.int .i64 s.af,.int .i64 0]) (by simp[results,Tryz.results66,go_sem,k0,k1,k2,k3,k4,k5,k6,k7,hlt]) rfl ?_;have hfin:=HZR.out.1.kept (Al.dg HZS.out (ts:=[31]) (by decide) (.slice (some ⟨g,0,none⟩) s.ready.length C1) (.slice A4 (s.outs.length+1) C4) (.slice A3 s.ae.length C3) (.int .i64 s.ah) (.int .i64 (s.af+1)) (.int .i64 s.aw) (.int .i64 s.ar) (.int .i64 s.dropped));obtain⟨_,e1,e2,e3⟩:=hfin.bc;refine⟨some ⟨g,0,none⟩,A4,A3,C1,C4,C3,_,?_,by rw[HGV.out];exact hfin.lens (Nat.le_of_lt (Nat.lt_trans (by omega) HLO.out)),Ak (HBX.out _ HZR.out.2.2).1.below (by omega) _ _ _ _ _ _ _ _⟩;rw[HR.out.1,HR.out.2.1,HGV.out];unfold Ac Ag;dsimp only;rw[List.length_set,ze];rfl
 ·have b1:(De p s q != 0)=true:=by simp[hc]
  have HR:=zh (U5 hc);clear hc;have hzk:=(HBX.out _ HB1.out).2;unfold zeroCells at hzk;obtain⟨k0,k1,k2,k3,k4,k5,k6,k7,f0,f1,f2,f3,f4,f5,f6,f7,hlt⟩:=Af hzk;clear hzk;go_wp2_with fail
  refine bodyPost_ret (v:= .tuple #[Ac Ay none none none 0 0 0,.int .i64 0,.int .i64 (De p s q)]) (by simp[results,Tryz.results66,go_sem,Ac,Ag,Ay,k0,k1,k2,k3,k4,k5,k6,k7,hlt]) rfl
   ⟨none,none,none,0,0,0,[],by rw[HR.out.1,HR.out.2.1,HR.out.2.2],by rw[HR.out.2.2];exact Dx _ _,Ak (HBX.out _ HB1.out).1.below (by omega) _ _ _ _ _ _ _ _⟩
theorem Lw (p:Ab) (s:Aa) (q:Int) (p1 p2 p3 a1 a2 a3:Option Addr) (q1 q2 q3 c1 c2 c3:Nat) (rows:List Bq) (w:World) (hE:Env w) (hp:Az w 0 w.heap.size p1 p2 p3 p) (hps:Ai p) (hs:Ax w 0 w.heap.size a1 a2 a3 rows s) (hss:Am s) (hsi:Ba s):
  Calls Tryz.prog 66 #[Bc p p1 p2 p3 q1 q2 q3,Ac s a1 a2 a3 c1 c2 c3,.int .i64 q] w (Mu (Ca p s q) (Dm p s q) (Bw p s q) w):=
 (Deliver_held p s q p1 p2 p3 a1 a2 a3 q1 q2 q3 c1 c2 c3 rows w hE hp hps hs hss hsi).mono fun _ _ h=>h.post
open Go.RowKit
theorem M8 (p:Ab) (s:Aa) (q:Int) (p1 p2 p3 a1 a2 a3:Option Addr) (q1 q2 q3 c1 c2 c3:Nat) (rows:List Bq) (w:World) (hE:Env w) (hp:Az w 0 w.heap.size p1 p2 p3 p) (hps:Ai p) (hs:Ax w 0 w.heap.size a1 a2 a3 rows s) (hss:Am s) (hsi:Ba s):
  Calls Tryz.prog 71 #[Bc p p1 p2 p3 q1 q2 q3,Ac s a1 a2 a3 c1 c2 c3,.int .i64 q] w (Kl (Ca p s q) (Dm p s q) (Bw p s q) w):=by
 have hbx:=B9 q1 q2 q3 c1 c2 c3 hE hp hs 26 31;unfold Ag at hbx;unfold Ac Bc Ag;have htl:=hss.ae;have HPS:=zh hps;have HSS:=zh hss;have HSI:=zh hsi;clear hE hp hs hps hss hsi;go_enter Tryz.func71,Tryz.ntmps71
 obtain⟨⟨m0,m1,m2⟩,⟨n0,n1,n2,n3,n4,n5,n6,n7⟩,_,_,_,_⟩:=hbx _ ((zb _ _).alloc (zn _) (.cells zO 31));go_wp2_with fail
 clear m0 m1 m2 n0 n1 n2 n3 n4 n5 n6 n7;obtain⟨V0,hV0⟩:∃V0,((w.alloc (.cells (zP p p1 p2 p3 q1 q2 q3) 26)).alloc (.cells (zV s a1 a2 a3 c1 c2 c3) 31))=V0:=⟨_,rfl⟩;have hzV:V0.heap.size=w.heap.size+1+1:=by rw[←hV0];simp
 rw[hV0] at hbx;have HBV:=zh hbx;obtain⟨W0,hW0⟩:∃W0,V0.alloc (.cells zO 31)=W0:=⟨_,rfl⟩;have hbV:Below V0.heap.size V0 W0:=by rw[←hW0];exact(zb _ _).alloc (zn _) _
 have HZ:Hid (W0.heap.size=w.heap.size+1+1+1):=by refine(?_:W0.heap.size=_);rw[←hW0,←hzV];simp
 have HBX:Hid (∀W,Below W0.heap.size W0 W→La w p s p1 p2 p3 a1 a2 a3 q1 q2 q3 c1 c2 c3 rows W∧Bk W (w.heap.size+1+1) 31 zeroCells):=fun W hW=>by
  have k:Bk W0 (w.heap.size+1+1) 31 zeroCells:=by rw[←hW0];exact Bk.cg _ _ _ hzV.symm
  exact⟨HBV.out W (hbV.trans (hW.mono hbV.size)),k.below hW k.lt⟩
 rw[hV0,hW0];clear hbx hbV hzV HBV hV0 hW0;refine(Adx p s q p1 p2 p3 a1 a2 a3 q1 q2 q3 c1 c2 c3 rows W0 (HBX.out _ (zb _ _)).1.env (HBX.out _ (zb _ _)).1.bu HPS.out (HBX.out _ (zb _ _)).1.bc HSS.out HSI.out).mono ?_;rintro e W1 ⟨rfl,hb1⟩;have HB1:=zh hb1;clear hb1;by_cases hc:De p s q=0
 ·have b1:(De p s q != 0)=false:=by simp[hc]
  obtain⟨h0,h1,hbn⟩:=Lq.1 hc;obtain⟨hR,hq0,hq1⟩:=Fv.1 h0;have hnn:Ln p s q=Io s q:=by unfold Ln;rw[zp hc]
  have hnt:0≤s.af∧s.af≤1048576:=by
   have:=hR.af;unfold countB at this;simpa [zc,zd] using this
  obtain⟨bi,hbi,_,_⟩:=Vt hR hbn;obtain⟨k,rfl⟩:∃k:Nat,q=(k:Int):=⟨q.toNat,by omega⟩;have hkr:k < s.ready.length:=by rw[hR.len];omega
  obtain⟨rest,hline,hrow⟩:=Mg hc;rw[Int.toNat_natCast] at hrow;generalize hx:Ii s (k:Int)=x at hline hrow;have hrl:=HSS.out.ready;have hol:=HSS.out.outs;have HLN:Hid (Ah s (k:Int)=x::rest):=hline;have HX:=zh hx;have HROW:=zh hrow;have HBN:Hid (Io s (k:Int)=(bi:Int)):=hbi;rw[hnn,HBN.out];have HC:=zh hc;clear h0 h1 hbn hR hq0 hq1 hnn hbi hline hrow hx hc;obtain⟨_,⟨n0,n1,n2,n3,n4,n5,n6,n7⟩,_,_,_,_⟩:=(HBX.out _ HB1.out).1;by_cases ht:s.af=1048576
  ·have HR:=zh (U4 HC.out ht)
   have b4:(s.af == 1048576)=true:=by simp[ht]
   clear ht;have hzk:=(HBX.out _ HB1.out).2;unfold zeroCells at hzk;obtain⟨k0,k1,k2,k3,k4,k5,k6,k7,f0,f1,f2,f3,f4,f5,f6,f7,hlt⟩:=Af hzk;clear hzk;go_wp2_with fail
   refine bodyPost_ret (v:= .tuple #[Ac Ay none none none 0 0 0,.int .i64 0,.int .i64 2]) (by simp[results,Tryz.results71,go_sem,Ac,Ag,Ay,k0,k1,k2,k3,k4,k5,k6,k7,hlt]) rfl
    ⟨none,none,none,0,0,0,[],by rw[HR.out.1,HR.out.2.1,HR.out.2.2],by rw[HR.out.2.2];exact Dx _ _,Ak (HBX.out _ HB1.out).1.below (by omega) _ _ _ _ _ _ _ _⟩
  ·have HR:=zh (Sq HC.out ht)
   have b4:(s.af == 1048576)=false:=by simp[ht]
   have hn1:s.af+1≤1048576:=by omega
   have hlim:(0:Int)≤(k:Int)∧(k:Int) < (s.ready.length:Int):=by omega
   obtain⟨hlim0,hlim1⟩:=hlim;clear ht;go_wp2_with fail
   refine(Kk s a1 a2 a3 c1 c2 c3 rows W1 (HBX.out _ HB1.out).1.bc HSS.out).mono ?_;rintro e W2 ⟨v1,v2,v3,rows2,rfl,ho,hb2⟩;obtain⟨A1,C1,rfl,_⟩:=Ad ho.ready;obtain⟨A2,C2,rfl,_⟩:=Ad ho.outs;obtain⟨A3,C3,rfl,hC3⟩:=Ad ho.ae;have HB2:=zh (HB1.out.trans (hb2.mono HB1.out.size));have hlo:w.heap.size+1+1 < W1.heap.size:=by have:=HB1.out.size;have:=HZ.out;omega
   have HLO:=zh hlo;have hbb2:=hb2.size;clear n0 n1 n2 n3 n4 n5 n6 n7 hlo hb2;have hX:Below W0.heap.size W0 (W2.alloc (.cells (zV s A1 A2 A3 C1 C2 C3) 31)):=HB2.out.alloc HB2.out.size _;have hxo:=ho.below ((zb _ W2).alloc (zn _) (.cells (zV s A1 A2 A3 C1 C2 C3) 31));have hxd:=Bk.new W2 31 (zV s A1 A2 A3 C1 C2 C3);obtain⟨n0,n1,n2,n3,n4,n5,n6,n7,_,_,_,_,_,_,_,_,hlt2⟩:=Af hxd;have HLT2:Hid (W1.heap.size≤W2.heap.size):=hbb2;have HLT:Hid (w.heap.size+1+1 < W2.heap.size):=by refine(?_:w.heap.size+1+1 < W2.heap.size);have:=HB2.out.size;have:=HZ.out;omega
   unfold Ey;go_upto_region 7 with fail
   clear n0 n1 n2 n3 n4 n5 n6 n7 hlt2;obtain⟨X,hXX⟩:∃X,W2.alloc (.cells (zV s A1 A2 A3 C1 C2 C3) 31)=X:=⟨_,rfl⟩;rw[hXX] at hX hxo hxd;rw[hXX];clear hXX ho;obtain⟨g,rfl⟩:=Fa hxo.ready (by omega);have hyh:=hxo.held;obtain⟨ra,rc,hrc,hsl,hcell⟩:=hyh.rowAt rfl HROW.out;obtain⟨rb,ro,rfl,hlrb,hitem⟩:=hsl.head;obtain⟨nl,hnl⟩:∃nl,(x::rest).length=nl:=⟨_,rfl⟩;have hnl1:1≤nl:=by rw[←hnl];exact Nat.succ_le_succ (Nat.zero_le _)
   rw[hnl] at hcell hrc;have hnl0:0 < nl:=hnl1;have hcut:=Aio (some ⟨rb,ro,none⟩) nl rc hnl1;have HTAIL:Hid (SlT X W1.heap.size 52 (E6 (some ⟨rb,ro,none⟩) rc 1 5) (rest.flatMap A9)∧rest.length=nl - 1∧rest.length≤rc - 1):=by
    have hl2:((x::rest).flatMap A9).length=nl * 5:=by rw[Dc Cg,hnl]
    have h:=hsl.cut (k:=1) hl2 hnl1 hrc;have hd:((x::rest).flatMap A9).drop (1 * 5)=rest.flatMap A9:=by rw[List.flatMap_cons];rfl
    rw[hd] at h;have hl:rest.length=nl - 1:=by rw[←hnl];rfl
    exact⟨h,hl,by omega⟩
   have HNL:=zh hnl;clear hsl hnl;have t0:=(hcell [] X (by decide) (Al.refl _ _)).1;obtain⟨i0,i1,i2,i3,i4⟩:=hitem [] X (by decide) (Al.refl _ _);obtain⟨d0,_⟩:=Af hxd;go_upto_region 8 with fail
   clear t0 i0 i1 i2 i3 i4 d0;have hx1:Cm (X.alloc (.cells (zY x) 52)) W1.heap.size (.slice (some ⟨g,0,none⟩) s.ready.length C1) (.slice A2 s.outs.length C2) (.slice A3 s.ae.length C3) rows2 s:=hyh.kept (Al.alloc [] X _);have hd1:Bk (X.alloc (.cells (zY x) 52)) W2.heap.size 31 (zV s (some ⟨g,0,none⟩) A2 A3 C1 C2 C3):=hxd.alloc _;have hi1:=Bk.new X 52 (zY x);have hb1:=hX.alloc hX.size (.cells (zY x) 52);have hk1:Al [] X (X.alloc (.cells (zY x) 52)):=Al.alloc [] X _;obtain⟨X1,hX1⟩:∃X1,X.alloc (.cells (zY x) 52)=X1:=⟨_,rfl⟩;rw[hX1] at hx1 hd1 hi1 hb1 hk1;rw[hX1];clear hX1;have e0:X1.drew.cell? ⟨W2.heap.size,0,none⟩=some (.slice (some ⟨g,0,none⟩) s.ready.length C1):=hd1.cell 0;have hcx:=hcell [] X1 (by decide) hk1;have z0:X1.drew.cell? ⟨g,k,none⟩=some (.slice (some ⟨rb,ro,none⟩) nl rc):=hcx.1;have z1:X1.cell? ⟨g,k,none⟩=some (.slice (some ⟨rb,ro,none⟩) nl rc):=hcx.1;have z2:X1.frozen? ⟨g,k,none⟩=false:=hcx.2.1;have z3:g < X1.heap.size:=hcx.2.2;have HY:Hid (Cm ((X1.setCell ⟨g,k,none⟩ (.slice (E6 (some ⟨rb,ro,none⟩) rc 1 5) (nl - 1) (rc - 1))).drew) W1.heap.size (.slice (some ⟨g,0,none⟩) s.ready.length C1) (.slice A2 s.outs.length C2) (.slice A3 s.ae.length C3) (rows2.set k ⟨E6 (some ⟨rb,ro,none⟩) rc 1 5,rc - 1,rest⟩) { s with ready:=s.ready.set k rest } ∧Bk ((X1.setCell ⟨g,k,none⟩ (.slice (E6 (some ⟨rb,ro,none⟩) rc 1 5) (nl - 1) (rc - 1))).drew) W2.heap.size 31 (zV s (some ⟨g,0,none⟩) A2 A3 C1 C2 C3)∧Bk ((X1.setCell ⟨g,k,none⟩ (.slice (E6 (some ⟨rb,ro,none⟩) rc 1 5) (nl - 1) (rc - 1))).drew) X.heap.size 52 (zY x)∧Below W0.heap.size W0 ((X1.setCell ⟨g,k,none⟩ (.slice (E6 (some ⟨rb,ro,none⟩) rc 1 5) (nl - 1) (rc - 1))).drew)):=by
    obtain⟨t1,t2,t3⟩:=HTAIL.out;have hd:=(hx1.kept (Al.drew [] X1)).rowSet (k:=k) rfl (E6 (some ⟨rb,ro,none⟩) rc 1 5) (rc - 1) rest (t1.keep (hk1.trans (Al.drew _ X1)) (by decide)) t3;rw[t2] at hd;refine⟨hd.1,hd.2 _ _ _ (by decide) hd1,hd.2 _ _ _ (by decide) hi1,hb1.drew.setCell (p:=⟨g,k,none⟩) ?_ _⟩;have:=(hx1.ready.lt g rfl).1
    show W0.heap.size≤g
    exact zr HB1.out.size this
   have e1:((X1.setCell ⟨g,k,none⟩ (.slice (E6 (some ⟨rb,ro,none⟩) rc 1 5) (nl - 1) (rc - 1))).drew).cell? ⟨W2.heap.size,0,none⟩=some (.slice (some ⟨g,0,none⟩) s.ready.length C1):=HY.out.2.1.cell 0;clear hx1 hd1 hi1 hb1 hk1 hcx hxo hxd hX hyh hcell hitem;refine Jn [(0,false),(1,false),(2,false),(3,false),(4,false),(5,false),(6,false),(7,true),(8,false),(9,false),(10,true)] (by kernel_rfl) (fun hOrd=> ?_);refine Ir (S:=(fun W=>W.cell? ⟨W2.heap.size,0,none⟩=some (.slice (some ⟨g,0,none⟩) s.ready.length C1))) hOrd (by kernel_rfl) (by first|assumption|exact e0|exact e1) (fun hHeld=> ?_);clear hOrd
   iterate 11 ((first|(refine zT ?_)|(refine zL ?_)|(refine NW.call rfl (fun K hK=> ?_);go_simp;refine hK.out _ _ (by first|assumption|exact e0|exact e1) (fun hHeld=> ?_);clear hK K));try simp only[Act.put,zA,zB,zC,zD,zE,zF])
   refine NW.done ?_;clear e0 e1 z0 z1 z2 z3 hHeld hcut;obtain⟨Y,hYY⟩:∃Y,((X1.setCell ⟨g,k,none⟩ (.slice (E6 (some ⟨rb,ro,none⟩) rc 1 5) (nl - 1) (rc - 1))).drew)=Y:=⟨_,rfl⟩;rw[hYY] at HY;rw[hYY];clear hYY HTAIL;obtain⟨_,t1,t4,_⟩:=(⟨HY.out.2.1.cell 0,HY.out.2.1.cell 1,HY.out.2.1.cell 4,trivial⟩:Y.cell? ⟨W2.heap.size,0,none⟩=some (.slice (some ⟨g,0,none⟩) s.ready.length C1)∧Y.cell? ⟨W2.heap.size,1,none⟩=some (.slice A2 s.outs.length C2)∧Y.cell? ⟨W2.heap.size,4,none⟩=some (.int .i64 s.af)∧True);have i0:Y.cell? ⟨X.heap.size,0,none⟩=some (.int .i64 x.seq):=HY.out.2.2.1.cell 0;have i1:Y.cell? ⟨X.heap.size,1,none⟩=some (.string x.key):=HY.out.2.2.1.cell 1;have i2:Y.cell? ⟨X.heap.size,2,none⟩=some (.string x.body):=HY.out.2.2.1.cell 2;have i3:Y.cell? ⟨X.heap.size,3,none⟩=some (.bool x.again):=HY.out.2.2.1.cell 3;have i4:Y.cell? ⟨X.heap.size,4,none⟩=some (.int .i64 x.au):=HY.out.2.2.1.cell 4;obtain⟨_,⟨_,_,_,_,n4,_⟩,_,_,_,_⟩:=(HBX.out _ HY.out.2.2.2).1;have hbase:W1.heap.size≤Y.heap.size:=by have h1:=HY.out.2.1.lt;have h2:=HLT2.out;omega
   have HOU:Hid (Y.ownsRow W1.heap.size 77 8 (.slice A2 s.outs.length C2) s.outs.length (s.outs.flatMap Eg)):=HY.out.1.outs;go_upto_region 10 with(at_builtin;refine D6 rfl _ _ 28 rfl W1.heap.size 77 Ob Tryz.underlying28 rfl (by decide) (by decide) Y _ _ _ rfl HOU.out [.int .i64 s.af,.int .i64 (bi:Int),.int .i64 (k:Int),.int .i64 x.seq,.string x.key,.string x.body,.bool x.again,.int .i64 x.au] rfl rfl rfl (Vd (⟨s.af,(bi:Int),(k:Int),x⟩:Eh)) (by omega) hbase ?_;intro v4 w4 ho4 hg4;obtain⟨A4,C4,rfl,_⟩:=Ad ho4;have hk4:Al [77] Y w4:=Al.grown HY.out.1.outs hg4 (by decide);have hd4:=hk4 _ _ _ (by decide) HY.out.2.1;have d4:=hd4.cell 1;have fz4:=hd4.frozen 1;have hlt4:=hd4.lt;have HW4:=zh (zi ho4 (zi hg4 (zi hk4 hd4)));clear ho4 hg4 hk4 hd4)
   clear d4 fz4 hlt4 t1 t4 i0 i1 i2 i3 i4 n4;have HZ:Hid (Cm (w4.setCell ⟨W2.heap.size,1,none⟩ (.slice A4 (s.outs.length+1) C4)) W1.heap.size (.slice (some ⟨g,0,none⟩) s.ready.length C1) (.slice A4 (s.outs.length+1) C4) (.slice A3 s.ae.length C3) (rows2.set k ⟨E6 (some ⟨rb,ro,none⟩) rc 1 5,rc - 1,rest⟩) ⟨s.ready.set k rest,s.outs++[(⟨s.af,(bi:Int),(k:Int),x⟩:Eh)],s.ae,s.ah,s.af,s.aw,s.ar,s.dropped⟩∧Bk (w4.setCell ⟨W2.heap.size,1,none⟩ (.slice A4 (s.outs.length+1) C4)) W2.heap.size 31 #[.slice (some ⟨g,0,none⟩) s.ready.length C1,.slice A4 (s.outs.length+1) C4,.slice A3 s.ae.length C3,.int .i64 s.ah,.int .i64 s.af,.int .i64 s.aw,.int .i64 s.ar,.int .i64 s.dropped]∧Below W0.heap.size W0 (w4.setCell ⟨W2.heap.size,1,none⟩ (.slice A4 (s.outs.length+1) C4))):=by
    obtain⟨ho4,hg4,hk4,hd4⟩:=HW4.out;have hk6:Al [31] w4 (w4.setCell ⟨W2.heap.size,1,none⟩ (.slice A4 (s.outs.length+1) C4)):=Al.set hd4 (by decide) 1 _;refine⟨(HY.out.1.outsTo (l:=s.outs++[(⟨s.af,(bi:Int),(k:Int),x⟩:Eh)]) hk4 ?_).kept hk6,hd4.ck 1 _,(Bl HY.out.1.outs hg4 HY.out.2.2.2 HB1.out.size HY.out.2.2.2.size).setCell (p:=⟨W2.heap.size,1,none⟩) (by show W0.heap.size≤W2.heap.size;exact HB2.out.size) _⟩;rw[ze,List.flatMap_append];exact ho4
   obtain⟨Z,hZZ⟩:∃Z,(w4.setCell ⟨W2.heap.size,1,none⟩ (.slice A4 (s.outs.length+1) C4))=Z:=⟨_,rfl⟩;rw[hZZ] at HZ;rw[hZZ];clear hZZ HW4 HY hbase;have t4:=HZ.out.2.1.cell 4;have f4:=HZ.out.2.1.frozen 4;have l4:=HZ.out.2.1.lt;go_upto_region 11 with fail
   clear t4 f4 l4;have HZ2:Hid (Cm (Z.setCell ⟨W2.heap.size,4,none⟩ (.int .i64 (s.af+1))) W1.heap.size (.slice (some ⟨g,0,none⟩) s.ready.length C1) (.slice A4 (s.outs.length+1) C4) (.slice A3 s.ae.length C3) (rows2.set k ⟨E6 (some ⟨rb,ro,none⟩) rc 1 5,rc - 1,rest⟩) ⟨s.ready.set k rest,s.outs++[(⟨s.af,(bi:Int),(k:Int),x⟩:Eh)],s.ae,s.ah,s.af+1,s.aw,s.ar,s.dropped⟩∧Bk (Z.setCell ⟨W2.heap.size,4,none⟩ (.int .i64 (s.af+1))) W2.heap.size 31 #[.slice (some ⟨g,0,none⟩) s.ready.length C1,.slice A4 (s.outs.length+1) C4,.slice A3 s.ae.length C3,.int .i64 s.ah,.int .i64 (s.af+1),.int .i64 s.aw,.int .i64 s.ar,.int .i64 s.dropped]∧Below W0.heap.size W0 (Z.setCell ⟨W2.heap.size,4,none⟩ (.int .i64 (s.af+1)))):=by
    obtain⟨h1,h2,h3⟩:=HZ.out;have hk6:Al [31] Z (Z.setCell ⟨W2.heap.size,4,none⟩ (.int .i64 (s.af+1))):=Al.set h2 (by decide) 4 _;exact⟨(h1.kept hk6).nums _ _ _ _ _,h2.ck 4 _,h3.setCell (p:=⟨W2.heap.size,4,none⟩) (by show W0.heap.size≤W2.heap.size;exact HB2.out.size) _⟩
   obtain⟨U,hUU⟩:∃U,(Z.setCell ⟨W2.heap.size,4,none⟩ (.int .i64 (s.af+1)))=U:=⟨_,rfl⟩;rw[hUU] at HZ2;rw[hUU];clear hUU HZ;have HGV:Hid (Ca p s (k:Int)=⟨s.ready.set k rest,s.outs++[(⟨s.af,(bi:Int),(k:Int),x⟩:Eh)],s.ae,s.ah,s.af+1,s.aw,s.ar,s.dropped⟩):=by
    refine(?_:Ca p s (k:Int)=_);rw[HR.out.2.2,HBN.out];unfold Du;rw[Int.toNat_natCast,HLN.out,HX.out];rfl
   have ks0:(fun W:World=>((W.cell? ⟨W2.heap.size,0,none⟩=some (.slice (some ⟨g,0,none⟩) s.ready.length C1)∧W.cell? ⟨W2.heap.size,1,none⟩=some (.slice A4 (s.outs.length+1) C4)∧W.cell? ⟨W2.heap.size,2,none⟩=some (.slice A3 s.ae.length C3)∧W.cell? ⟨W2.heap.size,3,none⟩=some (.int .i64 s.ah)∧W.cell? ⟨W2.heap.size,4,none⟩=some (.int .i64 (s.af+1))∧W.cell? ⟨W2.heap.size,5,none⟩=some (.int .i64 s.aw)∧W.cell? ⟨W2.heap.size,6,none⟩=some (.int .i64 s.ar)∧W.cell? ⟨W2.heap.size,7,none⟩=some (.int .i64 s.dropped))∧W.cell? ⟨w.heap.size+1,4,none⟩=some (.int .i64 s.af))) U.drew:=⟨Jl (w:=U.drew) HZ2.out.2.1,by
    obtain⟨_,⟨_,_,_,_,n4,_⟩,_,_,_,_⟩:=(HBX.out _ HZ2.out.2.2).1;exact n4⟩
   have KS:Hid (∀u0 u1 u2 u3 u4 u5 u6 u7,(fun W:World=>((W.cell? ⟨W2.heap.size,0,none⟩=some (.slice (some ⟨g,0,none⟩) s.ready.length C1)∧W.cell? ⟨W2.heap.size,1,none⟩=some (.slice A4 (s.outs.length+1) C4)∧W.cell? ⟨W2.heap.size,2,none⟩=some (.slice A3 s.ae.length C3)∧W.cell? ⟨W2.heap.size,3,none⟩=some (.int .i64 s.ah)∧W.cell? ⟨W2.heap.size,4,none⟩=some (.int .i64 (s.af+1))∧W.cell? ⟨W2.heap.size,5,none⟩=some (.int .i64 s.aw)∧W.cell? ⟨W2.heap.size,6,none⟩=some (.int .i64 s.ar)∧W.cell? ⟨W2.heap.size,7,none⟩=some (.int .i64 s.dropped))∧W.cell? ⟨w.heap.size+1,4,none⟩=some (.int .i64 s.af))) (((((((((U.setCell ⟨w.heap.size+1+1,0,none⟩ u0).setCell ⟨w.heap.size+1+1,1,none⟩ u1).setCell ⟨w.heap.size+1+1,2,none⟩ u2).setCell ⟨w.heap.size+1+1,3,none⟩ u3).setCell ⟨w.heap.size+1+1,4,none⟩ u4).setCell ⟨w.heap.size+1+1,5,none⟩ u5).setCell ⟨w.heap.size+1+1,6,none⟩ u6).setCell ⟨w.heap.size+1+1,7,none⟩ u7).drew)):=fun u0 u1 u2 u3 u4 u5 u6 u7=>⟨Jl (w:=((((((((U.setCell ⟨w.heap.size+1+1,0,none⟩ u0).setCell ⟨w.heap.size+1+1,1,none⟩ u1).setCell ⟨w.heap.size+1+1,2,none⟩ u2).setCell ⟨w.heap.size+1+1,3,none⟩ u3).setCell ⟨w.heap.size+1+1,4,none⟩ u4).setCell ⟨w.heap.size+1+1,5,none⟩ u5).setCell ⟨w.heap.size+1+1,6,none⟩ u6).setCell ⟨w.heap.size+1+1,7,none⟩ u7).drew) (Bk.dr (Rm (W:=U) HZ2.out.2.1 (by have:=HLT.out;omega) u0 u1 u2 u3 u4 u5 u6 u7)),by
    obtain⟨_,⟨_,_,_,_,n4,_⟩,_,_,_,_⟩:=(HBX.out _ HZ2.out.2.2).1;exact Aju (W:=U) (by omega) n4 u0 u1 u2 u3 u4 u5 u6 u7⟩
   have hzk:Bk U.drew (w.heap.size+1+1) 31 zeroCells:=(HBX.out _ HZ2.out.2.2).2;have HZS:Hid (Bk U (w.heap.size+1+1) 31 zeroCells):=hzk;unfold zeroCells at hzk;obtain⟨k0,k1,k2,k3,k4,k5,k6,k7,f0,f1,f2,f3,f4,f5,f6,f7,hlt⟩:=Af hzk;have hzk2:Bk U (w.heap.size+1+1) 31 zeroCells:=hzk;unfold zeroCells at hzk2;obtain⟨y0,y1,y2,y3,y4,y5,y6,y7,z0,z1,z2,z3,z4,z5,z6,z7,hlt9⟩:=Af hzk2;clear hzk2 hzk;refine wp_region_held_drew (S:=(fun W=>((W.cell? ⟨W2.heap.size,0,none⟩=some (.slice (some ⟨g,0,none⟩) s.ready.length C1)∧W.cell? ⟨W2.heap.size,1,none⟩=some (.slice A4 (s.outs.length+1) C4)∧W.cell? ⟨W2.heap.size,2,none⟩=some (.slice A3 s.ae.length C3)∧W.cell? ⟨W2.heap.size,3,none⟩=some (.int .i64 s.ah)∧W.cell? ⟨W2.heap.size,4,none⟩=some (.int .i64 (s.af+1))∧W.cell? ⟨W2.heap.size,5,none⟩=some (.int .i64 s.aw)∧W.cell? ⟨W2.heap.size,6,none⟩=some (.int .i64 s.ar)∧W.cell? ⟨W2.heap.size,7,none⟩=some (.int .i64 s.dropped))∧W.cell? ⟨w.heap.size+1,4,none⟩=some (.int .i64 s.af)))) (by kernel_rfl) (by first|assumption|exact ks0) (fun hHeld=> ?_)
   first|(refine zH 0 ?_)|(refine zU 0 ?_)
   first|(refine zH 1 ?_)|(refine zU 1 ?_)
   first|(refine zH 2 ?_)|(refine zU 2 ?_)
   refine zR 3 fun K hK=> ?_;clear hHeld
   go_simp
   refine hK.out _ _ (KS.out _ _ _ _ _ _ _ _) (fun hHeld=> ?_);clear hK K
   try simp only[Act.put,zA,zB,zC,zD,zE,zF]
   (refine zH 4 ?_)
   (refine zH 5 ?_)
   refine wpAnyH_done (by kernel_rfl) ?_ _;clear ks0 hHeld;go_wp2_with fail
   refine bodyPost_ret (v:= .tuple #[.agg #[.slice (some ⟨g,0,none⟩) s.ready.length C1,.slice A4 (s.outs.length+1) C4,.slice A3 s.ae.length C3,.int .i64 s.ah,.int .i64 (s.af+1),.int .i64 s.aw,.int .i64 s.ar,.int .i64 s.dropped],.int .i64 s.af,.int .i64 0]) (by simp[results,Tryz.results71,go_sem,k0,k1,k2,k3,k4,k5,k6,k7,hlt,y0,y1,y2,y3,y4,y5,y6,y7,hlt9]) rfl ?_;have hfin:=((HZ2.out.1.kept (Al.dg HZS.out (ts:=[31]) (by decide) (.slice (some ⟨g,0,none⟩) s.ready.length C1) (.slice A4 (s.outs.length+1) C4) (.slice A3 s.ae.length C3) (.int .i64 s.ah) (.int .i64 (s.af+1)) (.int .i64 s.aw) (.int .i64 s.ar) (.int .i64 s.dropped))).kept (Al.drew [] _));obtain⟨_,e1,e2,e3⟩:=hfin.bc;refine⟨some ⟨g,0,none⟩,A4,A3,C1,C4,C3,_,?_,by rw[HGV.out];exact hfin.lens (Nat.le_of_lt (Nat.lt_trans (by omega) HLO.out)),(Ak (HBX.out _ HZ2.out.2.2).1.below (by omega) _ _ _ _ _ _ _ _).drew⟩;rw[HR.out.1,HR.out.2.1,HGV.out];unfold Ac Ag;dsimp only;rw[List.length_set,ze];rfl
 ·have b1:(De p s q != 0)=true:=by simp[hc]
  have HR:=zh (U5 hc);clear hc;have hzk:=(HBX.out _ HB1.out).2;unfold zeroCells at hzk;obtain⟨k0,k1,k2,k3,k4,k5,k6,k7,f0,f1,f2,f3,f4,f5,f6,f7,hlt⟩:=Af hzk;clear hzk;go_wp2_with fail
  refine bodyPost_ret (v:= .tuple #[Ac Ay none none none 0 0 0,.int .i64 0,.int .i64 (De p s q)]) (by simp[results,Tryz.results71,go_sem,Ac,Ag,Ay,k0,k1,k2,k3,k4,k5,k6,k7,hlt]) rfl
   ⟨none,none,none,0,0,0,[],by rw[HR.out.1,HR.out.2.1,HR.out.2.2],by rw[HR.out.2.2];exact Dx _ _,Ak (HBX.out _ HB1.out).1.below (by omega) _ _ _ _ _ _ _ _⟩
open Go.RowKit
theorem Zv {x:Ap} (h:Bi x=true):Ep x:=by
 unfold Bi at h;simp only[zc,zd] at h;obtain⟨⟨⟨⟨⟨h1,h2⟩,h3⟩,h4⟩,h5⟩,h6⟩:=h;have:=Q6 h1;unfold Ep;omega
theorem Amj:∀ {l:List (List Ap)} {r:List Ap},r∈l→r.length≤(l.map List.length).sum
 |x::l,r,h=>by
  rw[List.map_cons,List.sum_cons];rcases List.mem_cons.1 h with rfl|h
  ·omega
  ·have:=Amj h;omega
theorem L5 {n:Int} (h:countB n=true):0≤n∧n≤1048576:=by
 unfold countB at h;simpa [zc,zd] using h
theorem Cs.small {p:Ab} {s:Aa} (h:Cs p s):Am s:=by
 have h1:=L5 h.aw;have h2:=L5 h.ar;have h3:=L5 h.dropped;have hs:=h.sum;have hp:=(Ct h.bz).ag;have hm:=h.many;unfold Er at hs;refine⟨by rw[h.len];omega,by omega,by omega,fun l hl=>⟨?_,fun x hx=> ?_⟩,fun x hx=> ?_,by omega⟩
 ·have:=Amj hl
  omega
 ·exact Zv ((E7.1 (h.line l hl)).1 x hx)
 ·obtain⟨_,_,_,_,_,_,_,_,h8⟩:=O0 h.toFormed hx
  exact Zv h8
theorem J8 {n:Int} (h1: -1≤n) (h2:n≤1048576):i64 n:=by unfold i64;omega
theorem Cs.ints {p:Ab} {s:Aa} (h:Cs p s):Ba s:=by
 have h1:=L5 h.aw;have h2:=L5 h.ar;have h3:=L5 h.dropped;have h4:=L5 h.ah;have h5:=L5 h.af;have hp:=(Ct h.bz).ag;have hm:=h.many;have ht:∀x∈s.ae,-1≤x.queue∧x.queue≤1048576∧ -1≤x.cf∧x.cf≤1048576:=fun x hx=>by
  have:=h.bg x hx;unfold Im at this;simp only[zc,zd] at this;omega
 refine⟨J8 (by omega) (by omega),J8 (by omega) (by omega),J8 (by omega) (by omega),J8 (by omega) (by omega),J8 (by omega) (by omega),fun x hx=> ?_,fun x hx=> ?_⟩
 ·have:=ht x hx
  exact⟨J8 (by omega) (by omega),J8 (by omega) (by omega)⟩
 ·obtain⟨t,k1,k2,k3,k4,k5,k6,k7,_⟩:=O0 h.toFormed hx
  have:=ht t (List.mem_of_getElem? k1);exact⟨J8 (by omega) (by omega),J8 (by omega) (by omega),J8 (by omega) (by omega)⟩
theorem G4:Am Ay:=⟨by decide,by decide,by decide,(by intro l hl;cases hl),(by intro x hx;cases hx),by decide⟩
structure N0 (w:World) (g:Nat) (x:Aa) (a1 a2 a3:Option Addr) (c1 c2 c3:Nat) (rows:List Bq):Prop where
 bk:Bk w g 31 (Ag x a1 a2 a3 c1 c2 c3)
 at_:Ax w 0 w.heap.size a1 a2 a3 rows x
theorem N0.below {w w':World} {g:Nat} {x:Aa} {a1 a2 a3:Option Addr} {c1 c2 c3:Nat} {rows:List Bq} (h:N0 w g x a1 a2 a3 c1 c2 c3 rows) (hb:Below w.heap.size w w'):N0 w' g x a1 a2 a3 c1 c2 c3 rows:=
 ⟨h.bk.below hb h.bk.lt,(h.at_.below hb (zn _)).wider (zn _) hb.size⟩
theorem N0.new {w:World} {x:Aa} {a1 a2 a3:Option Addr} {rows:List Bq} (h:Ax w 0 w.heap.size a1 a2 a3 rows x) (c1 c2 c3:Nat):N0 (w.alloc (.cells (Ag x a1 a2 a3 c1 c2 c3) 31)) w.heap.size x a1 a2 a3 c1 c2 c3 rows:=
 ⟨Bk.new _ _ _,(h.below ((zb _ _).alloc (zn _) _) (zn _)).wider (zn _) (by simp)⟩
theorem N0.cells {w:World} {g:Nat} {x:Aa} {a1 a2 a3:Option Addr} {c1 c2 c3:Nat} {rows:List Bq} (h:N0 w g x a1 a2 a3 c1 c2 c3 rows):
  w.cell? ⟨g,0,none⟩=some (.slice a1 x.ready.length c1)∧w.cell? ⟨g,1,none⟩=some (.slice a2 x.outs.length c2)∧w.cell? ⟨g,2,none⟩=some (.slice a3 x.ae.length c3)∧w.cell? ⟨g,3,none⟩=some (.int .i64 x.ah)∧w.cell? ⟨g,4,none⟩=some (.int .i64 x.af)∧w.cell? ⟨g,5,none⟩=some (.int .i64 x.aw)∧w.cell? ⟨g,6,none⟩=some (.int .i64 x.ar)∧w.cell? ⟨g,7,none⟩=some (.int .i64 x.dropped):=
 Jl h.bk
theorem Cb {w0 w1:World} {x:Aa} {a1 a2 a3:Option Addr} {rows:List Bq} (c1 c2 c3:Nat) {lo:Nat} (h:Ax w1 lo w1.heap.size a1 a2 a3 rows x) (hb:Below w0.heap.size w0 w1) {W1:World} (hW:w1.alloc (.cells (Ag x a1 a2 a3 c1 c2 c3) 31)=W1):
  ∀W,Below W1.heap.size W1 W→N0 W w1.heap.size x a1 a2 a3 c1 c2 c3 rows∧Below w0.heap.size w0 W:=fun W h2=>by
 subst hW;exact⟨(N0.new (h.wider (Nat.zero_le _) (zn _)) c1 c2 c3).below h2,(hb.alloc hb.size _).trans (h2.mono (by have:=hb.size;simp;omega))⟩
theorem Sl.df {w:World} {lo hi:Nat} {a:Option Addr} {us:List Value} (h:Sl w lo hi a us) {p:Addr} (hp:p.block < lo∨hi≤p.block) (v:Value):Sl (w.setCell p v) lo hi a us:=by
 rcases h with h|⟨b,o,rfl,h1,h2,hc⟩
 ·exact .inl h
 ·refine .inr ⟨b,o,rfl,h1,h2,fun j u hu=> ?_⟩
  have he:=Below.heap_setCell w p v b (by omega);have:=hc j u hu;simp only[World.cell?] at this⊢;rw[he];exact this
theorem Ax.df {w:World} {lo hi:Nat} {a1 a2 a3:Option Addr} {rows:List Bq} {s:Aa} (h:Ax w lo hi a1 a2 a3 rows s) {p:Addr} (hp:p.block < lo∨hi≤p.block) (v:Value):Ax (w.setCell p v) lo hi a1 a2 a3 rows s:=
 ⟨h.same,h.ready.df hp v,fun r hr=>⟨(h.row r hr).1.df hp v,(h.row r hr).2⟩,h.outs.df hp v,h.ae.df hp v⟩
theorem Af5 {wd W:World} {g lo:Nat} {x:Aa} {a1 a2 a3:Option Addr} {c1 c2 c3:Nat} {rows:List Bq} {o0 o1 o2 o3 o4 o5 o6 o7:Value} (hs:Ax wd lo wd.heap.size a1 a2 a3 rows x) (hW:Below wd.heap.size wd W) (hk:Bk W g 31 #[o0,o1,o2,o3,o4,o5,o6,o7]) (hg:g < lo∨wd.heap.size≤g):
  N0 ((((((((W.setCell ⟨g,0,none⟩ (.slice a1 x.ready.length c1)).setCell ⟨g,1,none⟩ (.slice a2 x.outs.length c2)).setCell ⟨g,2,none⟩ (.slice a3 x.ae.length c3)).setCell ⟨g,3,none⟩ (.int .i64 x.ah)).setCell ⟨g,4,none⟩ (.int .i64 x.af)).setCell ⟨g,5,none⟩ (.int .i64 x.aw)).setCell ⟨g,6,none⟩ (.int .i64 x.ar)).setCell ⟨g,7,none⟩ (.int .i64 x.dropped)) g x a1 a2 a3 c1 c2 c3 rows:=by
 refine⟨?_,?_⟩
 ·have:=(((((((hk.ck 0 (.slice a1 x.ready.length c1)).ck 1 (.slice a2 x.outs.length c2)).ck 2 (.slice a3 x.ae.length c3)).ck 3 (.int .i64 x.ah)).ck 4 (.int .i64 x.af)).ck 5 (.int .i64 x.aw)).ck 6 (.int .i64 x.ar)).ck 7 (.int .i64 x.dropped)
  simpa [Ag] using this
 ·have h:=hs.below hW (zn _)
  have hs8:=((((((((h.df (p:=⟨g,0,none⟩) hg (.slice a1 x.ready.length c1)).df (p:=⟨g,1,none⟩) hg (.slice a2 x.outs.length c2)).df (p:=⟨g,2,none⟩) hg (.slice a3 x.ae.length c3)).df (p:=⟨g,3,none⟩) hg (.int .i64 x.ah)).df (p:=⟨g,4,none⟩) hg (.int .i64 x.af)).df (p:=⟨g,5,none⟩) hg (.int .i64 x.aw)).df (p:=⟨g,6,none⟩) hg (.int .i64 x.ar)).df (p:=⟨g,7,none⟩) hg (.int .i64 x.dropped));exact hs8.wider (Nat.zero_le _) (by have:=hW.size;simpa [World.setCell] using this)
end Go.Proofs.YtaanpcjkflhomaaGreatDoor
