/- Lemmas. -/
import Derived.Test.YtpkneogjdfolaaaGreatDoorBunI
set_option maxHeartbeats 20000000
set_option maxRecDepth 100000
set_option linter.unusedSimpArgs false
set_option linter.unusedVariables false
namespace Go.Proofs.YtpkneogjdfolaaaGreatDoor
open Go.RowKit
theorem Wn{p:Ab}{s:Aa}{q:Int}(h:Cz p s q≠0):Bj p s q=Cz p s q∧Ch p s q=0∧Bu p s q=Bd:=by
 have e:Bj p s q=Cz p s q:=by unfold Bj;rw[zp h]
 exact⟨e,by unfold Ch;rw[e,zq h],by unfold Bu;rw[e,zq h]⟩
theorem Wm{p:Ab}{s:Aa}{q:Int}(h:Cz p s q=0)(ht:s.af=1048576):Bj p s q=2∧Ch p s q=0∧Bu p s q=Bd:=by
 have e:Bj p s q=2:=by unfold Bj;rw[zq (by simp[h]),zp ht]
 exact⟨e,by unfold Ch;rw[e];rfl,by unfold Bu;rw[e];rfl⟩
theorem Ty{p:Ab}{s:Aa}{q:Int}(h:Cz p s q=0)(ht:s.af≠1048576):Bj p s q=0∧Ch p s q=s.af∧Bu p s q=Dw s q (Iw s q):=by
 have e:Bj p s q=0:=by unfold Bj;rw[zq (by simp[h]),zq ht]
 exact⟨e,by unfold Ch;rw[zp e],by unfold Bu;rw[zp e]⟩
theorem Aj9(ra:zZ)(n rc:Nat)(hn:1≤n)(W:zW):(Instr.slice 132 (.slice ra n rc) (some (.int .i64 1)) none none).run Tryz.prog W= .ok (.slice (E6 ra rc 1 5) (n - 1) (rc - 1)) W:=
 Mk (P:=Tryz.prog) (t:=132) (size:=5) Tryz.underlying132 Ho ra n rc 1 1 rfl hn W
theorem Qf(p:Ab)(s:Aa)(q:Int)(p1 p2 p3 a1 a2 a3:zZ)(q1 q2 q3 c1 c2 c3:Nat)(rows:List Bm)(w:zW)(hE:Env w)(hp:Au w 0 w.heap.size p1 p2 p3 p)(hps:Ai p)(hs:Av w 0 w.heap.size a1 a2 a3 rows s)(hss:Ap s)(hsi:A9 s):
  Calls Tryz.prog 140 #[Ay p p1 p2 p3 q1 q2 q3,Ad s a1 a2 a3 c1 c2 c3,.int .i64 q] w (Gj (Bu p s q) (Ch p s q) (Bj p s q) w):=by
 have hbx:=Cj q1 q2 q3 c1 c2 c3 hE hp hs 26 40;unfold Ag at hbx;unfold Ad Ay Ag;have htl:=hss.ae;have HPS:=zh hps;have HSS:=zh hss;have HSI:=zh hsi;clear hE hp hs hps hss hsi;go_enter Tryz.func140,Tryz.ntmps140
 obtain⟨⟨m0,m1,m2⟩,⟨n0,n1,n2,n3,n4,n5,n6,n7⟩,_,_,_,_⟩:=hbx _ ((zb _ _).alloc (zn _) (.cells zO 40));go_wp2_with fail
 clear m0 m1 m2 n0 n1 n2 n3 n4 n5 n6 n7;obtain⟨V0,hV0⟩:=zo ((w.alloc (.cells (zP p p1 p2 p3 q1 q2 q3) 26)).alloc (.cells (zV s a1 a2 a3 c1 c2 c3) 40));have hzV:V0.heap.size=w.heap.size+1+1:=by rw[←hV0];simp
 rw[hV0] at hbx;have HBV:=zh hbx;obtain⟨W0,hW0⟩:=zo (V0.alloc (.cells zO 40));have hbV:=zu hW0
 have HZ:Hid (W0.heap.size=w.heap.size+1+1+1):=by refine(?_:W0.heap.size=_);rw[←hW0,←hzV];simp
 have HBX:Hid (∀W,Below W0.heap.size W0 W→Me w p s p1 p2 p3 a1 a2 a3 q1 q2 q3 c1 c2 c3 rows W∧Bk W (w.heap.size+1+1) 40 zeroCells):=fun W hW=>by
  have k:Bk W0 (w.heap.size+1+1) 40 zeroCells:=by rw[←hW0];exact Bk.cg _ _ _ hzV.symm
  exact⟨HBV.out W (hbV.trans (hW.mono hbV.size)),k.below hW k.lt⟩
 rw[hV0,hW0];clear hbx hbV hzV HBV hV0 hW0;refine(Ahr p s q p1 p2 p3 a1 a2 a3 q1 q2 q3 c1 c2 c3 rows W0 (HBX.out _ (zb _ _)).1.env (HBX.out _ (zb _ _)).1.bu HPS.out (HBX.out _ (zb _ _)).1.bc HSS.out HSI.out).mono ?_;rintro e W1 ⟨rfl,hb1⟩;have HB1:=zh hb1;clear hb1;by_cases hc:Cz p s q=0
 ·have b1:(Cz p s q != 0)=false:=by simp[hc]
  obtain⟨h0,h1,hbn⟩:=Kg.1 hc;obtain⟨hR,hq0,hq1⟩:=Fl.1 h0;have hnn:Md p s q=Iw s q:=by unfold Md;rw[zp hc]
  have hnt:0≤s.af∧s.af≤1048576:=by
   have:=hR.af;unfold countB at this;simpa [zc,zd] using this
  obtain⟨bi,hbi,_,_⟩:=X6 hR hbn;obtain⟨k,rfl⟩:∃k:Nat,q=(k:Int):=⟨q.toNat,by omega⟩;have hkr:k < s.ready.length:=by rw[hR.len];omega
  obtain⟨rest,hline,hrow⟩:=Mw hc;rw[Int.toNat_natCast] at hrow;generalize hx:G9 s (k:Int)=x at hline hrow;have hrl:=HSS.out.ready;have hol:=HSS.out.outs;have HLN:Hid (Ak s (k:Int)=x::rest):=hline;have HX:=zh hx;have HROW:=zh hrow;have HBN:Hid (Iw s (k:Int)=(bi:Int)):=hbi;rw[hnn,HBN.out];have HC:=zh hc;clear h0 h1 hbn hR hq0 hq1 hnn hbi hline hrow hx hc;obtain⟨_,⟨n0,n1,n2,n3,n4,n5,n6,n7⟩,_,_,_,_⟩:=(HBX.out _ HB1.out).1;by_cases ht:s.af=1048576
  ·have HR:=zh (Wm HC.out ht)
   have b4:(s.af == 1048576)=true:=by simp[ht]
   clear ht;obtain⟨k0,k1,k2,k3,k4,k5,k6,k7,f0,f1,f2,f3,f4,f5,f6,f7,hlt⟩:=Af (HBX.out _ HB1.out).2;go_wp2_with fail
   refine bodyPost_ret (v:= .tuple #[Ad Bd none none none 0 0 0,.int .i64 0,.int .i64 2]) (by simp[results,Tryz.results140,go_sem,Ad,Ag,Bd,k0,k1,k2,k3,k4,k5,k6,k7,hlt]) rfl
    ⟨none,none,none,0,0,0,[],by rw[HR.out.1,HR.out.2.1,HR.out.2.2],by rw[HR.out.2.2];exact Dm _ _,Al (HBX.out _ HB1.out).1.below (by omega) _ _ _ _ _ _ _ _⟩
  ·have HR:=zh (Ty HC.out ht)
   have b4:(s.af == 1048576)=false:=by simp[ht]
   have hn1:s.af+1≤1048576:=by omega
   have hlim:(0:Int)≤(k:Int)∧(k:Int) < (s.ready.length:Int):=by omega
   obtain⟨hlim0,hlim1⟩:=hlim;clear ht;go_wp2_with fail
   refine(Aat s a1 a2 a3 c1 c2 c3 rows W1 (HBX.out _ HB1.out).1.bc HSS.out).mono ?_;rintro e W2 ⟨v1,v2,v3,rows2,rfl,ho,hb2⟩;obtain⟨A1,C1,rfl,_⟩:=Ae ho.ready;obtain⟨A2,C2,rfl,_⟩:=Ae ho.outs;obtain⟨A3,C3,rfl,hC3⟩:=Ae ho.ae;have HB2:=zm HB1 hb2;have hlo:w.heap.size+1+1 < W1.heap.size:=by have:=HB1.out.size;have:=HZ.out;omega
   have HLO:=zh hlo;have hbb2:=hb2.size;clear n0 n1 n2 n3 n4 n5 n6 n7 hlo hb2;have hX:Below W0.heap.size W0 (W2.alloc (.cells (zV s A1 A2 A3 C1 C2 C3) 40)):=HB2.out.alloc HB2.out.size _;have hxo:=ho.below ((zb _ W2).alloc (zn _) (.cells (zV s A1 A2 A3 C1 C2 C3) 40));have hxd:=Bk.new W2 40 (zV s A1 A2 A3 C1 C2 C3);obtain⟨n0,n1,n2,n3,n4,n5,n6,n7,_,_,_,_,_,_,_,_,hlt2⟩:=Af hxd;have HLT2:Hid (W1.heap.size≤W2.heap.size):=hbb2;have HLT:Hid (w.heap.size+1+1 < W2.heap.size):=by refine(?_:w.heap.size+1+1 < W2.heap.size);have:=HB2.out.size;have:=HZ.out;omega
   unfold Ey;go_upto_region 8 with fail
   clear n0 n1 n2 n3 n4 n5 n6 n7 hlt2;obtain⟨X,hXX⟩:=zo (W2.alloc (.cells (zV s A1 A2 A3 C1 C2 C3) 40));rw[hXX] at hX hxo hxd;rw[hXX];clear hXX ho;obtain⟨g,rfl⟩:=Fs hxo.ready (by omega);obtain⟨n0,n1,n2,n3,n4,n5,n6,n7,g0,g1,g2,g3,g4,g5,g6,g7,hltX⟩:=Af hxd;go_upto_region 9 with fail
   clear n0 n1 n2 n3 n4 n5 n6 n7 g0 g1 g2 g3 g4 g5 g6 g7 hltX;have hky:Ah [40] X (X.setCell ⟨W2.heap.size,4,none⟩ (.int .i64 (s.af+1))):=Ah.set hxd (by decide) 4 _;have hyh:=(hxo.held.kept hky);have hyd:Bk (X.setCell ⟨W2.heap.size,4,none⟩ (.int .i64 (s.af+1))) W2.heap.size 40 #[.slice (some ⟨g,0,none⟩) s.ready.length C1,.slice A2 s.outs.length C2,.slice A3 s.ae.length C3,.int .i64 s.ah,.int .i64 (s.af+1),.int .i64 s.aw,.int .i64 s.ar,.int .i64 s.dropped]:=hxd.ck 4 _;have hyb:Below W0.heap.size W0 (X.setCell ⟨W2.heap.size,4,none⟩ (.int .i64 (s.af+1))):=hX.setCell (p:=⟨W2.heap.size,4,none⟩) (by show W0.heap.size≤W2.heap.size;exact HB2.out.size) _;obtain⟨Y,hYY⟩:=zo (X.setCell ⟨W2.heap.size,4,none⟩ (.int .i64 (s.af+1)));rw[hYY] at hyh hyd hyb;rw[hYY];clear hYY hxo hxd hX hky;obtain⟨ra,rc,hrc,hsl,hcell⟩:=hyh.rowAt rfl HROW.out;obtain⟨rb,ro,rfl,hlrb,hitem⟩:=hsl.head;obtain⟨nl,hnl⟩:=zo ((x::rest).length);have hnl1:1≤nl:=by rw[←hnl];exact Nat.succ_le_succ (Nat.zero_le _)
   rw[hnl] at hcell hrc;have hnl0:0 < nl:=hnl1;have hcut:=Aj9 (some ⟨rb,ro,none⟩) nl rc hnl1;have HTAIL:Hid (SlT Y W1.heap.size 113 (E6 (some ⟨rb,ro,none⟩) rc 1 5) (rest.flatMap Ax)∧rest.length=nl - 1∧rest.length≤rc - 1):=by
    have hl2:((x::rest).flatMap Ax).length=nl * 5:=by rw[Dd Cu,hnl]
    have h:=hsl.cut (k:=1) hl2 hnl1 hrc;have hd:((x::rest).flatMap Ax).drop (1 * 5)=rest.flatMap Ax:=by rw[List.flatMap_cons];rfl
    rw[hd] at h;have hl:rest.length=nl - 1:=by rw[←hnl];rfl
    exact⟨h,hl,by omega⟩
   have HNL:=zh hnl;clear hsl hnl;have KS:Hid (∀W,Ah [115,40] Y W→W.cell? ⟨W2.heap.size,0,none⟩=some (.slice (some ⟨g,0,none⟩) s.ready.length C1)→(zM W W2.heap.size 0 (.slice (some ⟨g,0,none⟩) s.ready.length C1)∧zM W g k (.slice (some ⟨rb,ro,none⟩) nl rc)∧zM W rb ro (.int .i64 x.seq)∧zM W rb (ro+1) (.string x.key)∧zM W rb (ro+2) (.string x.body)∧zM W rb (ro+3) (.bool x.again)∧zM W rb (ro+4) (.int .i64 x.au))):=fun W hW h0=>⟨h0,(hcell _ W (by decide) hW).1,hitem _ W (by decide) hW⟩;have HCELL:Hid (∀W,Ah [115,40] Y W→zM W g k (.slice (some ⟨rb,ro,none⟩) nl rc)∧W.frozen? ⟨g,k,none⟩=false∧g < W.heap.size):=fun W hW=>hcell _ W (by decide) hW;clear hcell hitem;have k0:=KS.out Y.drew (Ah.drew _ Y) (hyd.cell 0);have k1:=KS.out (Y.drew.alloc (.cells #[.int .i64 s.af,.int .i64 (bi:Int),.int .i64 (k:Int),.int .i64 x.seq,.string x.key,.string x.body,.bool x.again,.int .i64 x.au] 115)) ((Ah.drew _ Y).trans (Ah.alloc _ Y.drew _)) ((Bk.alloc (w:=Y.drew) hyd _).cell 0);have t0:Y.drew.cell? ⟨W2.heap.size,1,none⟩=some (.slice A2 s.outs.length C2):=hyd.cell 1;have t1:Y.cell? ⟨W2.heap.size,1,none⟩=some (.slice A2 s.outs.length C2):=hyd.cell 1;have t2:(Y.drew.alloc (.cells #[.int .i64 s.af,.int .i64 (bi:Int),.int .i64 (k:Int),.int .i64 x.seq,.string x.key,.string x.body,.bool x.again,.int .i64 x.au] 115)).cell? ⟨W2.heap.size,1,none⟩=some (.slice A2 s.outs.length C2):=(Bk.alloc (w:=Y.drew) hyd _).cell 1;have t3:(Y.alloc (.cells #[.int .i64 s.af,.int .i64 (bi:Int),.int .i64 (k:Int),.int .i64 x.seq,.string x.key,.string x.body,.bool x.again,.int .i64 x.au] 115)).cell? ⟨W2.heap.size,1,none⟩=some (.slice A2 s.outs.length C2):=(Bk.alloc hyd _).cell 1;have hbase:W1.heap.size≤Y.heap.size:=by have h1:=hyd.lt;have h2:=HLT2.out;omega
   have HOW:Hid ((Y.drew.alloc (.cells #[.int .i64 s.af,.int .i64 (bi:Int),.int .i64 (k:Int),.int .i64 x.seq,.string x.key,.string x.body,.bool x.again,.int .i64 x.au] 115)).ownsRow W1.heap.size 115 8 (.slice A2 s.outs.length C2) s.outs.length (s.outs.flatMap D6)∧W1.heap.size≤(Y.drew.alloc (.cells #[.int .i64 s.af,.int .i64 (bi:Int),.int .i64 (k:Int),.int .i64 x.seq,.string x.key,.string x.body,.bool x.again,.int .i64 x.au] 115)).heap.size):=by
    have h:Y.drew.ownsRow W1.heap.size 115 8 (.slice A2 s.outs.length C2) s.outs.length (s.outs.flatMap D6):=hyh.outs.drew;exact⟨h.alloc _,zr hbase (by simp)⟩
   have HYH:=zh hyh;have HYD:=zh hyd;have HYB:=zh hyb;clear hyh hyd hyb hbase;refine wp_region_held_drew (S:=(fun W=>(zM W W2.heap.size 0 (.slice (some ⟨g,0,none⟩) s.ready.length C1)∧zM W g k (.slice (some ⟨rb,ro,none⟩) nl rc)∧zM W rb ro (.int .i64 x.seq)∧zM W rb (ro+1) (.string x.key)∧zM W rb (ro+2) (.string x.body)∧zM W rb (ro+3) (.bool x.again)∧zM W rb (ro+4) (.int .i64 x.au)))) (by kernel_rfl) (by first|assumption|exact k0) (fun hHeld=> ?_)
   first|(refine zH 0 ?_)|(refine zU 0 ?_)
   first|(refine zH 2 ?_)|(refine zU 2 ?_)
   first|(refine zH 3 ?_)|(refine zU 3 ?_)
   first|(refine zH 4 ?_)|(refine zU 4 ?_)
   first|(refine zH 5 ?_)|(refine zU 5 ?_)
   first|(refine zH 6 ?_)|(refine zU 6 ?_)
   first|(refine zH 7 ?_)|(refine zU 7 ?_)
   first|(refine zH 8 ?_)|(refine zU 8 ?_)
   first|(refine zH 9 ?_)|(refine zU 9 ?_)
   first|(refine zH 10 ?_)|(refine zU 10 ?_)
   first|(refine zH 11 ?_)|(refine zU 11 ?_)
   first|(refine zH 12 ?_)|(refine zU 12 ?_)
   refine zR2 1 13 (fun K hK=> ?_) (fun K hK=> ?_)
   ·go_simp
    refine zk hK (by first|assumption|exact k0|exact k1) (fun hHeld=> ?_);clear hK K
    refine zR 13 fun K hK=> ?_
    go_simp
    refine zk hK (by first|assumption|exact k0|exact k1) (fun hHeld=> ?_);clear hK K
    refine zR 14 fun K hK=> ?_;rw[zp (by rfl)];refine Akh (.tmp 36) (.tmp 48) rfl rfl HOW.out.1 rfl HOW.out.2 (m:=1) (news:=D6 (⟨s.af,(bi:Int),(k:Int),x⟩:D8)) rfl (by omega) (Sl.new Y.drew (D6 (⟨s.af,(bi:Int),(k:Int),x⟩:D8)) 115 (Y.drew.heap.size+1) (by omega)) (Xj _) ?_;rintro v4 w4 ho4 hg4;obtain⟨A4,C4,rfl,_⟩:=Ae ho4;have hk4:Ah [115] (Y.drew.alloc (.cells #[.int .i64 s.af,.int .i64 (bi:Int),.int .i64 (k:Int),.int .i64 x.seq,.string x.key,.string x.body,.bool x.again,.int .i64 x.au] 115)) w4:=Ah.grown HOW.out.1 hg4 (by decide);have hk5:Ah [115] Y w4:=(Ah.trans (Ah.drew _ Y) (Ah.alloc _ Y.drew _)).trans hk4;have hd4:Bk w4 W2.heap.size 40 #[.slice (some ⟨g,0,none⟩) s.ready.length C1,.slice A2 s.outs.length C2,.slice A3 s.ae.length C3,.int .i64 s.ah,.int .i64 (s.af+1),.int .i64 s.aw,.int .i64 s.ar,.int .i64 s.dropped]:=hk5 _ _ _ (by decide) HYD.out;have hk6:Ah [40] w4 (w4.setCell ⟨W2.heap.size,1,none⟩ (.slice A4 (s.outs.length+1) C4)):=Ah.set hd4 (by decide) 1 _;have hk7:Ah [115,40] Y (w4.setCell ⟨W2.heap.size,1,none⟩ (.slice A4 (s.outs.length+1) C4)):=(hk5.more (by decide)).trans (hk6.more (by decide));have hd6:Bk (w4.setCell ⟨W2.heap.size,1,none⟩ (.slice A4 (s.outs.length+1) C4)) W2.heap.size 40 #[.slice (some ⟨g,0,none⟩) s.ready.length C1,.slice A4 (s.outs.length+1) C4,.slice A3 s.ae.length C3,.int .i64 s.ah,.int .i64 (s.af+1),.int .i64 s.aw,.int .i64 s.ar,.int .i64 s.dropped]:=hd4.ck 1 _;have k4:=KS.out w4 (hk5.more (by decide)) (hd4.cell 0);have k6:=KS.out _ hk7 (hd6.cell 0);have c4:=hd4.cell 1;have f4:=hd4.frozen 1;have l4:=hd4.lt;have HW4:=zh (zi ho4 (zi hg4 (zi hk5 (zi hk6 (zi hd6 hk7)))));clear ho4 hg4 hk4 hk5 hd4 hk6 hk7 hd6;refine zk hK (by first|assumption|exact k0|exact k1|exact k4|exact k6) (fun hHeld=> ?_);clear hK K
    refine zH 15 ?_
    refine zR 16 fun K hK=> ?_
    go_simp
    refine zk hK (by first|assumption|exact k0|exact k1|exact k4|exact k6) (fun hHeld=> ?_);clear hK K
    refine zx ?_;clear k0 k1 k4 k6 t0 t1 t2 t3 c4 f4 l4 hHeld;go_wp2_with fail
    have HZ9:Hid (Ca (w4.setCell ⟨W2.heap.size,1,none⟩ (.slice A4 (s.outs.length+1) C4)) W1.heap.size (.slice (some ⟨g,0,none⟩) s.ready.length C1) (.slice A4 (s.outs.length+1) C4) (.slice A3 s.ae.length C3) rows2 { s with outs:=s.outs++[(⟨s.af,(bi:Int),(k:Int),x⟩:D8)] } ∧Bk (w4.setCell ⟨W2.heap.size,1,none⟩ (.slice A4 (s.outs.length+1) C4)) W2.heap.size 40 #[.slice (some ⟨g,0,none⟩) s.ready.length C1,.slice A4 (s.outs.length+1) C4,.slice A3 s.ae.length C3,.int .i64 s.ah,.int .i64 (s.af+1),.int .i64 s.aw,.int .i64 s.ar,.int .i64 s.dropped]∧Below W0.heap.size W0 (w4.setCell ⟨W2.heap.size,1,none⟩ (.slice A4 (s.outs.length+1) C4))∧Ah [115,40] Y (w4.setCell ⟨W2.heap.size,1,none⟩ (.slice A4 (s.outs.length+1) C4))):=by
     obtain⟨ho4,hg4,hk5,hk6,hd6,hk7⟩:=HW4.out;refine⟨(HYH.out.outsTo (l:=s.outs++[(⟨s.af,(bi:Int),(k:Int),x⟩:D8)]) hk5 ?_).kept hk6,hd6,(Br HOW.out.1 hg4 (HYB.out.drew.alloc HYB.out.size _) HB1.out.size (zr HYB.out.size (by simp))).setCell (p:=⟨W2.heap.size,1,none⟩) (by show W0.heap.size≤W2.heap.size;exact HB2.out.size) _,hk7⟩;rw[ze,List.flatMap_append];exact ho4
    obtain⟨Z,hZZ⟩:=zo (w4.setCell ⟨W2.heap.size,1,none⟩ (.slice A4 (s.outs.length+1) C4));rw[hZZ] at HZ9;rw[hZZ];clear hZZ HW4;have e0:Z.drew.cell? ⟨W2.heap.size,0,none⟩=some (.slice (some ⟨g,0,none⟩) s.ready.length C1):=HZ9.out.2.1.cell 0;have z0:Z.drew.cell? ⟨g,k,none⟩=some (.slice (some ⟨rb,ro,none⟩) nl rc):=(HCELL.out Z HZ9.out.2.2.2).1;have z1:Z.cell? ⟨g,k,none⟩=some (.slice (some ⟨rb,ro,none⟩) nl rc):=(HCELL.out Z HZ9.out.2.2.2).1;have z2:Z.frozen? ⟨g,k,none⟩=false:=(HCELL.out Z HZ9.out.2.2.2).2.1;have z3:g < Z.heap.size:=(HCELL.out Z HZ9.out.2.2.2).2.2;have HZR:Hid (Ca ((Z.setCell ⟨g,k,none⟩ (.slice (E6 (some ⟨rb,ro,none⟩) rc 1 5) (nl - 1) (rc - 1))).drew) W1.heap.size (.slice (some ⟨g,0,none⟩) s.ready.length C1) (.slice A4 (s.outs.length+1) C4) (.slice A3 s.ae.length C3) (rows2.set k ⟨E6 (some ⟨rb,ro,none⟩) rc 1 5,rc - 1,rest⟩) ⟨s.ready.set k rest,s.outs++[(⟨s.af,(bi:Int),(k:Int),x⟩:D8)],s.ae,s.ah,s.af+1,s.aw,s.ar,s.dropped⟩∧Bk ((Z.setCell ⟨g,k,none⟩ (.slice (E6 (some ⟨rb,ro,none⟩) rc 1 5) (nl - 1) (rc - 1))).drew) W2.heap.size 40 #[.slice (some ⟨g,0,none⟩) s.ready.length C1,.slice A4 (s.outs.length+1) C4,.slice A3 s.ae.length C3,.int .i64 s.ah,.int .i64 (s.af+1),.int .i64 s.aw,.int .i64 s.ar,.int .i64 s.dropped]∧Below W0.heap.size W0 ((Z.setCell ⟨g,k,none⟩ (.slice (E6 (some ⟨rb,ro,none⟩) rc 1 5) (nl - 1) (rc - 1))).drew)):=by
     obtain⟨h1,h2,h3,h4⟩:=HZ9.out;obtain⟨t1,t2,t3⟩:=HTAIL.out;have hd:=(h1.kept (Ah.drew [] Z)).rowSet (k:=k) rfl (E6 (some ⟨rb,ro,none⟩) rc 1 5) (rc - 1) rest (t1.keep (h4.trans (Ah.drew _ Z)) (by decide)) t3;rw[t2] at hd;refine⟨hd.1.nums _ _ _ _ _,hd.2 _ _ _ (by decide) h2,h3.drew.setCell (p:=⟨g,k,none⟩) ?_ _⟩;have:=(h1.ready.lt g rfl).1
     show W0.heap.size≤g
     exact zr HB1.out.size this
    have e1:((Z.setCell ⟨g,k,none⟩ (.slice (E6 (some ⟨rb,ro,none⟩) rc 1 5) (nl - 1) (rc - 1))).drew).cell? ⟨W2.heap.size,0,none⟩=some (.slice (some ⟨g,0,none⟩) s.ready.length C1):=HZR.out.2.1.cell 0;refine Kl [(0,false),(1,false),(2,false),(3,false),(4,false),(5,false),(6,false),(7,true),(8,false),(9,false),(10,true)] (by kernel_rfl) (fun hOrd=> ?_);refine Rt (S:=(fun W=>W.cell? ⟨W2.heap.size,0,none⟩=some (.slice (some ⟨g,0,none⟩) s.ready.length C1))) hOrd (by kernel_rfl) (by first|assumption|exact e0|exact e1) (fun hHeld=> ?_);clear hOrd
    iterate 11 ((first|(refine zT ?_)|(refine zL ?_)|(refine NW.call rfl (fun K hK=> ?_);go_simp;refine zk hK (by first|assumption|exact e0|exact e1) (fun hHeld=> ?_);clear hK K)))
    refine NW.done ?_;clear e0 e1 z0 z1 z2 z3 hHeld hcut;obtain⟨U,hUU⟩:=zo ((Z.setCell ⟨g,k,none⟩ (.slice (E6 (some ⟨rb,ro,none⟩) rc 1 5) (nl - 1) (rc - 1))).drew);rw[hUU] at HZR;rw[hUU];clear hUU;have HGV:Hid (Bu p s (k:Int)=⟨s.ready.set k rest,s.outs++[(⟨s.af,(bi:Int),(k:Int),x⟩:D8)],s.ae,s.ah,s.af+1,s.aw,s.ar,s.dropped⟩):=by
     refine(?_:Bu p s (k:Int)=_);rw[HR.out.2.2,HBN.out];unfold Dw;rw[Int.toNat_natCast,HLN.out,HX.out];rfl
    obtain⟨n0,n1,n2,n3,n4,n5,n6,n7,_,_,_,_,_,_,_,_,hlt2⟩:=Af HZR.out.2.1;have hzk:=(HBX.out _ HZR.out.2.2).2;have HZS:=zh hzk;unfold zeroCells at hzk;obtain⟨k0,k1,k2,k3,k4,k5,k6,k7,f0,f1,f2,f3,f4,f5,f6,f7,hlt⟩:=Af hzk;clear hzk;go_wp2_with fail
    refine bodyPost_ret (v:= .tuple #[.agg #[.slice (some ⟨g,0,none⟩) s.ready.length C1,.slice A4 (s.outs.length+1) C4,.slice A3 s.ae.length C3,.int .i64 s.ah,.int .i64 (s.af+1),.int .i64 s.aw,.int .i64 s.ar,.int .i64 s.dropped],.int .i64 s.af,.int .i64 0]) (by simp[results,Tryz.results140,go_sem,k0,k1,k2,k3,k4,k5,k6,k7,hlt]) rfl ?_;have hfin:=HZR.out.1.kept (Ah.dg HZS.out (ts:=[40]) (by decide) (.slice (some ⟨g,0,none⟩) s.ready.length C1) (.slice A4 (s.outs.length+1) C4) (.slice A3 s.ae.length C3) (.int .i64 s.ah) (.int .i64 (s.af+1)) (.int .i64 s.aw) (.int .i64 s.ar) (.int .i64 s.dropped));obtain⟨_,e1,e2,e3⟩:=hfin.bc;refine⟨some ⟨g,0,none⟩,A4,A3,C1,C4,C3,_,?_,by rw[HGV.out];exact hfin.lens (Nat.le_of_lt (Nat.lt_trans (by omega) HLO.out)),Al (HBX.out _ HZR.out.2.2).1.below (by omega) _ _ _ _ _ _ _ _⟩;rw[HR.out.1,HR.out.2.1,HGV.out];unfold Ad Ag;dsimp only;rw[List.length_set,ze];rfl
   ·go_simp
    refine zk hK (by first|assumption|exact k0|exact k1) (fun hHeld=> ?_);clear hK K
    refine zR 1 fun K hK=> ?_
    go_simp
    refine zk hK (by first|assumption|exact k0|exact k1) (fun hHeld=> ?_);clear hK K
    refine zR 14 fun K hK=> ?_;rw[zp (by rfl)];refine Akh (.tmp 36) (.tmp 48) rfl rfl HOW.out.1 rfl HOW.out.2 (m:=1) (news:=D6 (⟨s.af,(bi:Int),(k:Int),x⟩:D8)) rfl (by omega) (Sl.new Y.drew (D6 (⟨s.af,(bi:Int),(k:Int),x⟩:D8)) 115 (Y.drew.heap.size+1) (by omega)) (Xj _) ?_;rintro v4 w4 ho4 hg4;obtain⟨A4,C4,rfl,_⟩:=Ae ho4;have hk4:Ah [115] (Y.drew.alloc (.cells #[.int .i64 s.af,.int .i64 (bi:Int),.int .i64 (k:Int),.int .i64 x.seq,.string x.key,.string x.body,.bool x.again,.int .i64 x.au] 115)) w4:=Ah.grown HOW.out.1 hg4 (by decide);have hk5:Ah [115] Y w4:=(Ah.trans (Ah.drew _ Y) (Ah.alloc _ Y.drew _)).trans hk4;have hd4:Bk w4 W2.heap.size 40 #[.slice (some ⟨g,0,none⟩) s.ready.length C1,.slice A2 s.outs.length C2,.slice A3 s.ae.length C3,.int .i64 s.ah,.int .i64 (s.af+1),.int .i64 s.aw,.int .i64 s.ar,.int .i64 s.dropped]:=hk5 _ _ _ (by decide) HYD.out;have hk6:Ah [40] w4 (w4.setCell ⟨W2.heap.size,1,none⟩ (.slice A4 (s.outs.length+1) C4)):=Ah.set hd4 (by decide) 1 _;have hk7:Ah [115,40] Y (w4.setCell ⟨W2.heap.size,1,none⟩ (.slice A4 (s.outs.length+1) C4)):=(hk5.more (by decide)).trans (hk6.more (by decide));have hd6:Bk (w4.setCell ⟨W2.heap.size,1,none⟩ (.slice A4 (s.outs.length+1) C4)) W2.heap.size 40 #[.slice (some ⟨g,0,none⟩) s.ready.length C1,.slice A4 (s.outs.length+1) C4,.slice A3 s.ae.length C3,.int .i64 s.ah,.int .i64 (s.af+1),.int .i64 s.aw,.int .i64 s.ar,.int .i64 s.dropped]:=hd4.ck 1 _;have k4:=KS.out w4 (hk5.more (by decide)) (hd4.cell 0);have k6:=KS.out _ hk7 (hd6.cell 0);have c4:=hd4.cell 1;have f4:=hd4.frozen 1;have l4:=hd4.lt;have HW4:=zh (zi ho4 (zi hg4 (zi hk5 (zi hk6 (zi hd6 hk7)))));clear ho4 hg4 hk4 hk5 hd4 hk6 hk7 hd6;refine zk hK (by first|assumption|exact k0|exact k1|exact k4|exact k6) (fun hHeld=> ?_);clear hK K
    refine zH 15 ?_
    refine zR 16 fun K hK=> ?_
    go_simp
    refine zk hK (by first|assumption|exact k0|exact k1|exact k4|exact k6) (fun hHeld=> ?_);clear hK K
    refine zx ?_;clear k0 k1 k4 k6 t0 t1 t2 t3 c4 f4 l4 hHeld;go_wp2_with fail
    have HZ9:Hid (Ca (w4.setCell ⟨W2.heap.size,1,none⟩ (.slice A4 (s.outs.length+1) C4)) W1.heap.size (.slice (some ⟨g,0,none⟩) s.ready.length C1) (.slice A4 (s.outs.length+1) C4) (.slice A3 s.ae.length C3) rows2 { s with outs:=s.outs++[(⟨s.af,(bi:Int),(k:Int),x⟩:D8)] } ∧Bk (w4.setCell ⟨W2.heap.size,1,none⟩ (.slice A4 (s.outs.length+1) C4)) W2.heap.size 40 #[.slice (some ⟨g,0,none⟩) s.ready.length C1,.slice A4 (s.outs.length+1) C4,.slice A3 s.ae.length C3,.int .i64 s.ah,.int .i64 (s.af+1),.int .i64 s.aw,.int .i64 s.ar,.int .i64 s.dropped]∧Below W0.heap.size W0 (w4.setCell ⟨W2.heap.size,1,none⟩ (.slice A4 (s.outs.length+1) C4))∧Ah [115,40] Y (w4.setCell ⟨W2.heap.size,1,none⟩ (.slice A4 (s.outs.length+1) C4))):=by
     obtain⟨ho4,hg4,hk5,hk6,hd6,hk7⟩:=HW4.out;refine⟨(HYH.out.outsTo (l:=s.outs++[(⟨s.af,(bi:Int),(k:Int),x⟩:D8)]) hk5 ?_).kept hk6,hd6,(Br HOW.out.1 hg4 (HYB.out.drew.alloc HYB.out.size _) HB1.out.size (zr HYB.out.size (by simp))).setCell (p:=⟨W2.heap.size,1,none⟩) (by show W0.heap.size≤W2.heap.size;exact HB2.out.size) _,hk7⟩;rw[ze,List.flatMap_append];exact ho4
    obtain⟨Z,hZZ⟩:=zo (w4.setCell ⟨W2.heap.size,1,none⟩ (.slice A4 (s.outs.length+1) C4));rw[hZZ] at HZ9;rw[hZZ];clear hZZ HW4;have e0:Z.drew.cell? ⟨W2.heap.size,0,none⟩=some (.slice (some ⟨g,0,none⟩) s.ready.length C1):=HZ9.out.2.1.cell 0;have z0:Z.drew.cell? ⟨g,k,none⟩=some (.slice (some ⟨rb,ro,none⟩) nl rc):=(HCELL.out Z HZ9.out.2.2.2).1;have z1:Z.cell? ⟨g,k,none⟩=some (.slice (some ⟨rb,ro,none⟩) nl rc):=(HCELL.out Z HZ9.out.2.2.2).1;have z2:Z.frozen? ⟨g,k,none⟩=false:=(HCELL.out Z HZ9.out.2.2.2).2.1;have z3:g < Z.heap.size:=(HCELL.out Z HZ9.out.2.2.2).2.2;have HZR:Hid (Ca ((Z.setCell ⟨g,k,none⟩ (.slice (E6 (some ⟨rb,ro,none⟩) rc 1 5) (nl - 1) (rc - 1))).drew) W1.heap.size (.slice (some ⟨g,0,none⟩) s.ready.length C1) (.slice A4 (s.outs.length+1) C4) (.slice A3 s.ae.length C3) (rows2.set k ⟨E6 (some ⟨rb,ro,none⟩) rc 1 5,rc - 1,rest⟩) ⟨s.ready.set k rest,s.outs++[(⟨s.af,(bi:Int),(k:Int),x⟩:D8)],s.ae,s.ah,s.af+1,s.aw,s.ar,s.dropped⟩∧Bk ((Z.setCell ⟨g,k,none⟩ (.slice (E6 (some ⟨rb,ro,none⟩) rc 1 5) (nl - 1) (rc - 1))).drew) W2.heap.size 40 #[.slice (some ⟨g,0,none⟩) s.ready.length C1,.slice A4 (s.outs.length+1) C4,.slice A3 s.ae.length C3,.int .i64 s.ah,.int .i64 (s.af+1),.int .i64 s.aw,.int .i64 s.ar,.int .i64 s.dropped]∧Below W0.heap.size W0 ((Z.setCell ⟨g,k,none⟩ (.slice (E6 (some ⟨rb,ro,none⟩) rc 1 5) (nl - 1) (rc - 1))).drew)):=by
     obtain⟨h1,h2,h3,h4⟩:=HZ9.out;obtain⟨t1,t2,t3⟩:=HTAIL.out;have hd:=(h1.kept (Ah.drew [] Z)).rowSet (k:=k) rfl (E6 (some ⟨rb,ro,none⟩) rc 1 5) (rc - 1) rest (t1.keep (h4.trans (Ah.drew _ Z)) (by decide)) t3;rw[t2] at hd;refine⟨hd.1.nums _ _ _ _ _,hd.2 _ _ _ (by decide) h2,h3.drew.setCell (p:=⟨g,k,none⟩) ?_ _⟩;have:=(h1.ready.lt g rfl).1
     show W0.heap.size≤g
     exact zr HB1.out.size this
    have e1:((Z.setCell ⟨g,k,none⟩ (.slice (E6 (some ⟨rb,ro,none⟩) rc 1 5) (nl - 1) (rc - 1))).drew).cell? ⟨W2.heap.size,0,none⟩=some (.slice (some ⟨g,0,none⟩) s.ready.length C1):=HZR.out.2.1.cell 0;refine Kl [(0,false),(1,false),(2,false),(3,false),(4,false),(5,false),(6,false),(7,true),(8,false),(9,false),(10,true)] (by kernel_rfl) (fun hOrd=> ?_);refine Rt (S:=(fun W=>W.cell? ⟨W2.heap.size,0,none⟩=some (.slice (some ⟨g,0,none⟩) s.ready.length C1))) hOrd (by kernel_rfl) (by first|assumption|exact e0|exact e1) (fun hHeld=> ?_);clear hOrd
    iterate 11 ((first|(refine zT ?_)|(refine zL ?_)|(refine NW.call rfl (fun K hK=> ?_);go_simp;refine zk hK (by first|assumption|exact e0|exact e1) (fun hHeld=> ?_);clear hK K)))
    refine NW.done ?_;clear e0 e1 z0 z1 z2 z3 hHeld hcut;obtain⟨U,hUU⟩:=zo ((Z.setCell ⟨g,k,none⟩ (.slice (E6 (some ⟨rb,ro,none⟩) rc 1 5) (nl - 1) (rc - 1))).drew);rw[hUU] at HZR;rw[hUU];clear hUU;have HGV:Hid (Bu p s (k:Int)=⟨s.ready.set k rest,s.outs++[(⟨s.af,(bi:Int),(k:Int),x⟩:D8)],s.ae,s.ah,s.af+1,s.aw,s.ar,s.dropped⟩):=by
     refine(?_:Bu p s (k:Int)=_);rw[HR.out.2.2,HBN.out];unfold Dw;rw[Int.toNat_natCast,HLN.out,HX.out];rfl
    obtain⟨n0,n1,n2,n3,n4,n5,n6,n7,_,_,_,_,_,_,_,_,hlt2⟩:=Af HZR.out.2.1;have hzk:=(HBX.out _ HZR.out.2.2).2;have HZS:=zh hzk;unfold zeroCells at hzk;obtain⟨k0,k1,k2,k3,k4,k5,k6,k7,f0,f1,f2,f3,f4,f5,f6,f7,hlt⟩:=Af hzk;clear hzk;go_wp2_with fail
    refine bodyPost_ret (v:= .tuple #[.agg #[.slice (some ⟨g,0,none⟩) s.ready.length C1,.slice A4 (s.outs.length+1) C4,.slice A3 s.ae.length C3,.int .i64 s.ah,.int .i64 (s.af+1),.int .i64 s.aw,.int .i64 s.ar,.int .i64 s.dropped],.int .i64 s.af,.int .i64 0]) (by simp[results,Tryz.results140,go_sem,k0,k1,k2,k3,k4,k5,k6,k7,hlt]) rfl ?_;have hfin:=HZR.out.1.kept (Ah.dg HZS.out (ts:=[40]) (by decide) (.slice (some ⟨g,0,none⟩) s.ready.length C1) (.slice A4 (s.outs.length+1) C4) (.slice A3 s.ae.length C3) (.int .i64 s.ah) (.int .i64 (s.af+1)) (.int .i64 s.aw) (.int .i64 s.ar) (.int .i64 s.dropped));obtain⟨_,e1,e2,e3⟩:=hfin.bc;refine⟨some ⟨g,0,none⟩,A4,A3,C1,C4,C3,_,?_,by rw[HGV.out];exact hfin.lens (Nat.le_of_lt (Nat.lt_trans (by omega) HLO.out)),Al (HBX.out _ HZR.out.2.2).1.below (by omega) _ _ _ _ _ _ _ _⟩;rw[HR.out.1,HR.out.2.1,HGV.out];unfold Ad Ag;dsimp only;rw[List.length_set,ze];rfl
 ·have b1:(Cz p s q != 0)=true:=by simp[hc]
  have HR:=zh (Wn hc);clear hc;obtain⟨k0,k1,k2,k3,k4,k5,k6,k7,f0,f1,f2,f3,f4,f5,f6,f7,hlt⟩:=Af (HBX.out _ HB1.out).2;go_wp2_with fail
  refine bodyPost_ret (v:= .tuple #[Ad Bd none none none 0 0 0,.int .i64 0,.int .i64 (Cz p s q)]) (by simp[results,Tryz.results140,go_sem,Ad,Ag,Bd,k0,k1,k2,k3,k4,k5,k6,k7,hlt]) rfl
   ⟨none,none,none,0,0,0,[],by rw[HR.out.1,HR.out.2.1,HR.out.2.2],by rw[HR.out.2.2];exact Dm _ _,Al (HBX.out _ HB1.out).1.below (by omega) _ _ _ _ _ _ _ _⟩
theorem Mm(p:Ab)(s:Aa)(q:Int)(p1 p2 p3 a1 a2 a3:zZ)(q1 q2 q3 c1 c2 c3:Nat)(rows:List Bm)(w:zW)(hE:Env w)(hp:Au w 0 w.heap.size p1 p2 p3 p)(hps:Ai p)(hs:Av w 0 w.heap.size a1 a2 a3 rows s)(hss:Ap s)(hsi:A9 s):
  Calls Tryz.prog 65 #[Ay p p1 p2 p3 q1 q2 q3,Ad s a1 a2 a3 c1 c2 c3,.int .i64 q] w (Gj (Bu p s q) (Ch p s q) (Bj p s q) w):=by
 have hbx:=Cj q1 q2 q3 c1 c2 c3 hE hp hs 26 40;unfold Ag at hbx;unfold Ad Ay Ag;have htl:=hss.ae;have HPS:=zh hps;have HSS:=zh hss;have HSI:=zh hsi;clear hE hp hs hps hss hsi;go_enter Tryz.func65,Tryz.ntmps65
 obtain⟨⟨m0,m1,m2⟩,⟨n0,n1,n2,n3,n4,n5,n6,n7⟩,_,_,_,_⟩:=hbx _ ((zb _ _).alloc (zn _) (.cells zO 40));go_wp2_with fail
 clear m0 m1 m2 n0 n1 n2 n3 n4 n5 n6 n7;obtain⟨V0,hV0⟩:=zo ((w.alloc (.cells (zP p p1 p2 p3 q1 q2 q3) 26)).alloc (.cells (zV s a1 a2 a3 c1 c2 c3) 40));have hzV:V0.heap.size=w.heap.size+1+1:=by rw[←hV0];simp
 rw[hV0] at hbx;have HBV:=zh hbx;obtain⟨W0,hW0⟩:=zo (V0.alloc (.cells zO 40));have hbV:=zu hW0
 have HZ:Hid (W0.heap.size=w.heap.size+1+1+1):=by refine(?_:W0.heap.size=_);rw[←hW0,←hzV];simp
 have HBX:Hid (∀W,Below W0.heap.size W0 W→Me w p s p1 p2 p3 a1 a2 a3 q1 q2 q3 c1 c2 c3 rows W∧Bk W (w.heap.size+1+1) 40 zeroCells):=fun W hW=>by
  have k:Bk W0 (w.heap.size+1+1) 40 zeroCells:=by rw[←hW0];exact Bk.cg _ _ _ hzV.symm
  exact⟨HBV.out W (hbV.trans (hW.mono hbV.size)),k.below hW k.lt⟩
 rw[hV0,hW0];clear hbx hbV hzV HBV hV0 hW0;refine(Afx p s q p1 p2 p3 a1 a2 a3 q1 q2 q3 c1 c2 c3 rows W0 (HBX.out _ (zb _ _)).1.env (HBX.out _ (zb _ _)).1.bu HPS.out (HBX.out _ (zb _ _)).1.bc HSS.out HSI.out).mono ?_;rintro e W1 ⟨rfl,hb1⟩;have HB1:=zh hb1;clear hb1;by_cases hc:Cz p s q=0
 ·have b1:(Cz p s q != 0)=false:=by simp[hc]
  obtain⟨h0,h1,hbn⟩:=Kg.1 hc;obtain⟨hR,hq0,hq1⟩:=Fl.1 h0;have hnn:Md p s q=Iw s q:=by unfold Md;rw[zp hc]
  have hnt:0≤s.af∧s.af≤1048576:=by
   have:=hR.af;unfold countB at this;simpa [zc,zd] using this
  obtain⟨bi,hbi,_,_⟩:=X6 hR hbn;obtain⟨k,rfl⟩:∃k:Nat,q=(k:Int):=⟨q.toNat,by omega⟩;have hkr:k < s.ready.length:=by rw[hR.len];omega
  obtain⟨rest,hline,hrow⟩:=Mw hc;rw[Int.toNat_natCast] at hrow;generalize hx:G9 s (k:Int)=x at hline hrow;have hrl:=HSS.out.ready;have hol:=HSS.out.outs;have HLN:Hid (Ak s (k:Int)=x::rest):=hline;have HX:=zh hx;have HROW:=zh hrow;have HBN:Hid (Iw s (k:Int)=(bi:Int)):=hbi;rw[hnn,HBN.out];have HC:=zh hc;clear h0 h1 hbn hR hq0 hq1 hnn hbi hline hrow hx hc;obtain⟨_,⟨n0,n1,n2,n3,n4,n5,n6,n7⟩,_,_,_,_⟩:=(HBX.out _ HB1.out).1;by_cases ht:s.af=1048576
  ·have HR:=zh (Wm HC.out ht)
   have b4:(s.af == 1048576)=true:=by simp[ht]
   clear ht;obtain⟨k0,k1,k2,k3,k4,k5,k6,k7,f0,f1,f2,f3,f4,f5,f6,f7,hlt⟩:=Af (HBX.out _ HB1.out).2;go_wp2_with fail
   refine bodyPost_ret (v:= .tuple #[Ad Bd none none none 0 0 0,.int .i64 0,.int .i64 2]) (by simp[results,Tryz.results65,go_sem,Ad,Ag,Bd,k0,k1,k2,k3,k4,k5,k6,k7,hlt]) rfl
    ⟨none,none,none,0,0,0,[],by rw[HR.out.1,HR.out.2.1,HR.out.2.2],by rw[HR.out.2.2];exact Dm _ _,Al (HBX.out _ HB1.out).1.below (by omega) _ _ _ _ _ _ _ _⟩
  ·have HR:=zh (Ty HC.out ht)
   have b4:(s.af == 1048576)=false:=by simp[ht]
   have hn1:s.af+1≤1048576:=by omega
   have hlim:(0:Int)≤(k:Int)∧(k:Int) < (s.ready.length:Int):=by omega
   obtain⟨hlim0,hlim1⟩:=hlim;clear ht;go_wp2_with fail
   refine(Ke s a1 a2 a3 c1 c2 c3 rows W1 (HBX.out _ HB1.out).1.bc HSS.out).mono ?_;rintro e W2 ⟨v1,v2,v3,rows2,rfl,ho,hb2⟩;obtain⟨A1,C1,rfl,_⟩:=Ae ho.ready;obtain⟨A2,C2,rfl,_⟩:=Ae ho.outs;obtain⟨A3,C3,rfl,hC3⟩:=Ae ho.ae;have HB2:=zm HB1 hb2;have hlo:w.heap.size+1+1 < W1.heap.size:=by have:=HB1.out.size;have:=HZ.out;omega
   have HLO:=zh hlo;have hbb2:=hb2.size;clear n0 n1 n2 n3 n4 n5 n6 n7 hlo hb2;have hX:Below W0.heap.size W0 (W2.alloc (.cells (zV s A1 A2 A3 C1 C2 C3) 40)):=HB2.out.alloc HB2.out.size _;have hxo:=ho.below ((zb _ W2).alloc (zn _) (.cells (zV s A1 A2 A3 C1 C2 C3) 40));have hxd:=Bk.new W2 40 (zV s A1 A2 A3 C1 C2 C3);obtain⟨n0,n1,n2,n3,n4,n5,n6,n7,_,_,_,_,_,_,_,_,hlt2⟩:=Af hxd;have HLT2:Hid (W1.heap.size≤W2.heap.size):=hbb2;have HLT:Hid (w.heap.size+1+1 < W2.heap.size):=by refine(?_:w.heap.size+1+1 < W2.heap.size);have:=HB2.out.size;have:=HZ.out;omega
   unfold Ey;go_upto_region 7 with fail
   clear n0 n1 n2 n3 n4 n5 n6 n7 hlt2;obtain⟨X,hXX⟩:=zo (W2.alloc (.cells (zV s A1 A2 A3 C1 C2 C3) 40));rw[hXX] at hX hxo hxd;rw[hXX];clear hXX ho;obtain⟨g,rfl⟩:=Fs hxo.ready (by omega);have hyh:=hxo.held;obtain⟨ra,rc,hrc,hsl,hcell⟩:=hyh.rowAt rfl HROW.out;obtain⟨rb,ro,rfl,hlrb,hitem⟩:=hsl.head;obtain⟨nl,hnl⟩:=zo ((x::rest).length);have hnl1:1≤nl:=by rw[←hnl];exact Nat.succ_le_succ (Nat.zero_le _)
   rw[hnl] at hcell hrc;have hnl0:0 < nl:=hnl1;have hcut:=Aj9 (some ⟨rb,ro,none⟩) nl rc hnl1;have HTAIL:Hid (SlT X W1.heap.size 113 (E6 (some ⟨rb,ro,none⟩) rc 1 5) (rest.flatMap Ax)∧rest.length=nl - 1∧rest.length≤rc - 1):=by
    have hl2:((x::rest).flatMap Ax).length=nl * 5:=by rw[Dd Cu,hnl]
    have h:=hsl.cut (k:=1) hl2 hnl1 hrc;have hd:((x::rest).flatMap Ax).drop (1 * 5)=rest.flatMap Ax:=by rw[List.flatMap_cons];rfl
    rw[hd] at h;have hl:rest.length=nl - 1:=by rw[←hnl];rfl
    exact⟨h,hl,by omega⟩
   have HNL:=zh hnl;clear hsl hnl;have t0:=(hcell [] X (by decide) (Ah.refl _ _)).1;obtain⟨i0,i1,i2,i3,i4⟩:=hitem [] X (by decide) (Ah.refl _ _);obtain⟨d0,_⟩:=Af hxd;go_upto_region 8 with fail
   clear t0 i0 i1 i2 i3 i4 d0;have hx1:Ca (X.alloc (.cells (zY x) 113)) W1.heap.size (.slice (some ⟨g,0,none⟩) s.ready.length C1) (.slice A2 s.outs.length C2) (.slice A3 s.ae.length C3) rows2 s:=hyh.kept (Ah.alloc [] X _);have hd1:Bk (X.alloc (.cells (zY x) 113)) W2.heap.size 40 (zV s (some ⟨g,0,none⟩) A2 A3 C1 C2 C3):=hxd.alloc _;have hi1:=Bk.new X 113 (zY x);have hb1:=hX.alloc hX.size (.cells (zY x) 113);have hk1:Ah [] X (X.alloc (.cells (zY x) 113)):=Ah.alloc [] X _;obtain⟨X1,hX1⟩:=zo (X.alloc (.cells (zY x) 113));rw[hX1] at hx1 hd1 hi1 hb1 hk1;rw[hX1];clear hX1;have e0:X1.drew.cell? ⟨W2.heap.size,0,none⟩=some (.slice (some ⟨g,0,none⟩) s.ready.length C1):=hd1.cell 0;have hcx:=hcell [] X1 (by decide) hk1;have z0:X1.drew.cell? ⟨g,k,none⟩=some (.slice (some ⟨rb,ro,none⟩) nl rc):=hcx.1;have z1:X1.cell? ⟨g,k,none⟩=some (.slice (some ⟨rb,ro,none⟩) nl rc):=hcx.1;have z2:X1.frozen? ⟨g,k,none⟩=false:=hcx.2.1;have z3:g < X1.heap.size:=hcx.2.2;have HY:Hid (Ca ((X1.setCell ⟨g,k,none⟩ (.slice (E6 (some ⟨rb,ro,none⟩) rc 1 5) (nl - 1) (rc - 1))).drew) W1.heap.size (.slice (some ⟨g,0,none⟩) s.ready.length C1) (.slice A2 s.outs.length C2) (.slice A3 s.ae.length C3) (rows2.set k ⟨E6 (some ⟨rb,ro,none⟩) rc 1 5,rc - 1,rest⟩) { s with ready:=s.ready.set k rest } ∧Bk ((X1.setCell ⟨g,k,none⟩ (.slice (E6 (some ⟨rb,ro,none⟩) rc 1 5) (nl - 1) (rc - 1))).drew) W2.heap.size 40 (zV s (some ⟨g,0,none⟩) A2 A3 C1 C2 C3)∧Bk ((X1.setCell ⟨g,k,none⟩ (.slice (E6 (some ⟨rb,ro,none⟩) rc 1 5) (nl - 1) (rc - 1))).drew) X.heap.size 113 (zY x)∧Below W0.heap.size W0 ((X1.setCell ⟨g,k,none⟩ (.slice (E6 (some ⟨rb,ro,none⟩) rc 1 5) (nl - 1) (rc - 1))).drew)):=by
    obtain⟨t1,t2,t3⟩:=HTAIL.out;have hd:=(hx1.kept (Ah.drew [] X1)).rowSet (k:=k) rfl (E6 (some ⟨rb,ro,none⟩) rc 1 5) (rc - 1) rest (t1.keep (hk1.trans (Ah.drew _ X1)) (by decide)) t3;rw[t2] at hd;refine⟨hd.1,hd.2 _ _ _ (by decide) hd1,hd.2 _ _ _ (by decide) hi1,hb1.drew.setCell (p:=⟨g,k,none⟩) ?_ _⟩;have:=(hx1.ready.lt g rfl).1
    show W0.heap.size≤g
    exact zr HB1.out.size this
   have e1:((X1.setCell ⟨g,k,none⟩ (.slice (E6 (some ⟨rb,ro,none⟩) rc 1 5) (nl - 1) (rc - 1))).drew).cell? ⟨W2.heap.size,0,none⟩=some (.slice (some ⟨g,0,none⟩) s.ready.length C1):=HY.out.2.1.cell 0;clear hx1 hd1 hi1 hb1 hk1 hcx hxo hxd hX hyh hcell hitem;refine Kl [(0,false),(1,false),(2,false),(3,false),(4,false),(5,false),(6,false),(7,true),(8,false),(9,false),(10,true)] (by kernel_rfl) (fun hOrd=> ?_);refine Rt (S:=(fun W=>W.cell? ⟨W2.heap.size,0,none⟩=some (.slice (some ⟨g,0,none⟩) s.ready.length C1))) hOrd (by kernel_rfl) (by first|assumption|exact e0|exact e1) (fun hHeld=> ?_);clear hOrd
   iterate 11 ((first|(refine zT ?_)|(refine zL ?_)|(refine NW.call rfl (fun K hK=> ?_);go_simp;refine zk hK (by first|assumption|exact e0|exact e1) (fun hHeld=> ?_);clear hK K)))
   refine NW.done ?_;clear e0 e1 z0 z1 z2 z3 hHeld hcut;obtain⟨Y,hYY⟩:=zo ((X1.setCell ⟨g,k,none⟩ (.slice (E6 (some ⟨rb,ro,none⟩) rc 1 5) (nl - 1) (rc - 1))).drew);rw[hYY] at HY;rw[hYY];clear hYY HTAIL;obtain⟨_,t1,t4,_⟩:=(⟨HY.out.2.1.cell 0,HY.out.2.1.cell 1,HY.out.2.1.cell 4,trivial⟩:zM Y W2.heap.size 0 (.slice (some ⟨g,0,none⟩) s.ready.length C1)∧zM Y W2.heap.size 1 (.slice A2 s.outs.length C2)∧zM Y W2.heap.size 4 (.int .i64 s.af)∧True);have i0:Y.cell? ⟨X.heap.size,0,none⟩=some (.int .i64 x.seq):=HY.out.2.2.1.cell 0;have i1:Y.cell? ⟨X.heap.size,1,none⟩=some (.string x.key):=HY.out.2.2.1.cell 1;have i2:Y.cell? ⟨X.heap.size,2,none⟩=some (.string x.body):=HY.out.2.2.1.cell 2;have i3:Y.cell? ⟨X.heap.size,3,none⟩=some (.bool x.again):=HY.out.2.2.1.cell 3;have i4:Y.cell? ⟨X.heap.size,4,none⟩=some (.int .i64 x.au):=HY.out.2.2.1.cell 4;obtain⟨_,⟨_,_,_,_,n4,_⟩,_,_,_,_⟩:=(HBX.out _ HY.out.2.2.2).1;have hbase:W1.heap.size≤Y.heap.size:=by have h1:=HY.out.2.1.lt;have h2:=HLT2.out;omega
   have HOU:Hid (Y.ownsRow W1.heap.size 115 8 (.slice A2 s.outs.length C2) s.outs.length (s.outs.flatMap D6)):=HY.out.1.outs;go_upto_region 10 with(at_builtin;refine Em rfl _ _ 37 rfl W1.heap.size 115 Ov Tryz.underlying37 rfl (by decide) (by decide) Y _ _ _ rfl HOU.out [.int .i64 s.af,.int .i64 (bi:Int),.int .i64 (k:Int),.int .i64 x.seq,.string x.key,.string x.body,.bool x.again,.int .i64 x.au] rfl rfl rfl (Xj (⟨s.af,(bi:Int),(k:Int),x⟩:D8)) (by omega) hbase ?_;intro v4 w4 ho4 hg4;obtain⟨A4,C4,rfl,_⟩:=Ae ho4;have hk4:Ah [115] Y w4:=Ah.grown HY.out.1.outs hg4 (by decide);have hd4:=hk4 _ _ _ (by decide) HY.out.2.1;have d4:=hd4.cell 1;have fz4:=hd4.frozen 1;have hlt4:=hd4.lt;have HW4:=zh (zi ho4 (zi hg4 (zi hk4 hd4)));clear ho4 hg4 hk4 hd4)
   clear d4 fz4 hlt4 t1 t4 i0 i1 i2 i3 i4 n4;have HZ:Hid (Ca (w4.setCell ⟨W2.heap.size,1,none⟩ (.slice A4 (s.outs.length+1) C4)) W1.heap.size (.slice (some ⟨g,0,none⟩) s.ready.length C1) (.slice A4 (s.outs.length+1) C4) (.slice A3 s.ae.length C3) (rows2.set k ⟨E6 (some ⟨rb,ro,none⟩) rc 1 5,rc - 1,rest⟩) ⟨s.ready.set k rest,s.outs++[(⟨s.af,(bi:Int),(k:Int),x⟩:D8)],s.ae,s.ah,s.af,s.aw,s.ar,s.dropped⟩∧Bk (w4.setCell ⟨W2.heap.size,1,none⟩ (.slice A4 (s.outs.length+1) C4)) W2.heap.size 40 #[.slice (some ⟨g,0,none⟩) s.ready.length C1,.slice A4 (s.outs.length+1) C4,.slice A3 s.ae.length C3,.int .i64 s.ah,.int .i64 s.af,.int .i64 s.aw,.int .i64 s.ar,.int .i64 s.dropped]∧Below W0.heap.size W0 (w4.setCell ⟨W2.heap.size,1,none⟩ (.slice A4 (s.outs.length+1) C4))):=by
    obtain⟨ho4,hg4,hk4,hd4⟩:=HW4.out;have hk6:Ah [40] w4 (w4.setCell ⟨W2.heap.size,1,none⟩ (.slice A4 (s.outs.length+1) C4)):=Ah.set hd4 (by decide) 1 _;refine⟨(HY.out.1.outsTo (l:=s.outs++[(⟨s.af,(bi:Int),(k:Int),x⟩:D8)]) hk4 ?_).kept hk6,hd4.ck 1 _,(Br HY.out.1.outs hg4 HY.out.2.2.2 HB1.out.size HY.out.2.2.2.size).setCell (p:=⟨W2.heap.size,1,none⟩) (by show W0.heap.size≤W2.heap.size;exact HB2.out.size) _⟩;rw[ze,List.flatMap_append];exact ho4
   obtain⟨Z,hZZ⟩:=zo (w4.setCell ⟨W2.heap.size,1,none⟩ (.slice A4 (s.outs.length+1) C4));rw[hZZ] at HZ;rw[hZZ];clear hZZ HW4 HY hbase;have t4:=HZ.out.2.1.cell 4;have f4:=HZ.out.2.1.frozen 4;have l4:=HZ.out.2.1.lt;go_upto_region 11 with fail
   clear t4 f4 l4;have HZ2:Hid (Ca (Z.setCell ⟨W2.heap.size,4,none⟩ (.int .i64 (s.af+1))) W1.heap.size (.slice (some ⟨g,0,none⟩) s.ready.length C1) (.slice A4 (s.outs.length+1) C4) (.slice A3 s.ae.length C3) (rows2.set k ⟨E6 (some ⟨rb,ro,none⟩) rc 1 5,rc - 1,rest⟩) ⟨s.ready.set k rest,s.outs++[(⟨s.af,(bi:Int),(k:Int),x⟩:D8)],s.ae,s.ah,s.af+1,s.aw,s.ar,s.dropped⟩∧Bk (Z.setCell ⟨W2.heap.size,4,none⟩ (.int .i64 (s.af+1))) W2.heap.size 40 #[.slice (some ⟨g,0,none⟩) s.ready.length C1,.slice A4 (s.outs.length+1) C4,.slice A3 s.ae.length C3,.int .i64 s.ah,.int .i64 (s.af+1),.int .i64 s.aw,.int .i64 s.ar,.int .i64 s.dropped]∧Below W0.heap.size W0 (Z.setCell ⟨W2.heap.size,4,none⟩ (.int .i64 (s.af+1)))):=by
    obtain⟨h1,h2,h3⟩:=HZ.out;have hk6:Ah [40] Z (Z.setCell ⟨W2.heap.size,4,none⟩ (.int .i64 (s.af+1))):=Ah.set h2 (by decide) 4 _;exact⟨(h1.kept hk6).nums _ _ _ _ _,h2.ck 4 _,h3.setCell (p:=⟨W2.heap.size,4,none⟩) (by show W0.heap.size≤W2.heap.size;exact HB2.out.size) _⟩
   obtain⟨U,hUU⟩:=zo (Z.setCell ⟨W2.heap.size,4,none⟩ (.int .i64 (s.af+1)));rw[hUU] at HZ2;rw[hUU];clear hUU HZ;have HGV:Hid (Bu p s (k:Int)=⟨s.ready.set k rest,s.outs++[(⟨s.af,(bi:Int),(k:Int),x⟩:D8)],s.ae,s.ah,s.af+1,s.aw,s.ar,s.dropped⟩):=by
    refine(?_:Bu p s (k:Int)=_);rw[HR.out.2.2,HBN.out];unfold Dw;rw[Int.toNat_natCast,HLN.out,HX.out];rfl
   have ks0:(fun W:zW=>((zM W W2.heap.size 0 (.slice (some ⟨g,0,none⟩) s.ready.length C1)∧zM W W2.heap.size 1 (.slice A4 (s.outs.length+1) C4)∧zM W W2.heap.size 2 (.slice A3 s.ae.length C3)∧zM W W2.heap.size 3 (.int .i64 s.ah)∧zM W W2.heap.size 4 (.int .i64 (s.af+1))∧zM W W2.heap.size 5 (.int .i64 s.aw)∧zM W W2.heap.size 6 (.int .i64 s.ar)∧zM W W2.heap.size 7 (.int .i64 s.dropped))∧zM W (w.heap.size+1) 4 (.int .i64 s.af))) U.drew:=⟨Hm (w:=U.drew) HZ2.out.2.1,by
    obtain⟨_,⟨_,_,_,_,n4,_⟩,_,_,_,_⟩:=(HBX.out _ HZ2.out.2.2).1;exact n4⟩
   have KS:Hid (∀u0 u1 u2 u3 u4 u5 u6 u7,(fun W:zW=>((zM W W2.heap.size 0 (.slice (some ⟨g,0,none⟩) s.ready.length C1)∧zM W W2.heap.size 1 (.slice A4 (s.outs.length+1) C4)∧zM W W2.heap.size 2 (.slice A3 s.ae.length C3)∧zM W W2.heap.size 3 (.int .i64 s.ah)∧zM W W2.heap.size 4 (.int .i64 (s.af+1))∧zM W W2.heap.size 5 (.int .i64 s.aw)∧zM W W2.heap.size 6 (.int .i64 s.ar)∧zM W W2.heap.size 7 (.int .i64 s.dropped))∧zM W (w.heap.size+1) 4 (.int .i64 s.af))) (((((((((U.setCell ⟨w.heap.size+1+1,0,none⟩ u0).setCell ⟨w.heap.size+1+1,1,none⟩ u1).setCell ⟨w.heap.size+1+1,2,none⟩ u2).setCell ⟨w.heap.size+1+1,3,none⟩ u3).setCell ⟨w.heap.size+1+1,4,none⟩ u4).setCell ⟨w.heap.size+1+1,5,none⟩ u5).setCell ⟨w.heap.size+1+1,6,none⟩ u6).setCell ⟨w.heap.size+1+1,7,none⟩ u7).drew)):=fun u0 u1 u2 u3 u4 u5 u6 u7=>⟨Hm (w:=((((((((U.setCell ⟨w.heap.size+1+1,0,none⟩ u0).setCell ⟨w.heap.size+1+1,1,none⟩ u1).setCell ⟨w.heap.size+1+1,2,none⟩ u2).setCell ⟨w.heap.size+1+1,3,none⟩ u3).setCell ⟨w.heap.size+1+1,4,none⟩ u4).setCell ⟨w.heap.size+1+1,5,none⟩ u5).setCell ⟨w.heap.size+1+1,6,none⟩ u6).setCell ⟨w.heap.size+1+1,7,none⟩ u7).drew) (Bk.dr (Sn (W:=U) HZ2.out.2.1 (by have:=HLT.out;omega) u0 u1 u2 u3 u4 u5 u6 u7)),by
    obtain⟨_,⟨_,_,_,_,n4,_⟩,_,_,_,_⟩:=(HBX.out _ HZ2.out.2.2).1;exact Ak4 (W:=U) (by omega) n4 u0 u1 u2 u3 u4 u5 u6 u7⟩
   have hzk:Bk U.drew (w.heap.size+1+1) 40 zeroCells:=(HBX.out _ HZ2.out.2.2).2;have HZS:Hid (Bk U (w.heap.size+1+1) 40 zeroCells):=hzk;unfold zeroCells at hzk;obtain⟨k0,k1,k2,k3,k4,k5,k6,k7,f0,f1,f2,f3,f4,f5,f6,f7,hlt⟩:=Af hzk;have hzk2:Bk U (w.heap.size+1+1) 40 zeroCells:=hzk;unfold zeroCells at hzk2;obtain⟨y0,y1,y2,y3,y4,y5,y6,y7,z0,z1,z2,z3,z4,z5,z6,z7,hlt9⟩:=Af hzk2;clear hzk2 hzk;refine wp_region_held_drew (S:=(fun W=>((zM W W2.heap.size 0 (.slice (some ⟨g,0,none⟩) s.ready.length C1)∧zM W W2.heap.size 1 (.slice A4 (s.outs.length+1) C4)∧zM W W2.heap.size 2 (.slice A3 s.ae.length C3)∧zM W W2.heap.size 3 (.int .i64 s.ah)∧zM W W2.heap.size 4 (.int .i64 (s.af+1))∧zM W W2.heap.size 5 (.int .i64 s.aw)∧zM W W2.heap.size 6 (.int .i64 s.ar)∧zM W W2.heap.size 7 (.int .i64 s.dropped))∧zM W (w.heap.size+1) 4 (.int .i64 s.af)))) (by kernel_rfl) (by first|assumption|exact ks0) (fun hHeld=> ?_)
   first|(refine zH 0 ?_)|(refine zU 0 ?_)
   first|(refine zH 1 ?_)|(refine zU 1 ?_)
   first|(refine zH 2 ?_)|(refine zU 2 ?_)
   refine zR 3 fun K hK=> ?_;clear hHeld
   go_simp
   refine hK.out _ _ (KS.out _ _ _ _ _ _ _ _) (fun hHeld=> ?_);clear hK K
   try simp only[Act.put,zA,zB,zC,zD,zE,zF]
   refine zH 4 ?_;refine zH 5 ?_
   refine zx ?_;clear ks0 hHeld;go_wp2_with fail
   refine bodyPost_ret (v:= .tuple #[.agg #[.slice (some ⟨g,0,none⟩) s.ready.length C1,.slice A4 (s.outs.length+1) C4,.slice A3 s.ae.length C3,.int .i64 s.ah,.int .i64 (s.af+1),.int .i64 s.aw,.int .i64 s.ar,.int .i64 s.dropped],.int .i64 s.af,.int .i64 0]) (by simp[results,Tryz.results65,go_sem,k0,k1,k2,k3,k4,k5,k6,k7,hlt,y0,y1,y2,y3,y4,y5,y6,y7,hlt9]) rfl ?_;have hfin:=((HZ2.out.1.kept (Ah.dg HZS.out (ts:=[40]) (by decide) (.slice (some ⟨g,0,none⟩) s.ready.length C1) (.slice A4 (s.outs.length+1) C4) (.slice A3 s.ae.length C3) (.int .i64 s.ah) (.int .i64 (s.af+1)) (.int .i64 s.aw) (.int .i64 s.ar) (.int .i64 s.dropped))).kept (Ah.drew [] _));obtain⟨_,e1,e2,e3⟩:=hfin.bc;refine⟨some ⟨g,0,none⟩,A4,A3,C1,C4,C3,_,?_,by rw[HGV.out];exact hfin.lens (Nat.le_of_lt (Nat.lt_trans (by omega) HLO.out)),(Al (HBX.out _ HZ2.out.2.2).1.below (by omega) _ _ _ _ _ _ _ _).drew⟩;rw[HR.out.1,HR.out.2.1,HGV.out];unfold Ad Ag;dsimp only;rw[List.length_set,ze];rfl
 ·have b1:(Cz p s q != 0)=true:=by simp[hc]
  have HR:=zh (Wn hc);clear hc;obtain⟨k0,k1,k2,k3,k4,k5,k6,k7,f0,f1,f2,f3,f4,f5,f6,f7,hlt⟩:=Af (HBX.out _ HB1.out).2;go_wp2_with fail
  refine bodyPost_ret (v:= .tuple #[Ad Bd none none none 0 0 0,.int .i64 0,.int .i64 (Cz p s q)]) (by simp[results,Tryz.results65,go_sem,Ad,Ag,Bd,k0,k1,k2,k3,k4,k5,k6,k7,hlt]) rfl
   ⟨none,none,none,0,0,0,[],by rw[HR.out.1,HR.out.2.1,HR.out.2.2],by rw[HR.out.2.2];exact Dm _ _,Al (HBX.out _ HB1.out).1.below (by omega) _ _ _ _ _ _ _ _⟩
theorem Abz{x:Ao}(h:Bl x=true):Er x:=by
 unfold Bl at h;simp only[zc,zd] at h;obtain⟨⟨⟨⟨⟨h1,h2⟩,h3⟩,h4⟩,h5⟩,h6⟩:=h;have:=Ry h1;unfold Er;omega
theorem Ans:∀ {l:List (List Ao)} {r:List Ao},r∈l→r.length≤(l.map List.length).sum
 |x::l,r,h=>by
  rw[List.map_cons,List.sum_cons];rcases List.mem_cons.1 h with rfl|h
  ·omega
  ·have:=Ans h;omega
theorem Gz{n:Int}(h:countB n=true):0≤n∧n≤1048576:=by
 unfold countB at h;simpa [zc,zd] using h
theorem Bw.small{p:Ab}{s:Aa}(h:Bw p s):Ap s:=by
 have h1:=Gz h.aw;have h2:=Gz h.ar;have h3:=Gz h.dropped;have hs:=h.sum;have hp:=(Cp h.bz).ag;have hm:=h.many;unfold E8 at hs;refine⟨by rw[h.len];omega,by omega,by omega,fun l hl=>⟨?_,fun x hx=> ?_⟩,fun x hx=> ?_,by omega⟩
 ·have:=Ans hl
  omega
 ·exact Abz ((E7.1 (h.line l hl)).1 x hx)
 ·obtain⟨_,_,_,_,_,_,_,_,h8⟩:=Pn h.toFormed hx
  exact Abz h8
theorem Kk{n:Int}(h1: -1≤n)(h2:n≤1048576):i64 n:=by unfold i64;omega
theorem Bw.ints{p:Ab}{s:Aa}(h:Bw p s):A9 s:=by
 have h1:=Gz h.aw;have h2:=Gz h.ar;have h3:=Gz h.dropped;have h4:=Gz h.ah;have h5:=Gz h.af;have hp:=(Cp h.bz).ag;have hm:=h.many;have ht:∀x∈s.ae,-1≤x.queue∧x.queue≤1048576∧ -1≤x.cf∧x.cf≤1048576:=fun x hx=>by
  have:=h.bg x hx;unfold Iv at this;simp only[zc,zd] at this;omega
 refine⟨Kk (by omega) (by omega),Kk (by omega) (by omega),Kk (by omega) (by omega),Kk (by omega) (by omega),Kk (by omega) (by omega),fun x hx=> ?_,fun x hx=> ?_⟩
 ·have:=ht x hx
  exact⟨Kk (by omega) (by omega),Kk (by omega) (by omega)⟩
 ·obtain⟨t,k1,k2,k3,k4,k5,k6,k7,_⟩:=Pn h.toFormed hx
  have:=ht t (List.mem_of_getElem? k1);exact⟨Kk (by omega) (by omega),Kk (by omega) (by omega),Kk (by omega) (by omega)⟩
structure Oo (w:zW) (g:Nat) (x:Aa) (a1 a2 a3:zZ) (c1 c2 c3:Nat) (rows:List Bm):Prop where
 bk:Bk w g 40 (Ag x a1 a2 a3 c1 c2 c3)
 at_:Av w 0 w.heap.size a1 a2 a3 rows x
theorem Oo.below{w w':zW}{g:Nat}{x:Aa}{a1 a2 a3:zZ}{c1 c2 c3:Nat}{rows:List Bm}(h:Oo w g x a1 a2 a3 c1 c2 c3 rows)(hb:Below w.heap.size w w'):Oo w' g x a1 a2 a3 c1 c2 c3 rows:=
 ⟨h.bk.below hb h.bk.lt,(h.at_.below hb (zn _)).wider (zn _) hb.size⟩
theorem Oo.new{w:zW}{x:Aa}{a1 a2 a3:zZ}{rows:List Bm}(h:Av w 0 w.heap.size a1 a2 a3 rows x)(c1 c2 c3:Nat):Oo (w.alloc (.cells (Ag x a1 a2 a3 c1 c2 c3) 40)) w.heap.size x a1 a2 a3 c1 c2 c3 rows:=
 ⟨Bk.new _ _ _,(h.below ((zb _ _).alloc (zn _) _) (zn _)).wider (zn _) (by simp)⟩
theorem Oo.cells{w:zW}{g:Nat}{x:Aa}{a1 a2 a3:zZ}{c1 c2 c3:Nat}{rows:List Bm}(h:Oo w g x a1 a2 a3 c1 c2 c3 rows):
  zM w g 0 (.slice a1 x.ready.length c1)∧zM w g 1 (.slice a2 x.outs.length c2)∧zM w g 2 (.slice a3 x.ae.length c3)∧zM w g 3 (.int .i64 x.ah)∧zM w g 4 (.int .i64 x.af)∧zM w g 5 (.int .i64 x.aw)∧zM w g 6 (.int .i64 x.ar)∧zM w g 7 (.int .i64 x.dropped):=
 Hm h.bk
theorem Db{w0 w1:zW}{x:Aa}{a1 a2 a3:zZ}{rows:List Bm}(c1 c2 c3:Nat){lo:Nat}(h:Av w1 lo w1.heap.size a1 a2 a3 rows x)(hb:Below w0.heap.size w0 w1){W1:zW}(hW:w1.alloc (.cells (Ag x a1 a2 a3 c1 c2 c3) 40)=W1):
  ∀W,Below W1.heap.size W1 W→Oo W w1.heap.size x a1 a2 a3 c1 c2 c3 rows∧Below w0.heap.size w0 W:=fun W h2=>by
 subst hW;exact⟨(Oo.new (h.wider (Nat.zero_le _) (zn _)) c1 c2 c3).below h2,(hb.alloc hb.size _).trans (h2.mono (by have:=hb.size;simp;omega))⟩
end Go.Proofs.YtpkneogjdfolaaaGreatDoor
