/-
  The law BookDrain answers true.
-/
import Derived.Test.YtaanpcjkflhomaaGreatDoorBunDD
import Derived.Test.YtaanpcjkflhomaaGreatDoorChoose
import Derived.Test.YtaanpcjkflhomaaGreatDoorBunA
set_option maxHeartbeats 20000000
set_option maxRecDepth 100000
set_option linter.unusedSimpArgs false
set_option linter.unusedVariables false
namespace Go.Proofs.YtaanpcjkflhomaaGreatDoor
open Go Go.RowKit
theorem Agu (p:Ab) (s:Aa) (q:Int):Ck p s q=0→∃(k:Nat),q=(k:Int)∧∃hk:k < s.ready.length,Cs p s∧Cs p (Gl p s q)∧(Gl p s q).ready=s.ready.set k []∧Ih p s q=s.ready[k].map (·.body)∧(Gl p s q).ar=s.ar+s.ready[k].length∧(Gl p s q).aw=s.aw∧(Gl p s q).dropped=s.dropped∧(Gl p s q).outs=s.outs:=fun h=>by
 obtain⟨k,rfl,hd⟩:=Ua h;have hR:=(Fv.1 (Ko.1 (Pf.1 h).1).1).1;obtain⟨hr,hk,hln,he⟩:=hd;have hl:Ih p s (k:Int)=(s.ready[k]'hk).map (·.body):=by unfold Ih;rw[zp h,hln]
 exact⟨k,rfl,hk,hR,hr,by rw[he],hl,by rw[he],by rw[he],by rw[he],by rw[he]⟩
theorem Tc {w:World} {lo hi rb ro k:Nat} {a2 a3:Option Addr} {rows:List Bq} {s:Aa} {l:List Ap} (h:Ax w lo hi (some ⟨rb,ro,none⟩) a2 a3 rows s) (hh:hi≤w.heap.size) (hk:s.ready[k]? =some l):
  ∃ra rc,∀W,Below w.heap.size w W→W.cell? ⟨rb,ro+k,none⟩=some (.slice ra l.length rc)∧Sl W lo W.heap.size ra (l.flatMap A9):=by
 obtain⟨ra,rc,h1,h2,_⟩:=Ic h hk;exact⟨ra,rc,fun W hW=>⟨(hW.cell (lt_of_cell h1)).trans h1,(h2.below hW hh).wider (zn _) (zr hh hW.size)⟩⟩
theorem Aeb (p:Ab) (s:Aa) (q ot:Int) (p1 p2 p3 a1 a2 a3:Option Addr) (q1 q2 q3 c1 c2 c3:Nat) (rows:List Bq) (w:World) (hE:Env w) (hp:Az w 0 w.heap.size p1 p2 p3 p) (hps:Ai p) (hs:Ax w 0 w.heap.size a1 a2 a3 rows s) (hss:Am s) (hsi:Ba s) (hot: -9223372036854775808≤ot∧ot≤9223372036854775807):
  Calls Tryz.prog 6 #[Bc p p1 p2 p3 q1 q2 q3,Ac s a1 a2 a3 c1 c2 c3,.int .i64 q,.int .i64 ot] w fun e w'=>e= .returned (.bool true)∧Below w.heap.size w w':=by
 have hbx:=B9 q1 q2 q3 c1 c2 c3 hE hp hs 26 31;unfold Ag at hbx;unfold Ac Bc Ag;have HBX:=zh hbx;have HPS:=zh hps;have HSS:=zh hss;have HSI:=zh hsi;clear hbx hE hp hs hps hss hsi;go_enter Tryz.func6,Tryz.ntmps6
 obtain⟨⟨m0,m1,m2⟩,⟨n0,n1,n2,n3,n4,n5,n6,n7⟩,_,_,_,_⟩:=HBX.out _ (zb _ _);go_wp2_with fail
 clear m0 m1 m2 n0 n1 n2 n3 n4 n5 n6 n7;generalize ((w.alloc (.cells (zP p p1 p2 p3 q1 q2 q3) 26)).alloc (.cells (zV s a1 a2 a3 c1 c2 c3) 31))=W0 at *;have HOK:=zh (Agu p s q);generalize hX:Gl p s q=X at *;generalize hl:Ih p s q=l at *;generalize her:Ck p s q=er at *;have HD:Hid (∀W,Below W0.heap.size W0 W→Calls Tryz.prog 24 #[.agg (zP p p1 p2 p3 q1 q2 q3),.agg (zV s a1 a2 a3 c1 c2 c3),.int .i64 q] W (Pq X l er W)):=fun W hW=>by
  rw[←hX,←hl,←her];exact Sa p s q p1 p2 p3 a1 a2 a3 q1 q2 q3 c1 c2 c3 rows W (HBX.out _ hW).env (HBX.out _ hW).bu HPS.out (HBX.out _ hW).bc HSS.out HSI.out
 clear hX hl her;obtain⟨⟨m0,m1,m2⟩,⟨n0,n1,n2,n3,n4,n5,n6,n7⟩,_,_,_,_⟩:=HBX.out _ (zb _ _);go_wp2_with fail
 refine(HD.out _ (zb _ _)).mono ?_;rintro e w2 ⟨x1,x2,x3,xc1,xc2,xc3,rx,xt,xtc,rfl,hs,hsl,hb⟩;unfold Ac Ag;clear m0 m1 m2 n0 n1 n2 n3 n4 n5 n6 n7;go_upto_region 2 with fail
 obtain⟨WX,hW1⟩:∃WX,w2.alloc (.cells (zV X x1 x2 x3 xc1 xc2 xc3) 31)=WX:=⟨_,rfl⟩;have hal:Below w2.heap.size w2 WX:=by rw[←hW1];exact(zb _ _).alloc (zn _) _
 have HWX:=zh (Cb (x:=X) xc1 xc2 xc3 hs hb hW1);have HT:Hid (∀W,Below WX.heap.size WX W→Sl W 0 W.heap.size xt (l.map Value.string)):=zh fun W hW=>(((hsl.below hal (zn _)).wider (Nat.zero_le _) hal.size).below hW (zn _)).wider (zn _) hW.size;rw[hW1];clear hW1 hal hs hsl hb;by_cases he:er=0
 ·subst he
  obtain⟨k,rfl,hkl,hR,hRX,hxr,hl,hxa,hxc,hxd,hxo⟩:=HOK.out rfl;have hxl:X.ready.length=s.ready.length:=by rw[hxr,List.length_set]
  have hrl4:s.ready.length≤1048576:=HSS.out.ready;have hn4:s.ready[k].length≤1048576:=(HSS.out.row _ (zg hkl)).len;have hxk:X.ready[k]? =some []:=by rw[hxr,List.getElem?_set,zp rfl,zp hkl]
  have hsk:s.ready[k]? =some s.ready[k]:=zG hkl;have hx0:=(HWX.out _ (zb WX.heap.size WX)).1.at_
  have hs0:=(HBX.out _ (HWX.out _ (zb WX.heap.size WX)).2).bc;obtain⟨xb,xo,rfl,-,-,-⟩:=Bd Dv (by decide) hx0.ready (k:=k) (by rw[←List.length_map (f:=(·.items)),hx0.same,hxl];exact hkl);obtain⟨sb,so,rfl,-,-,-⟩:=Bd Dv (by decide) hs0.ready (k:=k) (by rw[←List.length_map (f:=(·.items)),hs0.same];exact hkl);obtain⟨xa,xac,hxrow⟩:=Tc hx0 (zn _) hxk;obtain⟨sa,sac,hsrow⟩:=Tc hs0 (zn _) hsk;have HROW:Hid (∀r:Nat,r < s.ready.length→∃(yr:Option Addr) (yrc:Nat) (sr:Option Addr) (src:Nat) (lx:List Ap),lx.length≤1048576∧(∀W,Below WX.heap.size WX W→r≠k→W.cell? ⟨xb,xo+r,none⟩=some (.slice yr lx.length yrc)∧W.cell? ⟨sb,so+r,none⟩=some (.slice sr lx.length src)∧Sl W 0 W.heap.size yr (lx.flatMap A9)∧Sl W 0 W.heap.size sr (lx.flatMap A9))):=zh fun r hr=>by
   have h2:s.ready[r]? =some s.ready[r]:=zG hr;by_cases hrk:r=k
   ·exact⟨none,0,none,0,[],Nat.zero_le _,fun W _ h=>absurd hrk h⟩
   ·have h1:X.ready[r]? =some s.ready[r]:=by rw[hxr,List.getElem?_set,zq (fun e=>hrk e.symm)];exact h2
    obtain⟨yr,yrc,g1⟩:=Tc hx0 (zn _) h1;obtain⟨sr,src,g2⟩:=Tc hs0 (zn _) h2;exact⟨yr,yrc,sr,src,s.ready[r],(HSS.out.row _ (zg hr)).len,fun W hW _=>⟨(g1 W hW).1,(g2 W hW).1,(g1 W hW).2,(g2 W hW).2⟩⟩
  have HXC:Hid (∀W,Below WX.heap.size WX W→W.cell? ⟨w2.heap.size,0,none⟩=some (.slice (some ⟨xb,xo,none⟩) s.ready.length xc1)∧W.cell? ⟨w2.heap.size,1,none⟩=some (.slice x2 s.outs.length xc2)∧W.cell? ⟨w2.heap.size,5,none⟩=some (.int .i64 s.aw)∧W.cell? ⟨w2.heap.size,6,none⟩=some (.int .i64 (s.ar+s.ready[k].length))∧W.cell? ⟨w2.heap.size,7,none⟩=some (.int .i64 s.dropped)):=zh fun W hW=>by
   obtain⟨k0,k1,k2,k3,k4,k5,k6,k7⟩:=(HWX.out _ hW).1.cells;rw[hxl] at k0;rw[hxo] at k1;rw[hxc] at k5;rw[hxa] at k6;rw[hxd] at k7;exact⟨k0,k1,k5,k6,k7⟩
  have HXK:=zh hxrow;have HFX0:Hid (X.ready.length=s.ready.length∧X.ar=s.ar+s.ready[k].length∧X.aw=s.aw∧X.dropped=s.dropped∧X.outs.length=s.outs.length):=zh ⟨hxl,hxa,hxc,hxd,by rw[hxo]⟩;have HSK:=zh hsrow;have HRX:=zh hRX;have HAK:Hid (0≤s.ar∧s.ar≤1048576):=zh (by have:=hR.ar;unfold countB at this;simpa [zc,zd] using this);have hq0:¬ (k:Int) < 0:=by omega
  have hq1:¬ (s.ready.length:Int)≤(k:Int):=by omega
  have HLB:Hid (∀j:Nat,l[j]? =(s.ready[k][j]?).map (·.body)):=zh fun j=>by rw[hl,List.getElem?_map]
  have hll:l.length=s.ready[k].length:=by rw[hl,List.length_map]
  obtain⟨it,hit⟩:∃it,s.ready[k]=it:=⟨_,rfl⟩;rw[hit] at HXC HSK HLB hn4 hll HFX0;have HFX:=HFX0;clear HFX0;rw[hll];have HLEN:=zh hll;have HKL:=zh hkl;clear hkl hR hRX hxr hl hxa hxc hxd hxo hxl hxk hsk hx0 hs0 hxrow hsrow hit hll;obtain⟨k0,k1,k5,k6,k7⟩:=HXC.out _ (zb WX.heap.size WX);have s0:=(HSK.out _ (zb WX.heap.size WX)).1;obtain⟨_,⟨n0,n1,n2,n3,n4,n5,n6,n7⟩,_,_,_,_⟩:=HBX.out _ (HWX.out _ (zb _ _)).2;go_wp2_with fail
  clear k0 k1 k5 k6 k7 s0 n0 n1 n2 n3 n4 n5 n6 n7
  go_loopw [12] (fun i wr=>∃j:Nat,j≤it.length∧i= .int .i64 j∧Below WX.heap.size WX wr) (fun i _=>it.length - (intOf i).toNat)
  case atStart=>exact⟨0,Nat.zero_le _,rfl,zb _ _⟩
  case round=>
   obtain⟨j,hj,rfl,hB⟩:=hrel;have HB:=zh hB;obtain⟨_,⟨n0,n1,n2,n3,n4,n5,n6,n7⟩,_,_,_,_⟩:=HBX.out _ (HWX.out _ hB).2;obtain⟨k0,k1,k5,k6,k7⟩:=HXC.out _ hB;by_cases hlt:j < it.length
   ·obtain⟨tb,tt,rfl,_,ht⟩:=Ll (HT.out _ hB) (show j < l.length by rw[HLEN.out];exact hlt)
    obtain⟨ib,io,rfl,_,_,hi⟩:=Bd Cg (by decide) (HSK.out _ hB).2 hlt;have hlj:l[j]'(by rw[HLEN.out];exact hlt)=it[j].body:=by
     have h:=HLB.out j;rw[zG (by rw[HLEN.out];exact hlt),zG hlt] at h;exact Option.some.inj h
    have e2:wr.cell? ⟨ib,io+j * 5+2,none⟩=some (.string it[j].body):=hi 2 _ rfl;have e3:=(HSK.out _ hB).1;rw[hlj] at ht;clear hi hlj hB;generalize it[j].body=bb at *;go_wp2_with fail
    go_quiet (fail)
    all_goals go_wp2
    exact⟨⟨j+1,by omega,by go_num,below_draws HB.out _⟩,by simp[intOf];omega⟩
   ·obtain rfl:j=it.length:=by omega
    have hsz:1≤s.ready.length:=by have:=HKL.out;omega
    clear hB hj hlt;go_wp2_with fail
    refine(Oq ot (s.ready.length:Int) wr hot.1 hot.2 (by omega) (by omega)).mono ?_;rintro e w9 ⟨r,hr,rfl,rfl⟩;obtain⟨yr,yrc,sr,src,lx,hlx,hrw⟩:=HROW.out r (by omega);have HRW:=zh hrw;have HLX:=zh hlx;clear hlx hrw HROW n0 n1 n2 n3 n4 n5 n6 n7 k0 k1 k5 k6 k7;go_wp2_with fail
    have HENV:Hid (∀W,Below wr.heap.size wr W→Env W):=zh fun W hW=>(HBX.out _ (HWX.out _ (HB.out.trans (hW.mono HB.out.size))).2).env;have HFIN:Hid (∀W,Below wr.heap.size wr W→Below w.heap.size w W):=zh fun W hW=>(HBX.out _ (HWX.out _ (HB.out.trans (hW.mono HB.out.size))).2).below;have HCK:Hid (∀W,Below wr.heap.size wr W→Calls Tryz.prog 32 #[.agg (zP p p1 p2 p3 q1 q2 q3),.agg (zV X (some ⟨xb,xo,none⟩) x2 x3 xc1 xc2 xc3)] W fun e w'=>e= .returned (.int .i64 0)∧Below W.heap.size W w'):=zh fun W hW=>by
     have h1:=HB.out.trans (hW.mono HB.out.size);have h:=Fb p X p1 p2 p3 (some ⟨xb,xo,none⟩) x2 x3 q1 q2 q3 xc1 xc2 xc3 rx W (HBX.out _ (HWX.out _ h1).2).env (HBX.out _ (HWX.out _ h1).2).bu HPS.out (HWX.out _ h1).1.at_ HRX.out.small HRX.out.ints
     unfold Lv at h;rw[Da.2 HRX.out] at h;exact h
    have HS1:Hid (∀W,Below wr.heap.size wr W→(W.cell? ⟨w.heap.size,0,none⟩=some (.slice p1 p.aj.length q1)∧W.cell? ⟨w.heap.size,1,none⟩=some (.slice p2 p.ag.length q2)∧W.cell? ⟨w.heap.size,2,none⟩=some (.slice p3 p.binds.length q3)∧W.cell? ⟨w2.heap.size,0,none⟩=some (.slice (some ⟨xb,xo,none⟩) X.ready.length xc1)∧W.cell? ⟨w2.heap.size,1,none⟩=some (.slice x2 X.outs.length xc2)∧W.cell? ⟨w2.heap.size,2,none⟩=some (.slice x3 X.ae.length xc3)∧W.cell? ⟨w2.heap.size,3,none⟩=some (.int .i64 X.ah)∧W.cell? ⟨w2.heap.size,4,none⟩=some (.int .i64 X.af)∧W.cell? ⟨w2.heap.size,5,none⟩=some (.int .i64 X.aw)∧W.cell? ⟨w2.heap.size,6,none⟩=some (.int .i64 X.ar)∧W.cell? ⟨w2.heap.size,7,none⟩=some (.int .i64 X.dropped)∧W.cell? ⟨w.heap.size+1,0,none⟩=some (.slice (some ⟨sb,so,none⟩) s.ready.length c1)∧W.cell? ⟨w.heap.size+1,1,none⟩=some (.slice a2 s.outs.length c2)∧W.cell? ⟨w.heap.size+1,5,none⟩=some (.int .i64 s.aw)∧W.cell? ⟨w.heap.size+1,6,none⟩=some (.int .i64 s.ar)∧W.cell? ⟨w.heap.size+1,7,none⟩=some (.int .i64 s.dropped)∧W.cell? ⟨xb,xo+k,none⟩=some (.slice xa 0 xac))):=zh fun W hW=>by
     have h1:=HB.out.trans (hW.mono HB.out.size);obtain⟨⟨m0,m1,m2⟩,⟨n0,n1,n2,n3,n4,n5,n6,n7⟩,_,_,_,_⟩:=HBX.out _ (HWX.out _ h1).2;obtain⟨k0,k1,k2,k3,k4,k5,k6,k7⟩:=(HWX.out _ h1).1.cells;exact⟨m0,m1,m2,k0,k1,k2,k3,k4,k5,k6,k7,n0,n1,n5,n6,n7,(HXK.out _ h1).1⟩
    obtain⟨hf1,hf2,hf3,hf4,hf5⟩:=HFX.out;have hkx:(k:Int) < (X.ready.length:Int):=by rw[hf1];have:=HKL.out;omega
    have hrx:(r:Int) < (X.ready.length:Int):=by rw[hf1];exact hr
    have ex1:((X.outs.length:Int) == (s.outs.length:Int))=true:=by rw[hf5];simp
    have ex5:(X.aw == s.aw)=true:=by rw[hf3];simp
    have ex6:(X.ar == s.ar+(it.length:Int))=true:=by rw[hf2];simp
    have ex7:(X.dropped == s.dropped)=true:=by rw[hf4];simp
    have hwr:IntKind.i64.wrap (s.ar+(it.length:Int))=s.ar+(it.length:Int):=IntWalk.i64_in _ (by have:=HAK.out;omega);have hwr2:wrap64 (s.ar+(it.length:Int))=s.ar+(it.length:Int):=by have:=HAK.out;unfold wrap64;omega
    have hN:Below wr.heap.size wr wr.drew:=(zb _ _).drew;clear hf1 hf2 hf3 hf4 hf5;by_cases hrk:r=k
    ·subst hrk
     have brk:((r:Int) == (r:Int))=true:=by simp
     refine Yr (S:=(fun W=>(W.cell? ⟨w.heap.size,0,none⟩=some (.slice p1 p.aj.length q1)∧W.cell? ⟨w.heap.size,1,none⟩=some (.slice p2 p.ag.length q2)∧W.cell? ⟨w.heap.size,2,none⟩=some (.slice p3 p.binds.length q3)∧W.cell? ⟨w2.heap.size,0,none⟩=some (.slice (some ⟨xb,xo,none⟩) X.ready.length xc1)∧W.cell? ⟨w2.heap.size,1,none⟩=some (.slice x2 X.outs.length xc2)∧W.cell? ⟨w2.heap.size,2,none⟩=some (.slice x3 X.ae.length xc3)∧W.cell? ⟨w2.heap.size,3,none⟩=some (.int .i64 X.ah)∧W.cell? ⟨w2.heap.size,4,none⟩=some (.int .i64 X.af)∧W.cell? ⟨w2.heap.size,5,none⟩=some (.int .i64 X.aw)∧W.cell? ⟨w2.heap.size,6,none⟩=some (.int .i64 X.ar)∧W.cell? ⟨w2.heap.size,7,none⟩=some (.int .i64 X.dropped)∧W.cell? ⟨w.heap.size+1,0,none⟩=some (.slice (some ⟨sb,so,none⟩) s.ready.length c1)∧W.cell? ⟨w.heap.size+1,1,none⟩=some (.slice a2 s.outs.length c2)∧W.cell? ⟨w.heap.size+1,5,none⟩=some (.int .i64 s.aw)∧W.cell? ⟨w.heap.size+1,6,none⟩=some (.int .i64 s.ar)∧W.cell? ⟨w.heap.size+1,7,none⟩=some (.int .i64 s.dropped)∧W.cell? ⟨xb,xo+r,none⟩=some (.slice xa 0 xac)))) (D:=(List.range' 79 67).map some++[some 8]) [(0,true),(1,false),(2,false),(3,false),(4,true),(5,false),(6,false),(7,false),(8,false),(9,false),(10,false),(11,false),(12,false),(13,false),(14,false),(15,false),(16,false),(17,false),(18,false),(19,false),(20,false),(21,false),(22,false),(23,false),(24,false),(25,false),(26,false),(27,false),(28,false),(29,false),(30,false),(31,true),(32,false),(33,false),(34,false),(35,false),(36,false),(37,false),(38,false),(39,false),(40,false),(41,false),(42,false),(43,false),(44,false),(45,false),(46,false),(47,false),(48,false),(49,false),(50,false),(51,false),(52,false),(53,false),(54,false),(55,false),(56,false),(57,false),(58,false),(59,false),(60,false),(61,false),(62,false),(63,false),(64,false),(65,false),(66,false),(67,false)] (by kernel_rfl) (by kernel_rfl) (by exact HS1.out _ hN) List.toList_toArray (by kernel_rfl) (fun hHeld=> ?_)
     (refine NWF.call (by kernel_rfl) (fun K hK=> ?_);go_simp;(go_at_call 28;((with_reducible refine(Hh _ (HENV.out _ hN)).mono ?_));rintro e w5 ⟨rfl,hb5⟩;have hN:=hN.trans (hb5.mono hN.size);clear hb5);refine hK.out _ _ (by exact HS1.out _ hN) (fun hHeld=> ?_);clear hK K)
     try simp only[Act.put,zA,zB,zC]
     iterate 3 (refine NWF.take (v:= ?_) (a':= ?_) (fun _ _ _ h=>h) (by kernel_rfl) ?_ ?_ ?_;rotate_left 2;(focus(intro w hSw;(try dsimp only at hSw);go_simp;(all_goals with_reducible rfl);done));(focus(simp only[Act.put,zA,zB,zC];with_reducible rfl)))
     (refine NWF.call (by kernel_rfl) (fun K hK=> ?_);go_simp;(go_at_call 32;((with_reducible refine(HCK.out _ hN).mono ?_));rintro e w5 ⟨rfl,hb5⟩;have hN:=hN.trans (hb5.mono hN.size);clear hb5);refine hK.out _ _ (by exact HS1.out _ hN) (fun hHeld=> ?_);clear hK K)
     try simp only[Act.put,zA,zB,zC]
     iterate 16 (refine NWF.take (v:= ?_) (a':= ?_) (fun _ _ _ h=>h) (by kernel_rfl) ?_ ?_ ?_;rotate_left 2;(focus(intro w hSw;(try dsimp only at hSw);go_simp;(all_goals with_reducible rfl);done));(focus(simp only[Act.put,zA,zB,zC];with_reducible rfl)))
     iterate 11 (refine NWF.leave (a':= ?_) (fun _ _ _ h=>h) (by kernel_rfl) (by assumption) ?_ ?_;rotate_left 1;(focus(simp only[Act.put,zA,zB,zC];with_reducible rfl)))
     iterate 36 (refine NWF.take (v:= ?_) (a':= ?_) (fun _ _ _ h=>h) (by kernel_rfl) ?_ ?_ ?_;rotate_left 2;(focus(intro w hSw;(try dsimp only at hSw);go_simp;(all_goals with_reducible rfl);done));(focus(simp only[Act.put,zA,zB,zC];with_reducible rfl)))
     refine NWF.done ?_;go_wp2_with fail
     go_ret
     exact⟨rfl,HFIN.out _ hN⟩
    ·have brk:((r:Int) == (k:Int))=false:=beq_eq_false_iff_ne.2 (by omega)
     have HSI2:Hid (∀W,Below wr.heap.size wr W→Calls Tryz.prog 33 #[.slice yr lx.length yrc,.slice sr lx.length src] W fun e w'=>e= .returned (.bool true)∧Below W.heap.size W w'):=zh fun W hW=>by
      have h1:=HRW.out _ (HB.out.trans (hW.mono HB.out.size)) hrk;have h:=Gj yr sr yrc src lx lx W 0 h1.2.2.1 h1.2.2.2 (by have:=HLX.out;omega) (by have:=HLX.out;omega);rw[Jc] at h;exact h
     generalize hll:lx.length=lr at *;have HS2:Hid (∀W,Below wr.heap.size wr W→(W.cell? ⟨w.heap.size,0,none⟩=some (.slice p1 p.aj.length q1)∧W.cell? ⟨w.heap.size,1,none⟩=some (.slice p2 p.ag.length q2)∧W.cell? ⟨w.heap.size,2,none⟩=some (.slice p3 p.binds.length q3)∧W.cell? ⟨w2.heap.size,0,none⟩=some (.slice (some ⟨xb,xo,none⟩) X.ready.length xc1)∧W.cell? ⟨w2.heap.size,1,none⟩=some (.slice x2 X.outs.length xc2)∧W.cell? ⟨w2.heap.size,2,none⟩=some (.slice x3 X.ae.length xc3)∧W.cell? ⟨w2.heap.size,3,none⟩=some (.int .i64 X.ah)∧W.cell? ⟨w2.heap.size,4,none⟩=some (.int .i64 X.af)∧W.cell? ⟨w2.heap.size,5,none⟩=some (.int .i64 X.aw)∧W.cell? ⟨w2.heap.size,6,none⟩=some (.int .i64 X.ar)∧W.cell? ⟨w2.heap.size,7,none⟩=some (.int .i64 X.dropped)∧W.cell? ⟨w.heap.size+1,0,none⟩=some (.slice (some ⟨sb,so,none⟩) s.ready.length c1)∧W.cell? ⟨w.heap.size+1,1,none⟩=some (.slice a2 s.outs.length c2)∧W.cell? ⟨w.heap.size+1,5,none⟩=some (.int .i64 s.aw)∧W.cell? ⟨w.heap.size+1,6,none⟩=some (.int .i64 s.ar)∧W.cell? ⟨w.heap.size+1,7,none⟩=some (.int .i64 s.dropped)∧W.cell? ⟨xb,xo+k,none⟩=some (.slice xa 0 xac)∧W.cell? ⟨xb,xo+r,none⟩=some (.slice yr lr yrc)∧W.cell? ⟨sb,so+r,none⟩=some (.slice sr lr src))):=zh fun W hW=>by
      have h1:=HB.out.trans (hW.mono HB.out.size);have h2:=HRW.out _ h1 hrk;obtain⟨g0,g1,g2,g3,g4,g5,g6,g7,g8,g9,g10,g11,g12,g13,g14,g15,g16⟩:=HS1.out _ hW;exact⟨g0,g1,g2,g3,g4,g5,g6,g7,g8,g9,g10,g11,g12,g13,g14,g15,g16,h2.1,h2.2.1⟩
     refine Yr (S:=(fun W=>(W.cell? ⟨w.heap.size,0,none⟩=some (.slice p1 p.aj.length q1)∧W.cell? ⟨w.heap.size,1,none⟩=some (.slice p2 p.ag.length q2)∧W.cell? ⟨w.heap.size,2,none⟩=some (.slice p3 p.binds.length q3)∧W.cell? ⟨w2.heap.size,0,none⟩=some (.slice (some ⟨xb,xo,none⟩) X.ready.length xc1)∧W.cell? ⟨w2.heap.size,1,none⟩=some (.slice x2 X.outs.length xc2)∧W.cell? ⟨w2.heap.size,2,none⟩=some (.slice x3 X.ae.length xc3)∧W.cell? ⟨w2.heap.size,3,none⟩=some (.int .i64 X.ah)∧W.cell? ⟨w2.heap.size,4,none⟩=some (.int .i64 X.af)∧W.cell? ⟨w2.heap.size,5,none⟩=some (.int .i64 X.aw)∧W.cell? ⟨w2.heap.size,6,none⟩=some (.int .i64 X.ar)∧W.cell? ⟨w2.heap.size,7,none⟩=some (.int .i64 X.dropped)∧W.cell? ⟨w.heap.size+1,0,none⟩=some (.slice (some ⟨sb,so,none⟩) s.ready.length c1)∧W.cell? ⟨w.heap.size+1,1,none⟩=some (.slice a2 s.outs.length c2)∧W.cell? ⟨w.heap.size+1,5,none⟩=some (.int .i64 s.aw)∧W.cell? ⟨w.heap.size+1,6,none⟩=some (.int .i64 s.ar)∧W.cell? ⟨w.heap.size+1,7,none⟩=some (.int .i64 s.dropped)∧W.cell? ⟨xb,xo+k,none⟩=some (.slice xa 0 xac)∧W.cell? ⟨xb,xo+r,none⟩=some (.slice yr lr yrc)∧W.cell? ⟨sb,so+r,none⟩=some (.slice sr lr src)))) (D:=(List.range' 79 67).map some++[some 8]) [(0,true),(1,false),(2,false),(3,false),(4,true),(5,false),(6,false),(7,false),(8,false),(9,false),(10,false),(11,false),(12,false),(13,false),(14,false),(15,false),(16,false),(17,false),(18,false),(19,false),(20,false),(21,false),(22,false),(23,false),(24,false),(25,false),(26,false),(27,false),(28,false),(29,false),(30,false),(31,true),(32,false),(33,false),(34,false),(35,false),(36,false),(37,false),(38,false),(39,false),(40,false),(41,false),(42,false),(43,false),(44,false),(45,false),(46,false),(47,false),(48,false),(49,false),(50,false),(51,false),(52,false),(53,false),(54,false),(55,false),(56,false),(57,false),(58,false),(59,false),(60,false),(61,false),(62,false),(63,false),(64,false),(65,false),(66,false),(67,false)] (by kernel_rfl) (by kernel_rfl) (by exact HS2.out _ hN) List.toList_toArray (by kernel_rfl) (fun hHeld=> ?_)
     (refine NWF.call (by kernel_rfl) (fun K hK=> ?_);go_simp;(go_at_call 28;((with_reducible refine(Hh _ (HENV.out _ hN)).mono ?_));rintro e w5 ⟨rfl,hb5⟩;have hN:=hN.trans (hb5.mono hN.size);clear hb5);refine hK.out _ _ (by exact HS2.out _ hN) (fun hHeld=> ?_);clear hK K)
     try simp only[Act.put,zA,zB,zC]
     iterate 3 (refine NWF.take (v:= ?_) (a':= ?_) (fun _ _ _ h=>h) (by kernel_rfl) ?_ ?_ ?_;rotate_left 2;(focus(intro w hSw;(try dsimp only at hSw);go_simp;(all_goals with_reducible rfl);done));(focus(simp only[Act.put,zA,zB,zC];with_reducible rfl)))
     (refine NWF.call (by kernel_rfl) (fun K hK=> ?_);go_simp;(go_at_call 32;((with_reducible refine(HCK.out _ hN).mono ?_));rintro e w5 ⟨rfl,hb5⟩;have hN:=hN.trans (hb5.mono hN.size);clear hb5);refine hK.out _ _ (by exact HS2.out _ hN) (fun hHeld=> ?_);clear hK K)
     try simp only[Act.put,zA,zB,zC]
     iterate 26 (refine NWF.take (v:= ?_) (a':= ?_) (fun _ _ _ h=>h) (by kernel_rfl) ?_ ?_ ?_;rotate_left 2;(focus(intro w hSw;(try dsimp only at hSw);go_simp;(all_goals with_reducible rfl);done));(focus(simp only[Act.put,zA,zB,zC];with_reducible rfl)))
     (refine NWF.call (by kernel_rfl) (fun K hK=> ?_);go_simp;(go_at_call 33;((with_reducible refine(HSI2.out _ hN).mono ?_));rintro e w6 ⟨rfl,hb6⟩;have hN:=hN.trans (hb6.mono hN.size);clear hb6);refine hK.out _ _ (by exact HS2.out _ hN) (fun hHeld=> ?_);clear hK K)
     try simp only[Act.put,zA,zB,zC]
     iterate 36 (refine NWF.take (v:= ?_) (a':= ?_) (fun _ _ _ h=>h) (by kernel_rfl) ?_ ?_ ?_;rotate_left 2;(focus(intro w hSw;(try dsimp only at hSw);go_simp;(all_goals with_reducible rfl);done));(focus(simp only[Act.put,zA,zB,zC];with_reducible rfl)))
     refine NWF.done ?_;go_wp2_with fail
     go_ret
     exact⟨rfl,HFIN.out _ hN⟩
 ·have be:(er != 0)=true:=by simp[he]
  clear he;go_wp2_with fail
  refine(Hh _ (HBX.out _ (HWX.out _ (zb _ _)).2).env).mono ?_;rintro e w6 ⟨rfl,hb6⟩;have HB6:=zh hb6;clear hb6;go_wp2_with fail
  go_ret
  exact⟨rfl,(HBX.out _ (HWX.out _ HB6.out).2).below⟩
theorem Aiz (p:Ab) (p1 p2 p3:Option Addr) (q1 q2 q3:Nat) (s:Aa) (a1 a2 a3:Option Addr) (c1 c2 c3:Nat) (rows:List Bq) (q ot:Int) (w:World) (hp:Az w 0 w.heap.size p1 p2 p3 p) (hps:Ai p) (_:E1 p) (hs:Ax w 0 w.heap.size a1 a2 a3 rows s) (hss:Am s) (hsi:Ba s)
  (_:s.ready.length≤c1∧s.outs.length≤c2∧s.ae.length≤c3) (_: -9223372036854775808≤q∧q≤9223372036854775807) (hot: -9223372036854775808≤ot∧ot≤9223372036854775807) (hE:Env w):
  Calls Tryz.prog 6 #[Bc p p1 p2 p3 q1 q2 q3,Ac s a1 a2 a3 c1 c2 c3,.int .i64 q,.int .i64 ot] w fun e w'=>e= .returned (.bool true)∧Below w.heap.size w w':=
 Aeb p s q ot p1 p2 p3 a1 a2 a3 q1 q2 q3 c1 c2 c3 rows w hE hp hps hs hss hsi hot
end Go.Proofs.YtaanpcjkflhomaaGreatDoor
