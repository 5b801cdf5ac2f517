/-
  The law LogRight answers true.
-/
import Derived.Test.YtaanpcjkflhomaaGreatDoorLogM
import Derived.Test.YtaanpcjkflhomaaGreatDoorStateMB
import Derived.Test.YtaanpcjkflhomaaGreatDoorBunG
import Derived.Deep.CutBlock
set_option maxHeartbeats 20000000
set_option maxRecDepth 100000
set_option linter.unusedSimpArgs false
set_option linter.unusedVariables false
namespace Go.Proofs.YtaanpcjkflhomaaGreatDoor
open Go Go.RowKit
theorem Ajh {x:Cn} {n:Int} {key:ByteArray} (h:Eb x) (hn: -9223372036854775808≤n∧n≤9223372036854775807) (hk:key.size≤1048576):Eb (Nb x n key):=by
 obtain⟨h1,h2,h3,h4,h5⟩:=h
 unfold Nb
 split
 ·exact⟨h1,h2,hn,h4,h5⟩
 ·split
  ·exact⟨h1,h2,h3,hk,hk⟩
  ·split
   ·exact⟨h1,h2,hn,hk,hk⟩
   ·exact⟨h1,h2,h3,h4,h5⟩
theorem Gf {B g:Nat} {w W:World} (h:Below B w W) (hg:B≤g) (i:Nat) (v:Value):Below B w (W.setCell ⟨g,i,none⟩ v):=h.setCell (p:=⟨g,i,none⟩) hg v
theorem Ahk (p:Ab) (s:Aa) (x:Cn) (n:Int) (key:ByteArray) (p1 p2 p3 a1 a2 a3:Option Addr) (q1 q2 q3 c1 c2 c3:Nat) (rows:List Bq) (w:World) (hE:Env w) (hp:Az w 0 w.heap.size p1 p2 p3 p) (hps:Ai p) (hs:Ax w 0 w.heap.size a1 a2 a3 rows s) (hss:Am s) (hsi:Ba s) (hx:Eb x) (hn: -9223372036854775808≤n∧n≤9223372036854775807) (hkey:key.size≤1048576):
  Calls Tryz.prog 13 #[Bc p p1 p2 p3 q1 q2 q3,Ac s a1 a2 a3 c1 c2 c3,.agg (Ez x).toArray,.int .i64 n,.string key] w fun e w'=>e= .returned (.bool true)∧Below w.heap.size w w':=by
 have hbx:=B9 q1 q2 q3 c1 c2 c3 hE hp hs 26 31
 unfold Ag at hbx
 unfold Ac Bc Ag Ez
 have HPS:=zh hps
 have HSS:=zh hss
 have HSI:=zh hsi
 have HAS:=zh hx
 clear hE hp hs hps hss hsi hx
 obtain⟨⟨m0,m1,m2⟩,⟨n0,n1,n2,n3,n4,n5,n6,n7⟩,_,_,_,_⟩:=hbx ((((w.alloc (.cells #[.slice p1 p.posts.length q1,.slice p2 p.queues.length q2,.slice p3 p.binds.length q3] 26)).alloc (.cells #[Value.slice a1 s.ready.length c1,Value.slice a2 s.outs.length c2,Value.slice a3 s.takers.length c3,Value.int IntKind.i64 s.nextSeq,Value.int IntKind.i64 s.nextTag,Value.int IntKind.i64 s.came,Value.int IntKind.i64 s.acked,Value.int IntKind.i64 s.dropped] 31)).alloc (.cells #[.int .i64 x.kind,.int .i64 x.a,.int .i64 x.b,.string x.key,.string x.body] 57))) ((zb _ _).alloc (zn _) _)
 go_enter Tryz.func13,Tryz.ntmps13
 go_upto_region 1 with fail
 clear m0 m1 m2 n0 n1 n2 n3 n4 n5 n6 n7
 obtain⟨V2,hV2⟩:∃V2,((w.alloc (.cells #[.slice p1 p.posts.length q1,.slice p2 p.queues.length q2,.slice p3 p.binds.length q3] 26)).alloc (.cells #[Value.slice a1 s.ready.length c1,Value.slice a2 s.outs.length c2,Value.slice a3 s.takers.length c3,Value.int IntKind.i64 s.nextSeq,Value.int IntKind.i64 s.nextTag,Value.int IntKind.i64 s.came,Value.int IntKind.i64 s.acked,Value.int IntKind.i64 s.dropped] 31))=V2:=⟨_,rfl⟩
 have hz2:V2.heap.size=w.heap.size+1+1:=by rw[←hV2];simp
 rw[hV2] at hbx
 rw[hV2]
 clear hV2
 obtain⟨W0,hW0⟩:∃W0,V2.alloc (.cells #[.int .i64 x.kind,.int .i64 x.a,.int .i64 x.b,.string x.key,.string x.body] 57)=W0:=⟨_,rfl⟩
 have kb0:Bk W0 (w.heap.size+1+1) 57 #[.int .i64 x.kind,.int .i64 x.a,.int .i64 x.b,.string x.key,.string x.body]:=by rw[←hW0];exact Bk.new_at _ _ _ hz2.symm
 have bW:Below V2.heap.size V2 W0:=by rw[←hW0];exact(zb _ _).alloc (zn _) _
 rw[hW0]
 have HBX:Hid (∀W,Below W0.heap.size W0 W→La w p s p1 p2 p3 a1 a2 a3 q1 q2 q3 c1 c2 c3 rows W∧Bk W (w.heap.size+1+1) 57 #[.int .i64 x.kind,.int .i64 x.a,.int .i64 x.b,.string x.key,.string x.body]):=zh fun W hW=>⟨hbx W (bW.trans (hW.mono bW.size)),kb0.below hW kb0.lt⟩
 clear hbx hz2 hW0 bW kb0
 obtain⟨⟨⟨m0,m1,m2⟩,⟨n0,n1,n2,n3,n4,n5,n6,n7⟩,_,_,_,_⟩,hact⟩:=HBX.out _ (zb _ _)
 have x0:=hact.cell 0;have x1:=hact.cell 1;have x2:=hact.cell 2;have x3:=hact.cell 3;have x4:=hact.cell 4
 simp only[zI,zJ,zK] at x0 x1 x2 x3 x4
 clear hact
 go_wp2_with fail
 refine(T3 p s x p1 p2 p3 a1 a2 a3 q1 q2 q3 c1 c2 c3 rows W0 (HBX.out _ (zb _ _)).1.env (HBX.out _ (zb _ _)).1.planAt HPS.out (HBX.out _ (zb _ _)).1.stateAt HSS.out HSI.out HAS.out).mono ?_
 rintro e w2 ⟨x1,x2,x3,xc1,xc2,xc3,rx,rfl,hs,hb⟩
 clear m0 m1 m2 n0 n1 n2 n3 n4 n5 n6 n7 
 have HDO:=zh (fun h:E2 p s x=0=>Q8 h)
 have HAY:=zh (Ajh HAS.out hn hkey)
 have HD2:Hid (∀W,La w p s p1 p2 p3 a1 a2 a3 q1 q2 q3 c1 c2 c3 rows W→Calls Tryz.prog 34 #[.agg #[.slice p1 p.posts.length q1,.slice p2 p.queues.length q2,.slice p3 p.binds.length q3],.agg #[.slice a1 s.ready.length c1,.slice a2 s.outs.length c2,.slice a3 s.takers.length c3,.int .i64 s.nextSeq,.int .i64 s.nextTag,.int .i64 s.came,.int .i64 s.acked,.int .i64 s.dropped],.agg (Ez (Nb x n key)).toArray] W (Jk (doS p s x) (E2 p s x) W)):=zh fun W hW=>by
  have h:=T3 p s (Nb x n key) p1 p2 p3 a1 a2 a3 q1 q2 q3 c1 c2 c3 rows W hW.env hW.planAt HPS.out hW.stateAt HSS.out HSI.out HAY.out
  rw[(Abt p s x n key).1,(Abt p s x n key).2] at h
  exact h
 generalize doS p s x=X at *
 generalize E2 p s x=er at *
 unfold Ac Ag
 go_upto_region 2 with fail
 obtain⟨WX,hW1⟩:∃WX,w2.alloc (.cells #[.slice x1 X.ready.length xc1,.slice x2 X.outs.length xc2,.slice x3 X.takers.length xc3,.int .i64 X.nextSeq,.int .i64 X.nextTag,.int .i64 X.came,.int .i64 X.acked,.int .i64 X.dropped] 31)=WX:=⟨_,rfl⟩
 have HWX:=zh (Cb (x:=X) xc1 xc2 xc3 hs hb hW1)
 rw[hW1]
 clear hW1 hs hb
 by_cases he:er=0
 ·subst he
  have HR:=zh (HDO.out rfl)
  clear HDO
  have hact:=(HBX.out _ (HWX.out _ (zb _ _)).2).2
  have x0:=hact.cell 0;have x1':=hact.cell 1;have x2':=hact.cell 2;have x3':=hact.cell 3;have x4:=hact.cell 4
  simp only[zI,zJ,zK] at x0 x1' x2' x3' x4
  clear hact
  go_upto_region 5 with fail
  clear x0 x1' x2' x3' x4
  obtain⟨WY,hWY⟩:∃WY,WX.alloc (.cells #[.int .i64 x.kind,.int .i64 x.a,.int .i64 x.b,.string x.key,.string x.body] 57)=WY:=⟨_,rfl⟩
  have HKY:Hid (Bk WY WX.heap.size 57 #[.int .i64 x.kind,.int .i64 x.a,.int .i64 x.b,.string x.key,.string x.body]):=zh (by rw[←hWY];exact Bk.new _ _ _)
  have HBY:Hid (Below WX.heap.size WX WY):=zh (by rw[←hWY];exact(zb _ _).alloc (zn _) _)
  rw[hWY]
  clear hWY
  have x0:=(HBX.out _ (HWX.out _ HBY.out).2).2.cell 0
  simp only[zI,zJ,zK] at x0
  have y2:=HKY.out.cell 2;have y3:=HKY.out.cell 3;have y4:=HKY.out.cell 4
  simp only[zI,zJ,zK] at y2 y3 y4
  have hyl:=HKY.out.lt
  have f2:=HKY.out.frozen 2;have f3:=HKY.out.frozen 3;have f4:=HKY.out.frozen 4
  go_upto_block 0 with fail
  clear x0
  go_cut [] from 29 to 50 (fun wx=>Bk wx WX.heap.size 57 (Ez (Nb x n key)).toArray∧Below WX.heap.size WX wx)
  case first=>
   by_cases h1:x.kind=1
   ·have HM:Hid (Bk (WY.setCell ⟨WX.heap.size,2,none⟩ (.int .i64 n)) WX.heap.size 57 (Ez (Nb x n key)).toArray∧Below WX.heap.size WX (WY.setCell ⟨WX.heap.size,2,none⟩ (.int .i64 n))):=zh ⟨by
      have h:=(HKY.out.set_ 2 (.int .i64 n))
      unfold Nb Ez
      simp only[h1,Int.reduceEq,↓reduceIte,true_or,or_true,or_self]
      simp only[h1,zA,zB,zC] at h
      exact h,(Gf HBY.out (zn _) 2 (.int .i64 n))⟩
    have e1:(x.kind == 1)=true:=by rw[h1];rfl
    have e2:(x.kind == 2)=false:=by rw[h1];rfl
    have e3:(x.kind == 3)=false:=by rw[h1];rfl
    have e4:(x.kind == 4)=false:=by rw[h1];rfl
    have e5:(x.kind == 5)=false:=by rw[h1];rfl
    have e6:(x.kind == 6)=false:=by rw[h1];rfl
    clear h1 HKY HBY HAY
    go_wp2_with fail
    go_meet
    exact HM.out
   by_cases h2:x.kind=2
   ·have HM:Hid (Bk ((WY.setCell ⟨WX.heap.size,3,none⟩ (.string key)).setCell ⟨WX.heap.size,4,none⟩ (.string key)) WX.heap.size 57 (Ez (Nb x n key)).toArray∧Below WX.heap.size WX ((WY.setCell ⟨WX.heap.size,3,none⟩ (.string key)).setCell ⟨WX.heap.size,4,none⟩ (.string key))):=zh ⟨by
      have h:=((HKY.out.set_ 3 (.string key)).set_ 4 (.string key))
      unfold Nb Ez
      simp only[h2,Int.reduceEq,↓reduceIte,true_or,or_true,or_self]
      simp only[h2,zA,zB,zC] at h
      exact h,(Gf (Gf HBY.out (zn _) 3 (.string key)) (zn _) 4 (.string key))⟩
    have e1:(x.kind == 1)=false:=by rw[h2];rfl
    have e2:(x.kind == 2)=true:=by rw[h2];rfl
    have e3:(x.kind == 3)=false:=by rw[h2];rfl
    have e4:(x.kind == 4)=false:=by rw[h2];rfl
    have e5:(x.kind == 5)=false:=by rw[h2];rfl
    have e6:(x.kind == 6)=false:=by rw[h2];rfl
    clear h1 h2 HKY HBY HAY
    go_wp2_with fail
    go_meet
    exact HM.out
   by_cases h6:x.kind=6
   ·have HM:Hid (Bk ((WY.setCell ⟨WX.heap.size,3,none⟩ (.string key)).setCell ⟨WX.heap.size,4,none⟩ (.string key)) WX.heap.size 57 (Ez (Nb x n key)).toArray∧Below WX.heap.size WX ((WY.setCell ⟨WX.heap.size,3,none⟩ (.string key)).setCell ⟨WX.heap.size,4,none⟩ (.string key))):=zh ⟨by
      have h:=((HKY.out.set_ 3 (.string key)).set_ 4 (.string key))
      unfold Nb Ez
      simp only[h6,Int.reduceEq,↓reduceIte,true_or,or_true,or_self]
      simp only[h6,zA,zB,zC] at h
      exact h,(Gf (Gf HBY.out (zn _) 3 (.string key)) (zn _) 4 (.string key))⟩
    have e1:(x.kind == 1)=false:=by rw[h6];rfl
    have e2:(x.kind == 2)=false:=by rw[h6];rfl
    have e3:(x.kind == 3)=false:=by rw[h6];rfl
    have e4:(x.kind == 4)=false:=by rw[h6];rfl
    have e5:(x.kind == 5)=false:=by rw[h6];rfl
    have e6:(x.kind == 6)=true:=by rw[h6];rfl
    clear h1 h2 h6 HKY HBY HAY
    go_wp2_with fail
    go_meet
    exact HM.out
   by_cases h3:x.kind=3
   ·have HM:Hid (Bk (((WY.setCell ⟨WX.heap.size,2,none⟩ (.int .i64 n)).setCell ⟨WX.heap.size,3,none⟩ (.string key)).setCell ⟨WX.heap.size,4,none⟩ (.string key)) WX.heap.size 57 (Ez (Nb x n key)).toArray∧Below WX.heap.size WX (((WY.setCell ⟨WX.heap.size,2,none⟩ (.int .i64 n)).setCell ⟨WX.heap.size,3,none⟩ (.string key)).setCell ⟨WX.heap.size,4,none⟩ (.string key))):=zh ⟨by
      have h:=(((HKY.out.set_ 2 (.int .i64 n)).set_ 3 (.string key)).set_ 4 (.string key))
      unfold Nb Ez
      simp only[h3,Int.reduceEq,↓reduceIte,true_or,or_true,or_self]
      simp only[h3,zA,zB,zC] at h
      exact h,(Gf (Gf (Gf HBY.out (zn _) 2 (.int .i64 n)) (zn _) 3 (.string key)) (zn _) 4 (.string key))⟩
    have e1:(x.kind == 1)=false:=by rw[h3];rfl
    have e2:(x.kind == 2)=false:=by rw[h3];rfl
    have e3:(x.kind == 3)=true:=by rw[h3];rfl
    have e4:(x.kind == 4)=false:=by rw[h3];rfl
    have e5:(x.kind == 5)=false:=by rw[h3];rfl
    have e6:(x.kind == 6)=false:=by rw[h3];rfl
    clear h1 h2 h6 h3 HKY HBY HAY
    go_wp2_with fail
    go_meet
    exact HM.out
   by_cases h4:x.kind=4
   ·have HM:Hid (Bk (((WY.setCell ⟨WX.heap.size,2,none⟩ (.int .i64 n)).setCell ⟨WX.heap.size,3,none⟩ (.string key)).setCell ⟨WX.heap.size,4,none⟩ (.string key)) WX.heap.size 57 (Ez (Nb x n key)).toArray∧Below WX.heap.size WX (((WY.setCell ⟨WX.heap.size,2,none⟩ (.int .i64 n)).setCell ⟨WX.heap.size,3,none⟩ (.string key)).setCell ⟨WX.heap.size,4,none⟩ (.string key))):=zh ⟨by
      have h:=(((HKY.out.set_ 2 (.int .i64 n)).set_ 3 (.string key)).set_ 4 (.string key))
      unfold Nb Ez
      simp only[h4,Int.reduceEq,↓reduceIte,true_or,or_true,or_self]
      simp only[h4,zA,zB,zC] at h
      exact h,(Gf (Gf (Gf HBY.out (zn _) 2 (.int .i64 n)) (zn _) 3 (.string key)) (zn _) 4 (.string key))⟩
    have e1:(x.kind == 1)=false:=by rw[h4];rfl
    have e2:(x.kind == 2)=false:=by rw[h4];rfl
    have e3:(x.kind == 3)=false:=by rw[h4];rfl
    have e4:(x.kind == 4)=true:=by rw[h4];rfl
    have e5:(x.kind == 5)=false:=by rw[h4];rfl
    have e6:(x.kind == 6)=false:=by rw[h4];rfl
    clear h1 h2 h6 h3 h4 HKY HBY HAY
    go_wp2_with fail
    go_meet
    exact HM.out
   by_cases h5:x.kind=5
   ·have HM:Hid (Bk (((WY.setCell ⟨WX.heap.size,2,none⟩ (.int .i64 n)).setCell ⟨WX.heap.size,3,none⟩ (.string key)).setCell ⟨WX.heap.size,4,none⟩ (.string key)) WX.heap.size 57 (Ez (Nb x n key)).toArray∧Below WX.heap.size WX (((WY.setCell ⟨WX.heap.size,2,none⟩ (.int .i64 n)).setCell ⟨WX.heap.size,3,none⟩ (.string key)).setCell ⟨WX.heap.size,4,none⟩ (.string key))):=zh ⟨by
      have h:=(((HKY.out.set_ 2 (.int .i64 n)).set_ 3 (.string key)).set_ 4 (.string key))
      unfold Nb Ez
      simp only[h5,Int.reduceEq,↓reduceIte,true_or,or_true,or_self]
      simp only[h5,zA,zB,zC] at h
      exact h,(Gf (Gf (Gf HBY.out (zn _) 2 (.int .i64 n)) (zn _) 3 (.string key)) (zn _) 4 (.string key))⟩
    have e1:(x.kind == 1)=false:=by rw[h5];rfl
    have e2:(x.kind == 2)=false:=by rw[h5];rfl
    have e3:(x.kind == 3)=false:=by rw[h5];rfl
    have e4:(x.kind == 4)=false:=by rw[h5];rfl
    have e5:(x.kind == 5)=true:=by rw[h5];rfl
    have e6:(x.kind == 6)=false:=by rw[h5];rfl
    clear h1 h2 h6 h3 h4 h5 HKY HBY HAY
    go_wp2_with fail
    go_meet
    exact HM.out
   ·have HM:Hid (Bk WY WX.heap.size 57 (Ez (Nb x n key)).toArray∧Below WX.heap.size WX WY):=zh ⟨by
      have h:=HKY.out
      unfold Nb Ez
      rw[if_neg h1,if_neg (by omega),if_neg (by omega)]
      exact h,HBY.out⟩
    have e1:(x.kind == 1)=false:=by simp[h1]
    have e2:(x.kind == 2)=false:=by simp[h2]
    have e3:(x.kind == 3)=false:=by simp[h3]
    have e4:(x.kind == 4)=false:=by simp[h4]
    have e5:(x.kind == 5)=false:=by simp[h5]
    have e6:(x.kind == 6)=false:=by simp[h6]
    clear h1 h2 h3 h4 h5 h6 HKY HBY HAY
    go_wp2_with fail
    go_meet
    exact HM.out
  case rest=>
   have HY:=zh hcut
   clear hcut y2 y3 y4 f2 f3 f4 hyl HKY HBY
   obtain⟨y,hy⟩:∃y,Nb x n key=y:=⟨_,rfl⟩
   rw[hy] at HY HD2
   clear hy HAY
   have y0:=HY.out.1.cell 0;have y1:=HY.out.1.cell 1;have y2:=HY.out.1.cell 2;have y3:=HY.out.1.cell 3;have y4:=HY.out.1.cell 4
   unfold Ez at y0 y1 y2 y3 y4 HD2
   simp only[zI,zJ,zK] at y0 y1 y2 y3 y4
   obtain⟨⟨m0,m1,m2⟩,⟨n0,n1,n2,n3,n4,n5,n6,n7⟩,_,_,_,_⟩:=(HBX.out _ (HWX.out _ HY.out.2).2).1
   go_wp2_with fail
   clear m0 m1 m2 n0 n1 n2 n3 n4 n5 n6 n7 y0 y1 y2 y3 y4
   refine(HD2.out _ (HBX.out _ (HWX.out _ HY.out.2).2).1).mono ?_
   rintro e w5 ⟨y1,y2,y3,yc1,yc2,yc3,ry,rfl,hs,hb⟩
   have hb:=HY.out.2.trans (hb.mono HY.out.2.size)
   unfold Ac Ag
   go_upto_region 16 with fail
   obtain⟨WZ,hW1⟩:∃WZ,w5.alloc (.cells #[.slice y1 X.ready.length yc1,.slice y2 X.outs.length yc2,.slice y3 X.takers.length yc3,.int .i64 X.nextSeq,.int .i64 X.nextTag,.int .i64 X.came,.int .i64 X.acked,.int .i64 X.dropped] 31)=WZ:=⟨_,rfl⟩
   have HWZ:=zh (Cb (x:=X) yc1 yc2 yc3 hs hb hW1)
   rw[hW1]
   clear hW1 hs hb
   go_wp2_with fail
   refine(Dl _ (HBX.out _ (HWX.out _ (HWZ.out _ (zb _ _)).2).2).1.env).mono ?_
   rintro e w6 ⟨rfl,hb6⟩
   have HB6:=zh hb6
   clear hb6
   have HX6:=zh (HWX.out _ (HWZ.out _ HB6.out).2)
   obtain⟨⟨m0,m1,m2⟩,_,_,_,_,_⟩:=(HBX.out _ HX6.out.2).1
   obtain⟨k0,k1,k2,k3,k4,k5,k6,k7⟩:=HX6.out.1.cells
   go_wp2_with fail
   clear m0 m1 m2 k0 k1 k2 k3 k4 k5 k6 k7
   have h:=Fb p X p1 p2 p3 x1 x2 x3 q1 q2 q3 xc1 xc2 xc3 rx w6 (HBX.out _ HX6.out.2).1.env (HBX.out _ HX6.out.2).1.planAt HPS.out HX6.out.1.at_ HR.out.right.small HR.out.right.ints
   unfold Lv at h
   rw[Da.2 HR.out.right] at h
   refine h.mono ?_
   clear h
   rintro e w7 ⟨rfl,hb7⟩
   have HB7:=zh (HB6.out.trans (hb7.mono HB6.out.size))
   clear hb7
   have HZ7:=zh (HWZ.out _ HB7.out)
   have HX7:=zh (HWX.out _ HZ7.out.2)
   obtain⟨n0,n1,n2,n3,n4,n5,n6,n7⟩:=HX7.out.1.cells
   obtain⟨k0,k1,k2,k3,k4,k5,k6,k7⟩:=HZ7.out.1.cells
   go_wp2_with fail
   refine(Di X X x1 x2 x3 y1 y2 y3 xc1 xc2 xc3 yc1 yc2 yc3 rx ry w7 HX7.out.1.at_ HR.out.right.small HZ7.out.1.at_ HR.out.right.small).mono ?_
   rw[Ea]
   rintro e w8 ⟨rfl,hb8⟩
   have HB8:=zh (HB7.out.trans (hb8.mono HB7.out.size))
   clear hb8
   go_wp2_with fail
   go_ret
   exact⟨rfl,(HBX.out _ (HWX.out _ (HWZ.out _ HB8.out).2).2).1.below⟩
 ·have b0:(er != 0)=true:=by simp[he]
  clear he
  go_wp2_with fail
  refine(Dl _ (HBX.out _ (HWX.out _ (zb _ _)).2).1.env).mono ?_
  rintro e w3 ⟨rfl,hb3⟩
  have HB3:=zh hb3
  clear hb3
  go_wp2_with fail
  go_ret
  exact⟨rfl,(HBX.out _ (HWX.out _ HB3.out).2).1.below⟩
theorem Amg (p:Ab) (p1 p2 p3:Option Addr) (q1 q2 q3:Nat) (s:Aa) (a1 a2 a3:Option Addr) (c1 c2 c3:Nat) (rows:List Bq) (x:Cn) (n:Int) (key:ByteArray) (w:World) (hp:Az w 0 w.heap.size p1 p2 p3 p) (hps:Ai p) (_:E1 p) (hs:Ax w 0 w.heap.size a1 a2 a3 rows s) (hss:Am s) (hsi:Ba s)
  (_:s.ready.length≤c1∧s.outs.length≤c2∧s.takers.length≤c3) (hx:Eb x) (hn: -9223372036854775808≤n∧n≤9223372036854775807) (hkey:key.size≤1048576) (hE:Env w):
  Calls Tryz.prog 13 #[Bc p p1 p2 p3 q1 q2 q3,Ac s a1 a2 a3 c1 c2 c3,.agg (Ez x).toArray,.int .i64 n,.string key] w fun e w'=>e= .returned (.bool true)∧Below w.heap.size w w':=
 Ahk p s x n key p1 p2 p3 a1 a2 a3 q1 q2 q3 c1 c2 c3 rows w hE hp hps hs hss hsi hx hn hkey
end Go.Proofs.YtaanpcjkflhomaaGreatDoor
