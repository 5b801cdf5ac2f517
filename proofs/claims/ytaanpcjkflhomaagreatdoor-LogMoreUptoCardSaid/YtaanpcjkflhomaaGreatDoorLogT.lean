/-
  The law LogMore answers true.
-/
import Derived.Test.YtaanpcjkflhomaaGreatDoorLogM
import Derived.Test.YtaanpcjkflhomaaGreatDoorLogR
import Derived.Test.YtaanpcjkflhomaaGreatDoorBunG
set_option maxHeartbeats 20000000
set_option maxRecDepth 100000
set_option linter.unusedSimpArgs false
set_option linter.unusedVariables false
namespace Go.Proofs.YtaanpcjkflhomaaGreatDoor
open Go Go.RowKit
theorem Aa6 (x:Cn):(Gc x).size≤515:=by
 unfold Gc
 split
 ·rename_i h
  have h':=h
  unfold Df at h'
  simp only[Bool.and_eq_true,decide_eq_true_eq] at h'
  rw[Ad2,Me,Abs]
  omega
 ·exact Nat.zero_le _
theorem Axk (p:Ab) (t:ByteArray):0≤rcN p t∧rcN p t≤60:=by
 unfold rcN
 have:=L8 t
 split<;>omega
theorem Asz {p:Ab} {t:ByteArray} (hp:Ai p) (h0:Hn p t=0):(Am (rcS p t)∧Ba (rcS p t))∧Dd t=0:=by
 have hc:Bf p=0:=by
  unfold Hn at h0
  split at h0
  ·exact h0
  ·rename_i h;simpa using h
 have hr:Dd t=0:=by
  unfold Hn at h0
  rw[if_neg (by simp[hc])] at h0
  exact h0
 rw[(Qn hc hr).1]
 exact⟨Nr hp _,hr⟩
theorem Akk (p:Ab) (p1 p2 p3:Option Addr) (q1 q2 q3:Nat) (t:ByteArray) (x:Cn) (w:World) (hp:Az w 0 w.heap.size p1 p2 p3 p) (hps:Ai p) (ht:t.size≤1048576) (hx:Eb x) (hE:Env w):
  Calls Tryz.prog 12 #[Bc p p1 p2 p3 q1 q2 q3,.string t,.agg (Ez x).toArray] w fun e w'=>e= .returned (.bool true)∧Below w.heap.size w w':=by
 have hbx:∀W,Below ((w.alloc (.cells #[.slice p1 p.posts.length q1,.slice p2 p.queues.length q2,.slice p3 p.binds.length q3] 26)).alloc (.cells #[.int .i64 x.kind,.int .i64 x.a,.int .i64 x.b,.string x.key,.string x.body] 57)).heap.size ((w.alloc (.cells #[.slice p1 p.posts.length q1,.slice p2 p.queues.length q2,.slice p3 p.binds.length q3] 26)).alloc (.cells #[.int .i64 x.kind,.int .i64 x.a,.int .i64 x.b,.string x.key,.string x.body] 57)) W→
   Az W 0 W.heap.size p1 p2 p3 p∧(W.cell? ⟨w.heap.size,0,none⟩=some (.slice p1 p.posts.length q1)∧W.cell? ⟨w.heap.size,1,none⟩=some (.slice p2 p.queues.length q2)∧W.cell? ⟨w.heap.size,2,none⟩=some (.slice p3 p.binds.length q3))∧Bk W (w.heap.size+1) 57 #[.int .i64 x.kind,.int .i64 x.a,.int .i64 x.b,.string x.key,.string x.body]∧Below w.heap.size w W:=fun W hW=>by
  have h:=G6 hp q1 q2 q3 26 W (((zb _ _).alloc (zn _) _).trans (hW.mono (by simp)))
  exact⟨h.1.wider (zn _) (by have:=hW.size;simp at this⊢;omega),h.2.1,(Bk.new_at _ _ _ (by simp)).below hW (by simp),h.2.2⟩
 unfold Bc Ez
 have HPS:=zh hps
 have HT:=zh ht
 have HAX:=zh hx
 have HV:=zh hE
 clear hp hps hx hE
 go_enter Tryz.func12,Tryz.ntmps12
 go_upto_region 1 with fail
 obtain⟨W0,hW0⟩:∃W0,((w.alloc (.cells #[.slice p1 p.posts.length q1,.slice p2 p.queues.length q2,.slice p3 p.binds.length q3] 26)).alloc (.cells #[.int .i64 x.kind,.int .i64 x.a,.int .i64 x.b,.string x.key,.string x.body] 57))=W0:=⟨_,rfl⟩
 rw[hW0] at hbx
 rw[hW0]
 have HBX:=zh hbx
 clear hbx hW0
 obtain⟨_,⟨m0,m1,m2⟩,_⟩:=HBX.out _ (zb _ _)
 go_wp2_with fail
 clear m0 m1 m2
 have HMORE:=zh (Asb (p:=p) (t:=t) (x:=x))
 have HSM:Hid (Hn p t=0→(Am (rcS p t)∧Ba (rcS p t))∧Dd t=0):=zh (Asz HPS.out)
 have HAL:=zh (Aa6 x)
 refine(Ly p t p1 p2 p3 q1 q2 q3 W0 (Av (HBX.out _ (zb _ _)).2.2.2 HV.out) (HBX.out _ (zb _ _)).1 HPS.out HT.out).mono ?_
 rintro e w2 ⟨x1,x2,x3,xc1,xc2,xc3,rx,rfl,hs,hb⟩
 have HWR:=zh (fun w=>Jv x HAX.out w)
 have HRP:=zh (fun w=>Pt t HT.out w)
 unfold Vr at HRP
 generalize rcS p t=X at *
 have HN:Hid (0≤rcN p t∧rcN p t≤60):=zh (Axk p t)
 generalize rcN p t=n at *
 generalize Hn p t=er at *
 generalize Gc x=A at *
 generalize F0 x=ew at *
 generalize Dq t=L at *
 generalize J4 t=rn at *
 generalize Dd t=rr at *
 unfold Ac Ag
 go_upto_region 2 with fail
 obtain⟨WX,hW1⟩:∃WX,w2.alloc (.cells #[.slice x1 X.ready.length xc1,.slice x2 X.outs.length xc2,.slice x3 X.takers.length xc3,.int .i64 X.nextSeq,.int .i64 X.nextTag,.int .i64 X.came,.int .i64 X.acked,.int .i64 X.dropped] 31)=WX:=⟨_,rfl⟩
 have HWX:=zh (Cb (x:=X) xc1 xc2 xc3 hs hb hW1)
 rw[hW1]
 clear hW1 hs hb
 have hact:=(HBX.out _ (HWX.out _ (zb _ _)).2).2.2.1
 have y0:=hact.cell 0;have y1:=hact.cell 1;have y2:=hact.cell 2;have y3:=hact.cell 3;have y4:=hact.cell 4
 simp only[zI,zJ,zK] at y0 y1 y2 y3 y4
 clear hact
 go_wp2_with fail
 clear y0 y1 y2 y3 y4
 refine(HWR.out WX).mono ?_
 rintro e w3 ⟨rfl,hb3⟩
 have HB3:=zh hb3
 clear hb3
 go_wp2_with fail
 refine(HRP.out w3).mono ?_
 rintro e w4 ⟨la,lc,rfl,hl4,hb4⟩
 have HB4:=zh (HB3.out.trans (hb4.mono HB3.out.size))
 clear hb4 hl4
 have hAl:=HAL.out
 have hwr:wrap64 ((t.size:Int)+(A.size:Int))=(t.size:Int)+(A.size:Int):=by unfold wrap64;omega
 by_cases h1:er=0
 ·by_cases h2:ew=0
  ·by_cases h3:rr=0
   ·by_cases h4:rn=(t.size:Int)
    ·by_cases h5:L.length < 60
     ·by_cases h6:t.size+A.size≤4096
      ·have HM:=zh (HMORE.out h1 h4 h5 h2 h6)
       have HSX:=zh (HSM.out h1).1
       have i5:(L.length:Int) < 60:=by omega
       have i6:(t.size:Int)+(A.size:Int)≤4096:=by omega
       have HSZ:=zh (show(t++A).size≤1048576 by rw[ByteArray.size_append];omega)
       have HRC:=zh (fun w h1 h2=>Ly p (t++A) p1 p2 p3 q1 q2 q3 w h1 h2 HPS.out HSZ.out)
       unfold Ajd at HRC
       rw[HM.out.1,HM.out.2.1,HM.out.2.2] at HRC
       clear HMORE HSM h5 h6 hAl HAL
       subst h1 h2 h3 h4
       go_upto_region 6 with fail
       obtain⟨_,⟨m0,m1,m2⟩,_⟩:=HBX.out _ (HWX.out _ HB4.out).2
       go_wp2_with fail
       clear m0 m1 m2
       refine(HRC.out w4 (Av (HBX.out _ (HWX.out _ HB4.out).2).2.2.2 HV.out) (HBX.out _ (HWX.out _ HB4.out).2).1).mono ?_
       rintro e w5 ⟨u1,u2,u3,uc1,uc2,uc3,ru,rfl,hs,hb⟩
       have hb:=HB4.out.trans (hb.mono HB4.out.size)
       have HDN:=zh (fun h:E2 p X x=0=>(Q8 h).right.small)
       have HDO:Hid (∀W,Below WX.heap.size WX W→Calls Tryz.prog 34 #[.agg #[.slice p1 p.posts.length q1,.slice p2 p.queues.length q2,.slice p3 p.binds.length q3],.agg #[.slice x1 X.ready.length xc1,.slice x2 X.outs.length xc2,.slice x3 X.takers.length xc3,.int .i64 X.nextSeq,.int .i64 X.nextTag,.int .i64 X.came,.int .i64 X.acked,.int .i64 X.dropped],.agg #[.int .i64 x.kind,.int .i64 x.a,.int .i64 x.b,.string x.key,.string x.body]] W (Jk (doS p X x) (E2 p X x) W)):=zh fun W hW=>
        T3 p X x p1 p2 p3 x1 x2 x3 q1 q2 q3 xc1 xc2 xc3 rx W (Av (HBX.out _ (HWX.out _ hW).2).2.2.2 HV.out) (HBX.out _ (HWX.out _ hW).2).1 HPS.out (HWX.out _ hW).1.at_ HSX.out.1 HSX.out.2 HAX.out
       generalize doS p X x=Y at *
       generalize E2 p X x=ed at *
       have HU:Hid ((ed=0→(if ed=0 then Y else X)=Y)∧(ed≠0→(if ed=0 then Y else X)=X)):=zh ⟨fun h=>if_pos h,fun h=>if_neg h⟩
       generalize (if ed=0 then Y else X)=U at *
       unfold Ac Ag
       go_upto_region 7 with fail
       obtain⟨WU,hW1⟩:∃WU,w5.alloc (.cells #[.slice u1 U.ready.length uc1,.slice u2 U.outs.length uc2,.slice u3 U.takers.length uc3,.int .i64 U.nextSeq,.int .i64 U.nextTag,.int .i64 U.came,.int .i64 U.acked,.int .i64 U.dropped] 31)=WU:=⟨_,rfl⟩
       have HWU:=zh (Cb (x:=U) uc1 uc2 uc3 hs hb hW1)
       rw[hW1]
       clear hW1 hs hb
       obtain⟨_,⟨m0,m1,m2⟩,_⟩:=HBX.out _ (HWX.out _ (HWU.out _ (zb _ _)).2).2
       have hact:=(HBX.out _ (HWX.out _ (HWU.out _ (zb _ _)).2).2).2.2.1
       have y0:=hact.cell 0;have y1:=hact.cell 1;have y2:=hact.cell 2;have y3:=hact.cell 3;have y4:=hact.cell 4
       simp only[zI,zJ,zK] at y0 y1 y2 y3 y4
       clear hact
       obtain⟨k0,k1,k2,k3,k4,k5,k6,k7⟩:=(HWX.out _ (HWU.out _ (zb _ _)).2).1.cells
       go_wp2_with fail
       clear m0 m1 m2 y0 y1 y2 y3 y4 k0 k1 k2 k3 k4 k5 k6 k7
       refine(HDO.out WU (HWU.out _ (zb _ _)).2).mono ?_
       rintro e w6 ⟨v1,v2,v3,vc1,vc2,vc3,rv,rfl,hs,hb⟩
       have HGV:=zh hb.size
       unfold Ac Ag
       go_upto_region 8 with fail
       obtain⟨WV,hW1⟩:∃WV,w6.alloc (.cells #[.slice v1 Y.ready.length vc1,.slice v2 Y.outs.length vc2,.slice v3 Y.takers.length vc3,.int .i64 Y.nextSeq,.int .i64 Y.nextTag,.int .i64 Y.came,.int .i64 Y.acked,.int .i64 Y.dropped] 31)=WV:=⟨_,rfl⟩
       have HWV:=zh (Cb (x:=Y) vc1 vc2 vc3 hs hb hW1)
       rw[hW1]
       clear hW1 hs hb
       by_cases hd:ed=0
       ·have hu:=HU.out.1 hd
        subst hu
        have HS:=zh (HDN.out hd)
        subst hd
        go_wp2_with fail
        refine(Dl _ (Av (HBX.out _ (HWX.out _ (HWU.out _ (HWV.out _ (zb _ _)).2).2).2).2.2.2 HV.out)).mono ?_
        rintro e w7 ⟨rfl,hb7⟩
        have HB7:=zh hb7
        clear hb7
        have HV7:=zh (HWV.out _ HB7.out)
        have HU7:=zh (HWU.out _ HV7.out.2)
        obtain⟨n0,n1,n2,n3,n4,n5,n6,n7⟩:=HU7.out.1.cells
        obtain⟨k0,k1,k2,k3,k4,k5,k6,k7⟩:=HV7.out.1.cells
        have hn1:wrap64 (n+1)=(n+1:Int):=by have:=HN.out;unfold wrap64;omega
        go_wp2_with fail
        refine(Di U U u1 u2 u3 v1 v2 v3 uc1 uc2 uc3 vc1 vc2 vc3 ru rv w7 HU7.out.1.at_ HS.out HV7.out.1.at_ HS.out).mono ?_
        rw[Ea]
        rintro e w8 ⟨rfl,hb8⟩
        have HB8:=zh (HB7.out.trans (hb8.mono HB7.out.size))
        clear hb8
        go_wp2_with fail
        go_ret
        exact⟨rfl,(HBX.out _ (HWX.out _ (HWU.out _ (HWV.out _ HB8.out).2).2).2).2.2.2⟩
       ·have hu:=HU.out.2 hd
        subst hu
        have bd:(ed != 0)=true:=by simp[hd]
        clear hd
        have HVB:=zh (HWV.out _ (zb _ _))
        have HKV:=zh HVB.out.1.bk
        have hkv:=HKV.out
        unfold Ag at hkv
        obtain⟨_,_,_,_,_,_,_,_,g0,g1,g2,g3,g4,g5,g6,g7,hltG⟩:=Af hkv
        obtain⟨k0,k1,k2,k3,k4,k5,k6,k7⟩:=(HWX.out _ (HWU.out _ HVB.out.2).2).1.cells
        go_upto_region 10 with fail
        clear g0 g1 g2 g3 g4 g5 g6 g7 hltG k0 k1 k2 k3 k4 k5 k6 k7
        have hge:WU.heap.size≤w6.heap.size:=HGV.out
        generalize hWS:((((((((WV.setCell ⟨w6.heap.size,0,none⟩ (.slice x1 U.ready.length xc1)).setCell ⟨w6.heap.size,1,none⟩ (.slice x2 U.outs.length xc2)).setCell ⟨w6.heap.size,2,none⟩ (.slice x3 U.takers.length xc3)).setCell ⟨w6.heap.size,3,none⟩ (.int .i64 U.nextSeq)).setCell ⟨w6.heap.size,4,none⟩ (.int .i64 U.nextTag)).setCell ⟨w6.heap.size,5,none⟩ (.int .i64 U.came)).setCell ⟨w6.heap.size,6,none⟩ (.int .i64 U.acked)).setCell ⟨w6.heap.size,7,none⟩ (.int .i64 U.dropped))=WS
        have HKS:Hid (Bk WS w6.heap.size 31 #[.slice x1 U.ready.length xc1,.slice x2 U.outs.length xc2,.slice x3 U.takers.length xc3,.int .i64 U.nextSeq,.int .i64 U.nextTag,.int .i64 U.came,.int .i64 U.acked,.int .i64 U.dropped]):=zh (by rw[←hWS];exact Yf hkv _ _ _ _ _ _ _ _)
        have HBS:Hid (Below WU.heap.size WU WS):=zh (by rw[←hWS];exact Ak HVB.out.2 hge _ _ _ _ _ _ _ _)
        clear hWS hkv hge
        go_wp2_with fail
        refine(Dl _ (Av (HBX.out _ (HWX.out _ (HWU.out _ HBS.out).2).2).2.2.2 HV.out)).mono ?_
        rintro e w7 ⟨rfl,hb7⟩
        have HB7:=zh (HBS.out.trans (hb7.mono HBS.out.size))
        have HK7:=zh (HKS.out.below hb7 HKS.out.lt)
        clear hb7
        have HU7:=zh (HWU.out _ HB7.out)
        have HX7:=zh (HWX.out _ HU7.out.2)
        obtain⟨n0,n1,n2,n3,n4,n5,n6,n7⟩:=HU7.out.1.cells
        obtain⟨k0,k1,k2,k3,k4,k5,k6,k7⟩:=Jl HK7.out
        have hn1:wrap64 (n+1)=(n+1:Int):=by have:=HN.out;unfold wrap64;omega
        go_wp2_with fail
        refine(Di U U u1 u2 u3 x1 x2 x3 uc1 uc2 uc3 xc1 xc2 xc3 ru rx w7 HU7.out.1.at_ HSX.out.1 HX7.out.1.at_ HSX.out.1).mono ?_
        rw[Ea]
        rintro e w8 ⟨rfl,hb8⟩
        have HB8:=zh (HB7.out.trans (hb8.mono HB7.out.size))
        clear hb8
        go_wp2_with fail
        go_ret
        exact⟨rfl,(HBX.out _ (HWX.out _ (HWU.out _ HB8.out).2).2).2.2.2⟩
      ·have i5:(L.length:Int) < 60:=by omega
       have i6:(4096:Int) < (t.size:Int)+(A.size:Int):=by omega
       subst h1 h2 h3 h4
       clear HMORE HSM HAL h5 h6 hAl
       go_wp2_with fail
       refine(Dl _ (Av (HBX.out _ (HWX.out _ HB4.out).2).2.2.2 HV.out)).mono ?_
       rintro e w5 ⟨rfl,hb5⟩
       have HB5:=zh (HB4.out.trans (hb5.mono HB4.out.size))
       clear hb5
       go_wp2_with fail
       go_ret
       exact⟨rfl,(HBX.out _ (HWX.out _ HB5.out).2).2.2.2⟩
     ·have i5:(60:Int)≤(L.length:Int):=by omega
      subst h1 h2 h3 h4
      clear HMORE HSM HAL h5 hAl
      go_wp2_with fail
      refine(Dl _ (Av (HBX.out _ (HWX.out _ HB4.out).2).2.2.2 HV.out)).mono ?_
      rintro e w5 ⟨rfl,hb5⟩
      have HB5:=zh (HB4.out.trans (hb5.mono HB4.out.size))
      clear hb5
      go_wp2_with fail
      go_ret
      exact⟨rfl,(HBX.out _ (HWX.out _ HB5.out).2).2.2.2⟩
    ·have b4:(rn != (t.size:Int))=true:=by simp[h4]
     subst h1 h2 h3
     clear HMORE HSM HAL h4 hAl
     go_wp2_with fail
     refine(Dl _ (Av (HBX.out _ (HWX.out _ HB4.out).2).2.2.2 HV.out)).mono ?_
     rintro e w5 ⟨rfl,hb5⟩
     have HB5:=zh (HB4.out.trans (hb5.mono HB4.out.size))
     clear hb5
     go_wp2_with fail
     go_ret
     exact⟨rfl,(HBX.out _ (HWX.out _ HB5.out).2).2.2.2⟩
   ·have b3:(rr != 0)=true:=by simp[h3]
    subst h1 h2
    clear HMORE HSM HAL h3 hAl
    go_wp2_with fail
    refine(Dl _ (Av (HBX.out _ (HWX.out _ HB4.out).2).2.2.2 HV.out)).mono ?_
    rintro e w5 ⟨rfl,hb5⟩
    have HB5:=zh (HB4.out.trans (hb5.mono HB4.out.size))
    clear hb5
    go_wp2_with fail
    go_ret
    exact⟨rfl,(HBX.out _ (HWX.out _ HB5.out).2).2.2.2⟩
  ·have b2:(ew != 0)=true:=by simp[h2]
   subst h1
   clear HMORE HSM HAL h2 hAl
   go_wp2_with fail
   refine(Dl _ (Av (HBX.out _ (HWX.out _ HB4.out).2).2.2.2 HV.out)).mono ?_
   rintro e w5 ⟨rfl,hb5⟩
   have HB5:=zh (HB4.out.trans (hb5.mono HB4.out.size))
   clear hb5
   go_wp2_with fail
   go_ret
   exact⟨rfl,(HBX.out _ (HWX.out _ HB5.out).2).2.2.2⟩
 ·have b1:(er != 0)=true:=by simp[h1]
  clear HMORE HSM HAL h1 hAl
  go_wp2_with fail
  refine(Dl _ (Av (HBX.out _ (HWX.out _ HB4.out).2).2.2.2 HV.out)).mono ?_
  rintro e w5 ⟨rfl,hb5⟩
  have HB5:=zh (HB4.out.trans (hb5.mono HB4.out.size))
  clear hb5
  go_wp2_with fail
  go_ret
  exact⟨rfl,(HBX.out _ (HWX.out _ HB5.out).2).2.2.2⟩
theorem Apf (p:Ab) (p1 p2 p3:Option Addr) (q1 q2 q3:Nat) (t:ByteArray) (x:Cn) (w:World) (hp:Az w 0 w.heap.size p1 p2 p3 p) (hps:Ai p) (_:E1 p) (ht:t.size≤1048576) (hx:Eb x) (hE:Env w):
  Calls Tryz.prog 12 #[Bc p p1 p2 p3 q1 q2 q3,.string t,.agg (Ez x).toArray] w fun e w'=>e= .returned (.bool true)∧Below w.heap.size w w':=
 Akk p p1 p2 p3 q1 q2 q3 t x w hp hps ht hx hE
end Go.Proofs.YtaanpcjkflhomaaGreatDoor
