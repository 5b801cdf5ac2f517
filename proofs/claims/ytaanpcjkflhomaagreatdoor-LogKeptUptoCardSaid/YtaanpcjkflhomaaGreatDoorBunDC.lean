/-
  The plain law of acts: what each does, and what holds behind it. No program in sight.
-/
import Derived.Test.YtaanpcjkflhomaaGreatDoorBunBC
import Derived.Test.YtaanpcjkflhomaaGreatDoorBunCA
import Derived.Test.YtaanpcjkflhomaaGreatDoorBunCC
import Derived.Test.YtaanpcjkflhomaaGreatDoorBunA
import Derived.Test.YtaanpcjkflhomaaGreatDoorBunCB
import Derived.Test.YtaanpcjkflhomaaGreatDoorBunCD
set_option maxHeartbeats 20000000
set_option maxRecDepth 100000
set_option linter.unusedSimpArgs false
set_option linter.unusedVariables false
namespace Go.Proofs.YtaanpcjkflhomaaGreatDoor
def E2 (p:Ab) (s:Aa) (x:Cn):Int:=
 if x.kind=1 then Bt p s x.a x.key x.body else if x.kind=2 then Cc p s x.a x.b else if x.kind=3 then Bv p s x.a else if x.kind=4 then Bw p s x.a else if x.kind=5 then Dr p s x.a else if x.kind=6 then Bg p s x.a else 7
def doS (p:Ab) (s:Aa) (x:Cn):Aa:=
 if x.kind=1 then Cl p s x.a x.key x.body else if x.kind=2 then Fh p s x.a x.b else if x.kind=3 then Dn p s x.a else if x.kind=4 then Ca p s x.a else if x.kind=5 then Ha p s x.a else if x.kind=6 then Cf p s x.a (x.b != 0) else Ay
structure T4 (p:Ab) (s x:Aa):Prop where
 was:Cs p s
 right:Cs p x
 aw:s.aw≤x.aw
 ar:s.ar≤x.ar
 dropped:s.dropped≤x.dropped
 tag:s.af≤x.af
theorem Ae2 {p:Ab} {s:Aa} {x:Int} {key body:ByteArray} (h:Bt p s x key body=0):T4 p s (Cl p s x key body):=by
 have hr:=Q3 h;obtain⟨h0,_,_,h4⟩:=Ry h;have hR:=Da.1 h0;obtain⟨n,h5,h6,h7⟩:=Aa1 h4;have e:Cl p s x key body=Cu p s (Kb p x key body):=by unfold Cl;rw[zp h]
 rw[e] at hr⊢;have e1:=h6.seq;have e2:=h7.dropped;have e3:=hr.same;have e4:=hR.same;simp only at e1 e2;exact⟨hR,hr,by omega,Int.le_of_eq h7.ar.symm,e2,Int.le_of_eq h7.tag.symm⟩
theorem Aoc {p:Ab} {s:Aa} {q m:Int} (h:Cc p s q m=0):T4 p s (Fh p s q m):=by
 obtain⟨ha,_,_⟩:=Ko.1 h;obtain⟨hR,_,_⟩:=Fv.1 ha;have hr:=Ou h;have e:Fh p s q m= { s with ae:=joinL s.ae ⟨q,m⟩ } :=by unfold Fh;rw[zp h]
 rw[e] at hr⊢;exact⟨hR,hr,Int.le_refl _,Int.le_refl _,Int.le_refl _,Int.le_refl _⟩
theorem Akf {p:Ab} {s:Aa} {t:Int} (h:Bv p s t=0):T4 p s (Dn p s t):=by
 have hl:=Uf h;exact⟨(Aci h).1,hl.right,hl.aw,Int.le_of_eq hl.ar.symm,hl.dropped,Int.le_of_eq hl.tag.symm⟩
theorem deliver_done' {p:Ab} {s:Aa} {q:Int} (h:Bw p s q=0):T4 p s (Ca p s q):=by
 obtain⟨i,_,_,_,e,hr⟩:=Gv h;obtain⟨h0,_⟩:=J7.1 h;obtain⟨h1,_,_⟩:=Lq.1 h0;obtain⟨hR,_,_⟩:=Fv.1 h1;rw[e];exact⟨hR,hr,Int.le_refl _,Int.le_refl _,Int.le_refl _,by show s.af≤s.af+1;omega⟩
theorem ack_done' {p:Ab} {s:Aa} {t:Int} (h:Dr p s t=0):T4 p s (Ha p s t):=by
 obtain⟨hR,k,hk⟩:=Afr.1 h;obtain⟨_,e,hr⟩:=Rh hR hk;rw[e] at hr⊢;exact⟨hR,hr,Int.le_refl _,by show s.ar≤s.ar+1;omega,Int.le_refl _,Int.le_refl _⟩
theorem reject_done' {p:Ab} {s:Aa} {t:Int} {b:Bool} (h:Bg p s t=0):T4 p s (Cf p s t b):=by
 obtain⟨hR,⟨k,hk⟩,hs⟩:=Q5.1 h;obtain⟨_,_,hd⟩:=Kf hR hk hs b;exact⟨hR,hd.right,hd.aw,Int.le_of_eq hd.ar.symm,hd.dropped,Int.le_of_eq hd.tag.symm⟩
theorem Q8 {p:Ab} {s:Aa} {x:Cn} (h:E2 p s x=0):T4 p s (doS p s x):=by
 unfold E2 at h;unfold doS
 split at h
 ·rename_i h1;rw[zp h1];exact Ae2 h
 rename_i h1;rw[zq h1]
 split at h
 ·rename_i h2;rw[zp h2];exact Aoc h
 rename_i h2;rw[zq h2]
 split at h
 ·rename_i h3;rw[zp h3];exact Akf h
 rename_i h3;rw[zq h3]
 split at h
 ·rename_i h4;rw[zp h4];exact deliver_done' h
 rename_i h4;rw[zq h4]
 split at h
 ·rename_i h5;rw[zp h5];exact ack_done' h
 rename_i h5;rw[zq h5]
 split at h
 ·rename_i h6;rw[zp h6];exact reject_done' h
 ·cases h
theorem Aul {p:Ab} {s:Aa} {x:Cn} (h:E2 p s x≠0):doS p s x=Ay:=by
 unfold E2 at h;unfold doS
 split at h
 ·rename_i h1;rw[zp h1];unfold Cl;rw[zq h]
 rename_i h1;rw[zq h1]
 split at h
 ·rename_i h2;rw[zp h2];unfold Fh;rw[zq h]
 rename_i h2;rw[zq h2]
 split at h
 ·rename_i h3;rw[zp h3];unfold Dn;rw[zq h]
 rename_i h3;rw[zq h3]
 split at h
 ·rename_i h4;rw[zp h4];unfold Ca;rw[zq h]
 rename_i h4;rw[zq h4]
 split at h
 ·rename_i h5;rw[zp h5];unfold Ha;rw[zq h]
 rename_i h5;rw[zq h5]
 split at h
 ·rename_i h6;rw[zp h6];unfold Cf;rw[zq h]
 ·rename_i h6;rw[zq h6]
open Go Go.RowKit
theorem Agk {p:Ab} {s:Aa} {x:Cn} (h:x.kind=1):doS p s x=Cl p s x.a x.key x.body∧E2 p s x=Bt p s x.a x.key x.body:=by
 unfold doS E2;rw[h];simp only[Int.reduceEq,↓reduceIte,and_self]
theorem Agl {p:Ab} {s:Aa} {x:Cn} (h:x.kind=2):doS p s x=Fh p s x.a x.b∧E2 p s x=Cc p s x.a x.b:=by
 unfold doS E2;rw[h];simp only[Int.reduceEq,↓reduceIte,and_self]
theorem Agm {p:Ab} {s:Aa} {x:Cn} (h:x.kind=3):doS p s x=Dn p s x.a∧E2 p s x=Bv p s x.a:=by
 unfold doS E2;rw[h];simp only[Int.reduceEq,↓reduceIte,and_self]
theorem Agn {p:Ab} {s:Aa} {x:Cn} (h:x.kind=4):doS p s x=Ca p s x.a∧E2 p s x=Bw p s x.a:=by
 unfold doS E2;rw[h];simp only[Int.reduceEq,↓reduceIte,and_self]
theorem Ago {p:Ab} {s:Aa} {x:Cn} (h:x.kind=5):doS p s x=Ha p s x.a∧E2 p s x=Dr p s x.a:=by
 unfold doS E2;rw[h];simp only[Int.reduceEq,↓reduceIte,and_self]
theorem Agp {p:Ab} {s:Aa} {x:Cn} (h:x.kind=6):doS p s x=Cf p s x.a (x.b != 0)∧E2 p s x=Bg p s x.a:=by
 unfold doS E2;rw[h];simp only[Int.reduceEq,↓reduceIte,and_self]
theorem Agj {p:Ab} {s:Aa} {x:Cn} (h1:x.kind≠1) (h2:x.kind≠2) (h3:x.kind≠3) (h4:x.kind≠4) (h5:x.kind≠5) (h6:x.kind≠6):doS p s x=Ay∧E2 p s x=7:=by
 unfold doS E2;simp only[h1,h2,h3,h4,h5,h6,↓reduceIte,and_self]
theorem Aey (Y:Aa) (b1 b2 b3:Option Addr) (d1 d2 d3:Nat) (n e:Int) (w:World):Calls Tryz.prog 80 #[Ac Y b1 b2 b3 d1 d2 d3,.int .i64 n,.int .i64 e] w fun r w'=>r= .returned (.tuple #[Ac Y b1 b2 b3 d1 d2 d3,.int .i64 e])∧Below w.heap.size w w':=by
 unfold Ac Ag;go_enter Tryz.func80,Tryz.ntmps80
 go_upto_region 1 with fail
 obtain⟨W1,hW1⟩:∃W1,((w.alloc (.cells (zV Y b1 b2 b3 d1 d2 d3) 31)).alloc (.cells zO 31))=W1:=⟨_,rfl⟩;have hb:Below w.heap.size w W1:=by rw[←hW1];exact((zb _ _).alloc (zn _) _).alloc (by simp) _
 have h1:Bk W1 w.heap.size 31 (zV Y b1 b2 b3 d1 d2 d3):=by rw[←hW1];exact(Bk.new _ _ _).alloc _
 have h2:Bk W1 (w.heap.size+1) 31 zeroCells:=by rw[←hW1];exact Bk.cg _ _ _ (by simp)
 rw[hW1];clear hW1;unfold zeroCells at h2;obtain⟨n0,n1,n2,n3,n4,n5,n6,n7,_,_,_,_,_,_,_,_,hlt1⟩:=Af h1;obtain⟨k0,k1,k2,k3,k4,k5,k6,k7,f0,f1,f2,f3,f4,f5,f6,f7,hlt⟩:=Af h2;clear h1 h2;go_wp2_with fail
 refine bodyPost_ret (v:= .tuple #[.agg (zV Y b1 b2 b3 d1 d2 d3),.int .i64 e]) (by simp[results,Tryz.results80,go_sem,k0,k1,k2,k3,k4,k5,k6,k7,hlt]) rfl ?_;exact⟨rfl,Ak hb (by omega) _ _ _ _ _ _ _ _⟩
theorem Do_held (p:Ab) (s:Aa) (x:Cn) (p1 p2 p3 a1 a2 a3:Option Addr) (q1 q2 q3 c1 c2 c3:Nat) (rows:List Bq) (w:World) (hE:Env w) (hp:Az w 0 w.heap.size p1 p2 p3 p) (hps:Ai p) (hs:Ax w 0 w.heap.size a1 a2 a3 rows s) (hss:Am s) (hsi:Ba s) (hx:Eb x):
  Calls Tryz.prog 34 #[Bc p p1 p2 p3 q1 q2 q3,Ac s a1 a2 a3 c1 c2 c3,.agg (Ez x).toArray] w (Js (doS p s x) (E2 p s x) w):=by
 have hbx:=B9 q1 q2 q3 c1 c2 c3 hE hp hs 26 31;unfold Ag at hbx;unfold Ac Bc Ag Ez;have HPS:=zh hps;have HSS:=zh hss;have HSI:=zh hsi;have HAS:=zh hx;clear hE hp hs hps hss hsi hx;obtain⟨⟨m0,m1,m2⟩,⟨n0,n1,n2,n3,n4,n5,n6,n7⟩,_,_,_,_⟩:=hbx ((((w.alloc (.cells (zP p p1 p2 p3 q1 q2 q3) 26)).alloc (.cells (zV s a1 a2 a3 c1 c2 c3) 31)).alloc (.cells (zX x) 57)).alloc (.cells zO 31)) (((zb _ _).alloc (zn _) _).alloc (by simp) _);go_enter Tryz.func34,Tryz.ntmps34
 go_upto_region 1 with fail
 clear m0 m1 m2 n0 n1 n2 n3 n4 n5 n6 n7;obtain⟨V2,hV2⟩:∃V2,((w.alloc (.cells (zP p p1 p2 p3 q1 q2 q3) 26)).alloc (.cells (zV s a1 a2 a3 c1 c2 c3) 31))=V2:=⟨_,rfl⟩;have hz2:V2.heap.size=w.heap.size+1+1:=by rw[←hV2];simp
 rw[hV2] at hbx;rw[hV2];clear hV2;obtain⟨U0,hU0⟩:∃U,V2.alloc (.cells (zX x) 57)=U:=⟨_,rfl⟩;have kb0:Bk U0 (w.heap.size+1+1) 57 (zX x):=by rw[←hU0];exact Bk.cg _ _ _ (by rw[hz2])
 have zu0:U0.heap.size=w.heap.size+1+1+1:=by rw[←hU0];simp[hz2]
 have bu0:Below V2.heap.size V2 U0:=by rw[←hU0];exact(zb _ _).alloc (zn _) _
 rw[hU0];obtain⟨W0,hW0⟩:∃W0,U0.alloc (.cells zO 31)=W0:=⟨_,rfl⟩;have kbz:Bk W0 (w.heap.size+1+1+1) 31 zeroCells:=by rw[←hW0];exact Bk.cg _ _ _ zu0.symm
 have bW:Below U0.heap.size U0 W0:=by rw[←hW0];exact(zb _ _).alloc (zn _) _
 have HZ0:Hid (W0.heap.size=w.heap.size+1+1+1+1):=by refine(?_:W0.heap.size=_);rw[←hW0,←zu0];simp
 rw[hW0];have HBX:Hid (∀W,Below W0.heap.size W0 W→La w p s p1 p2 p3 a1 a2 a3 q1 q2 q3 c1 c2 c3 rows W∧Bk W (w.heap.size+1+1+1) 31 zeroCells∧Bk W (w.heap.size+1+1) 57 (zX x)):=zh fun W hW=>
  ⟨hbx W ((bu0.trans (bW.mono bu0.size)).trans (hW.mono (bu0.trans (bW.mono bu0.size)).size)),kbz.below hW kbz.lt,((kb0.below bW (by rw[zu0];omega)).below hW (by have:=bW.size;rw[zu0] at this;omega))⟩
 clear hbx hz2 hW0 kbz bW kb0 zu0 bu0 hU0;have HLO:Hid (w.heap.size≤W0.heap.size):=zh (by have:=HZ0.out;omega);have HIN:=zh (HBX.out _ (zb _ _)).1;obtain⟨⟨m0,m1,m2⟩,⟨n0,n1,n2,n3,n4,n5,n6,n7⟩,_,_,_,_⟩:=HIN.out;have hact:=(HBX.out _ (zb _ _)).2.2;have x0:=hact.cell 0;have x1:=hact.cell 1;have x2:=hact.cell 2;have x3:=hact.cell 3;have x4:=hact.cell 4
 simp only[zI,zJ,zK] at x0 x1 x2 x3 x4;clear hact;by_cases h1:x.kind=1
 ·obtain⟨hS,hEr⟩:=Agk (p:=p) (s:=s) h1
  have HSE:=zh (zi hS hEr);rw[h1] at x0;clear hS hEr h1;go_wp2_with fail
  refine(Publish_held p s x.a x.key x.body p1 p2 p3 a1 a2 a3 q1 q2 q3 c1 c2 c3 rows W0 HIN.out.env HIN.out.bu HPS.out HIN.out.bc HSS.out HSI.out HAS.out.key HAS.out.body HAS.out.a).mono ?_;intro e W1 hpost;obtain⟨b1,b2,b3,d1,d2,d3,rows1,rfl,hs1,hb1⟩:=hpost;have HB1:=zh hb1;have HS1:=zh hs1;clear hb1 hs1 m0 m1 m2 n0 n1 n2 n3 n4 n5 n6 n7 x0 x1 x2 x3 x4;generalize Cl p s x.a x.key x.body=Y at *;generalize Bt p s x.a x.key x.body=er at *;unfold Ac Ag;go_wp2_with fail
  refine(Aey Y b1 b2 b3 d1 d2 d3 _ er W1).mono ?_;rintro e W2 ⟨rfl,hb2⟩;unfold Ac Ag;have HB2:=zh (HB1.out.trans (hb2.mono HB1.out.size));have HS2:=zh (HS1.out.kept (Al.ct (ts:=[]) hb2));clear hb2;have hzk:=(HBX.out _ HB2.out).2.1;unfold zeroCells at hzk;obtain⟨k0,k1,k2,k3,k4,k5,k6,k7,f0,f1,f2,f3,f4,f5,f6,f7,hlt⟩:=Af hzk;clear hzk;go_wp2_with fail
  refine bodyPost_ret (v:=(.tuple #[.agg (zV Y b1 b2 b3 d1 d2 d3),.int .i64 er])) (by simp[results,Tryz.results34,go_sem,k0,k1,k2,k3,k4,k5,k6,k7,hlt]) rfl ?_;rw[HSE.out.1,HSE.out.2];exact⟨b1,b2,b3,d1,d2,d3,rows1,rfl,(HS2.out.kept (Al.dg (HBX.out _ HB2.out).2.1 (ts:=[31]) (by decide) _ _ _ _ _ _ _ _)).wider HLO.out,Ak (HBX.out _ HB2.out).1.below (by omega) _ _ _ _ _ _ _ _⟩
 by_cases h2:x.kind=2
 ·obtain⟨hS,hEr⟩:=Agl (p:=p) (s:=s) h2
  have HSE:=zh (zi hS hEr);rw[h2] at x0;clear hS hEr h2;go_wp2_with fail
  refine(Abn p s x.a x.b p1 p2 p3 a1 a2 a3 q1 q2 q3 c1 c2 c3 rows W0 HIN.out.env HIN.out.bu HPS.out HIN.out.bc HSS.out HSI.out).mono ?_;intro e W1 hpost;obtain⟨b1,b2,b3,d1,d2,d3,rows1,rfl,hs1,hb1⟩:=hpost;have HB1:=zh hb1;have HS1:=zh hs1;clear hb1 hs1 m0 m1 m2 n0 n1 n2 n3 n4 n5 n6 n7 x0 x1 x2 x3 x4;generalize Fh p s x.a x.b=Y at *;generalize Cc p s x.a x.b=er at *;unfold Ac Ag;go_wp2_with fail
  refine(Aey Y b1 b2 b3 d1 d2 d3 _ er W1).mono ?_;rintro e W2 ⟨rfl,hb2⟩;unfold Ac Ag;have HB2:=zh (HB1.out.trans (hb2.mono HB1.out.size));have HS2:=zh (HS1.out.kept (Al.ct (ts:=[]) hb2));clear hb2;have hzk:=(HBX.out _ HB2.out).2.1;unfold zeroCells at hzk;obtain⟨k0,k1,k2,k3,k4,k5,k6,k7,f0,f1,f2,f3,f4,f5,f6,f7,hlt⟩:=Af hzk;clear hzk;go_wp2_with fail
  refine bodyPost_ret (v:=(.tuple #[.agg (zV Y b1 b2 b3 d1 d2 d3),.int .i64 er])) (by simp[results,Tryz.results34,go_sem,k0,k1,k2,k3,k4,k5,k6,k7,hlt]) rfl ?_;rw[HSE.out.1,HSE.out.2];exact⟨b1,b2,b3,d1,d2,d3,rows1,rfl,(HS2.out.kept (Al.dg (HBX.out _ HB2.out).2.1 (ts:=[31]) (by decide) _ _ _ _ _ _ _ _)).wider HLO.out,Ak (HBX.out _ HB2.out).1.below (by omega) _ _ _ _ _ _ _ _⟩
 by_cases h3:x.kind=3
 ·obtain⟨hS,hEr⟩:=Agm (p:=p) (s:=s) h3
  have HSE:=zh (zi hS hEr);rw[h3] at x0;clear hS hEr h3;go_wp2_with fail
  refine(Leave_held p s x.a p1 p2 p3 a1 a2 a3 q1 q2 q3 c1 c2 c3 rows W0 HIN.out.env HIN.out.bu HPS.out HIN.out.bc HSS.out HSI.out).mono ?_;intro e W1 hpost;obtain⟨b1,b2,b3,d1,d2,d3,rows1,rfl,hs1,hb1⟩:=hpost;have HB1:=zh hb1;have HS1:=zh hs1;clear hb1 hs1 m0 m1 m2 n0 n1 n2 n3 n4 n5 n6 n7 x0 x1 x2 x3 x4;generalize Dn p s x.a=Y at *;generalize Bv p s x.a=er at *;unfold Ac Ag;have hzk:=(HBX.out _ HB1.out).2.1;unfold zeroCells at hzk;obtain⟨k0,k1,k2,k3,k4,k5,k6,k7,f0,f1,f2,f3,f4,f5,f6,f7,hlt⟩:=Af hzk;clear hzk;go_wp2_with fail
  refine bodyPost_ret (v:=(.tuple #[.agg (zV Y b1 b2 b3 d1 d2 d3),.int .i64 er])) (by simp[results,Tryz.results34,go_sem,k0,k1,k2,k3,k4,k5,k6,k7,hlt]) rfl ?_;rw[HSE.out.1,HSE.out.2];exact⟨b1,b2,b3,d1,d2,d3,rows1,rfl,(HS1.out.kept (Al.dg (HBX.out _ HB1.out).2.1 (ts:=[31]) (by decide) _ _ _ _ _ _ _ _)).wider HLO.out,Ak (HBX.out _ HB1.out).1.below (by omega) _ _ _ _ _ _ _ _⟩
 by_cases h4:x.kind=4
 ·obtain⟨hS,hEr⟩:=Agn (p:=p) (s:=s) h4
  have HSE:=zh (zi hS hEr);rw[h4] at x0;clear hS hEr h4;go_wp2_with fail
  refine(Deliver_held p s x.a p1 p2 p3 a1 a2 a3 q1 q2 q3 c1 c2 c3 rows W0 HIN.out.env HIN.out.bu HPS.out HIN.out.bc HSS.out HSI.out).mono ?_;intro e W1 hpost;obtain⟨b1,b2,b3,d1,d2,d3,rows1,rfl,hs1,hb1⟩:=hpost;have HB1:=zh hb1;have HS1:=zh hs1;clear hb1 hs1 m0 m1 m2 n0 n1 n2 n3 n4 n5 n6 n7 x0 x1 x2 x3 x4;generalize Ca p s x.a=Y at *;generalize Bw p s x.a=er at *;unfold Ac Ag;go_wp2_with fail
  refine(Aey Y b1 b2 b3 d1 d2 d3 _ er W1).mono ?_;rintro e W2 ⟨rfl,hb2⟩;unfold Ac Ag;have HB2:=zh (HB1.out.trans (hb2.mono HB1.out.size));have HS2:=zh (HS1.out.kept (Al.ct (ts:=[]) hb2));clear hb2;have hzk:=(HBX.out _ HB2.out).2.1;unfold zeroCells at hzk;obtain⟨k0,k1,k2,k3,k4,k5,k6,k7,f0,f1,f2,f3,f4,f5,f6,f7,hlt⟩:=Af hzk;clear hzk;go_wp2_with fail
  refine bodyPost_ret (v:=(.tuple #[.agg (zV Y b1 b2 b3 d1 d2 d3),.int .i64 er])) (by simp[results,Tryz.results34,go_sem,k0,k1,k2,k3,k4,k5,k6,k7,hlt]) rfl ?_;rw[HSE.out.1,HSE.out.2];exact⟨b1,b2,b3,d1,d2,d3,rows1,rfl,(HS2.out.kept (Al.dg (HBX.out _ HB2.out).2.1 (ts:=[31]) (by decide) _ _ _ _ _ _ _ _)).wider HLO.out,Ak (HBX.out _ HB2.out).1.below (by omega) _ _ _ _ _ _ _ _⟩
 by_cases h5:x.kind=5
 ·obtain⟨hS,hEr⟩:=Ago (p:=p) (s:=s) h5
  have HSE:=zh (zi hS hEr);rw[h5] at x0;clear hS hEr h5;go_wp2_with fail
  refine(Afh p s x.a p1 p2 p3 a1 a2 a3 q1 q2 q3 c1 c2 c3 rows W0 HIN.out.env HIN.out.bu HPS.out HIN.out.bc HSS.out HSI.out).mono ?_;intro e W1 hpost;obtain⟨b1,b2,b3,d1,d2,d3,rows1,rfl,hs1,hb1⟩:=hpost;have HB1:=zh hb1;have HS1:=zh hs1;clear hb1 hs1 m0 m1 m2 n0 n1 n2 n3 n4 n5 n6 n7 x0 x1 x2 x3 x4;generalize Ha p s x.a=Y at *;generalize Dr p s x.a=er at *;unfold Ac Ag;have hzk:=(HBX.out _ HB1.out).2.1;unfold zeroCells at hzk;obtain⟨k0,k1,k2,k3,k4,k5,k6,k7,f0,f1,f2,f3,f4,f5,f6,f7,hlt⟩:=Af hzk;clear hzk;go_wp2_with fail
  refine bodyPost_ret (v:=(.tuple #[.agg (zV Y b1 b2 b3 d1 d2 d3),.int .i64 er])) (by simp[results,Tryz.results34,go_sem,k0,k1,k2,k3,k4,k5,k6,k7,hlt]) rfl ?_;rw[HSE.out.1,HSE.out.2];exact⟨b1,b2,b3,d1,d2,d3,rows1,rfl,(HS1.out.kept (Al.dg (HBX.out _ HB1.out).2.1 (ts:=[31]) (by decide) _ _ _ _ _ _ _ _)).wider HLO.out,Ak (HBX.out _ HB1.out).1.below (by omega) _ _ _ _ _ _ _ _⟩
 by_cases h6:x.kind=6
 ·obtain⟨hS,hEr⟩:=Agp (p:=p) (s:=s) h6
  have HSE:=zh (zi hS hEr);rw[h6] at x0;clear hS hEr h6;go_wp2_with fail
  refine(Reject_held p s x.a (x.b != 0) p1 p2 p3 a1 a2 a3 q1 q2 q3 c1 c2 c3 rows W0 HIN.out.env HIN.out.bu HPS.out HIN.out.bc HSS.out HSI.out).mono ?_;intro e W1 hpost;obtain⟨b1,b2,b3,d1,d2,d3,rows1,rfl,hs1,hb1⟩:=hpost;have HB1:=zh hb1;have HS1:=zh hs1;clear hb1 hs1 m0 m1 m2 n0 n1 n2 n3 n4 n5 n6 n7 x0 x1 x2 x3 x4;generalize Cf p s x.a (x.b != 0)=Y at *;generalize Bg p s x.a=er at *;unfold Ac Ag;have hzk:=(HBX.out _ HB1.out).2.1;unfold zeroCells at hzk;obtain⟨k0,k1,k2,k3,k4,k5,k6,k7,f0,f1,f2,f3,f4,f5,f6,f7,hlt⟩:=Af hzk;clear hzk;go_wp2_with fail
  refine bodyPost_ret (v:=(.tuple #[.agg (zV Y b1 b2 b3 d1 d2 d3),.int .i64 er])) (by simp[results,Tryz.results34,go_sem,k0,k1,k2,k3,k4,k5,k6,k7,hlt]) rfl ?_;rw[HSE.out.1,HSE.out.2];exact⟨b1,b2,b3,d1,d2,d3,rows1,rfl,(HS1.out.kept (Al.dg (HBX.out _ HB1.out).2.1 (ts:=[31]) (by decide) _ _ _ _ _ _ _ _)).wider HLO.out,Ak (HBX.out _ HB1.out).1.below (by omega) _ _ _ _ _ _ _ _⟩
 obtain⟨hS,hEr⟩:=Agj (p:=p) (s:=s) h1 h2 h3 h4 h5 h6;have HSE:=zh (zi hS hEr);have hzk:=(HBX.out _ (zb _ _)).2.1;unfold zeroCells at hzk;obtain⟨k0,k1,k2,k3,k4,k5,k6,k7,f0,f1,f2,f3,f4,f5,f6,f7,hlt⟩:=Af hzk;clear hzk hS hEr;have e1:(x.kind == 1)=false:=by simp[h1]
 have e2:(x.kind == 2)=false:=by simp[h2]
 have e3:(x.kind == 3)=false:=by simp[h3]
 have e4:(x.kind == 4)=false:=by simp[h4]
 have e5:(x.kind == 5)=false:=by simp[h5]
 have e6:(x.kind == 6)=false:=by simp[h6]
 clear h1 h2 h3 h4 h5 h6;go_wp2_with fail
 refine bodyPost_ret (v:= .tuple #[Ac Ay none none none 0 0 0,.int .i64 7]) (by simp[results,Tryz.results34,go_sem,Ac,Ag,Ay,k0,k1,k2,k3,k4,k5,k6,k7,hlt]) rfl ?_;rw[HSE.out.1,HSE.out.2];exact⟨none,none,none,0,0,0,[],rfl,by exact Dx _ _,Ak (HBX.out _ (zb _ _)).1.below (by omega) _ _ _ _ _ _ _ _⟩
theorem T3 (p:Ab) (s:Aa) (x:Cn) (p1 p2 p3 a1 a2 a3:Option Addr) (q1 q2 q3 c1 c2 c3:Nat) (rows:List Bq) (w:World) (hE:Env w) (hp:Az w 0 w.heap.size p1 p2 p3 p) (hps:Ai p) (hs:Ax w 0 w.heap.size a1 a2 a3 rows s) (hss:Am s) (hsi:Ba s) (hx:Eb x):
  Calls Tryz.prog 34 #[Bc p p1 p2 p3 q1 q2 q3,Ac s a1 a2 a3 c1 c2 c3,.agg (Ez x).toArray] w (Jk (doS p s x) (E2 p s x) w):=
 (Do_held p s x p1 p2 p3 a1 a2 a3 q1 q2 q3 c1 c2 c3 rows w hE hp hps hs hss hsi hx).mono fun _ _ h=>h.post
open Go Go.RowKit
theorem Abk (p:Ab) (s:Aa) (x:Cn) (p1 p2 p3 a1 a2 a3:Option Addr) (q1 q2 q3 c1 c2 c3:Nat) (rows:List Bq) (w:World) (hE:Env w) (hp:Az w 0 w.heap.size p1 p2 p3 p) (hps:Ai p) (hs:Ax w 0 w.heap.size a1 a2 a3 rows s) (hss:Am s) (hsi:Ba s) (hcap:s.outs.length≤c2) (hx:Eb x):
  Calls Tryz.prog 35 #[Bc p p1 p2 p3 q1 q2 q3,Ac s a1 a2 a3 c1 c2 c3,.agg (Ez x).toArray] w (Js (doS p s x) (E2 p s x) w):=by
 have hbx:=B9 q1 q2 q3 c1 c2 c3 hE hp hs 26 31;unfold Ag at hbx;unfold Ac Bc Ag Ez;have HPS:=zh hps;have HSS:=zh hss;have HSI:=zh hsi;have HAS:=zh hx;have HCAP:=zh hcap;clear hcap;clear hE hp hs hps hss hsi hx;obtain⟨⟨m0,m1,m2⟩,⟨n0,n1,n2,n3,n4,n5,n6,n7⟩,_,_,_,_⟩:=hbx ((((w.alloc (.cells (zP p p1 p2 p3 q1 q2 q3) 26)).alloc (.cells (zV s a1 a2 a3 c1 c2 c3) 31)).alloc (.cells (zX x) 57)).alloc (.cells zO 31)) (((zb _ _).alloc (zn _) _).alloc (by simp) _);go_enter Tryz.func35,Tryz.ntmps35
 go_upto_region 1 with fail
 clear m0 m1 m2 n0 n1 n2 n3 n4 n5 n6 n7;obtain⟨V2,hV2⟩:∃V2,((w.alloc (.cells (zP p p1 p2 p3 q1 q2 q3) 26)).alloc (.cells (zV s a1 a2 a3 c1 c2 c3) 31))=V2:=⟨_,rfl⟩;have hz2:V2.heap.size=w.heap.size+1+1:=by rw[←hV2];simp
 rw[hV2] at hbx;rw[hV2];clear hV2;obtain⟨U0,hU0⟩:∃U,V2.alloc (.cells (zX x) 57)=U:=⟨_,rfl⟩;have kb0:Bk U0 (w.heap.size+1+1) 57 (zX x):=by rw[←hU0];exact Bk.cg _ _ _ (by rw[hz2])
 have zu0:U0.heap.size=w.heap.size+1+1+1:=by rw[←hU0];simp[hz2]
 have bu0:Below V2.heap.size V2 U0:=by rw[←hU0];exact(zb _ _).alloc (zn _) _
 rw[hU0];obtain⟨W0,hW0⟩:∃W0,U0.alloc (.cells zO 31)=W0:=⟨_,rfl⟩;have kbz:Bk W0 (w.heap.size+1+1+1) 31 zeroCells:=by rw[←hW0];exact Bk.cg _ _ _ zu0.symm
 have bW:Below U0.heap.size U0 W0:=by rw[←hW0];exact(zb _ _).alloc (zn _) _
 have HZ0:Hid (W0.heap.size=w.heap.size+1+1+1+1):=by refine(?_:W0.heap.size=_);rw[←hW0,←zu0];simp
 rw[hW0];have HBX:Hid (∀W,Below W0.heap.size W0 W→La w p s p1 p2 p3 a1 a2 a3 q1 q2 q3 c1 c2 c3 rows W∧Bk W (w.heap.size+1+1+1) 31 zeroCells∧Bk W (w.heap.size+1+1) 57 (zX x)):=zh fun W hW=>
  ⟨hbx W ((bu0.trans (bW.mono bu0.size)).trans (hW.mono (bu0.trans (bW.mono bu0.size)).size)),kbz.below hW kbz.lt,((kb0.below bW (by rw[zu0];omega)).below hW (by have:=bW.size;rw[zu0] at this;omega))⟩
 clear hbx hz2 hW0 kbz bW kb0 zu0 bu0 hU0;have HLO:Hid (w.heap.size≤W0.heap.size):=zh (by have:=HZ0.out;omega);have HIN:=zh (HBX.out _ (zb _ _)).1;obtain⟨⟨m0,m1,m2⟩,⟨n0,n1,n2,n3,n4,n5,n6,n7⟩,_,_,_,_⟩:=HIN.out;have hact:=(HBX.out _ (zb _ _)).2.2;have x0:=hact.cell 0;have x1:=hact.cell 1;have x2:=hact.cell 2;have x3:=hact.cell 3;have x4:=hact.cell 4
 simp only[zI,zJ,zK] at x0 x1 x2 x3 x4;clear hact;by_cases h1:x.kind=1
 ·obtain⟨hS,hEr⟩:=Agk (p:=p) (s:=s) h1
  have HSE:=zh (zi hS hEr);rw[h1] at x0;clear hS hEr h1;go_wp2_with fail
  refine(Re p s x.a x.key x.body p1 p2 p3 a1 a2 a3 q1 q2 q3 c1 c2 c3 rows W0 HIN.out.env HIN.out.bu HPS.out HIN.out.bc HSS.out HSI.out HAS.out.key HAS.out.body HAS.out.a).mono ?_;intro e W1 hpost;obtain⟨b1,b2,b3,d1,d2,d3,rows1,rfl,hs1,hb1⟩:=hpost;have HB1:=zh hb1;have HS1:=zh hs1;clear hb1 hs1 m0 m1 m2 n0 n1 n2 n3 n4 n5 n6 n7 x0 x1 x2 x3 x4;generalize Cl p s x.a x.key x.body=Y at *;generalize Bt p s x.a x.key x.body=er at *;unfold Ac Ag;obtain⟨W2,hW2⟩:∃W2,W1.alloc (.cells (zV Y b1 b2 b3 d1 d2 d3) 31)=W2:=⟨_,rfl⟩;have hb2:Below W1.heap.size W1 W2:=by rw[←hW2];exact(zb _ _).alloc (zn _) _
  have hk2:Bk W2 W1.heap.size 31 (zV Y b1 b2 b3 d1 d2 d3):=by rw[←hW2];exact Bk.new _ _ _
  have HB2:=zh (HB1.out.trans (hb2.mono HB1.out.size));have HS2:=zh (HS1.out.kept (Al.ct (ts:=[]) hb2));go_upto_region 4 with fail
  try rw[hW2]
  clear hW2 hb2;obtain⟨y0,y1,y2,y3,y4,y5,y6,y7,_,_,_,_,_,_,_,_,hlty⟩:=Af hk2;clear hk2;have hzk:=(HBX.out _ HB2.out).2.1;unfold zeroCells at hzk;obtain⟨k0,k1,k2,k3,k4,k5,k6,k7,f0,f1,f2,f3,f4,f5,f6,f7,hlt⟩:=Af hzk;clear hzk;go_wp2_with fail
  refine bodyPost_ret (v:=(.tuple #[.agg (zV Y b1 b2 b3 d1 d2 d3),.int .i64 er])) (by simp[results,Tryz.results35,go_sem,k0,k1,k2,k3,k4,k5,k6,k7,hlt]) rfl ?_;rw[HSE.out.1,HSE.out.2];exact⟨b1,b2,b3,d1,d2,d3,rows1,rfl,(HS2.out.kept (Al.dg (HBX.out _ HB2.out).2.1 (ts:=[31]) (by decide) _ _ _ _ _ _ _ _)).wider HLO.out,Ak (HBX.out _ HB2.out).1.below (by omega) _ _ _ _ _ _ _ _⟩
 by_cases h2:x.kind=2
 ·obtain⟨hS,hEr⟩:=Agl (p:=p) (s:=s) h2
  have HSE:=zh (zi hS hEr);rw[h2] at x0;clear hS hEr h2;go_wp2_with fail
  refine(Ra p s x.a x.b p1 p2 p3 a1 a2 a3 q1 q2 q3 c1 c2 c3 rows W0 HIN.out.env HIN.out.bu HPS.out HIN.out.bc HSS.out HSI.out).mono ?_;intro e W1 hpost;obtain⟨b1,b2,b3,d1,d2,d3,rows1,rfl,hs1,hb1⟩:=hpost;have HB1:=zh hb1;have HS1:=zh hs1;clear hb1 hs1 m0 m1 m2 n0 n1 n2 n3 n4 n5 n6 n7 x0 x1 x2 x3 x4;generalize Fh p s x.a x.b=Y at *;generalize Cc p s x.a x.b=er at *;unfold Ac Ag;obtain⟨W2,hW2⟩:∃W2,W1.alloc (.cells (zV Y b1 b2 b3 d1 d2 d3) 31)=W2:=⟨_,rfl⟩;have hb2:Below W1.heap.size W1 W2:=by rw[←hW2];exact(zb _ _).alloc (zn _) _
  have hk2:Bk W2 W1.heap.size 31 (zV Y b1 b2 b3 d1 d2 d3):=by rw[←hW2];exact Bk.new _ _ _
  have HB2:=zh (HB1.out.trans (hb2.mono HB1.out.size));have HS2:=zh (HS1.out.kept (Al.ct (ts:=[]) hb2));go_upto_region 7 with fail
  try rw[hW2]
  clear hW2 hb2;obtain⟨y0,y1,y2,y3,y4,y5,y6,y7,_,_,_,_,_,_,_,_,hlty⟩:=Af hk2;clear hk2;have hzk:=(HBX.out _ HB2.out).2.1;unfold zeroCells at hzk;obtain⟨k0,k1,k2,k3,k4,k5,k6,k7,f0,f1,f2,f3,f4,f5,f6,f7,hlt⟩:=Af hzk;clear hzk;go_wp2_with fail
  refine bodyPost_ret (v:=(.tuple #[.agg (zV Y b1 b2 b3 d1 d2 d3),.int .i64 er])) (by simp[results,Tryz.results35,go_sem,k0,k1,k2,k3,k4,k5,k6,k7,hlt]) rfl ?_;rw[HSE.out.1,HSE.out.2];exact⟨b1,b2,b3,d1,d2,d3,rows1,rfl,(HS2.out.kept (Al.dg (HBX.out _ HB2.out).2.1 (ts:=[31]) (by decide) _ _ _ _ _ _ _ _)).wider HLO.out,Ak (HBX.out _ HB2.out).1.below (by omega) _ _ _ _ _ _ _ _⟩
 by_cases h3:x.kind=3
 ·obtain⟨hS,hEr⟩:=Agm (p:=p) (s:=s) h3
  have HSE:=zh (zi hS hEr);rw[h3] at x0;clear hS hEr h3;go_wp2_with fail
  refine(Aaz p s x.a HAS.out.a p1 p2 p3 a1 a2 a3 q1 q2 q3 c1 c2 c3 rows W0 HIN.out.env HIN.out.bu HPS.out HIN.out.bc HSS.out HSI.out).mono ?_;intro e W1 hpost;obtain⟨b1,b2,b3,d1,d2,d3,rows1,rfl,hs1,hb1⟩:=hpost;have HB1:=zh hb1;have HS1:=zh hs1;clear hb1 hs1 m0 m1 m2 n0 n1 n2 n3 n4 n5 n6 n7 x0 x1 x2 x3 x4;generalize Dn p s x.a=Y at *;generalize Bv p s x.a=er at *;unfold Ac Ag;have hzk:=(HBX.out _ HB1.out).2.1;unfold zeroCells at hzk;obtain⟨k0,k1,k2,k3,k4,k5,k6,k7,f0,f1,f2,f3,f4,f5,f6,f7,hlt⟩:=Af hzk;clear hzk;go_wp2_with fail
  refine bodyPost_ret (v:=(.tuple #[.agg (zV Y b1 b2 b3 d1 d2 d3),.int .i64 er])) (by simp[results,Tryz.results35,go_sem,k0,k1,k2,k3,k4,k5,k6,k7,hlt]) rfl ?_;rw[HSE.out.1,HSE.out.2];exact⟨b1,b2,b3,d1,d2,d3,rows1,rfl,(HS1.out.kept (Al.dg (HBX.out _ HB1.out).2.1 (ts:=[31]) (by decide) _ _ _ _ _ _ _ _)).wider HLO.out,Ak (HBX.out _ HB1.out).1.below (by omega) _ _ _ _ _ _ _ _⟩
 by_cases h4:x.kind=4
 ·obtain⟨hS,hEr⟩:=Agn (p:=p) (s:=s) h4
  have HSE:=zh (zi hS hEr);rw[h4] at x0;clear hS hEr h4;go_wp2_with fail
  refine(M8 p s x.a p1 p2 p3 a1 a2 a3 q1 q2 q3 c1 c2 c3 rows W0 HIN.out.env HIN.out.bu HPS.out HIN.out.bc HSS.out HSI.out).mono ?_;intro e W1 hpost;obtain⟨b1,b2,b3,d1,d2,d3,rows1,rfl,hs1,hb1⟩:=hpost;have HB1:=zh hb1;have HS1:=zh hs1;clear hb1 hs1 m0 m1 m2 n0 n1 n2 n3 n4 n5 n6 n7 x0 x1 x2 x3 x4;generalize Ca p s x.a=Y at *;generalize Bw p s x.a=er at *;unfold Ac Ag;obtain⟨W2,hW2⟩:∃W2,W1.alloc (.cells (zV Y b1 b2 b3 d1 d2 d3) 31)=W2:=⟨_,rfl⟩;have hb2:Below W1.heap.size W1 W2:=by rw[←hW2];exact(zb _ _).alloc (zn _) _
  have hk2:Bk W2 W1.heap.size 31 (zV Y b1 b2 b3 d1 d2 d3):=by rw[←hW2];exact Bk.new _ _ _
  have HB2:=zh (HB1.out.trans (hb2.mono HB1.out.size));have HS2:=zh (HS1.out.kept (Al.ct (ts:=[]) hb2));go_upto_region 12 with fail
  try rw[hW2]
  clear hW2 hb2;obtain⟨y0,y1,y2,y3,y4,y5,y6,y7,_,_,_,_,_,_,_,_,hlty⟩:=Af hk2;clear hk2;have hzk:=(HBX.out _ HB2.out).2.1;unfold zeroCells at hzk;obtain⟨k0,k1,k2,k3,k4,k5,k6,k7,f0,f1,f2,f3,f4,f5,f6,f7,hlt⟩:=Af hzk;clear hzk;go_wp2_with fail
  refine bodyPost_ret (v:=(.tuple #[.agg (zV Y b1 b2 b3 d1 d2 d3),.int .i64 er])) (by simp[results,Tryz.results35,go_sem,k0,k1,k2,k3,k4,k5,k6,k7,hlt]) rfl ?_;rw[HSE.out.1,HSE.out.2];exact⟨b1,b2,b3,d1,d2,d3,rows1,rfl,(HS2.out.kept (Al.dg (HBX.out _ HB2.out).2.1 (ts:=[31]) (by decide) _ _ _ _ _ _ _ _)).wider HLO.out,Ak (HBX.out _ HB2.out).1.below (by omega) _ _ _ _ _ _ _ _⟩
 by_cases h5:x.kind=5
 ·obtain⟨hS,hEr⟩:=Ago (p:=p) (s:=s) h5
  have HSE:=zh (zi hS hEr);rw[h5] at x0;clear hS hEr h5;go_wp2_with fail
  refine(Yy p s x.a p1 p2 p3 a1 a2 a3 q1 q2 q3 c1 c2 c3 rows W0 HIN.out.env HIN.out.bu HPS.out HIN.out.bc HSS.out HSI.out HCAP.out).mono ?_;intro e W1 hpost;obtain⟨b1,b2,b3,d1,d2,d3,rows1,rfl,hs1,hb1⟩:=hpost;have HB1:=zh hb1;have HS1:=zh hs1;clear hb1 hs1 m0 m1 m2 n0 n1 n2 n3 n4 n5 n6 n7 x0 x1 x2 x3 x4;generalize Ha p s x.a=Y at *;generalize Dr p s x.a=er at *;unfold Ac Ag;have hzk:=(HBX.out _ HB1.out).2.1;unfold zeroCells at hzk;obtain⟨k0,k1,k2,k3,k4,k5,k6,k7,f0,f1,f2,f3,f4,f5,f6,f7,hlt⟩:=Af hzk;clear hzk;go_wp2_with fail
  refine bodyPost_ret (v:=(.tuple #[.agg (zV Y b1 b2 b3 d1 d2 d3),.int .i64 er])) (by simp[results,Tryz.results35,go_sem,k0,k1,k2,k3,k4,k5,k6,k7,hlt]) rfl ?_;rw[HSE.out.1,HSE.out.2];exact⟨b1,b2,b3,d1,d2,d3,rows1,rfl,(HS1.out.kept (Al.dg (HBX.out _ HB1.out).2.1 (ts:=[31]) (by decide) _ _ _ _ _ _ _ _)).wider HLO.out,Ak (HBX.out _ HB1.out).1.below (by omega) _ _ _ _ _ _ _ _⟩
 by_cases h6:x.kind=6
 ·obtain⟨hS,hEr⟩:=Agp (p:=p) (s:=s) h6
  have HSE:=zh (zi hS hEr);rw[h6] at x0;clear hS hEr h6;go_wp2_with fail
  refine(Se p s x.a (x.b != 0) p1 p2 p3 a1 a2 a3 q1 q2 q3 c1 c2 c3 rows W0 HIN.out.env HIN.out.bu HPS.out HIN.out.bc HSS.out HSI.out HCAP.out).mono ?_;intro e W1 hpost;obtain⟨b1,b2,b3,d1,d2,d3,rows1,rfl,hs1,hb1⟩:=hpost;have HB1:=zh hb1;have HS1:=zh hs1;clear hb1 hs1 m0 m1 m2 n0 n1 n2 n3 n4 n5 n6 n7 x0 x1 x2 x3 x4;generalize Cf p s x.a (x.b != 0)=Y at *;generalize Bg p s x.a=er at *;unfold Ac Ag;have hzk:=(HBX.out _ HB1.out).2.1;unfold zeroCells at hzk;obtain⟨k0,k1,k2,k3,k4,k5,k6,k7,f0,f1,f2,f3,f4,f5,f6,f7,hlt⟩:=Af hzk;clear hzk;go_wp2_with fail
  refine bodyPost_ret (v:=(.tuple #[.agg (zV Y b1 b2 b3 d1 d2 d3),.int .i64 er])) (by simp[results,Tryz.results35,go_sem,k0,k1,k2,k3,k4,k5,k6,k7,hlt]) rfl ?_;rw[HSE.out.1,HSE.out.2];exact⟨b1,b2,b3,d1,d2,d3,rows1,rfl,(HS1.out.kept (Al.dg (HBX.out _ HB1.out).2.1 (ts:=[31]) (by decide) _ _ _ _ _ _ _ _)).wider HLO.out,Ak (HBX.out _ HB1.out).1.below (by omega) _ _ _ _ _ _ _ _⟩
 obtain⟨hS,hEr⟩:=Agj (p:=p) (s:=s) h1 h2 h3 h4 h5 h6;have HSE:=zh (zi hS hEr);have hzk:=(HBX.out _ (zb _ _)).2.1;unfold zeroCells at hzk;obtain⟨k0,k1,k2,k3,k4,k5,k6,k7,f0,f1,f2,f3,f4,f5,f6,f7,hlt⟩:=Af hzk;clear hzk hS hEr;have e1:(x.kind == 1)=false:=by simp[h1]
 have e2:(x.kind == 2)=false:=by simp[h2]
 have e3:(x.kind == 3)=false:=by simp[h3]
 have e4:(x.kind == 4)=false:=by simp[h4]
 have e5:(x.kind == 5)=false:=by simp[h5]
 have e6:(x.kind == 6)=false:=by simp[h6]
 clear h1 h2 h3 h4 h5 h6;go_wp2_with fail
 refine bodyPost_ret (v:= .tuple #[Ac Ay none none none 0 0 0,.int .i64 7]) (by simp[results,Tryz.results35,go_sem,Ac,Ag,Ay,k0,k1,k2,k3,k4,k5,k6,k7,hlt]) rfl ?_;rw[HSE.out.1,HSE.out.2];exact⟨none,none,none,0,0,0,[],rfl,by exact Dx _ _,Ak (HBX.out _ (zb _ _)).1.below (by omega) _ _ _ _ _ _ _ _⟩
theorem Apu (p:Ab) (s:Aa) (x:Cn) (p1 p2 p3 a1 a2 a3:Option Addr) (q1 q2 q3 c1 c2 c3:Nat) (rows:List Bq) (w:World) (hE:Env w) (hp:Az w 0 w.heap.size p1 p2 p3 p) (hps:Ai p) (hs:Ax w 0 w.heap.size a1 a2 a3 rows s) (hss:Am s) (hsi:Ba s) (hcap:s.outs.length≤c2) (hx:Eb x):
  Calls Tryz.prog 35 #[Bc p p1 p2 p3 q1 q2 q3,Ac s a1 a2 a3 c1 c2 c3,.agg (Ez x).toArray] w (Jk (doS p s x) (E2 p s x) w):=
 (Abk p s x p1 p2 p3 a1 a2 a3 q1 q2 q3 c1 c2 c3 rows w hE hp hps hs hss hsi hcap hx).mono fun _ _ h=>h.post
end Go.Proofs.YtaanpcjkflhomaaGreatDoor
