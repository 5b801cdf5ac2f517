/-
  The reference's DoneOf: acts, one behind the other.
-/
import Derived.Test.YtaanpcjkflhomaaGreatDoorBunLB
import Derived.Test.YtaanpcjkflhomaaGreatDoorBunDC
import Derived.Test.YtaanpcjkflhomaaGreatDoorBunA
import Derived.Deep.RegionHeld3
set_option maxHeartbeats 20000000
set_option maxRecDepth 100000
set_option linter.unusedSimpArgs false
set_option linter.unusedVariables false
namespace Go.Proofs.YtaanpcjkflhomaaGreatDoor
open Go Go.RowKit
def Ak7 (p:Ab) (L:List Cn) (W0 W3:World) (i:Value) (wr:World):Prop:=
 ∃(k:Nat) (b1 b2 b3:Option Addr) (d1 d2 d3:Nat) (rows:List Bq),k≤L.length∧i= .int .i64 k∧Bk wr W3.heap.size 31 (Ag (Ju p (L.take k)) b1 b2 b3 d1 d2 d3)∧Ax wr W0.heap.size wr.heap.size b1 b2 b3 rows (Ju p (L.take k))∧(Ju p (L.take k)).outs.length≤d2∧Below W3.heap.size W3 wr
def Ai6 (Y:Aa) (er:Int) (WR:World) (b e:Value) (wx:World):Prop:=
 ∃g y1 y2 y3 e1 e2 e3 ry,b= .pointer (some ⟨g,0,none⟩)∧e= .int .i64 er∧WR.heap.size≤g∧Bk wx g 31 (Ag Y y1 y2 y3 e1 e2 e3)∧Cm wx WR.heap.size (.slice y1 Y.ready.length e1) (.slice y2 Y.outs.length e2) (.slice y3 Y.ae.length e3) ry Y∧Below WR.heap.size WR wx
theorem Aro {w:World} {lo n c:Nat} {a:Option Addr} {v1 v3:Value} {rows:List Bq} {s:Aa} (h:Cm w lo v1 (.slice a n c) v3 rows s):s.outs.length≤c:=by
 obtain⟨_,_,e,hc⟩:=Ad h.outs;simp only[Value.slice.injEq] at e;omega
theorem Aw1 {wd WR:World} {lo:Nat} {Y:Aa} {er:Int} {y1 y2 y3:Option Addr} {e1 e2 e3:Nat} {ry:List Bq} (hs:Cm wd lo (.slice y1 Y.ready.length e1) (.slice y2 Y.outs.length e2) (.slice y3 Y.ae.length e3) ry Y) (hl:WR.heap.size≤lo) (hb:Below WR.heap.size WR wd):
  Ai6 Y er WR (.pointer (some ⟨wd.heap.size,0,none⟩)) (.int .i64 er) (wd.alloc (.cells (Ag Y y1 y2 y3 e1 e2 e3) 31)):=
 ⟨_,y1,y2,y3,e1,e2,e3,ry,rfl,rfl,hb.size,Bk.new _ _ _,(hs.kept (Al.alloc [] _ _)).wider hl,hb.alloc hb.size _⟩
theorem Aw2 {wd WR:World} {lo g:Nat} {Y:Aa} {er:Int} {y1 y2 y3:Option Addr} {e1 e2 e3:Nat} {ry:List Bq} {o0 o1 o2 o3 o4 o5 o6 o7:Value} (hs:Cm wd lo (.slice y1 Y.ready.length e1) (.slice y2 Y.outs.length e2) (.slice y3 Y.ae.length e3) ry Y) (hl:WR.heap.size≤lo) (hk:Bk wd g 31 #[o0,o1,o2,o3,o4,o5,o6,o7]) (hg:WR.heap.size≤g) (hb:Below WR.heap.size WR wd):
  Ai6 Y er WR (.pointer (some ⟨g,0,none⟩)) (.int .i64 er) ((((((((wd.setCell ⟨g,0,none⟩ (.slice y1 Y.ready.length e1)).setCell ⟨g,1,none⟩ (.slice y2 Y.outs.length e2)).setCell ⟨g,2,none⟩ (.slice y3 Y.ae.length e3)).setCell ⟨g,3,none⟩ (.int .i64 Y.ah)).setCell ⟨g,4,none⟩ (.int .i64 Y.af)).setCell ⟨g,5,none⟩ (.int .i64 Y.aw)).setCell ⟨g,6,none⟩ (.int .i64 Y.ar)).setCell ⟨g,7,none⟩ (.int .i64 Y.dropped)):=
 ⟨_,y1,y2,y3,e1,e2,e3,ry,rfl,rfl,hg,Yf hk _ _ _ _ _ _ _ _,(hs.kept (Al.dg hk (ts:=[31]) (by decide) _ _ _ _ _ _ _ _)).wider hl,Ak hb hg _ _ _ _ _ _ _ _⟩
theorem Za (p:Ab) (L:List Cn) (p1 p2 p3 al:Option Addr) (q1 q2 q3 cl:Nat) (w:World) (hE:Env w) (hp:Az w 0 w.heap.size p1 p2 p3 p) (hps:Ai p) (hsl:Sl w 0 w.heap.size al (L.flatMap Ez)) (hL60:L.length≤60) (hsm:∀x∈L,Eb x):
  Calls Tryz.prog 44 #[Bc p p1 p2 p3 q1 q2 q3,.slice al L.length cl] w fun e w'=>∃a1 a2 a3 c1 c2 c3 rows,e= .returned (Ac (Ju p L) a1 a2 a3 c1 c2 c3)∧Ax w' w.heap.size w'.heap.size a1 a2 a3 rows (Ju p L)∧Below w.heap.size w w':=by
 have HPS:=zh hps;clear hps
 have hbx:∀W,Below ((w.alloc (.cells (zP p p1 p2 p3 q1 q2 q3) 26)).alloc (.cells zeroCells 31)).heap.size ((w.alloc (.cells (zP p p1 p2 p3 q1 q2 q3) 26)).alloc (.cells zeroCells 31)) W→
   Az W 0 W.heap.size p1 p2 p3 p∧(W.cell? ⟨w.heap.size,0,none⟩=some (.slice p1 p.aj.length q1)∧W.cell? ⟨w.heap.size,1,none⟩=some (.slice p2 p.ag.length q2)∧W.cell? ⟨w.heap.size,2,none⟩=some (.slice p3 p.binds.length q3))∧Bk W (w.heap.size+1) 31 zeroCells∧Below w.heap.size w W:=fun W hW=>by
  have h:=G6 hp q1 q2 q3 26 W (((zb _ _).alloc (zn _) _).trans (hW.mono (by simp)));exact⟨h.1.wider (zn _) (by have:=hW.size;simp at this⊢;omega),h.2.1,(Bk.cg _ _ _ (by simp)).below hW (by simp),h.2.2⟩
 unfold zeroCells at hbx;unfold Bc;have HV:=zh hE;clear hE hp
 have HSLW:=zh hsl;clear hsl
 have HSM:=zh hsm;clear hsm
 go_enter Tryz.func44,Tryz.ntmps44
 obtain⟨_,⟨m20,m21,m22⟩,_,_⟩:=hbx _ (zb _ _);have HBX:=zh hbx;clear hbx
 go_wp2_with fail
 have HLZ0:Hid (w.heap.size+1 < ((w.alloc (.cells (zP p p1 p2 p3 q1 q2 q3) 26)).alloc (.cells zO 31)).heap.size):=zh (by simp);generalize ((w.alloc (.cells (zP p p1 p2 p3 q1 q2 q3) 26)).alloc (.cells zO 31))=W0 at *;clear m20 m21 m22;refine(Aay p p1 p2 p3 q1 q2 q3 W0 (HBX.out W0 (zb _ _)).1 HPS.out).mono ?_;rintro e W3 ⟨z1,y1,rowsB,rfl,hs3,hb3⟩;have HB3:=zh hb3;have HSL3:=zh (zi (((HSLW.out.below (HBX.out _ hb3).2.2.2 (zn _)).wider (zn _) (HBX.out _ hb3).2.2.2.size)) (zn W3.heap.size));have HL0:Hid (Ju p (L.take 0)=Cx p):=zh rfl;have HOB:Hid ((Cx p).outs.length≤0):=zh (zn _);clear hb3;generalize Cx p=X at *;unfold Ac Ag;go_upto_region 2 with fail
 obtain⟨W4,hW4⟩:∃W4,W3.alloc (.cells (zV X z1 none none y1 0 0) 31)=W4:=⟨_,rfl⟩;rw[hW4];have HI4:Hid (Ak7 p L W0 W3 (.int .i64 0) W4):=zh (by
  rw[←hW4];refine⟨0,z1,none,none,y1,0,0,rowsB,Nat.zero_le _,rfl,?_,?_,?_,(zb _ _).alloc (zn _) _⟩
  ·rw[HL0.out];exact Bk.new _ _ _
  ·rw[HL0.out];exact(hs3.below ((zb _ _).alloc (zn _) _) (zn _)).wider (zn _) (by simp)
  ·rw[HL0.out];exact HOB.out)
 clear hW4 hs3;go_wp2_with fail
 go_loopw [6] (fun i wr=>Ak7 p L W0 W3 i wr) (fun i _=>L.length - (intOf i).toNat)
 case atStart=>exact HI4.out
 case round=>
  obtain⟨k,c1,c2,c3,d1,d2,d3,rows,hk,rfl,hbk,hst,hcap,hB⟩:=hrel;have HK0:=zh hbk;have HST:=zh hst;have HCAP:=zh hcap;have HB:=zh hB;have HBW:=zh (HB3.out.trans (hB.mono HB3.out.size));by_cases hlt:k < L.length
  ·obtain⟨g,o,ha,_,hb,hcell⟩:=Bd Qz (by decide) HSL3.out.1 hlt
   subst ha;have HAC:Hid (∀W,Below wr.heap.size wr W→∀j u,(Ez L[k])[j]? =some u→W.cell? ⟨g,o+k * 5+j,none⟩=some u):=zh fun W hW j u hu=>((hB.trans (hW.mono hB.size)).cell (p:=⟨g,_,none⟩) (Nat.lt_of_lt_of_le hb HSL3.out.2)).trans (hcell j u hu);have hR:=Ade p L hlt;have hA:=HSM.out _ (zg hlt);have HR:=zh hR;have HA:=zh hA;have HSM2:=zh (Nr HPS.out (L.take k));have hkI:(k:Int) < (L.length:Int):=Int.ofNat_lt.2 hlt;have HKL:=zh hlt;clear hcell hR hA hbk hst hcap hB hk hb;generalize L[k]=x at *;clear hlt;obtain⟨S,hS⟩:∃S,Ju p (L.take k)=S:=⟨_,rfl⟩;rw[hS] at HR HSM2 HK0 HST HCAP;clear hS;obtain⟨Y,hY⟩:∃Y,doS p S x=Y:=⟨_,rfl⟩;obtain⟨er,her⟩:∃er,E2 p S x=er:=⟨_,rfl⟩;have HDO:Hid (∀W,Below wr.heap.size wr W→Calls Tryz.prog 35 #[.agg (zP p p1 p2 p3 q1 q2 q3),.agg (zV S c1 c2 c3 d1 d2 d3),.agg (zX x)] W (Js Y er W)):=zh fun W hW=>by
    have hbw:=HBX.out _ (HBW.out.trans (hW.mono HBW.out.size));have h:=Abk p S x p1 p2 p3 c1 c2 c3 q1 q2 q3 d1 d2 d3 rows W (Av hbw.2.2.2 HV.out) hbw.1 HPS.out ((HST.out.below hW (zn _)).wider (Nat.zero_le _) hW.size) HSM2.out.1 HSM2.out.2 HCAP.out HA.out;rw[hY,her] at h;exact h
   have HK:Hid (∀W,Below wr.heap.size wr W→(W.cell? ⟨w.heap.size,0,none⟩=some (.slice p1 p.aj.length q1)∧W.cell? ⟨w.heap.size,1,none⟩=some (.slice p2 p.ag.length q2)∧W.cell? ⟨w.heap.size,2,none⟩=some (.slice p3 p.binds.length q3)∧W.cell? ⟨W3.heap.size,0,none⟩=some (.slice c1 S.ready.length d1)∧W.cell? ⟨W3.heap.size,1,none⟩=some (.slice c2 S.outs.length d2)∧W.cell? ⟨W3.heap.size,2,none⟩=some (.slice c3 S.ae.length d3)∧W.cell? ⟨W3.heap.size,3,none⟩=some (.int .i64 S.ah)∧W.cell? ⟨W3.heap.size,4,none⟩=some (.int .i64 S.af)∧W.cell? ⟨W3.heap.size,5,none⟩=some (.int .i64 S.aw)∧W.cell? ⟨W3.heap.size,6,none⟩=some (.int .i64 S.ar)∧W.cell? ⟨W3.heap.size,7,none⟩=some (.int .i64 S.dropped)∧W.cell? ⟨g,o+k * 5,none⟩=some (.int .i64 x.kind)∧W.cell? ⟨g,o+k * 5+1,none⟩=some (.int .i64 x.a)∧W.cell? ⟨g,o+k * 5+2,none⟩=some (.int .i64 x.b)∧W.cell? ⟨g,o+k * 5+3,none⟩=some (.string x.key)∧W.cell? ⟨g,o+k * 5+4,none⟩=some (.string x.body))):=zh fun W hW=>by
    obtain⟨_,⟨m20,m21,m22⟩,_,_⟩:=HBX.out _ (HBW.out.trans (hW.mono HBW.out.size));obtain⟨n0,n1,n2,n3,n4,n5,n6,n7⟩:=Jl (HK0.out.below hW HK0.out.lt);obtain⟨e0,e1,e2,e3,e4⟩:=Ol (HAC.out W hW);exact⟨m20,m21,m22,n0,n1,n2,n3,n4,n5,n6,n7,e0,e1,e2,e3,e4⟩
   have hbl:Below wr.heap.size wr wr.drew:=(zb _ _).drew;have HYE:=zh (zi hY her);clear hY her;go_upto_region 5 with fail
   go_cut [7,8] from 17 to 27 (fun b e wx=>Ai6 Y er wr b e wx)
   case first=>
    refine wp_region_held_drew (S:=(fun W=>(W.cell? ⟨w.heap.size,0,none⟩=some (.slice p1 p.aj.length q1)∧W.cell? ⟨w.heap.size,1,none⟩=some (.slice p2 p.ag.length q2)∧W.cell? ⟨w.heap.size,2,none⟩=some (.slice p3 p.binds.length q3)∧W.cell? ⟨W3.heap.size,0,none⟩=some (.slice c1 S.ready.length d1)∧W.cell? ⟨W3.heap.size,1,none⟩=some (.slice c2 S.outs.length d2)∧W.cell? ⟨W3.heap.size,2,none⟩=some (.slice c3 S.ae.length d3)∧W.cell? ⟨W3.heap.size,3,none⟩=some (.int .i64 S.ah)∧W.cell? ⟨W3.heap.size,4,none⟩=some (.int .i64 S.af)∧W.cell? ⟨W3.heap.size,5,none⟩=some (.int .i64 S.aw)∧W.cell? ⟨W3.heap.size,6,none⟩=some (.int .i64 S.ar)∧W.cell? ⟨W3.heap.size,7,none⟩=some (.int .i64 S.dropped)∧W.cell? ⟨g,o+k * 5,none⟩=some (.int .i64 x.kind)∧W.cell? ⟨g,o+k * 5+1,none⟩=some (.int .i64 x.a)∧W.cell? ⟨g,o+k * 5+2,none⟩=some (.int .i64 x.b)∧W.cell? ⟨g,o+k * 5+3,none⟩=some (.string x.key)∧W.cell? ⟨g,o+k * 5+4,none⟩=some (.string x.body)))) (by kernel_rfl) (by exact HK.out _ hbl) (fun hHeld=> ?_)
    (refine zH 0 ?_)
    (refine zH 1 ?_)
    (refine zH 2 ?_)
    (refine zH 3 ?_)
    (refine zH 4 ?_)
    (refine zH 5 ?_)
    refine zR2 6 10 (fun K hK=> ?_) (fun K hK=> ?_)
    ·go_simp
     go_at_call 35;refine(HDO.out _ hbl).mono ?_;rintro e wd ⟨y1,y2,y3,e1,e2,e3,ry,rfl,hsd,hbd⟩;unfold Ac Ag;have hb2:=hbl.trans (hbd.mono hbl.size)
     refine hK.out _ _ (by exact HK.out _ hb2) (fun hHeld=> ?_);clear hK K
     try simp only[Act.put,zA,zB,zC,zD,zE,zF]
     (refine zH 7 ?_)
     (refine zH 8 ?_)
     (refine zH 9 ?_)
     refine zR 10 fun K hK=> ?_
     go_simp
     have hbk:=Bk.new wd 31 zO;have hgg:wr.heap.size≤wd.heap.size:=hb2.size;have hgl:wd.heap.size < (wd.alloc (.cells zO 31)).heap.size:=by simp
     have hal:Below wr.heap.size wr (wd.alloc (.cells zO 31)):=hb2.alloc hb2.size _;refine hK.out _ _ (by exact HK.out _ hal) (fun hHeld=> ?_);clear hK K
     try simp only[Act.put,zA,zB,zC,zD,zE,zF]
     refine zR 11 fun K hK=> ?_;obtain⟨c0,c1,c2',c3',c4,c5,c6,c7,f0,f1,f2,f3,f4,f5,f6,f7,hlg⟩:=Af hbk;have hS8:=HK.out _ (hb2.alloc hb2.size (.cells (zV Y y1 y2 y3 e1 e2 e3) 31))
     go_simp
     refine hK.out _ _ (by exact hS8) (fun hHeld=> ?_);clear hK K
     try simp only[Act.put,zA,zB,zC,zD,zE,zF]
     (refine zH 12 ?_)
     refine wpAnyH_done (by kernel_rfl) ?_ _;go_wp2_with fail
     go_meet
     exact Aw1 hsd hbl.size hb2
    ·go_simp
     have hbk:Bk ((wr.alloc (.cells zO 31)).drew) wr.heap.size 31 zO:=Bk.new wr _ _;have hgl:wr.heap.size < ((wr.alloc (.cells zO 31)).drew).heap.size:=by simp
     have hal:Below wr.heap.size wr ((wr.alloc (.cells zO 31)).drew):=((zb _ _).alloc (zn _) _).drew;generalize (wr.alloc (.cells zO 31)).drew=Wz at *;refine hK.out _ _ (by exact HK.out _ hal) (fun hHeld=> ?_);clear hK K
     try simp only[Act.put,zA,zB,zC,zD,zE,zF]
     refine zR 6 fun K hK=> ?_
     go_simp
     have hbl:=hal;go_at_call 35;refine(HDO.out _ hbl).mono ?_;rintro e wd ⟨y1,y2,y3,e1,e2,e3,ry,rfl,hsd,hbd⟩;unfold Ac Ag;have hb2:=hbl.trans (hbd.mono hbl.size)
     refine hK.out _ _ (by exact HK.out _ hb2) (fun hHeld=> ?_);clear hK K
     try simp only[Act.put,zA,zB,zC,zD,zE,zF]
     (refine zH 7 ?_)
     (refine zH 8 ?_)
     (refine zH 9 ?_)
     refine zR 11 fun K hK=> ?_;have hbkd:=hbk.below hbd hgl;obtain⟨c0,c1,c2',c3',c4,c5,c6,c7,f0,f1,f2,f3,f4,f5,f6,f7,hlg⟩:=Af hbkd;have hS8:=HK.out _ (Ak hb2 (zn _) (.slice y1 Y.ready.length e1) (.slice y2 Y.outs.length e2) (.slice y3 Y.ae.length e3) (.int .i64 Y.ah) (.int .i64 Y.af) (.int .i64 Y.aw) (.int .i64 Y.ar) (.int .i64 Y.dropped))
     go_simp
     refine hK.out _ _ (by exact hS8) (fun hHeld=> ?_);clear hK K
     try simp only[Act.put,zA,zB,zC,zD,zE,zF]
     (refine zH 12 ?_)
     refine wpAnyH_done (by kernel_rfl) ?_ _;go_wp2_with fail
     go_meet
     exact Aw2 hsd hbl.size hbkd (zn _) hb2
   case rest=>
    obtain⟨g7,u1,u2,u3,f1,f2,f3,rowsY,rfl,rfl,hg7,hbk7,hs7,hb7⟩:=hcut;clear HK HDO hbl HAC;have HB7:=zh (HB.out.trans (hb7.mono HB.out.size));have HBK7:=zh (HK0.out.below hb7 HK0.out.lt);have HO7:=zh ((HST.out.below hb7 (zn _)).wider (zn _) hb7.size);have HS7:=zh hs7;have HLT:=zh HK0.out.lt;unfold Ag at hbk7;by_cases hd:er=0
    ·have HR1:Hid (Ju p (L.take (k+1))=Y):=zh (by rw[HR.out];unfold Lb;rw[HYE.out.2,zp hd,HYE.out.1])
     subst hd;have hbkb:=HBK7.out;unfold Ag at hbkb;obtain⟨n0,n1,n2,n3,n4,n5,n6,n7,_,_,_,_,_,_,_,_,hltN⟩:=Af hbk7;obtain⟨_,_,_,_,_,_,_,_,g0,g1,g2,g3,g4,g5,g6,g7',hltG⟩:=Af hbkb;clear hbk7 hs7 hb7;go_wp2_with fail
     refine⟨⟨k+1,u1,u2,u3,f1,f2,f3,rowsY,HKL.out,by go_num,?_,?_,?_,Ak HB7.out (zn _) _ _ _ _ _ _ _ _⟩,by simp[intOf];omega⟩
     ·rw[HR1.out]
      exact Yf hbkb _ _ _ _ _ _ _ _
     ·rw[HR1.out]
      exact((HS7.out.kept (Al.dg hbkb (ts:=[31]) (by decide) _ _ _ _ _ _ _ _)).wider (show W0.heap.size≤wr.heap.size from HBW.out.size)).bc.1
     ·rw[HR1.out];exact Aro HS7.out
    ·have HR1:Hid (Ju p (L.take (k+1))=S):=zh (by rw[HR.out];unfold Lb;rw[HYE.out.2,zq hd])
     have bd:(er == 0)=false:=by simp[hd]
     clear hbk7 hs7 hb7 hd;go_wp2_with fail
     refine⟨⟨k+1,c1,c2,c3,d1,d2,d3,rows,HKL.out,by go_num,?_,?_,?_,HB7.out⟩,by simp[intOf];omega⟩
     ·rw[HR1.out];exact HBK7.out
     ·rw[HR1.out];exact HO7.out
     ·rw[HR1.out];exact HCAP.out
  ·obtain rfl:k=L.length:=by omega
   rw[List.take_length] at hbk hst;have HKK:=zh hbk;have HSTT:=zh hst;obtain⟨S,hS⟩:∃S,Ju p L=S:=⟨_,rfl⟩;rw[hS] at hbk hst HKK HSTT;have HSS:=zh hS;clear hS;unfold Ag at hbk;obtain⟨n0,n1,n2,n3,n4,n5,n6,n7,_,_,_,_,_,_,_,_,hltG⟩:=Af hbk;obtain⟨_,_,hzk,hbelow⟩:=HBX.out _ HBW.out;obtain⟨k0,k1,k2,k3,k4,k5,k6,k7,x0,x1,x2,x3,x4,x5,x6,x7,hltZ⟩:=Af hzk;have hlo:w.heap.size+1 < W0.heap.size:=HLZ0.out;have HBL:=zh hbelow;have hz:=hzk;clear hbk hst hB hk hlt hzk hbelow hcap;go_wp2_with fail
   refine bodyPost_ret (v:=Ac S c1 c2 c3 d1 d2 d3) (by simp[results,Tryz.results44,go_sem,Ac,Ag,n0,n1,n2,n3,n4,n5,n6,n7,hltG,k0,k1,k2,k3,k4,k5,k6,k7,hltZ]) rfl
    ⟨c1,c2,c3,d1,d2,d3,rows,by rw[HSS.out],?_,Ak HBL.out (by omega) _ _ _ _ _ _ _ _⟩
   rw[HSS.out];exact(Mp HSTT.out hlo _ _ _ _ _ _ _ _).wider (by omega) (by simp[World.setCell])
end Go.Proofs.YtaanpcjkflhomaaGreatDoor
