/-
  logBegun answers true: what must be in any case of the log.
-/
import Derived.Test.YtaanpcjkflhomaaGreatDoorLogL
import Derived.Test.YtaanpcjkflhomaaGreatDoorLogC
import Derived.Test.YtaanpcjkflhomaaGreatDoorStateN
import Derived.Test.YtaanpcjkflhomaaGreatDoorNX
set_option maxHeartbeats 20000000
set_option maxRecDepth 100000
set_option linter.unusedSimpArgs false
set_option linter.unusedVariables false
namespace Go.Proofs.YtaanpcjkflhomaaGreatDoor
open Go Go.RowKit
theorem Aoh:Eb lbX:=⟨by decide,by decide,by decide,by decide,by decide⟩
theorem Aoi:Eb lbY:=⟨by decide,by decide,by decide,by decide,by decide⟩
def lbZ:Cn:=⟨0,256,0,⟨#[]⟩,⟨#[]⟩⟩
theorem Aoj:Eb lbZ:=⟨by decide,by decide,by decide,by decide,by decide⟩
theorem Aok:Eb Vk:=⟨by decide,by decide,by decide,by decide,by decide⟩
theorem Dl (w:World) (hE:Env w):Calls Tryz.prog 36 #[] w fun e w'=>e= .returned (.bool true)∧Below w.heap.size w w':=by
 have HE:=zh hE;clear hE
 go_enter Tryz.func36,Tryz.ntmps36
 go_wp2_with fail
 refine(Jv lbX Aoh _).mono ?_
 rw[Acf.1,Acf.2]
 rintro e w1 ⟨rfl,hb1⟩
 go_wp2_with fail
 refine(Jv lbY Aoi _).mono ?_
 rw[Acg.1,Acg.2]
 rintro e w2 ⟨rfl,hb2⟩
 go_wp2_with fail
 have HB2:=zh (hb1.trans (hb2.mono hb1.size))
 clear hb1 hb2
 refine(Pt _ (by decide) w2).mono ?_
 rintro e w3 ⟨la,lc,rfl,_,hb3⟩
 rw[V3.1,V3.2.1,V3.2.2]
 have HB3:=zh (HB2.out.trans (hb3.mono HB2.out.size))
 clear hb3
 go_wp2_with fail
 refine(Dh _).mono ?_
 rintro e w4 ⟨p1,p2,p3,rfl,ho4,hb4⟩
 have HB4:=zh (HB3.out.trans (hb4.mono HB3.out.size))
 clear hb4
 go_wp2_with fail
 have hrc:=Ly Ae (lbS++lbT) _ _ _ 3 3 5 w4 (Av HB4.out HE.out) ho4.plan C9 (by decide)
 have hg:=Qn (p:=Ae) (t:=lbS++lbT) (by kernel_rfl) Z5.1
 refine hrc.mono ?_
 rintro e w5 ⟨x1,x2,x3,d1,d2,d3,rows,rfl,hs5,hb5⟩
 rw[hg.1,hg.2.1,hg.2.2,Z5.2,Aw9]
 have HB5:=zh (HB4.out.trans (hb5.mono HB4.out.size))
 clear hrc hg hs5 hb5
 unfold Ac Ag lbB
 go_wp2_with fail
 obtain⟨WA,hWA⟩:∃WA,w5.alloc (.cells #[.slice x1 3 d1,.slice x2 0 d2,.slice x3 1 d3,.int .i64 2,.int .i64 0,.int .i64 2,.int .i64 0,.int .i64 0] 31)=WA:=⟨_,rfl⟩
 have HKA:Hid (Bk WA w5.heap.size 31 #[.slice x1 3 d1,.slice x2 0 d2,.slice x3 1 d3,.int .i64 2,.int .i64 0,.int .i64 2,.int .i64 0,.int .i64 0]):=zh (by rw[←hWA];exact Bk.new _ _ _)
 have HBA:Hid (Below w.heap.size w WA):=zh (by rw[←hWA];exact HB5.out.alloc HB5.out.size _)
 rw[hWA]
 clear hWA
 refine(Jv lbZ Aoj _).mono ?_
 rw[show F0 lbZ=3 from Ach.1,show Gc lbZ=⟨#[]⟩ from Ach.2]
 rintro e w6 ⟨rfl,hb6⟩
 have HB6:=zh (HBA.out.trans (hb6.mono HBA.out.size))
 have HK6:=zh (HKA.out.below hb6 HKA.out.lt)
 clear hb6
 go_wp2_with fail
 refine(Dh _).mono ?_
 rintro e w7 ⟨o1,o2,o3,rfl,ho7,hb7⟩
 have HB7:=zh (HB6.out.trans (hb7.mono HB6.out.size))
 have HK7:=zh (HK6.out.below hb7 HK6.out.lt)
 clear hb7
 go_wp2_with fail
 refine(Fe _).mono ?_
 rintro e w8 ⟨g0,g1,g2,g3,rfl,hy8,hb8⟩
 have ho8:=ho7.below hb8
 have HB8:=zh (HB7.out.trans (hb8.mono HB7.out.size))
 have HK8:=zh (HK7.out.below hb8 HK7.out.lt)
 clear hb8
 go_wp2_with fail
 have hdo:=T3 Ae Bn Vk _ _ _ _ _ _ 3 3 5 3 1 2 (Gp g0) w8 (Av HB8.out HE.out) ho8.plan C9 hy8.state Fw Gr Aok
 refine hdo.mono ?_
 rintro e w9 ⟨y1,y2,y3,f1,f2,f3,rows9,rfl,hs9,hb9⟩
 have HB9:=zh (HB8.out.trans (hb9.mono HB8.out.size))
 have HK9:=zh (HK8.out.below hb9 HK8.out.lt)
 rw[Ayo]
 clear hdo hs9 hb9
 generalize doS Ae Bn Vk=Z
 unfold Ac Ag
 go_upto_region 7 with fail
 generalize hWB:World.alloc _ (Obj.cells _ _)=WB
 have hk9:Bk WB w5.heap.size 31 #[.slice x1 3 d1,.slice x2 0 d2,.slice x3 1 d3,.int .i64 2,.int .i64 0,.int .i64 2,.int .i64 0,.int .i64 0]:=by rw[←hWB];exact HK9.out.alloc _
 have HBB:Hid (Below w.heap.size w WB):=zh (by rw[←hWB];exact HB9.out.alloc HB9.out.size _)
 have q2:=hk9.cell 2;have q5:=hk9.cell 5
 simp only[zI,zJ,zK] at q2 q5
 clear hk9 hWB
 unfold lbS lbT
 go_wp2_with fail
 go_ret
 exact⟨rfl,HBB.out⟩
end Go.Proofs.YtaanpcjkflhomaaGreatDoor
