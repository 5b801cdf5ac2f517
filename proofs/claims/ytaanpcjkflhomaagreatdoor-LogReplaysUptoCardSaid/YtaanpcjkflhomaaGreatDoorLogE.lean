/-
  The reference's reading of a log: actFrom, ReplayOf, SameActs.
-/
import Derived.Test.YtaanpcjkflhomaaGreatDoorLogD
import Derived.Test.YtaanpcjkflhomaaGreatDoorBunA
set_option maxHeartbeats 20000000
set_option maxRecDepth 100000
set_option linter.unusedSimpArgs false
set_option linter.unusedVariables false
namespace Go.Proofs.YtaanpcjkflhomaaGreatDoor
open Go Go.RowKit
def afN (s:ByteArray):Int:=match Hp s with|some (_,r)=>(s.size:Int) - (r.size:Int)|none=>0
def Y8 (s:ByteArray) (w:World) (e:Ending) (w':World):Prop:=e= .returned (.tuple #[.agg (Ez (Oh s)).toArray,.int .i64 (afN s)])∧Below w.heap.size w w'
theorem Qp {w W:World} {B g:Nat} (h:Below B w W) (hg:B≤g) (u0 u1 u2 u3 u4:Value):Below B w (((((W.setCell ⟨g,0,none⟩ u0).setCell ⟨g,1,none⟩ u1).setCell ⟨g,2,none⟩ u2).setCell ⟨g,3,none⟩ u3).setCell ⟨g,4,none⟩ u4):=
 ((((h.setCell (p:=⟨g,0,none⟩) hg _).setCell (p:=⟨g,1,none⟩) hg _).setCell (p:=⟨g,2,none⟩) hg _).setCell (p:=⟨g,3,none⟩) hg _).setCell (p:=⟨g,4,none⟩) hg _
theorem Auv {q b e:Nat} (h3:q+1+b=e):(q:Int)+1+(b:Int)=(e:Int):=by omega
theorem Uv {s:ByteArray} (h:Hp s=none):Oh s=Vk∧afN s=0:=by
 unfold Oh afN
 rw[h]
 exact⟨rfl,rfl⟩
theorem Afs (s:ByteArray) (hs:s.size≤1048576) (w:World):Calls Tryz.prog 84 #[.string s] w (Y8 s w):=by
 have hb0:=zb w.heap.size w
 go_enter Tryz.func84,Tryz.ntmps84
 go_upto_region 1 with fail
 obtain⟨W1,hW1⟩:∃W1,w.alloc (.cells #[.int .i64 0,.int .i64 0,.int .i64 0,.string ⟨#[]⟩,.string ⟨#[]⟩] 57)=W1:=⟨_,rfl⟩
 have hk:Bk W1 w.heap.size 57 #[.int .i64 0,.int .i64 0,.int .i64 0,.string ⟨#[]⟩,.string ⟨#[]⟩]:=by rw[←hW1];exact Bk.new _ _ _
 have hB:Below w.heap.size w W1:=by rw[←hW1];exact hb0.alloc (zn _) _
 rw[hW1]
 clear hW1 hb0
 have HB:=zh hB
 have HK:=zh hk
 have k0:=hk.cell 0;have k1:=hk.cell 1;have k2:=hk.cell 2;have k3:=hk.cell 3;have k4:=hk.cell 4
 simp only[zI,zJ,zK] at k0 k1 k2 k3 k4
 have f0:=hk.frozen 0;have f1:=hk.frozen 1;have f2:=hk.frozen 2;have f3:=hk.frozen 3;have f4:=hk.frozen 4
 have hlt:=hk.lt
 clear hk hB
 by_cases h5:s.size < 5
 ·have HR:=zh (Uv (Aql h5))
  have h5':(s.size:Int) < 5:=by omega
  go_wp2_with fail
  refine bodyPost_ret (v:= .tuple #[.agg #[.int .i64 0,.int .i64 0,.int .i64 0,.string ⟨#[]⟩,.string ⟨#[]⟩],.int .i64 0]) (by simp[results,Tryz.results84,go_sem,hlt,k0,k1,k2,k3,k4]) rfl ?_
  unfold Y8
  rw[HR.out.1,HR.out.2]
  exact⟨rfl,Qp HB.out (zn _) _ _ _ _ _⟩
 ·have h5':¬ (s.size:Int) < 5:=by omega
  have h3:3 < s.size:=by omega
  obtain⟨q,hq⟩:∃q,4+s[3].toNat=q:=⟨_,rfl⟩
  have hb3:=s[3].toNat_lt
  have h5'':5≤s.size:=by omega
  have hlb:s.size≤q∨q < s.size:=by omega
  have hqI:(4:Int)+(s[3].toNat:Int)=(q:Int):=by omega
  have HQ:=zh (And.intro hq hb3)
  clear hq
  rcases hlb with hk|hk
  ·have HR:=zh (Uv (Aqk h5'' (by rw[HQ.out.1];exact hk)))
   have hk':(s.size:Int)≤(q:Int):=Int.ofNat_le.2 hk
   go_wp2_with fail
   refine bodyPost_ret (v:= .tuple #[.agg #[.int .i64 0,.int .i64 0,.int .i64 0,.string ⟨#[]⟩,.string ⟨#[]⟩],.int .i64 0]) (by simp[results,Tryz.results84,go_sem,hlt,k0,k1,k2,k3,k4]) rfl ?_
   unfold Y8
   rw[HR.out.1,HR.out.2]
   exact⟨rfl,Qp HB.out (zn _) _ _ _ _ _⟩
  ·have hqs:q < s.size:=hk
   have hqs':(q:Int) < (s.size:Int):=Int.ofNat_lt.2 hk
   have hk':¬ (s.size:Int)≤(q:Int):=Int.not_le.2 hqs'
   obtain⟨e,he⟩:∃e,q+1+s[q].toNat=e:=⟨_,rfl⟩
   have hbq:=s[q].toNat_lt
   have hq1:q≤1048576:=Nat.le_of_lt (Nat.lt_of_lt_of_le hk hs)
   have heI:(q:Int)+1+(s[q].toNat:Int)=(e:Int):=Auv he
   have HE:=zh he
   clear he
   by_cases hes:s.size < e
   ·have HR:=zh (Uv (Aqj h5'' HQ.out.1 hqs (by rw[HE.out];exact hes)))
    have hes':(s.size:Int) < (e:Int):=Int.ofNat_lt.2 hes
    go_wp2_with fail
    refine bodyPost_ret (v:= .tuple #[.agg #[.int .i64 0,.int .i64 0,.int .i64 0,.string ⟨#[]⟩,.string ⟨#[]⟩],.int .i64 0]) (by simp[results,Tryz.results84,go_sem,hlt,k0,k1,k2,k3,k4]) rfl ?_
    unfold Y8
    rw[HR.out.1,HR.out.2]
    exact⟨rfl,Qp HB.out (zn _) _ _ _ _ _⟩
   ·have hes':¬ (s.size:Int) < (e:Int):=Int.not_lt.2 (Int.ofNat_le.2 (Nat.le_of_not_lt hes))
    have HA:=zh (Avw h5'' HQ.out.1 hqs HE.out (Nat.le_of_not_lt hes))
    go_upto_region 9 with fail
    have i0:0 < s.size:=by omega
    have i1:1 < s.size:=by omega
    have i2:2 < s.size:=by omega
    have j1:(1:Int) < (s.size:Int):=by omega
    have j2:(2:Int) < (s.size:Int):=by omega
    have z1:(4:Int)≤(q:Int):=by have:=HQ.out.1;omega
    have z2:(q:Int)≤(s.size:Int):=by omega
    obtain⟨q1,hq1e⟩:∃q1,q+1=q1:=⟨_,rfl⟩
    have zw:IntKind.i64.wrap ((q:Int)+1)=(q1:Int):=by
     have hq1I:(q:Int)+1=(q1:Int):=by omega
     rw[IntWalk.i64_in _ (by omega)];exact hq1I
    have z3:(q1:Int)≤(e:Int):=by have:=HE.out;omega
    have HQ1:=zh hq1e
    clear hq1e
    have z4:(e:Int)≤(s.size:Int):=by omega
    have c0:W1.drew.cell? ⟨w.heap.size,0,none⟩=some (.int .i64 0):=HK.out.cell 0
    have c1:W1.drew.cell? ⟨w.heap.size,1,none⟩=some (.int .i64 0):=HK.out.cell 1
    have c2:W1.drew.cell? ⟨w.heap.size,2,none⟩=some (.int .i64 0):=HK.out.cell 2
    have c3:W1.drew.cell? ⟨w.heap.size,3,none⟩=some (.string ⟨#[]⟩):=HK.out.cell 3
    have c4:W1.drew.cell? ⟨w.heap.size,4,none⟩=some (.string ⟨#[]⟩):=HK.out.cell 4
    have d0:W1.drew.frozen? ⟨w.heap.size,0,none⟩=false:=HK.out.frozen 0
    have d1:W1.drew.frozen? ⟨w.heap.size,1,none⟩=false:=HK.out.frozen 1
    have d2:W1.drew.frozen? ⟨w.heap.size,2,none⟩=false:=HK.out.frozen 2
    have d3:W1.drew.frozen? ⟨w.heap.size,3,none⟩=false:=HK.out.frozen 3
    have d4:W1.drew.frozen? ⟨w.heap.size,4,none⟩=false:=HK.out.frozen 4
    have hltd:w.heap.size < W1.drew.heap.size:=hlt
    refine wp_region_held_drew (S:=(fun _=>True)) (by kernel_rfl) (by trivial) (fun hHeld=> ?_)
    first|(refine zH 0 ?_)|(refine zU 0 ?_)
    try simp only[Act.put,zA,zB,zC,zD,zE]
    first|(refine zH 1 ?_)|(refine zU 1 ?_)
    try simp only[Act.put,zA,zB,zC,zD,zE,zF]
    first|(refine zH 2 ?_)|(refine zU 2 ?_)
    try simp only[Act.put,zA,zB,zC,zD,zE,zF]
    first|(refine zH 3 ?_)|(refine zU 3 ?_)
    try simp only[Act.put,zA,zB,zC,zD,zE,zF]
    first|(refine zH 4 ?_)|(refine zU 4 ?_)
    try simp only[Act.put,zA,zB,zC,zD,zE,zF]
    first|(refine zH 5 ?_)|(refine zU 5 ?_)
    try simp only[Act.put,zA,zB,zC,zD,zE,zF]
    first|(refine zH 6 ?_)|(refine zU 6 ?_)
    try simp only[Act.put,zA,zB,zC,zD,zE,zF]
    first|(refine zH 7 ?_)|(refine zU 7 ?_)
    try simp only[Act.put,zA,zB,zC,zD,zE,zF]
    first|(refine zH 8 ?_)|(refine zU 8 ?_)
    try simp only[Act.put,zA,zB,zC,zD,zE,zF]
    first|(refine zH 9 ?_)|(refine zU 9 ?_)
    try simp only[Act.put,zA,zB,zC,zD,zE,zF]
    first|(refine zH 10 ?_)|(refine zU 10 ?_)
    try simp only[Act.put,zA,zB,zC,zD,zE,zF]
    first|(refine zH 11 ?_)|(refine zU 11 ?_)
    try simp only[Act.put,zA,zB,zC,zD,zE,zF]
    first|(refine zH 12 ?_)|(refine zU 12 ?_)
    try simp only[Act.put,zA,zB,zC,zD,zE,zF]
    first|(refine zH 13 ?_)|(refine zU 13 ?_)
    try simp only[Act.put,zA,zB,zC,zD,zE,zF]
    first|(refine zH 14 ?_)|(refine zU 14 ?_)
    try simp only[Act.put,zA,zB,zC,zD,zE,zF]
    first|(refine zH 15 ?_)|(refine zU 15 ?_)
    try simp only[Act.put,zA,zB,zC,zD,zE,zF]
    first|(refine zH 16 ?_)|(refine zU 16 ?_)
    try simp only[Act.put,zA,zB,zC,zD,zE,zF]
    first|(refine zH 17 ?_)|(refine zU 17 ?_)
    try simp only[Act.put,zA,zB,zC,zD,zE,zF]
    first|(refine zH 18 ?_)|(refine zU 18 ?_)
    try simp only[Act.put,zA,zB,zC,zD,zE,zF]
    clear hHeld
    refine zR 19 fun K hK=> ?_
    go_simp
    refine hK.out _ _ trivial (fun hHeld=> ?_)
    clear hK K
    try simp only[Act.put,zA,zB,zC,zD,zE,zF]
    first|(refine zH 20 ?_)|(refine zU 20 ?_)
    try simp only[Act.put,zA,zB,zC,zD,zE,zF]
    refine wpAnyH_done (by kernel_rfl) ?_ _
    clear hHeld
    have hac:Oh s=⟨s[0].toNat,s[1].toNat,s[2].toNat,s.extract 4 q,s.extract (q+1) e⟩∧afN s=(e:Int):=by
     unfold Oh afN
     rw[HA.out]
     exact⟨rfl,by simp only[ByteArray.size_extract];omega⟩
    have HAC:=zh hac
    clear hac
    have hb0':=s[0].toNat_lt
    have hb1':=s[1].toNat_lt
    have hb2':=s[2].toNat_lt
    have w0:IntKind.i64.wrap (s[0].toNat:Int)=(s[0].toNat:Int):=IntWalk.i64_in _ (by omega)
    have w1:IntKind.i64.wrap (s[1].toNat:Int)=(s[1].toNat:Int):=IntWalk.i64_in _ (by omega)
    have w2:IntKind.i64.wrap (s[2].toNat:Int)=(s[2].toNat:Int):=IntWalk.i64_in _ (by omega)
    rw[w0,w1,w2]
    clear w0 w1 w2
    go_wp2_with fail
    refine bodyPost_ret (v:= .tuple #[.agg #[.int .i64 s[0].toNat,.int .i64 s[1].toNat,.int .i64 s[2].toNat,.string (s.extract 4 q),.string (s.extract q1 e)],.int .i64 e]) (by simp[results,Tryz.results84,go_sem,hlt,k0,k1,k2,k3,k4]) rfl ?_
    unfold Y8
    rw[HAC.out.1,HAC.out.2,HQ1.out]
    exact⟨rfl,Qp HB.out.drew (zn _) _ _ _ _ _⟩
end Go.Proofs.YtaanpcjkflhomaaGreatDoor
