/-
  The reference's reading of a log: actFrom, ReplayOf, SameActs.
-/
import Derived.Test.YtaanpcjkflhomaaGreatDoorBunLA
import Derived.Test.YtaanpcjkflhomaaGreatDoorBunA
set_option maxHeartbeats 20000000
set_option maxRecDepth 100000
set_option linter.unusedSimpArgs false
set_option linter.unusedVariables false
namespace Go.Proofs.YtaanpcjkflhomaaGreatDoor
open Go Go.RowKit
def afN (s:ByteArray):Int:=match Hp s with|some (_,r)=>(s.size:Int) - (r.size:Int)|none=>0
def Y8 (s:ByteArray) (w:World) (e:Ending) (w':World):Prop:=e= .returned (.tuple #[.agg (Ez (Oh s)).toArray,.int .i64 (afN s)])∧Below w.heap.size w w'
theorem Qp {w W:World} {B g:Nat} (h:Below B w W) (hg:B≤g) (u0 u1 u2 u3 u4:Value):Below B w (((((W.setCell ⟨g,0,none⟩ u0).setCell ⟨g,1,none⟩ u1).setCell ⟨g,2,none⟩ u2).setCell ⟨g,3,none⟩ u3).setCell ⟨g,4,none⟩ u4):=
 ((((h.setCell (p:=⟨g,0,none⟩) hg _).setCell (p:=⟨g,1,none⟩) hg _).setCell (p:=⟨g,2,none⟩) hg _).setCell (p:=⟨g,3,none⟩) hg _).setCell (p:=⟨g,4,none⟩) hg _
theorem Auv {q b e:Nat} (h3:q+1+b=e):(q:Int)+1+(b:Int)=(e:Int):=by omega
theorem Uv {s:ByteArray} (h:Hp s=none):Oh s=Vk∧afN s=0:=by
 unfold Oh afN;rw[h];exact⟨rfl,rfl⟩
theorem Afs (s:ByteArray) (hs:s.size≤1048576) (w:World):Calls Tryz.prog 84 #[.string s] w (Y8 s w):=by
 have hb0:=zb w.heap.size w;go_enter Tryz.func84,Tryz.ntmps84
 go_upto_region 1 with fail
 obtain⟨W1,hW1⟩:∃W1,w.alloc (.cells #[.int .i64 0,.int .i64 0,.int .i64 0,.string ⟨#[]⟩,.string ⟨#[]⟩] 57)=W1:=⟨_,rfl⟩;have hk:Bk W1 w.heap.size 57 #[.int .i64 0,.int .i64 0,.int .i64 0,.string ⟨#[]⟩,.string ⟨#[]⟩]:=by rw[←hW1];exact Bk.new _ _ _
 have hB:Below w.heap.size w W1:=by rw[←hW1];exact hb0.alloc (zn _) _
 rw[hW1];clear hW1 hb0;have HB:=zh hB;have HK:=zh hk;have k0:=hk.cell 0;have k1:=hk.cell 1;have k2:=hk.cell 2;have k3:=hk.cell 3;have k4:=hk.cell 4
 simp only[zI,zJ,zK] at k0 k1 k2 k3 k4;have f0:=hk.frozen 0;have f1:=hk.frozen 1;have f2:=hk.frozen 2;have f3:=hk.frozen 3;have f4:=hk.frozen 4
 have hlt:=hk.lt;clear hk hB;by_cases h5:s.size < 5
 ·have HR:=zh (Uv (Aql h5))
  have h5':(s.size:Int) < 5:=by omega
  go_wp2_with fail
  refine bodyPost_ret (v:= .tuple #[.agg #[.int .i64 0,.int .i64 0,.int .i64 0,.string ⟨#[]⟩,.string ⟨#[]⟩],.int .i64 0]) (by simp[results,Tryz.results84,go_sem,hlt,k0,k1,k2,k3,k4]) rfl ?_;unfold Y8;rw[HR.out.1,HR.out.2];exact⟨rfl,Qp HB.out (zn _) _ _ _ _ _⟩
 ·have h5':¬ (s.size:Int) < 5:=by omega
  have h3:3 < s.size:=by omega
  obtain⟨q,hq⟩:∃q,4+s[3].toNat=q:=⟨_,rfl⟩;have hb3:=s[3].toNat_lt;have h5'':5≤s.size:=by omega
  have hlb:s.size≤q∨q < s.size:=by omega
  have hqI:(4:Int)+(s[3].toNat:Int)=(q:Int):=by omega
  have HQ:=zh (zi hq hb3);clear hq;rcases hlb with hk|hk
  ·have HR:=zh (Uv (Aqk h5'' (by rw[HQ.out.1];exact hk)))
   have hk':(s.size:Int)≤(q:Int):=Int.ofNat_le.2 hk;go_wp2_with fail
   refine bodyPost_ret (v:= .tuple #[.agg #[.int .i64 0,.int .i64 0,.int .i64 0,.string ⟨#[]⟩,.string ⟨#[]⟩],.int .i64 0]) (by simp[results,Tryz.results84,go_sem,hlt,k0,k1,k2,k3,k4]) rfl ?_;unfold Y8;rw[HR.out.1,HR.out.2];exact⟨rfl,Qp HB.out (zn _) _ _ _ _ _⟩
  ·have hqs:q < s.size:=hk
   have hqs':(q:Int) < (s.size:Int):=Int.ofNat_lt.2 hk;have hk':¬ (s.size:Int)≤(q:Int):=Int.not_le.2 hqs';obtain⟨e,he⟩:∃e,q+1+s[q].toNat=e:=⟨_,rfl⟩;have hbq:=s[q].toNat_lt;have hq1:q≤1048576:=Nat.le_of_lt (Nat.lt_of_lt_of_le hk hs);have heI:(q:Int)+1+(s[q].toNat:Int)=(e:Int):=Auv he;have HE:=zh he;clear he;by_cases hes:s.size < e
   ·have HR:=zh (Uv (Aqj h5'' HQ.out.1 hqs (by rw[HE.out];exact hes)))
    have hes':(s.size:Int) < (e:Int):=Int.ofNat_lt.2 hes;go_wp2_with fail
    refine bodyPost_ret (v:= .tuple #[.agg #[.int .i64 0,.int .i64 0,.int .i64 0,.string ⟨#[]⟩,.string ⟨#[]⟩],.int .i64 0]) (by simp[results,Tryz.results84,go_sem,hlt,k0,k1,k2,k3,k4]) rfl ?_;unfold Y8;rw[HR.out.1,HR.out.2];exact⟨rfl,Qp HB.out (zn _) _ _ _ _ _⟩
   ·have hes':¬ (s.size:Int) < (e:Int):=Int.not_lt.2 (Int.ofNat_le.2 (Nat.le_of_not_lt hes))
    have HA:=zh (Avw h5'' HQ.out.1 hqs HE.out (Nat.le_of_not_lt hes));go_upto_region 9 with fail
    have i0:0 < s.size:=by omega
    have i1:1 < s.size:=by omega
    have i2:2 < s.size:=by omega
    have j1:(1:Int) < (s.size:Int):=by omega
    have j2:(2:Int) < (s.size:Int):=by omega
    have z1:(4:Int)≤(q:Int):=by have:=HQ.out.1;omega
    have z2:(q:Int)≤(s.size:Int):=by omega
    obtain⟨q1,hq1e⟩:∃q1,q+1=q1:=⟨_,rfl⟩;have zw:IntKind.i64.wrap ((q:Int)+1)=(q1:Int):=by
     have hq1I:(q:Int)+1=(q1:Int):=by omega
     rw[IntWalk.i64_in _ (by omega)];exact hq1I
    have z3:(q1:Int)≤(e:Int):=by have:=HE.out;omega
    have HQ1:=zh hq1e;clear hq1e;have z4:(e:Int)≤(s.size:Int):=by omega
    have c0:W1.drew.cell? ⟨w.heap.size,0,none⟩=some (.int .i64 0):=HK.out.cell 0;have c1:W1.drew.cell? ⟨w.heap.size,1,none⟩=some (.int .i64 0):=HK.out.cell 1;have c2:W1.drew.cell? ⟨w.heap.size,2,none⟩=some (.int .i64 0):=HK.out.cell 2;have c3:W1.drew.cell? ⟨w.heap.size,3,none⟩=some (.string ⟨#[]⟩):=HK.out.cell 3;have c4:W1.drew.cell? ⟨w.heap.size,4,none⟩=some (.string ⟨#[]⟩):=HK.out.cell 4;have d0:W1.drew.frozen? ⟨w.heap.size,0,none⟩=false:=HK.out.frozen 0;have d1:W1.drew.frozen? ⟨w.heap.size,1,none⟩=false:=HK.out.frozen 1;have d2:W1.drew.frozen? ⟨w.heap.size,2,none⟩=false:=HK.out.frozen 2;have d3:W1.drew.frozen? ⟨w.heap.size,3,none⟩=false:=HK.out.frozen 3;have d4:W1.drew.frozen? ⟨w.heap.size,4,none⟩=false:=HK.out.frozen 4;have hltd:w.heap.size < W1.drew.heap.size:=hlt;refine wp_region_held_drew (S:=(fun _=>True)) (by kernel_rfl) (by trivial) (fun hHeld=> ?_)
    first|(refine zH 0 ?_)|(refine zU 0 ?_)
    first|(refine zH 1 ?_)|(refine zU 1 ?_)
    first|(refine zH 2 ?_)|(refine zU 2 ?_)
    first|(refine zH 3 ?_)|(refine zU 3 ?_)
    first|(refine zH 4 ?_)|(refine zU 4 ?_)
    first|(refine zH 5 ?_)|(refine zU 5 ?_)
    first|(refine zH 6 ?_)|(refine zU 6 ?_)
    first|(refine zH 7 ?_)|(refine zU 7 ?_)
    first|(refine zH 8 ?_)|(refine zU 8 ?_)
    first|(refine zH 9 ?_)|(refine zU 9 ?_)
    first|(refine zH 10 ?_)|(refine zU 10 ?_)
    first|(refine zH 11 ?_)|(refine zU 11 ?_)
    first|(refine zH 12 ?_)|(refine zU 12 ?_)
    first|(refine zH 13 ?_)|(refine zU 13 ?_)
    first|(refine zH 14 ?_)|(refine zU 14 ?_)
    first|(refine zH 15 ?_)|(refine zU 15 ?_)
    first|(refine zH 16 ?_)|(refine zU 16 ?_)
    first|(refine zH 17 ?_)|(refine zU 17 ?_)
    first|(refine zH 18 ?_)|(refine zU 18 ?_)
    clear hHeld;refine zR 19 fun K hK=> ?_
    go_simp
    refine hK.out _ _ trivial (fun hHeld=> ?_);clear hK K
    try simp only[Act.put,zA,zB,zC,zD,zE,zF]
    first|(refine zH 20 ?_)|(refine zU 20 ?_)
    refine wpAnyH_done (by kernel_rfl) ?_ _;clear hHeld;have hac:Oh s=⟨s[0].toNat,s[1].toNat,s[2].toNat,s.extract 4 q,s.extract (q+1) e⟩∧afN s=(e:Int):=by
     unfold Oh afN;rw[HA.out];exact⟨rfl,by simp only[ByteArray.size_extract];omega⟩
    have HAC:=zh hac;clear hac;have hb0':=s[0].toNat_lt;have hb1':=s[1].toNat_lt;have hb2':=s[2].toNat_lt;have w0:IntKind.i64.wrap (s[0].toNat:Int)=(s[0].toNat:Int):=IntWalk.i64_in _ (by omega);have w1:IntKind.i64.wrap (s[1].toNat:Int)=(s[1].toNat:Int):=IntWalk.i64_in _ (by omega);have w2:IntKind.i64.wrap (s[2].toNat:Int)=(s[2].toNat:Int):=IntWalk.i64_in _ (by omega);rw[w0,w1,w2];clear w0 w1 w2;go_wp2_with fail
    refine bodyPost_ret (v:= .tuple #[.agg #[.int .i64 s[0].toNat,.int .i64 s[1].toNat,.int .i64 s[2].toNat,.string (s.extract 4 q),.string (s.extract q1 e)],.int .i64 e]) (by simp[results,Tryz.results84,go_sem,hlt,k0,k1,k2,k3,k4]) rfl ?_;unfold Y8;rw[HAC.out.1,HAC.out.2,HQ1.out];exact⟨rfl,Qp HB.out.drew (zn _) _ _ _ _ _⟩
open Go Go.RowKit
theorem Aqf {s r:ByteArray} {x:Cn} (h:Hp s=some (x,r)):∃e,e≤s.size∧r=s.extract e s.size:=by
 have h5:5≤s.size:=by have:=(Na h).2;omega
 by_cases hk:s.size≤4+s[3].toNat
 ·rw[Aqk h5 hk] at h;cases h
 ·have hq:4+s[3].toNat < s.size:=by omega
  by_cases he:s.size < 4+s[3].toNat+1+s[4+s[3].toNat].toNat
  ·rw[Aqj h5 rfl hq he] at h;cases h
  ·rw[Avw h5 rfl hq rfl (by omega)] at h
   simp only[Option.some.injEq,Prod.mk.injEq] at h;exact⟨_,by omega,h.2.symm⟩
def Ayg (t:ByteArray) (W0:World) (l at_:Value) (wr:World):Prop:=
 ∃(done:List Cn) (n:Nat),done.length≤60∧n≤t.size∧at_= .int .i64 n∧(I5 60 t).1=done++(I5 (60 - done.length) (t.extract n t.size)).1∧(I5 60 t).2=(I5 (60 - done.length) (t.extract n t.size)).2∧
  wr.ownsRow W0.heap.size 57 5 l done.length (done.flatMap Ez)∧Below W0.heap.size W0 wr
theorem ext_size (t:ByteArray) (n:Nat):(t.extract n t.size).size=t.size - n:=by rw[ByteArray.size_extract];omega
theorem Aus (t:ByteArray) (n e:Nat) (hn:n≤t.size) (he:e≤t.size - n):(t.extract n t.size).extract e (t.extract n t.size).size=t.extract (n+e) t.size:=by
 rw[ext_size,ByteArray.extract_extract]
 congr 1
 omega
theorem Ms (t:ByteArray) (ht:t.size≤1048576) (w:World):Calls Tryz.prog 40 #[.string t] w (Vr t w):=by
 by_cases h4:4096 < t.size
 ·have HR:Hid (Dq t=[]∧J4 t=0∧Dd t=2):=zh ⟨zp h4,zp h4,zp h4⟩
  go_enter Tryz.func40,Tryz.ntmps40
  go_wp2_with fail
  refine bodyPost_ret (v:= .tuple #[.slice none 0 0,.int .i64 0,.int .i64 2]) (by simp[results,Tryz.results40,go_sem]) rfl ?_;exact⟨none,0,by rw[HR.out.1,HR.out.2.1,HR.out.2.2];rfl,by rw[HR.out.1];exact Sl.nil _ _ _ _,zb _ _⟩
 ·have HN:=zh h4
  have HR:Hid (Dq t=(I5 60 t).1∧J4 t=(t.size:Int) - ((I5 60 t).2.size:Int)∧Dd t=0):=zh ⟨zq h4,zq h4,zq h4⟩;go_enter Tryz.func40,Tryz.ntmps40
  go_wp2_with fail
  go_loopw [5,6] (fun l left wr=>Ayg t w l left wr) (fun l _ _=>rpM l)
  case atStart=>exact⟨[],0,Nat.zero_le _,Nat.zero_le _,rfl,by rw[ByteArray.extract_zero_size];rfl,by rw[ByteArray.extract_zero_size];rfl,World.ownsRow_nil _ _ _ _,zb _ _⟩
  case round=>
   obtain⟨done,n,hd,hrt,rfl,h1,h2,hown,hB⟩:=hrel;obtain⟨r,hr⟩:∃r,t.extract n t.size=r:=⟨_,rfl⟩;rw[hr] at h1 h2;have HRS:Hid (r.size=t.size - n):=zh (by rw[←hr,ext_size]);have HRr:=zh hr;clear hr;have hrtI:(n:Int)≤(t.size:Int):=by omega
   obtain⟨al,cl,rfl,_⟩:=Ad hown;have HOW:=zh hown;have HB:=zh hB;have HRT:=zh hrt;by_cases hlt:done.length < 60
   ·obtain⟨m,hm⟩:∃m,60 - done.length=m+1:=⟨60 - done.length - 1,by omega⟩
    have hlt':((done.length:Int) < 60):=by omega
    rw[hm] at h1 h2;have HM:=zh (zi hm hlt);have H12:=zh (zi h1 h2);clear h1 h2 hown hB hrt hm hlt hd;go_wp2_with fail
    rw[HRr.out];refine(Afs r (by have:=HRS.out;omega) wr).mono ?_;rintro e w1 ⟨rfl,hb1⟩;have HB1:=zh (HB.out.trans (hb1.mono HB.out.size));have HOW1:=zh (own_below HOW.out hb1);clear hb1
    cases hc:Hp r with
    |none=>
     have HE:Hid ((I5 60 t).1=done∧(I5 60 t).2=r):=zh (by
      obtain⟨h1,h2⟩:=H12.out;rw[Adg hc] at h1 h2;exact⟨by rw[h1,List.append_nil],h2⟩)
     have e1:=(Uv hc).1;have e2:=(Uv hc).2;rw[e1,e2];unfold Vk Ez;clear e1 e2 hc;go_wp2_with fail
     refine bodyPost_ret (v:= .tuple #[.slice al done.length cl,.int .i64 (n:Int),.int .i64 0]) (by simp[results,Tryz.results40,go_sem]) rfl ?_;have hl:Dq t=done:=HR.out.1.trans HE.out.1;have ho:=HOW1.out.alloc (.cells #[.int .i64 0,.int .i64 0,.int .i64 0,.string ⟨#[]⟩,.string ⟨#[]⟩] 57);exact⟨al,cl,by rw[hl,HR.out.2.1,HR.out.2.2,HE.out.2,show(t.size:Int) - (r.size:Int)=(n:Int) by have:=HRS.out;have:=HRT.out;omega],by rw[hl];exact Sl.cu ho,HB1.out.alloc HB1.out.size _⟩
    |some y=>
     obtain⟨x,r2⟩:=y;obtain⟨g,hg,hg2⟩:=Aqf hc;have hgs:r2.size=r.size - g:=by rw[hg2,ext_size]
     have hgp:=(Na hc).2;have e1:Oh r=x:=by unfold Oh;rw[hc]
     have e2:afN r=(g:Int):=by unfold afN;rw[hc];simp only;omega
     have HR2:Hid (r2=t.extract (n+g) t.size):=zh (by rw[hg2,←HRr.out,Aus t n g HRT.out (by have:=HRS.out;omega)]);obtain⟨n2,hn2⟩:∃n2,n+g=n2:=⟨_,rfl⟩;have hn2t:n2≤t.size:=by have:=HRS.out;have:=HRT.out;omega
     have HN2:=zh (zi hn2 hn2t);have hg0:¬ (g:Int)=0:=by omega
     have hwr:wrap64 ((n:Int)+(g:Int))=(n2:Int):=by unfold wrap64;omega
     rw[e1,e2];unfold Ez;clear hg hg2 hgs hgp hn2 hn2t e2;have HE:=zh (Adh (n:=m) hc);clear e1 hc;have hbase:w.heap.size≤w1.heap.size:=HB1.out.size;have hdl:done.length < 4294967296:=by have:=HM.out;omega
     go_upto_region 8 with fail
     have HO2:=zh (HOW1.out.alloc (.cells (zX x) 57));have HB2:=zh (HB1.out.alloc HB1.out.size (.cells (zX x) 57));have hk2:=Bk.new w1 57 (zX x);obtain⟨W2,hW2⟩:∃W2,w1.alloc (.cells (zX x) 57)=W2:=⟨_,rfl⟩;rw[hW2] at HO2 HB2 hk2;rw[hW2];clear hW2 hbase;have y0:=hk2.cell 0;have y1:=hk2.cell 1;have y2:=hk2.cell 2;have y3:=hk2.cell 3;have y4:=hk2.cell 4
     simp only[zI,zJ,zK] at y0 y1 y2 y3 y4;have hbase:w.heap.size≤W2.heap.size:=HB2.out.size;clear hk2;go_wp2_with (at_builtin;refine D6 rfl _ _ 62 rfl w.heap.size 57 Al2 Tryz.underlying62 rfl (by decide) (by decide) W2 _ _ _ rfl HO2.out [.int .i64 x.kind,.int .i64 x.a,.int .i64 x.b,.string x.key,.string x.body] rfl rfl rfl (by simp[Value.oneCell']) hdl hbase ?_;intro v3 w3 ho3 hg3;have HO3:=zh (zi ho3 hg3);clear ho3 hg3)
     obtain⟨h1,h2⟩:=H12.out;rw[HE.out] at h1 h2;obtain⟨a3,c3,rfl,_⟩:=Ad HO3.out.1;have hm:=HM.out.1;have hl:=HM.out.2;have e60:60 - (done++[x]).length=m:=by rw[ze,List.length_singleton];omega
     refine⟨⟨done++[x],n2,by rw[ze,List.length_singleton];omega,HN2.out.2,by rw[hwr],?_,?_,?_,Bl HO2.out HO3.out.2 HB2.out (zn _) HB2.out.size⟩,by rw[Afc,Afc];omega⟩
     ·rw[e60,h1,←HN2.out.1,←HR2.out,List.append_assoc];rfl
     ·rw[e60,h2,←HN2.out.1,←HR2.out]
     ·rw[ze,List.flatMap_append]
      exact HO3.out.1
   ·have hd0:60 - done.length=0:=by omega
    rw[hd0] at h1 h2;have HE:Hid ((I5 60 t).1=done∧(I5 60 t).2=r):=zh ⟨h1.trans (List.append_nil _),h2⟩;have hge:¬ ((done.length:Int) < 60):=by omega
    clear h1 h2 hown hB hd0 hd;go_wp2_with fail
    refine bodyPost_ret (v:= .tuple #[.slice al done.length cl,.int .i64 (n:Int),.int .i64 0]) (by simp[results,Tryz.results40,go_sem]) rfl ?_;have hl:Dq t=done:=HR.out.1.trans HE.out.1;exact⟨al,cl,by rw[hl,HR.out.2.1,HR.out.2.2,HE.out.2,show(t.size:Int) - (r.size:Int)=(n:Int) by have:=HRS.out;have:=HRT.out;omega],by rw[hl];exact Sl.cu HOW.out,HB.out⟩
end Go.Proofs.YtaanpcjkflhomaaGreatDoor
