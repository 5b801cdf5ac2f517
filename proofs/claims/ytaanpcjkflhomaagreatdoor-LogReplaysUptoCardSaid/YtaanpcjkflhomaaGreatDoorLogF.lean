/-
  The reference's replay: ReplayOf.
-/
import Derived.Test.YtaanpcjkflhomaaGreatDoorLogE
set_option maxHeartbeats 20000000
set_option maxRecDepth 100000
set_option linter.unusedSimpArgs false
set_option linter.unusedVariables false
namespace Go.Proofs.YtaanpcjkflhomaaGreatDoor
open Go Go.RowKit
theorem Aqf {s r:ByteArray} {x:Cn} (h:Hp s=some (x,r)):∃e,e≤s.size∧r=s.extract e s.size:=by
 have h5:5≤s.size:=by have:=(Na h).2;omega
 by_cases hk:s.size≤4+s[3].toNat
 ·rw[Aqk h5 hk] at h;cases h
 ·have hq:4+s[3].toNat < s.size:=by omega
  by_cases he:s.size < 4+s[3].toNat+1+s[4+s[3].toNat].toNat
  ·rw[Aqj h5 rfl hq he] at h;cases h
  ·rw[Avw h5 rfl hq rfl (by omega)] at h
   simp only[Option.some.injEq,Prod.mk.injEq] at h
   exact⟨_,by omega,h.2.symm⟩
def Ayg (t:ByteArray) (W0:World) (l at_:Value) (wr:World):Prop:=
 ∃(done:List Cn) (n:Nat),done.length≤60∧n≤t.size∧at_= .int .i64 n∧(I5 60 t).1=done++(I5 (60 - done.length) (t.extract n t.size)).1∧(I5 60 t).2=(I5 (60 - done.length) (t.extract n t.size)).2∧
  wr.ownsRow W0.heap.size 57 5 l done.length (done.flatMap Ez)∧Below W0.heap.size W0 wr
theorem ext_size (t:ByteArray) (n:Nat):(t.extract n t.size).size=t.size - n:=by rw[ByteArray.size_extract];omega
theorem Aus (t:ByteArray) (n e:Nat) (hn:n≤t.size) (he:e≤t.size - n):(t.extract n t.size).extract e (t.extract n t.size).size=t.extract (n+e) t.size:=by
 rw[ext_size,ByteArray.extract_extract]
 congr 1
 omega
theorem Ms (t:ByteArray) (ht:t.size≤1048576) (w:World):Calls Tryz.prog 40 #[.string t] w (Vr t w):=by
 by_cases h4:4096 < t.size
 ·have HR:Hid (Dq t=[]∧J4 t=0∧Dd t=2):=zh ⟨if_pos h4,if_pos h4,if_pos h4⟩
  go_enter Tryz.func40,Tryz.ntmps40
  go_wp2_with fail
  refine bodyPost_ret (v:= .tuple #[.slice none 0 0,.int .i64 0,.int .i64 2]) (by simp[results,Tryz.results40,go_sem]) rfl ?_
  exact⟨none,0,by rw[HR.out.1,HR.out.2.1,HR.out.2.2];rfl,by rw[HR.out.1];exact Sl.nil _ _ _ _,zb _ _⟩
 ·have HN:=zh h4
  have HR:Hid (Dq t=(I5 60 t).1∧J4 t=(t.size:Int) - ((I5 60 t).2.size:Int)∧Dd t=0):=zh ⟨if_neg h4,if_neg h4,if_neg h4⟩
  go_enter Tryz.func40,Tryz.ntmps40
  go_wp2_with fail
  go_loopw [5,6] (fun l left wr=>Ayg t w l left wr) (fun l _ _=>rpM l)
  case atStart=>exact⟨[],0,Nat.zero_le _,Nat.zero_le _,rfl,by rw[ByteArray.extract_zero_size];rfl,by rw[ByteArray.extract_zero_size];rfl,World.ownsRow_nil _ _ _ _,zb _ _⟩
  case round=>
   obtain⟨done,n,hd,hrt,rfl,h1,h2,hown,hB⟩:=hrel
   obtain⟨r,hr⟩:∃r,t.extract n t.size=r:=⟨_,rfl⟩
   rw[hr] at h1 h2
   have HRS:Hid (r.size=t.size - n):=zh (by rw[←hr,ext_size])
   have HRr:=zh hr
   clear hr
   have hrtI:(n:Int)≤(t.size:Int):=by omega
   obtain⟨al,cl,rfl,_⟩:=Ad hown
   have HOW:=zh hown
   have HB:=zh hB
   have HRT:=zh hrt
   by_cases hlt:done.length < 60
   ·obtain⟨m,hm⟩:∃m,60 - done.length=m+1:=⟨60 - done.length - 1,by omega⟩
    have hlt':((done.length:Int) < 60):=by omega
    rw[hm] at h1 h2
    have HM:=zh (And.intro hm hlt)
    have H12:=zh (And.intro h1 h2)
    clear h1 h2 hown hB hrt hm hlt hd
    go_wp2_with fail
    rw[HRr.out]
    refine(Afs r (by have:=HRS.out;omega) wr).mono ?_
    rintro e w1 ⟨rfl,hb1⟩
    have HB1:=zh (HB.out.trans (hb1.mono HB.out.size))
    have HOW1:=zh (own_below HOW.out hb1)
    clear hb1
    cases hc:Hp r with
    |none=>
     have HE:Hid ((I5 60 t).1=done∧(I5 60 t).2=r):=zh (by
      obtain⟨h1,h2⟩:=H12.out
      rw[Adg hc] at h1 h2
      exact⟨by rw[h1,List.append_nil],h2⟩)
     have e1:=(Uv hc).1
     have e2:=(Uv hc).2
     rw[e1,e2]
     unfold Vk Ez
     clear e1 e2 hc
     go_wp2_with fail
     refine bodyPost_ret (v:= .tuple #[.slice al done.length cl,.int .i64 (n:Int),.int .i64 0]) (by simp[results,Tryz.results40,go_sem]) rfl ?_
     have hl:Dq t=done:=HR.out.1.trans HE.out.1
     have ho:=HOW1.out.alloc (.cells #[.int .i64 0,.int .i64 0,.int .i64 0,.string ⟨#[]⟩,.string ⟨#[]⟩] 57)
     exact⟨al,cl,by rw[hl,HR.out.2.1,HR.out.2.2,HE.out.2,show(t.size:Int) - (r.size:Int)=(n:Int) by have:=HRS.out;have:=HRT.out;omega],by rw[hl];exact Sl.of_own ho,HB1.out.alloc HB1.out.size _⟩
    |some y=>
     obtain⟨x,r2⟩:=y
     obtain⟨g,hg,hg2⟩:=Aqf hc
     have hgs:r2.size=r.size - g:=by rw[hg2,ext_size]
     have hgp:=(Na hc).2
     have e1:Oh r=x:=by unfold Oh;rw[hc]
     have e2:afN r=(g:Int):=by unfold afN;rw[hc];simp only;omega
     have HR2:Hid (r2=t.extract (n+g) t.size):=zh (by rw[hg2,←HRr.out,Aus t n g HRT.out (by have:=HRS.out;omega)])
     obtain⟨n2,hn2⟩:∃n2,n+g=n2:=⟨_,rfl⟩
     have hn2t:n2≤t.size:=by have:=HRS.out;have:=HRT.out;omega
     have HN2:=zh (And.intro hn2 hn2t)
     have hg0:¬ (g:Int)=0:=by omega
     have hwr:wrap64 ((n:Int)+(g:Int))=(n2:Int):=by unfold wrap64;omega
     rw[e1,e2]
     unfold Ez
     clear hg hg2 hgs hgp hn2 hn2t e2
     have HE:=zh (Adh (n:=m) hc)
     clear e1 hc
     have hbase:w.heap.size≤w1.heap.size:=HB1.out.size
     have hdl:done.length < 4294967296:=by have:=HM.out;omega
     go_upto_region 8 with fail
     have HO2:=zh (HOW1.out.alloc (.cells #[.int .i64 x.kind,.int .i64 x.a,.int .i64 x.b,.string x.key,.string x.body] 57))
     have HB2:=zh (HB1.out.alloc HB1.out.size (.cells #[.int .i64 x.kind,.int .i64 x.a,.int .i64 x.b,.string x.key,.string x.body] 57))
     have hk2:=Bk.new w1 57 #[.int .i64 x.kind,.int .i64 x.a,.int .i64 x.b,.string x.key,.string x.body]
     obtain⟨W2,hW2⟩:∃W2,w1.alloc (.cells #[.int .i64 x.kind,.int .i64 x.a,.int .i64 x.b,.string x.key,.string x.body] 57)=W2:=⟨_,rfl⟩
     rw[hW2] at HO2 HB2 hk2
     rw[hW2]
     clear hW2 hbase
     have y0:=hk2.cell 0;have y1:=hk2.cell 1;have y2:=hk2.cell 2;have y3:=hk2.cell 3;have y4:=hk2.cell 4
     simp only[zI,zJ,zK] at y0 y1 y2 y3 y4
     have hbase:w.heap.size≤W2.heap.size:=HB2.out.size
     clear hk2
     go_wp2_with (at_builtin;refine D6 rfl _ _ 62 rfl w.heap.size 57 Al2 Tryz.underlying62 rfl (by decide) (by decide) W2 _ _ _ rfl HO2.out [.int .i64 x.kind,.int .i64 x.a,.int .i64 x.b,.string x.key,.string x.body] rfl rfl rfl (by simp[Value.oneCell']) hdl hbase ?_;intro v3 w3 ho3 hg3;have HO3:=zh (And.intro ho3 hg3);clear ho3 hg3)
     obtain⟨h1,h2⟩:=H12.out
     rw[HE.out] at h1 h2
     obtain⟨a3,c3,rfl,_⟩:=Ad HO3.out.1
     have hm:=HM.out.1
     have hl:=HM.out.2
     have e60:60 - (done++[x]).length=m:=by rw[List.length_append,List.length_singleton];omega
     refine⟨⟨done++[x],n2,by rw[List.length_append,List.length_singleton];omega,HN2.out.2,by rw[hwr],?_,?_,?_,Bl HO2.out HO3.out.2 HB2.out (zn _) HB2.out.size⟩,by rw[Afc,Afc];omega⟩
     ·rw[e60,h1,←HN2.out.1,←HR2.out,List.append_assoc];rfl
     ·rw[e60,h2,←HN2.out.1,←HR2.out]
     ·rw[List.length_append,List.flatMap_append]
      exact HO3.out.1
   ·have hd0:60 - done.length=0:=by omega
    rw[hd0] at h1 h2
    have HE:Hid ((I5 60 t).1=done∧(I5 60 t).2=r):=zh ⟨h1.trans (List.append_nil _),h2⟩
    have hge:¬ ((done.length:Int) < 60):=by omega
    clear h1 h2 hown hB hd0 hd
    go_wp2_with fail
    refine bodyPost_ret (v:= .tuple #[.slice al done.length cl,.int .i64 (n:Int),.int .i64 0]) (by simp[results,Tryz.results40,go_sem]) rfl ?_
    have hl:Dq t=done:=HR.out.1.trans HE.out.1
    exact⟨al,cl,by rw[hl,HR.out.2.1,HR.out.2.2,HE.out.2,show(t.size:Int) - (r.size:Int)=(n:Int) by have:=HRS.out;have:=HRT.out;omega],by rw[hl];exact Sl.of_own HOW.out,HB.out⟩
end Go.Proofs.YtaanpcjkflhomaaGreatDoor
