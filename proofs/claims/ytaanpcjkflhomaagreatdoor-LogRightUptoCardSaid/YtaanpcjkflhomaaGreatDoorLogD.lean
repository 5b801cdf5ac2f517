/-
  log.Replay.
-/
import Derived.Test.YtaanpcjkflhomaaGreatDoorLogB
import Derived.Test.YtaanpcjkflhomaaGreatDoorBunH
set_option maxHeartbeats 20000000
set_option maxRecDepth 100000
set_option linter.unusedSimpArgs false
set_option linter.unusedVariables false
namespace Go.Proofs.YtaanpcjkflhomaaGreatDoor
open Go Go.RowKit
theorem Al2:(Tryz.prog.info? 57).map (fun i=>(i.zero,i.size,i.bytes))=some (some (.agg #[.int .i64 0,.int .i64 0,.int .i64 0,.string ⟨#[]⟩,.string ⟨#[]⟩]),5,56):=by kernel_rfl
def Vr (t:ByteArray) (w:World) (e:Ending) (w':World):Prop:=
 ∃a c,e= .returned (.tuple #[.slice a (Dq t).length c,.int .i64 (J4 t),.int .i64 (Dd t)])∧Sl w' w.heap.size w'.heap.size a ((Dq t).flatMap Ez)∧Below w.heap.size w w'
def Ayh (t:ByteArray) (W0:World) (l left:Value) (wr:World):Prop:=
 ∃(done:List Cn) (r:ByteArray),done.length≤60∧left= .string r∧(I5 60 t).1=done++(I5 (60 - done.length) r).1∧(I5 60 t).2=(I5 (60 - done.length) r).2∧r.size≤t.size∧
  wr.ownsRow W0.heap.size 57 5 l done.length (done.flatMap Ez)∧Below W0.heap.size W0 wr
def rpM (l:Value):Nat:=match l with| .slice _ n _=>60 - n|_=>0
theorem Afc (a:Option Addr) (n c:Nat):rpM (.slice a n c)=60 - n:=rfl
theorem Adg {n:Nat} {r:ByteArray} (h:Hp r=none):I5 n r=([],r):=by
 cases n with
 |zero=>rfl
 |succ n=>unfold I5;rw[h]
theorem Adh {n:Nat} {r r2:ByteArray} {x:Cn} (h:Hp r=some (x,r2)):I5 (n+1) r=(x::(I5 n r2).1,(I5 n r2).2):=by rw[I5,h]
theorem Pt (t:ByteArray) (ht:t.size≤1048576) (w:World):Calls Tryz.prog 39 #[.string t] w (Vr t w):=by
 by_cases h4:4096 < t.size
 ·have HR:Hid (Dq t=[]∧J4 t=0∧Dd t=2):=zh ⟨if_pos h4,if_pos h4,if_pos h4⟩
  go_enter Tryz.func39,Tryz.ntmps39
  go_wp2_with fail
  refine bodyPost_ret (v:= .tuple #[.slice none 0 0,.int .i64 0,.int .i64 2]) (by simp[results,Tryz.results39,go_sem]) rfl ?_
  exact⟨none,0,by rw[HR.out.1,HR.out.2.1,HR.out.2.2];rfl,by rw[HR.out.1];exact Sl.nil _ _ _ _,zb _ _⟩
 ·have HN:=zh h4
  have HR:Hid (Dq t=(I5 60 t).1∧J4 t=(t.size:Int) - ((I5 60 t).2.size:Int)∧Dd t=0):=zh ⟨if_neg h4,if_neg h4,if_neg h4⟩
  go_enter Tryz.func39,Tryz.ntmps39
  go_wp2_with fail
  go_loopw [5,6] (fun l left wr=>Ayh t w l left wr) (fun l _ _=>rpM l)
  case atStart=>exact⟨[],t,Nat.zero_le _,rfl,rfl,rfl,zn _,World.ownsRow_nil _ _ _ _,zb _ _⟩
  case round=>
   obtain⟨done,r,hd,rfl,h1,h2,hrt,hown,hB⟩:=hrel
   obtain⟨al,cl,rfl,_⟩:=Ad hown
   have HOW:=zh hown
   have HB:=zh hB
   have HRT:=zh hrt
   by_cases hlt:done.length < 60
   ·obtain⟨m,hm⟩:∃m,60 - done.length=m+1:=⟨60 - done.length - 1,by omega⟩
    have hlt':((done.length:Int) < 60):=by omega
    rw[hm] at h1 h2
    have HM:=zh (And.intro hm hlt)
    have H12:=zh (And.intro h1 h2)
    clear h1 h2 hown hB hrt hm hlt hd
    go_wp2_with fail
    refine(As0 r wr).mono ?_
    rintro e w1 ⟨rfl,hb1⟩
    have HB1:=zh (HB.out.trans (hb1.mono HB.out.size))
    have HOW1:=zh (own_below HOW.out hb1)
    clear hb1
    cases hc:Hp r with
    |none=>
     have HE:Hid ((I5 60 t).1=done∧(I5 60 t).2=r):=zh (by
      obtain⟨h1,h2⟩:=H12.out
      rw[Adg hc] at h1 h2
      exact⟨by rw[h1,List.append_nil],h2⟩)
     have e1:Oh r=Vk:=by unfold Oh;rw[hc]
     have e2:Aag r=r:=by unfold Aag;rw[hc]
     have e3:Ui r=false:=by unfold Ui;rw[hc];rfl
     rw[e1,e2,e3]
     unfold Vk Ez
     clear e1 e2 e3 hc
     have hrt:=HRT.out
     have hwr:wrap64 ((t.size:Int) - (r.size:Int))=(t.size:Int) - (r.size:Int):=by unfold wrap64;omega
     go_wp2_with fail
     refine bodyPost_ret (v:= .tuple #[.slice al done.length cl,.int .i64 ((t.size:Int) - (r.size:Int)),.int .i64 0]) (by simp[results,Tryz.results39,go_sem]) rfl ?_
     have hl:Dq t=done:=HR.out.1.trans HE.out.1
     have ho:=HOW1.out.alloc (.cells #[.int .i64 0,.int .i64 0,.int .i64 0,.string ⟨#[]⟩,.string ⟨#[]⟩] 57)
     exact⟨al,cl,by rw[hl,HR.out.2.1,HR.out.2.2,HE.out.2],by rw[hl];exact Sl.of_own ho,HB1.out.alloc HB1.out.size _⟩
    |some y=>
     obtain⟨x,r2⟩:=y
     have e1:Oh r=x:=by unfold Oh;rw[hc]
     have e2:Aag r=r2:=by unfold Aag;rw[hc]
     have e3:Ui r=true:=by unfold Ui;rw[hc];rfl
     rw[e1,e2,e3]
     unfold Ez
     have HE:=zh (Adh (n:=m) hc)
     have HSZ:=zh (Na hc).2
     clear e1 e2 e3 hc
     have hbase:w.heap.size≤w1.heap.size:=HB1.out.size
     have hdl:done.length < 4294967296:=by have:=HM.out;omega
     go_upto_region 8 with fail
     have HO2:=zh (HOW1.out.alloc (.cells #[.int .i64 x.kind,.int .i64 x.a,.int .i64 x.b,.string x.key,.string x.body] 57))
     have HB2:=zh (HB1.out.alloc HB1.out.size (.cells #[.int .i64 x.kind,.int .i64 x.a,.int .i64 x.b,.string x.key,.string x.body] 57))
     have hk2:=Bk.new w1 57 #[.int .i64 x.kind,.int .i64 x.a,.int .i64 x.b,.string x.key,.string x.body]
     obtain⟨W2,hW2⟩:∃W2,w1.alloc (.cells #[.int .i64 x.kind,.int .i64 x.a,.int .i64 x.b,.string x.key,.string x.body] 57)=W2:=⟨_,rfl⟩
     rw[hW2] at HO2 HB2 hk2
     rw[hW2]
     clear hW2 hbase
     have y0:=hk2.cell 0;have y1:=hk2.cell 1;have y2:=hk2.cell 2;have y3:=hk2.cell 3;have y4:=hk2.cell 4
     simp only[zI,zJ,zK] at y0 y1 y2 y3 y4
     have hbase:w.heap.size≤W2.heap.size:=HB2.out.size
     clear hk2
     go_wp2_with (at_builtin;refine D6 rfl _ _ 62 rfl w.heap.size 57 Al2 Tryz.underlying62 rfl (by decide) (by decide) W2 _ _ _ rfl HO2.out [.int .i64 x.kind,.int .i64 x.a,.int .i64 x.b,.string x.key,.string x.body] rfl rfl rfl (by simp[Value.oneCell']) hdl hbase ?_;intro v3 w3 ho3 hg3;have HO3:=zh (And.intro ho3 hg3);clear ho3 hg3)
     obtain⟨h1,h2⟩:=H12.out
     rw[HE.out] at h1 h2
     obtain⟨a3,c3,rfl,_⟩:=Ad HO3.out.1
     have hm:=HM.out.1
     have hl:=HM.out.2
     have e60:60 - (done++[x]).length=m:=by rw[List.length_append,List.length_singleton];omega
     refine⟨⟨done++[x],r2,by rw[List.length_append,List.length_singleton];omega,rfl,?_,?_,by have:=HSZ.out;have:=HRT.out;omega,?_,Bl HO2.out HO3.out.2 HB2.out (zn _) HB2.out.size⟩,by rw[Afc,Afc];omega⟩
     ·rw[e60,h1,List.append_assoc];rfl
     ·rw[e60,h2]
     ·rw[List.length_append,List.flatMap_append]
      exact HO3.out.1
   ·have hd0:60 - done.length=0:=by omega
    rw[hd0] at h1 h2
    have HE:Hid ((I5 60 t).1=done∧(I5 60 t).2=r):=zh ⟨h1.trans (List.append_nil _),h2⟩
    have hwr:wrap64 ((t.size:Int) - (r.size:Int))=(t.size:Int) - (r.size:Int):=by unfold wrap64;omega
    have hge:¬ ((done.length:Int) < 60):=by omega
    clear h1 h2 hown hB hd0 hd
    go_wp2_with fail
    refine bodyPost_ret (v:= .tuple #[.slice al done.length cl,.int .i64 ((t.size:Int) - (r.size:Int)),.int .i64 0]) (by simp[results,Tryz.results39,go_sem]) rfl ?_
    have hl:Dq t=done:=HR.out.1.trans HE.out.1
    exact⟨al,cl,by rw[hl,HR.out.2.1,HR.out.2.2,HE.out.2],by rw[hl];exact Sl.of_own HOW.out,HB.out⟩
end Go.Proofs.YtaanpcjkflhomaaGreatDoor
