/-
  log.Recover.
-/
import Derived.Test.YtaanpcjkflhomaaGreatDoorLogH
import Derived.Test.YtaanpcjkflhomaaGreatDoorDoA
import Derived.Test.YtaanpcjkflhomaaGreatDoorStateMB
set_option maxHeartbeats 20000000
set_option maxRecDepth 100000
set_option linter.unusedSimpArgs false
set_option linter.unusedVariables false
namespace Go.Proofs.YtaanpcjkflhomaaGreatDoor
open Go Go.RowKit
theorem Aak:∀(n:Nat) (s:ByteArray),∀x∈(I5 n s).1,Df x=true
 |0,s,x,hx=>by cases hx
 |n+1,s,x,hx=>by
  rw[I5] at hx
  cases h:Hp s with
  |none=>rw[h] at hx;cases hx
  |some y=>
   rw[h] at hx
   rcases List.mem_cons.1 hx with rfl|hx
   ·exact(Na h).1
   ·exact Aak n _ x hx
theorem Tv (t:ByteArray):∀x∈Dq t,Df x=true:=by
 unfold Dq
 split
 ·intro x hx;cases hx
 ·exact Aak 60 t
theorem Xt {x:Cn} (h:Df x=true):Eb x:=by
 unfold Df at h
 simp only[Bool.and_eq_true,decide_eq_true_eq] at h
 obtain⟨⟨⟨⟨h1,h2⟩,h3⟩,h4⟩,h5⟩:=h
 exact⟨by omega,by omega,by omega,by omega,by omega⟩
theorem Ah7:∀(n:Nat) (s:ByteArray),(I5 n s).1.length≤n
 |0,s=>zn _
 |n+1,s=>by
  rw[I5]
  cases h:Hp s with
  |none=>exact Nat.zero_le _
  |some y=>exact Nat.succ_le_succ (Ah7 n _)
theorem L8 (t:ByteArray):(Dq t).length≤60:=by
 unfold Dq
 split
 ·exact Nat.zero_le _
 ·exact Ah7 60 t
def rcS (p:Ab) (t:ByteArray):Aa:=if Hn p t=0 then Ju p (Dq t) else Ay
def rcN (p:Ab) (t:ByteArray):Int:=if Hn p t=0 then ((Dq t).length:Int) else 0
theorem Ae3 {p:Ab} {t:ByteArray} {e:Int} (h:Hn p t=e) (h0:e≠0):rcS p t=Ay∧rcN p t=0∧Hn p t=e:=by
 unfold rcS rcN
 rw[if_neg (by rw[h];exact h0),if_neg (by rw[h];exact h0)]
 exact⟨rfl,rfl,h⟩
theorem Qn {p:Ab} {t:ByteArray} (h1:Bf p=0) (h2:Dd t=0):rcS p t=Ju p (Dq t)∧rcN p t=(Dq t).length∧Hn p t=0:=by
 have h:Hn p t=0:=by unfold Hn;rw[if_neg (by simp[h1])];exact h2
 unfold rcS rcN
 rw[if_pos h,if_pos h]
 exact⟨rfl,rfl,h⟩
def Ajd (p:Ab) (t:ByteArray) (w:World) (e:Ending) (w':World):Prop:=
 ∃a1 a2 a3 c1 c2 c3 rows,e= .returned (.tuple #[Ac (rcS p t) a1 a2 a3 c1 c2 c3,.int .i64 (rcN p t),.int .i64 (Hn p t)])∧Ax w' w.heap.size w'.heap.size a1 a2 a3 rows (rcS p t)∧Below w.heap.size w w'
theorem Yf {W:World} {g:Nat} {t:TypeId} {o0 o1 o2 o3 o4 o5 o6 o7:Value} (h:Bk W g t #[o0,o1,o2,o3,o4,o5,o6,o7]) (v0 v1 v2 v3 v4 v5 v6 v7:Value):
  Bk ((((((((W.setCell ⟨g,0,none⟩ v0).setCell ⟨g,1,none⟩ v1).setCell ⟨g,2,none⟩ v2).setCell ⟨g,3,none⟩ v3).setCell ⟨g,4,none⟩ v4).setCell ⟨g,5,none⟩ v5).setCell ⟨g,6,none⟩ v6).setCell ⟨g,7,none⟩ v7) g t #[v0,v1,v2,v3,v4,v5,v6,v7]:=by
 have:=(((((((h.set_ 0 v0).set_ 1 v1).set_ 2 v2).set_ 3 v3).set_ 4 v4).set_ 5 v5).set_ 6 v6).set_ 7 v7
 simpa using this
def Avu (p:Ab) (L:List Cn) (W0 W3:World) (i:Value) (wr:World):Prop:=
 ∃(k:Nat) (b1 b2 b3:Option Addr) (d1 d2 d3:Nat) (rows:List Bq),k≤L.length∧i= .int .i64 k∧Bk wr W3.heap.size 31 (Ag (Ju p (L.take k)) b1 b2 b3 d1 d2 d3)∧Ax wr W0.heap.size wr.heap.size b1 b2 b3 rows (Ju p (L.take k))∧Below W3.heap.size W3 wr
theorem Ly (p:Ab) (t:ByteArray) (p1 p2 p3:Option Addr) (q1 q2 q3:Nat) (w:World) (hE:Env w) (hp:Az w 0 w.heap.size p1 p2 p3 p) (hps:Ai p) (ht:t.size≤1048576):
  Calls Tryz.prog 42 #[Bc p p1 p2 p3 q1 q2 q3,.string t] w (Ajd p t w):=by
 have HPS:=zh hps;clear hps
 have HT:=zh ht;clear ht
 have hbx:∀W,Below ((w.alloc (.cells #[.slice p1 p.posts.length q1,.slice p2 p.queues.length q2,.slice p3 p.binds.length q3] 26)).alloc (.cells zeroCells 31)).heap.size ((w.alloc (.cells #[.slice p1 p.posts.length q1,.slice p2 p.queues.length q2,.slice p3 p.binds.length q3] 26)).alloc (.cells zeroCells 31)) W→
   Az W 0 W.heap.size p1 p2 p3 p∧(W.cell? ⟨w.heap.size,0,none⟩=some (.slice p1 p.posts.length q1)∧W.cell? ⟨w.heap.size,1,none⟩=some (.slice p2 p.queues.length q2)∧W.cell? ⟨w.heap.size,2,none⟩=some (.slice p3 p.binds.length q3))∧Bk W (w.heap.size+1) 31 zeroCells∧Below w.heap.size w W:=fun W hW=>by
  have h:=G6 hp q1 q2 q3 26 W (((zb _ _).alloc (zn _) _).trans (hW.mono (by simp)))
  exact⟨h.1.wider (zn _) (by have:=hW.size;simp at this⊢;omega),h.2.1,(Bk.new_at _ _ _ (by simp)).below hW (by simp),h.2.2⟩
 unfold zeroCells at hbx
 unfold Bc
 have HV:=zh hE;clear hE hp
 go_enter Tryz.func42,Tryz.ntmps42
 obtain⟨_,⟨m20,m21,m22⟩,_,_⟩:=hbx _ (zb _ _)
 have HBX:=zh hbx;clear hbx
 go_wp2_with fail
 have HLZ0:Hid (w.heap.size+1 < ((w.alloc (.cells #[.slice p1 p.posts.length q1,.slice p2 p.queues.length q2,.slice p3 p.binds.length q3] 26)).alloc (.cells #[.slice none 0 0,.slice none 0 0,.slice none 0 0,.int .i64 0,.int .i64 0,.int .i64 0,.int .i64 0,.int .i64 0] 31)).heap.size):=zh (by simp)
 generalize ((w.alloc (.cells #[.slice p1 p.posts.length q1,.slice p2 p.queues.length q2,.slice p3 p.binds.length q3] 26)).alloc (.cells #[.slice none 0 0,.slice none 0 0,.slice none 0 0,.int .i64 0,.int .i64 0,.int .i64 0,.int .i64 0,.int .i64 0] 31))=W0 at *
 refine(Ku p p1 p2 p3 q1 q2 q3 0 W0 (Av (HBX.out W0 (zb _ _)).2.2.2 HV.out) ((HBX.out W0 (zb _ _)).1) HPS.out).mono ?_
 rintro e W1 ⟨rfl,hB1⟩
 have HB1:=zh hB1;clear hB1 m20 m21 m22
 obtain⟨_,⟨m20,m21,m22⟩,hbk,hbelow⟩:=HBX.out _ HB1.out
 by_cases hc:Bf p=0
 ·have b1:(Bf p != 0)=false:=by simp[hc]
  have HC:Hid (Bf p=0):=zh hc
  clear hc hbk hbelow m20 m21 m22
  go_wp2_with fail
  refine(Pt t HT.out W1).mono ?_
  rintro e W2 ⟨al,cl,rfl,hsl,hb2⟩
  have HB2:=zh (HB1.out.trans (hb2.mono HB1.out.size))
  have HSL:=zh hsl;clear hsl hb2
  by_cases hr:Dd t=0
  ·have HG:=zh (Qn HC.out hr)
   have b2:(Dd t != 0)=false:=by simp[hr]
   clear hr
   obtain⟨_,⟨m20,m21,m22⟩,_,_⟩:=HBX.out _ HB2.out
   go_wp2_with fail
   refine(Yz p p1 p2 p3 q1 q2 q3 W2 (Av (HBX.out _ HB2.out).2.2.2 HV.out) (HBX.out _ HB2.out).1 HPS.out).mono ?_
   rintro e W3 ⟨z1,y1,rowsB,rfl,hs3,hb3⟩
   have eb:Hq p=Cx p:=by unfold Hq;rw[if_pos HC.out]
   rw[eb] at hs3⊢
   have HB3:=zh (HB2.out.trans (hb3.mono HB2.out.size))
   have HSL3:=zh (And.intro (HSL.out.below hb3 (zn _)) hb3.size)
   have HG3:=zh HB3.out.size
   have HL60:=zh (L8 t)
   have HRG:=zh (Tv t)
   have HL0:Hid (Ju p ((Dq t).take 0)=Cx p):=zh rfl
   clear eb hb3 m20 m21 m22
   have hL60:(Dq t).length≤60:=L8 t
   generalize Dq t=L at *
   generalize Cx p=X at *
   unfold Ac Ag
   go_upto_region 8 with fail
   obtain⟨W4,hW4⟩:∃W4,W3.alloc (.cells #[.slice z1 X.ready.length y1,.slice none X.outs.length 0,.slice none X.takers.length 0,.int .i64 X.nextSeq,.int .i64 X.nextTag,.int .i64 X.came,.int .i64 X.acked,.int .i64 X.dropped] 31)=W4:=⟨_,rfl⟩
   rw[hW4]
   have HI4:Hid (Avu p L W0 W3 (.int .i64 0) W4):=zh (by
    rw[←hW4]
    refine⟨0,z1,none,none,y1,0,0,rowsB,Nat.zero_le _,rfl,?_,?_,(zb _ _).alloc (zn _) _⟩
    ·rw[HL0.out];exact Bk.new _ _ _
    ·rw[HL0.out];exact(hs3.below ((zb _ _).alloc (zn _) _) (zn _)).wider HB2.out.size (by simp))
   clear hW4 hs3
   go_wp2_with fail
   go_loopw [40] (fun i wr=>Avu p L W0 W3 i wr) (fun i _=>L.length - (intOf i).toNat)
   case atStart=>exact HI4.out
   case round=>
    obtain⟨k,c1,c2,c3,d1,d2,d3,rows,hk,rfl,hbk,hst,hB⟩:=hrel
    have HK:=zh hbk
    have HST:=zh hst
    have HB:=zh hB
    have HBW:=zh (HB3.out.trans (hB.mono HB3.out.size))
    by_cases hlt:k < L.length
    ·obtain⟨g,o,ha,_,hb,hcell⟩:=Bd Qz (by decide) HSL3.out.1 hlt
     subst ha
     obtain⟨e0,e1,e2,e3,e4⟩:=Ol (wr:=wr) (b:=g) (o:=o) (k:=k) (x:=L[k]) fun j u hu=>(hB.cell (p:=⟨g,_,none⟩) (Nat.lt_of_lt_of_le hb HSL3.out.2)).trans (hcell j u hu)
     have hR:=Ade p L hlt
     have hA:=Xt (HRG.out _ (List.getElem_mem hlt))
     have HR:=zh hR
     have HA:=zh hA
     have HSM:=zh (Nr HPS.out (L.take k))
     have hkI:(k:Int) < (L.length:Int):=Int.ofNat_lt.2 hlt
     have HKL:=zh hlt
     clear hcell hR hA hbk hst hB hk
     generalize L[k]=x at *
     clear hlt
     go_upto_region 11 with fail
     obtain⟨W5,hW5⟩:∃W5,wr.alloc (.cells #[.int .i64 x.kind,.int .i64 x.a,.int .i64 x.b,.string x.key,.string x.body] 57)=W5:=⟨_,rfl⟩
     have hw5:Below wr.heap.size wr W5:=by rw[←hW5];exact(zb _ _).alloc (zn _) _
     have hk5:Bk W5 wr.heap.size 57 #[.int .i64 x.kind,.int .i64 x.a,.int .i64 x.b,.string x.key,.string x.body]:=by rw[←hW5];exact Bk.new _ _ _
     have HBK5:=zh (HK.out.below hw5 HK.out.lt)
     have HB5:=zh (HB.out.trans (hw5.mono HB.out.size))
     have HBW5:=zh (HBW.out.trans (hw5.mono HBW.out.size))
     have HS5:=zh ((HST.out.below hw5 (zn _)).wider (zn _) hw5.size)
     have y0:=hk5.cell 0;have y1':=hk5.cell 1;have y2:=hk5.cell 2;have y3:=hk5.cell 3;have y4:=hk5.cell 4
     simp only[zI,zJ,zK] at y0 y1' y2 y3 y4
     rw[hW5]
     obtain⟨_,⟨m20,m21,m22⟩,_,_⟩:=HBX.out _ HBW5.out
     obtain⟨n0,n1,n2,n3,n4,n5,n6,n7⟩:=Jl HBK5.out
     clear hW5 hw5 hk5 e0 e1 e2 e3 e4 HK HST HB HBW
     obtain⟨S,hS⟩:∃S,Ju p (L.take k)=S:=⟨_,rfl⟩
     rw[hS] at HR HSM HBK5 HS5 n0 n1 n2 n3 n4 n5 n6 n7
     clear hS
     go_wp2_with fail
     refine(T3 p S x p1 p2 p3 c1 c2 c3 q1 q2 q3 d1 d2 d3 rows W5 (Av (HBX.out _ HBW5.out).2.2.2 HV.out) (HBX.out _ HBW5.out).1 HPS.out (HS5.out.wider (Nat.zero_le _) (zn _)) HSM.out.1 HSM.out.2 HA.out).mono ?_
     rintro e W6 ⟨u1,u2,u3,f1,f2,f3,rowsD,rfl,hs6,hb6⟩
     have HLT5:=zh (And.intro HBK5.out.lt HBW5.out.size)
     clear y0 y1' y2 y3 y4 m20 m21 m22 n0 n1 n2 n3 n4 n5 n6 n7
     unfold Ac Ag
     go_upto_region 12 with fail
     obtain⟨Y,hY⟩:∃Y,doS p S x=Y:=⟨_,rfl⟩
     rw[hY] at hs6⊢
     obtain⟨W7,hW7⟩:∃W7,W6.alloc (.cells #[.slice u1 Y.ready.length f1,.slice u2 Y.outs.length f2,.slice u3 Y.takers.length f3,.int .i64 Y.nextSeq,.int .i64 Y.nextTag,.int .i64 Y.came,.int .i64 Y.acked,.int .i64 Y.dropped] 31)=W7:=⟨_,rfl⟩
     have hw7:Below W6.heap.size W6 W7:=by rw[←hW7];exact(zb _ _).alloc (zn _) _
     have hk7:Bk W7 W6.heap.size 31 #[.slice u1 Y.ready.length f1,.slice u2 Y.outs.length f2,.slice u3 Y.takers.length f3,.int .i64 Y.nextSeq,.int .i64 Y.nextTag,.int .i64 Y.came,.int .i64 Y.acked,.int .i64 Y.dropped]:=by rw[←hW7];exact Bk.new _ _ _
     have hb57:=hb6.trans (hw7.mono hb6.size)
     have HB7:=zh (HB5.out.trans (hb57.mono HB5.out.size))
     have HBK7:=zh (HBK5.out.below hb57 HBK5.out.lt)
     have HS7:=zh ((hs6.below hw7 (zn _)).wider (zn _) hw7.size)
     have HO7:=zh ((HS5.out.below hb57 (zn _)).wider (zn _) hb57.size)
     rw[hW7]
     clear hW7 hw7 hb57 hb6 hs6
     by_cases hd:E2 p S x=0
     ·have HR1:Hid (Ju p (L.take (k+1))=Y):=zh (by rw[HR.out];unfold Lb;rw[if_pos hd,hY])
      rw[hd]
      have hbk7:=HBK7.out
      unfold Ag at hbk7
      obtain⟨n0,n1,n2,n3,n4,n5,n6,n7,_,_,_,_,_,_,_,_,hltN⟩:=Af hk7
      obtain⟨_,_,_,_,_,_,_,_,g0,g1,g2,g3,g4,g5,g6,g7,hltG⟩:=Af hbk7
      clear hk7 hbk7 hd hY
      go_wp2_with fail
      refine⟨⟨k+1,u1,u2,u3,f1,f2,f3,rowsD,HKL.out,by go_num,?_,?_,Ak HB7.out (zn _) _ _ _ _ _ _ _ _⟩,by simp[intOf];omega⟩
      ·rw[HR1.out]
       exact Yf HBK7.out _ _ _ _ _ _ _ _
      ·rw[HR1.out]
       exact(Mp HS7.out HLT5.out.1 _ _ _ _ _ _ _ _).wider HLT5.out.2 (by simp[World.setCell])
     ·have HR1:Hid (Ju p (L.take (k+1))=S):=zh (by rw[HR.out];unfold Lb;rw[if_neg hd])
      have bd:(E2 p S x == 0)=false:=by simp[hd]
      generalize E2 p S x=ed at *
      clear hk7 hd hY
      go_wp2_with fail
      refine⟨⟨k+1,c1,c2,c3,d1,d2,d3,rows,HKL.out,by go_num,?_,?_,HB7.out⟩,by simp[intOf];omega⟩
      ·rw[HR1.out];exact HBK7.out
      ·rw[HR1.out];exact HO7.out
    ·obtain rfl:k=L.length:=by omega
     rw[List.take_length] at hbk hst
     have HK:=zh hbk
     have HST:=zh hst
     generalize Ju p L=S at *
     unfold Ag at hbk
     obtain⟨n0,n1,n2,n3,n4,n5,n6,n7,_,_,_,_,_,_,_,_,hltG⟩:=Af hbk
     obtain⟨_,_,hzk,hbelow⟩:=HBX.out _ HBW.out
     obtain⟨k0,k1,k2,k3,k4,k5,k6,k7,x0,x1,x2,x3,x4,x5,x6,x7,hltZ⟩:=Af hzk
     have hlo:w.heap.size+1 < W0.heap.size:=HLZ0.out
     have HBL:=zh hbelow
     clear hbk hst hB hk hlt hzk hbelow
     go_wp2_with fail
     refine bodyPost_ret (v:= .tuple #[Ac S c1 c2 c3 d1 d2 d3,.int .i64 L.length,.int .i64 0]) (by simp[results,Tryz.results42,go_sem,Ac,Ag,n0,n1,n2,n3,n4,n5,n6,n7,hltG,k0,k1,k2,k3,k4,k5,k6,k7,hltZ]) rfl
      ⟨c1,c2,c3,d1,d2,d3,rows,by rw[HG.out.1,HG.out.2.1,HG.out.2.2],?_,Ak HBL.out (by omega) _ _ _ _ _ _ _ _⟩
     rw[HG.out.1]
     exact(Mp HST.out hlo _ _ _ _ _ _ _ _).wider (by omega) (by simp[World.setCell])
  ·have b2:(Dd t != 0)=true:=by simp[hr]
   have HG:=zh (Ae3 (p:=p) (t:=t) (by unfold Hn;rw[if_neg (by simp[HC.out])]) hr)
   obtain⟨_,_,hbk,hbelow⟩:=HBX.out _ HB2.out
   obtain⟨k0,k1,k2,k3,k4,k5,k6,k7,f0,f1,f2,f3,f4,f5,f6,f7,hlt⟩:=Af hbk
   clear hr hbk
   go_wp2_with fail
   refine bodyPost_ret (v:= .tuple #[Ac Ay none none none 0 0 0,.int .i64 0,.int .i64 (Dd t)]) (by simp[results,Tryz.results42,go_sem,Ac,Ag,Ay,k0,k1,k2,k3,k4,k5,k6,k7,hlt]) rfl
    ⟨none,none,none,0,0,0,[],by rw[HG.out.1,HG.out.2.1,HG.out.2.2],by rw[HG.out.1];exact Ki _ _ _,Ak hbelow (by omega) _ _ _ _ _ _ _ _⟩
 ·have b1:(Bf p != 0)=true:=by simp[hc]
  have HG:=zh (Ae3 (p:=p) (t:=t) (by unfold Hn;rw[if_pos hc]) hc)
  obtain⟨k0,k1,k2,k3,k4,k5,k6,k7,f0,f1,f2,f3,f4,f5,f6,f7,hlt⟩:=Af hbk
  clear hc
  go_wp2_with fail
  refine bodyPost_ret (v:= .tuple #[Ac Ay none none none 0 0 0,.int .i64 0,.int .i64 (Bf p)]) (by simp[results,Tryz.results42,go_sem,Ac,Ag,Ay,k0,k1,k2,k3,k4,k5,k6,k7,hlt]) rfl
   ⟨none,none,none,0,0,0,[],by rw[HG.out.1,HG.out.2.1,HG.out.2.2],by rw[HG.out.1];exact Ki _ _ _,Ak hbelow (by omega) _ _ _ _ _ _ _ _⟩
end Go.Proofs.YtaanpcjkflhomaaGreatDoor
