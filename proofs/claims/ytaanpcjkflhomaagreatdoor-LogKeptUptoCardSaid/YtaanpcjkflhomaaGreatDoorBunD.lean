/-
  Walk of the reference's twice. The reference's CheckPlan, walked.
-/
import Derived.Test.YtaanpcjkflhomaaGreatDoorBunC
set_option maxHeartbeats 20000000
set_option maxRecDepth 100000
set_option linter.unusedSimpArgs false
set_option linter.unusedVariables false
namespace Go.Proofs.YtaanpcjkflhomaaGreatDoor
open Go.RowKit
def Aqb (l:List ByteArray) (B:Nat) (w:World) (i:Value) (wr:World):Prop:=
 ∃k:Nat,k≤l.length∧i= .int .i64 k∧(l.take k).Nodup∧Below B w wr
def Anc (l:List ByteArray) (x:ByteArray) (B:Nat) (w:World) (n:Nat) (i:Value) (wr:World):Prop:=
 ∃k:Nat,k≤n∧i= .int .i64 k∧(∀j y,j < k→l[j]? =some y→y≠x)∧Below B w wr
theorem Ads (a:Option Addr) (c:Nat) (l:List ByteArray) (lo:Nat) (w:World) (hx:Sl w lo w.heap.size a (l.map Value.string)) (hl:l.length≤1048576):
  Calls Tryz.prog 87 #[.slice a l.length c] w fun e w'=>e= .returned (.bool (dup l))∧Below w.heap.size w w':=by
 have HX:=zh hx;clear hx
 go_enter Tryz.func87,Tryz.ntmps87
 go_wp2_with fail
 go_loopw [3] (fun i wr=>Aqb l w.heap.size w i wr) (fun i _=>l.length - (intOf i).toNat)
 case atStart=>exact⟨0,by omega,rfl,by simp,zb _ _⟩
 case round=>
  obtain⟨k,hk,rfl,hnd,hB⟩:=hrel;have HN:=zh hnd;clear hnd
  by_cases hlt:k < l.length
  ·obtain⟨b,o,rfl,_,hb,hc⟩:=HX.out.at_ (k:=k) (by simpa using hlt)
   have hcell:∀W,Below w.heap.size w W→∀j (h:j < l.length),W.cell? ⟨b,o+j,none⟩=some (.string l[j]):=fun W hW j h=>(hW.cell (p:=⟨b,_,none⟩) hb).trans (hc j _ (by simp[h]));have HC:=zh hcell;clear hcell hc
   go_wp2_with fail
   go_loopw [4] (fun i wr=>Anc l l[k] w.heap.size w k i wr) (fun i _=>k - (intOf i).toNat)
   case atStart=>exact⟨0,by omega,rfl,fun j y hj=>absurd hj (by omega),hB⟩
   case round=>
    obtain⟨m,hm,rfl,hne,hB⟩:=hrel;have HE:=zh hne;clear hne
    by_cases hmk:m < k
    ·have hml:m < l.length:=by omega
     have e0:=HC.out _ hB k hlt;have e1:=HC.out _ hB m hml
     go_wp2
     go_quiet (fail)
     all_goals go_wp2
     ·have hq:l[k]=l[m]:=toList_inj (by simp_all)
      have HD:dup l=true:=by
       have:¬ l.Nodup:=fun h=>(List.pairwise_iff_getElem.1 h) m k hml hlt hmk hq.symm;simp[dup,this]
      go_ret
      exact⟨by rw[HD];rfl,below_draws hB _⟩
     ·have hq:¬ l[k]=l[m]:=fun e=>by simp_all
      exact⟨⟨m+1,by omega,by go_num,fun j y hj hy=>by
       rcases Nat.lt_or_ge j m with h1|h1
       ·exact HE.out j y h1 hy
       ·obtain rfl:j=m:=by omega
        rw[zG hml] at hy
        cases hy
        exact fun e=>hq e.symm,below_draws hB _⟩,by simp[intOf];omega⟩
    ·obtain rfl:m=k:=by omega
     have HD:Hid ((l.take (m+1)).Nodup):=(Aab hlt).2 ⟨HN.out,fun h=>by
      obtain⟨j,h1,h2⟩:=Aeu.1 h;exact HE.out j _ h1 h2 rfl⟩
     go_wp2_with fail
     exact⟨⟨m+1,hlt,by go_num,HD.out,hB⟩,by simp[intOf];omega⟩
  ·obtain rfl:k=l.length:=by omega
   have HD:Hid (dup l=false):=by
    have:=HN.out;rw[List.take_length] at this;exact(by simp[dup,this]:dup l=false)
   go_wp2_with fail
   go_ret
   exact⟨by rw[HD.out];rfl,hB⟩
end Go.Proofs.YtaanpcjkflhomaaGreatDoor
namespace Go.Proofs.YtaanpcjkflhomaaGreatDoor
open Go.RowKit
theorem bn1 {x:Bool} (h:true= !x):x=false:=by cases x<;>simp_all
theorem bn2 {x:Bool} (h:false= !x):x=true:=by cases x<;>simp_all
theorem Tp {α:Type} {p:α→Bool} {xs:List α} {k:Nat} (hall:∀j x,j < k→xs[j]? =some x→p x=false) (h:xs.length≤k):xs.any p=false:=by
 rw[List.any_eq_false];intro x hx;obtain⟨j,hj⟩:=List.mem_iff_getElem?.1 hx;have:j < xs.length:=(List.getElem?_eq_some_iff.1 hj).1;rw[hall j x (by omega) hj];simp
theorem Nw {α:Type} {p:α→Bool} {xs:List α} {k:Nat} (h:k < xs.length) (hp:p xs[k]=true):xs.any p=true:=List.any_eq_true.2 ⟨_,zg h,hp⟩
theorem Gt (p:Ab) (a1 a2 a3:Option Addr) (c1 c2 c3 lo:Nat) (w:World) (hp:Az w lo w.heap.size a1 a2 a3 p) (hs:Ai p):
  Calls Tryz.prog 43 #[Bc p a1 a2 a3 c1 c2 c3] w fun e w'=>e= .returned (.int .i64 (Bf p))∧Below w.heap.size w w':=by
 have HP:=zh hp;clear hp
 have HS:=zh hs;clear hs
 have l1:=HS.out.aj;have l2:=HS.out.ag;have l3:=HS.out.binds;unfold Bc;go_enter Tryz.func43,Tryz.ntmps43
 have hw0:Below w.heap.size w (w.alloc (.cells (zP p a1 a2 a3 c1 c2 c3) 26)):=(zb _ _).alloc (zn _) _;have hc0:=Bk.new w 26 (zP p a1 a2 a3 c1 c2 c3);have hz0:(w.alloc (.cells (zP p a1 a2 a3 c1 c2 c3) 26)).heap.size=w.heap.size+1:=by simp
 by_cases hmany:4 < p.aj.length∨4 < p.ag.length∨10 < p.binds.length
 ·have hr:Bf p=2:=by unfold Bf;rw[zp hmany]
  have HR:=zh hr;clear hr
  clear hc0 hz0;have HW0:=zh hw0;clear hw0
  go_wp2_with fail
  all_goals go_ret
  all_goals exact⟨by rw[HR.out];rfl,HW0.out⟩
 have q1:p.aj.length≤4:=by omega
 have q2:p.ag.length≤4:=by omega
 have q3:p.binds.length≤10:=by omega
 have HMANY:=zh hmany;clear hmany
 go_wp2_with fail
 generalize w.alloc (.cells (zP p a1 a2 a3 c1 c2 c3) 26)=W0 at *;have hp0:Az W0 0 W0.heap.size a1 a2 a3 p:=(HP.out.below hw0 (zn _)).wider (Nat.zero_le _) (by omega);have hall0:∀W,Below W0.heap.size W0 W→Az W 0 W0.heap.size a1 a2 a3 p∧(W.cell? ⟨w.heap.size,0,none⟩=some (.slice a1 p.aj.length c1)∧W.cell? ⟨w.heap.size,1,none⟩=some (.slice a2 p.ag.length c2)∧W.cell? ⟨w.heap.size,2,none⟩=some (.slice a3 p.binds.length c3))∧Below w.heap.size w W:=fun W hW=>by
  have hbk:=hc0.below hW (by omega);refine⟨hp0.below hW (zn _),⟨?_,?_,?_⟩,hw0.trans (hW.mono (by omega))⟩
  ·have:=hbk.cell 0;simpa using this
  ·have:=hbk.cell 1;simpa using this
  ·have:=hbk.cell 2;simpa using this
 have H0:=zh hall0;clear hall0 hp0 hc0
 clear hw0
 go_loopw [3,5] (fun v i wr=>Ut (Ce p) W0.heap.size W0 v i wr) (fun _ i _=>p.aj.length - (intOf i).toNat)
 case atStart=>exact⟨0,by omega,rfl,World.ownsRow_nil _ _ _ _,zb _ _⟩
 case round=>
  obtain⟨k,hk,rfl,hown,hB⟩:=hrel;have hkl:(Ce p).length=p.aj.length:=by simp[Ce]
  rw[hkl] at hk;obtain⟨F1,⟨m0,m1,m2⟩,_⟩:=H0.out wr hB;by_cases hlt:k < p.aj.length
  ·obtain⟨b,o,ha,_,hb,hc⟩:=Bd Jz (by decide) F1.aj hlt
   have e0:wr.cell? ⟨b,o+k * 2,none⟩=some (.string p.aj[k].name):=hc 0 _ rfl;clear hc F1;have HO:=zh hown;clear hown
   have HB:=zh hB;have hbs:=hB.size;clear hB;subst ha;have hk4:k < 4294967296:=by omega
   have hbase:W0.heap.size≤wr.heap.size:=hbs;go_wp2_with (at_builtin;refine D6 rfl _ _ 43 rfl W0.heap.size 9 Jb Tryz.underlying43 rfl (by decide) (by decide) wr _ _ _ rfl HO.out _ rfl rfl rfl (by simp[Value.oneCell']) hk4 hbase ?_;intro v' w2 hown' hgrow)
   refine⟨⟨k+1,by simp[Ce];omega,by go_num,?_,Bl HO.out hgrow HB.out (zn _) hbase⟩,by simp[intOf];omega⟩;rw[List.take_add_one];simp only[Ce,List.getElem?_map,zG hlt];simpa [Ce] using hown'
  ·obtain rfl:k=p.aj.length:=by omega
   rw[List.take_of_length_le (by rw[hkl];exact zn _)] at hown;obtain⟨na,nc,rfl,hnc⟩:=Ad hown;have hz1:=hB.size;have H1:Hid (∀W,Below wr.heap.size wr W→(Az W 0 W0.heap.size a1 a2 a3 p∧(W.cell? ⟨w.heap.size,0,none⟩=some (.slice a1 p.aj.length c1)∧W.cell? ⟨w.heap.size,1,none⟩=some (.slice a2 p.ag.length c2)∧W.cell? ⟨w.heap.size,2,none⟩=some (.slice a3 p.binds.length c3))∧Below w.heap.size w W)∧Sl W 0 wr.heap.size na ((Ce p).map Value.string)):=
    fun W hW=>⟨H0.out W (hB.trans (hW.mono hz1)),((Sl.cu hown).wider (Nat.zero_le _) (zn _)).below hW (zn _)⟩
   clear hown hB F1 hkl;generalize hW1:wr=W1 at *;clear hW1;go_wp2_with fail
   go_loopw [4,6] (fun v i wr=>Ut (B7 p) W1.heap.size W1 v i wr) (fun _ i _=>p.ag.length - (intOf i).toNat)
   case atStart=>exact⟨0,by omega,rfl,World.ownsRow_nil _ _ _ _,zb _ _⟩
   case round=>
    obtain⟨k,hk,rfl,hown,hB⟩:=hrel;have hkl:(B7 p).length=p.ag.length:=by simp[B7]
    rw[hkl] at hk;obtain⟨⟨F1,⟨m0,m1,m2⟩,_⟩,_⟩:=H1.out wr hB;by_cases hlt:k < p.ag.length
    ·obtain⟨b,o,ha,_,hb,hc⟩:=Bd G3 (by decide) F1.ag hlt
     have e0:wr.cell? ⟨b,o+k * 3,none⟩=some (.string p.ag[k].name):=hc 0 _ rfl;clear hc F1;have HO:=zh hown;clear hown
     have HB:=zh hB;have hbs:=hB.size;clear hB;subst ha;have hk4:k < 4294967296:=by omega
     have hbase:W1.heap.size≤wr.heap.size:=hbs;go_wp2_with (at_builtin;refine D6 rfl _ _ 43 rfl W1.heap.size 9 Jb Tryz.underlying43 rfl (by decide) (by decide) wr _ _ _ rfl HO.out _ rfl rfl rfl (by simp[Value.oneCell']) hk4 hbase ?_;intro v' w2 hown' hgrow)
     refine⟨⟨k+1,by simp[B7];omega,by go_num,?_,Bl HO.out hgrow HB.out (zn _) hbase⟩,by simp[intOf];omega⟩;rw[List.take_add_one];simp only[B7,List.getElem?_map,zG hlt];simpa [B7] using hown'
    ·obtain rfl:k=p.ag.length:=by omega
     rw[List.take_of_length_le (by rw[hkl];exact zn _)] at hown;obtain⟨qa,qc,rfl,hqc⟩:=Ad hown;have hz2:=hB.size;have H2:Hid (∀W,Below wr.heap.size wr W→(Az W 0 W0.heap.size a1 a2 a3 p∧(W.cell? ⟨w.heap.size,0,none⟩=some (.slice a1 p.aj.length c1)∧W.cell? ⟨w.heap.size,1,none⟩=some (.slice a2 p.ag.length c2)∧W.cell? ⟨w.heap.size,2,none⟩=some (.slice a3 p.binds.length c3))∧Below w.heap.size w W)∧Sl W 0 W1.heap.size na ((Ce p).map Value.string)∧Sl W 0 wr.heap.size qa ((B7 p).map Value.string)):=
      fun W hW=>⟨(H1.out W (hB.trans (hW.mono hz2))).1,(H1.out W (hB.trans (hW.mono hz2))).2,((Sl.cu hown).wider (Nat.zero_le _) (zn _)).below hW (zn _)⟩
     clear hown hB F1 hkl;generalize hW2:wr=W2 at *;clear hW2;have hlp:p.aj.length=(Ce p).length:=by simp[Ce]
     have hlq:p.ag.length=(B7 p).length:=by simp[B7]
     have HLP:=zh (zi hlp hlq);have hal:Below W2.heap.size W2 (W2.alloc (.cells #[] 9)):=(zb _ _).alloc (zn _) _;have hownE:(W2.alloc (.cells #[] 9)).ownsRow W2.heap.size 9 1 (.slice (some ⟨W2.heap.size,0,none⟩) 0 0) 0 []:=World.ownsRow_lit W2 #[] 0 (zn _) (by decide) rfl;have HX:=zh (H2.out _ hal).2.1;have HE:=zh hownE;have HAL:=zh hal;clear hlp hlq hownE hal;have hs1:0+p.aj.length≤4294967296:=by omega
     have hs2:0+p.aj.length+p.ag.length≤4294967296:=by omega
     have hbs:W2.heap.size≤(W2.alloc (.cells #[] 9)).heap.size:=by simp
     have hn1:((Ce p).map Value.string).length=p.aj.length * 1:=by simp[Ce]
     have hn2:((B7 p).map Value.string).length=p.ag.length * 1:=by simp[B7]
     go_wp2_with (first
      |(at_builtin;refine Yo rfl _ _ 43 rfl W2.heap.size 9 Jb Tryz.underlying43 rfl (by decide) (by decide) _ _ _ rfl HE.out _ _ _ rfl 0 _ ((Ce p).map Value.string) hn1 HX.out (by simp[Value.oneCell']) hs1 hbs ?_;intro v' w2 hown' hgrow;have HB3:=zh (Bl HE.out hgrow HAL.out (zn _) hbs);have hown3:=zh hown';have hbs3:=HB3.out.size;have HX3:=zh (H2.out w2 HB3.out).2.2;clear hown' hgrow)
      |(at_builtin;refine Yo rfl _ _ 43 rfl W2.heap.size 9 Jb Tryz.underlying43 rfl (by decide) (by decide) _ _ _ rfl hown3.out _ _ _ rfl 0 _ ((B7 p).map Value.string) hn2 HX3.out (by simp[Value.oneCell']) hs2 hbs3 ?_;intro v'' w3 hown' hgrow;have HB4:=zh (Bl hown3.out hgrow HB3.out (zn _) hbs3);have hown4:=zh hown';clear hown' hgrow))
     have hn5:0+p.aj.length+p.ag.length=(Ce p++B7 p).length:=by rw[ze,←HLP.out.1,←HLP.out.2,Nat.zero_add]
     have hown5:=hown4.out;rw[List.nil_append,←List.map_append,hn5] at hown5;have hcl:(Ce p++B7 p).length≤8:=by rw[←hn5];omega
     obtain⟨aa,ac,rfl,hac⟩:=Ad hown5;have hz3:=HB4.out.size;have H3:Hid (∀W,Below w3.heap.size w3 W→(Az W 0 W0.heap.size a1 a2 a3 p∧(W.cell? ⟨w.heap.size,0,none⟩=some (.slice a1 p.aj.length c1)∧W.cell? ⟨w.heap.size,1,none⟩=some (.slice a2 p.ag.length c2)∧W.cell? ⟨w.heap.size,2,none⟩=some (.slice a3 p.binds.length c3))∧Below w.heap.size w W)∧Sl W 0 W1.heap.size na ((Ce p).map Value.string)∧Sl W 0 W2.heap.size qa ((B7 p).map Value.string)∧Sl W 0 w3.heap.size aa ((Ce p++B7 p).map Value.string)):=
      fun W hW=>⟨(H2.out W (HB4.out.trans (hW.mono hz3))).1,(H2.out W (HB4.out.trans (hW.mono hz3))).2.1,(H2.out W (HB4.out.trans (hW.mono hz3))).2.2,((Sl.cu hown5).wider (Nat.zero_le _) (zn _)).below hW (zn _)⟩
     clear hown4 hown5 hown3 HX3 HE HAL HX HB3 HB4 hs1 hs2 hbs hbs3 hn1 hn2 hn5 H0 H1 H2;generalize hall:Ce p++B7 p=all at *;have HA:=zh hall;clear hall
     generalize hW3:w3=W3 at *;clear hW3;go_wp2_with fail
     go_loopw [8] (fun i wr=>Lx (fun s=> !Nm s) all W3.heap.size W3 i wr) (fun i _=>all.length - (intOf i).toNat)
     case atStart=>exact⟨0,by omega,rfl,zb _ _,fun j x hj=>absurd hj (by omega)⟩
     case round=>
      obtain⟨k,hk,rfl,hB,hall⟩:=hrel;have HN:=zh hall;clear hall
      have HB:=zh hB;by_cases hlt:k < all.length
      ·obtain⟨b,o,rfl,_,hb,hc⟩:=(H3.out wr hB).2.2.2.at_ (k:=k) (by simpa using hlt)
       have e0:wr.cell? ⟨b,o+k,none⟩=some (.string all[k]):=hc k _ (by simp[hlt]);clear hc hB;have hsz:all[k].size < 4294967281:=by
        have hm:all[k]∈Ce p++B7 p:=by rw[HA.out];exact zg hlt
        rcases List.mem_append.1 hm with h|h
        ·obtain⟨x,hx,he⟩:=List.mem_map.1 h
         have:=HS.out.post x hx;rw[←he];omega
        ·obtain⟨x,hx,he⟩:=List.mem_map.1 h
         have:=HS.out.queue x hx;rw[←he];omega
       have HSZ:=zh hsz;clear hsz
       cases hq:Nm all[k]
       ·have hr:Bf p=4:=by
         unfold Bf;rw[zq HMANY.out,HA.out,zp (Nw hlt (by rw[hq];rfl))]
        have HR:=zh hr;clear hr
        have HQ:=zh hq;clear hq
        go_wp2_with fail
        refine(Vp _ HSZ.out _).mono ?_;rw[HQ.out];rintro e w4 ⟨rfl,rfl⟩;go_wp2_with fail
        go_ret
        exact⟨by rw[HR.out];rfl,(H3.out _ HB.out).1.2.2⟩
       ·have HQ:=zh hq;clear hq
        go_wp2_with fail
        refine(Vp _ HSZ.out _).mono ?_;rw[HQ.out];rintro e w4 ⟨rfl,rfl⟩;go_wp2_with fail
        exact⟨Fj HN.out hlt (by rw[HQ.out];rfl) HB.out,by simp[intOf];omega⟩
      ·have HAN:Hid (¬ ((Ce p++B7 p).any (fun s=> !Nm s))=true):=by
        have:=Tp (p:=fun s=> !Nm s) HN.out (by omega);rw[HA.out,this];exact Bool.false_ne_true
       clear HN;have t1:=fun W (hW:Below W3.heap.size W3 W)=>Ads na nc (Ce p) 0 W ((H3.out W hW).2.1.wider (zn _) (zr (by omega) hW.size)) (by rw[←HLP.out.1];omega);have t2:=fun W (hW:Below W3.heap.size W3 W)=>Ads qa qc (B7 p) 0 W ((H3.out W hW).2.2.1.wider (zn _) (zr (by omega) hW.size)) (by rw[←HLP.out.2];omega);rw[←HLP.out.1] at t1;rw[←HLP.out.2] at t2;have T1:=zh t1;have T2:=zh t2;clear t1 t2 hB
       cases hd1:dup (Ce p)
       ·cases hd2:dup (B7 p)
        ·have hr0:Bf p=if p.aj.any Ng then 7
          else if p.ag.any (Jq p.aj.length) then 3
          else if p.binds.any (fun b=> !Uy p.aj.length p.ag.length b) then 3
          else Ht p.binds:=by
          unfold Bf;rw[zq HMANY.out,zq HAN.out,hd1,hd2];rfl
         have HR0:=zh hr0;have HD:=zh (zi hd1 hd2);clear hr0 hd1 hd2;go_wp2_with fail
         refine(T1.out _ HB.out).mono ?_;rw[HD.out.1];rintro e w4 ⟨rfl,hb4⟩;have HB4:=zh (HB.out.trans (hb4.mono HB.out.size));clear hb4 HB
         go_wp2_with fail
         refine(T2.out _ HB4.out).mono ?_;rw[HD.out.2];rintro e w5 ⟨rfl,hb5⟩;have HB5:=zh (HB4.out.trans (hb5.mono HB4.out.size));clear hb5 HB4 T1 T2
         go_wp2_with fail
         clear HAN HD
         go_loopw [9] (fun i wr=>Lx Ng p.aj W3.heap.size W3 i wr) (fun i _=>p.aj.length - (intOf i).toNat)
         case atStart=>exact⟨0,by omega,rfl,HB5.out,fun j x hj=>absurd hj (by omega)⟩
         case round=>
          obtain⟨k,hk,rfl,hB,hall⟩:=hrel;have HN:=zh hall;clear hall
          have HB:=zh hB;obtain⟨⟨F1,⟨m0,m1,m2⟩,_⟩,_⟩:=H3.out wr hB;by_cases hlt:k < p.aj.length
          ·obtain⟨b,o,ha,_,hb,hc⟩:=Bd Jz (by decide) F1.aj hlt
           have e1:wr.cell? ⟨b,o+k * 2+1,none⟩=some (.int .i64 p.aj[k].kind):=hc 1 _ rfl;have HKP:Hid (Ng p.aj[k]= !(decide (1≤p.aj[k].kind) && decide (p.aj[k].kind≤3))):=by
            refine(?_:Ng p.aj[k]=_);rw[Bool.eq_iff_iff];simp[Ng]<;>omega
           clear hc F1 hB;subst ha;go_wp2_with fail
           refine(B8 _ _ _ _).mono ?_;rintro e w4 ⟨rfl,rfl⟩
           cases hq:Ng p.aj[k]
           ·have hq':(decide (1≤p.aj[k].kind) && decide (p.aj[k].kind≤3))=true:=by
             have:=HKP.out;rw[hq] at this;exact bn2 this
            have HQ:=zh hq;clear hq
            go_wp2_with fail
            exact⟨Fj HN.out hlt HQ.out HB.out,by simp[intOf];omega⟩
           ·have hr:Bf p=7:=by rw[HR0.out,zp (Nw hlt hq)]
            have HR:=zh hr;clear hr
            have hq':(decide (1≤p.aj[k].kind) && decide (p.aj[k].kind≤3))=false:=by
             have:=HKP.out;rw[hq] at this;exact bn1 this
            clear hq;go_wp2_with fail
            go_ret
            exact⟨by rw[HR.out];rfl,(H3.out _ HB.out).1.2.2⟩
          ·have HK:Hid (¬ p.aj.any Ng=true):=by
            have:=Tp HN.out (by omega);rw[this];exact Bool.false_ne_true
           clear HN F1 hB;go_wp2_with fail
           clear m0 m1 m2
           go_loopw [10] (fun i wr=>Lx (Jq p.aj.length) p.ag W3.heap.size W3 i wr) (fun i _=>p.ag.length - (intOf i).toNat)
           case atStart=>exact⟨0,by omega,rfl,HB.out,fun j x hj=>absurd hj (by omega)⟩
           case round=>
            obtain⟨k,hk,rfl,hB,hall⟩:=hrel;have HN:=zh hall;clear hall
            have HB:=zh hB;obtain⟨⟨F1,⟨m0,m1,m2⟩,_⟩,_⟩:=H3.out wr hB;by_cases hlt:k < p.ag.length
            ·obtain⟨b,o,ha,_,hb,hc⟩:=Bd G3 (by decide) F1.ag hlt
             have e1:wr.cell? ⟨b,o+k * 3+1,none⟩=some (.int .i64 p.ag[k].bm):=hc 1 _ rfl;have e2:wr.cell? ⟨b,o+k * 3+2,none⟩=some (.int .i64 p.ag[k].dead):=hc 2 _ rfl;have HKP:Hid (Jq p.aj.length p.ag[k]=(!(decide (1≤p.ag[k].bm) && decide (p.ag[k].bm≤6)) || !(decide (-1≤p.ag[k].dead) && decide (p.ag[k].dead≤(p.aj.length:Int) - 1)))):=by
              refine(?_:Jq _ p.ag[k]=_);rw[Bool.eq_iff_iff];simp[Jq]<;>omega
             clear hc F1 hB;subst ha;generalize hx1:p.ag[k].bm=lim at *;generalize hx2:p.ag[k].dead=dd at *;clear hx1 hx2;go_wp2_with fail
             refine(B8 _ _ _ _).mono ?_;rintro e w4 ⟨rfl,rfl⟩
             cases hq1:(decide (1≤lim) && decide (lim≤6))
             ·have hr:Bf p=3:=by rw[HR0.out,zq HK.out,zp (Nw hlt (by rw[HKP.out,hq1];rfl))]
              have HR:=zh hr;clear hr
              go_wp2_with fail
              go_ret
              exact⟨by rw[HR.out];rfl,(H3.out _ HB.out).1.2.2⟩
             ·go_wp2_with fail
              refine(B8 _ _ _ _).mono ?_;rintro e w4 ⟨rfl,rfl⟩
              cases hq2:(decide (-1≤dd) && decide (dd≤(p.aj.length:Int) - 1))
              ·have hr:Bf p=3:=by rw[HR0.out,zq HK.out,zp (Nw hlt (by rw[HKP.out,hq1,hq2];rfl))]
               have HR:=zh hr;clear hr
               go_wp2_with fail
               go_ret
               exact⟨by rw[HR.out];rfl,(H3.out _ HB.out).1.2.2⟩
              ·have HQ:Hid (Jq p.aj.length p.ag[k]=false):=by
                refine(?_:Jq _ p.ag[k]=_);rw[HKP.out,hq1,hq2];rfl
               go_wp2_with fail
               exact⟨Fj HN.out hlt HQ.out HB.out,by simp[intOf];omega⟩
            ·have HQU:Hid (¬ p.ag.any (Jq p.aj.length)=true):=by
              have:=Tp HN.out (by omega);rw[this];exact Bool.false_ne_true
             clear HN F1 hB;go_wp2_with fail
             clear m0 m1 m2
             go_loopw [11] (fun i wr=>Lx (fun b=> !Uy p.aj.length p.ag.length b) p.binds W3.heap.size W3 i wr) (fun i _=>p.binds.length - (intOf i).toNat)
             case atStart=>exact⟨0,by omega,rfl,HB.out,fun j x hj=>absurd hj (by omega)⟩
             case round=>
              obtain⟨k,hk,rfl,hB,hall⟩:=hrel;have HN:=zh hall;clear hall
              have HB:=zh hB;obtain⟨⟨F1,⟨m0,m1,m2⟩,_⟩,_⟩:=H3.out wr hB;by_cases hlt:k < p.binds.length
              ·obtain⟨b,o,ha,_,hb,hc⟩:=Bd (size:=4) Ho (by decide) F1.binds hlt
               have e0:wr.cell? ⟨b,o+k * 4,none⟩=some (.int .i64 p.binds[k].src):=hc 0 _ rfl;have e1:wr.cell? ⟨b,o+k * 4+1,none⟩=some (.bool p.binds[k].cd):=hc 1 _ rfl;have e2:wr.cell? ⟨b,o+k * 4+2,none⟩=some (.int .i64 p.binds[k].to):=hc 2 _ rfl;have e3:wr.cell? ⟨b,o+k * 4+3,none⟩=some (.string p.binds[k].pattern):=hc 3 _ rfl;have HKP:Hid (Uy p.aj.length p.ag.length p.binds[k]=((decide (0≤p.binds[k].src) && decide (p.binds[k].src≤(p.aj.length:Int) - 1)) && (decide (0≤p.binds[k].to) && decide (p.binds[k].to≤(if p.binds[k].cd then (p.aj.length:Int) else (p.ag.length:Int)) - 1)))):=by
                refine(?_:Uy _ _ p.binds[k]=_);rw[Bool.eq_iff_iff];simp[Uy]<;>omega
               clear hc F1 hB;subst ha;have hbw:Below wr.heap.size wr (wr.alloc (.cells #[.int .i64 p.binds[k].src,.bool p.binds[k].cd,.int .i64 p.binds[k].to,.string p.binds[k].pattern] 127)):=(zb _ _).alloc (zn _) _;have HB4:=zh (HB.out.trans (hbw.mono HB.out.size));clear hbw
               cases htp:p.binds[k].cd
               all_goals rw[htp] at HKP HB4 e1
               all_goals have HKP2:=HKP.out
               all_goals simp only[Bool.false_eq_true,if_false,if_true] at HKP2
               all_goals clear HKP
               all_goals have HKP:=zh HKP2
               all_goals clear HKP2
               all_goals generalize p.binds[k].src=src at *
               all_goals generalize p.binds[k].to=dst at *
               all_goals generalize p.binds[k].pattern=pat at *
               all_goals go_wp2_with fail
               ·refine(B8 _ _ _ _).mono ?_
                rintro e w4 ⟨rfl,rfl⟩
                cases hq1:(decide (0≤src) && decide (src≤(p.aj.length:Int) - 1))
                ·have hr:Bf p=3:=by rw[HR0.out,zq HK.out,zq HQU.out,zp (Nw hlt (by rw[HKP.out,hq1];rfl))]
                 have HR:=zh hr;clear hr
                 go_wp2_with fail
                 go_ret
                 exact⟨by rw[HR.out];rfl,(H3.out _ HB4.out).1.2.2⟩
                ·go_wp2_with fail
                 refine(B8 _ _ _ _).mono ?_;rintro e w4 ⟨rfl,rfl⟩
                 cases hq2:(decide (0≤dst) && decide (dst≤(p.ag.length:Int) - 1))
                 ·have hr:Bf p=3:=by rw[HR0.out,zq HK.out,zq HQU.out,zp (Nw hlt (by rw[HKP.out,hq1,hq2];rfl))]
                  have HR:=zh hr;clear hr
                  go_wp2_with fail
                  go_ret
                  exact⟨by rw[HR.out];rfl,(H3.out _ HB4.out).1.2.2⟩
                 ·have HQ:Hid ((!Uy p.aj.length p.ag.length p.binds[k])=false):=by
                   refine(?_:(!Uy _ _ p.binds[k])=_);rw[HKP.out,hq1,hq2];rfl
                  go_wp2_with fail
                  exact⟨Fj HN.out hlt HQ.out HB4.out,by simp[intOf];omega⟩
               ·refine(B8 _ _ _ _).mono ?_
                rintro e w4 ⟨rfl,rfl⟩
                cases hq1:(decide (0≤src) && decide (src≤(p.aj.length:Int) - 1))
                ·have hr:Bf p=3:=by rw[HR0.out,zq HK.out,zq HQU.out,zp (Nw hlt (by rw[HKP.out,hq1];rfl))]
                 have HR:=zh hr;clear hr
                 go_wp2_with fail
                 go_ret
                 exact⟨by rw[HR.out];rfl,(H3.out _ HB4.out).1.2.2⟩
                ·go_wp2_with fail
                 refine(B8 _ _ _ _).mono ?_;rintro e w4 ⟨rfl,rfl⟩
                 cases hq2:(decide (0≤dst) && decide (dst≤(p.aj.length:Int) - 1))
                 ·have hr:Bf p=3:=by rw[HR0.out,zq HK.out,zq HQU.out,zp (Nw hlt (by rw[HKP.out,hq1,hq2];rfl))]
                  have HR:=zh hr;clear hr
                  go_wp2_with fail
                  go_ret
                  exact⟨by rw[HR.out];rfl,(H3.out _ HB4.out).1.2.2⟩
                 ·have HQ:Hid ((!Uy p.aj.length p.ag.length p.binds[k])=false):=by
                   refine(?_:(!Uy _ _ p.binds[k])=_);rw[HKP.out,hq1,hq2];rfl
                  go_wp2_with fail
                  exact⟨Fj HN.out hlt HQ.out HB4.out,by simp[intOf];omega⟩
              ·have HBI:Hid (¬ p.binds.any (fun b=> !Uy p.aj.length p.ag.length b)=true):=by
                have:=Tp (p:=fun b=> !Uy p.aj.length p.ag.length b) HN.out (by omega);rw[this];exact Bool.false_ne_true
               have hr1:Bf p=Ht p.binds:=by rw[HR0.out,zq HK.out,zq HQU.out,zq HBI.out]
               have HR1:=zh hr1;clear hr1
               clear HN F1 hB;go_wp2_with fail
               clear m0 m1 m2
               go_loopw [14] (fun i wr=>Ap1 p.binds W3.heap.size W3 i wr) (fun i _=>p.binds.length - (intOf i).toNat)
               case atStart=>exact⟨0,by omega,rfl,rfl,HB.out⟩
               case round=>
                obtain⟨k,hk,rfl,hpe,hB⟩:=hrel;have HB:=zh hB;have HPE:=zh hpe;clear hpe
                obtain⟨⟨F1,⟨m0,m1,m2⟩,_⟩,_⟩:=H3.out wr hB;by_cases hlt:k < p.binds.length
                ·obtain⟨b,o,ha,_,hb,hc⟩:=Bd (size:=4) Ho (by decide) F1.binds hlt
                 have e3:wr.cell? ⟨b,o+k * 4+3,none⟩=some (.string p.binds[k].pattern):=hc 3 _ rfl;have hpd:=Xr hlt;have hps:=HS.out.bind _ (zg hlt);have HPD:=zh hpd;have HPS:=zh hps;clear hc hpd hps hB F1;subst ha;generalize p.binds[k].pattern=pat at *;go_wp2_with fail
                 refine(Lf _ _ (zr HPS.out (by decide))).mono ?_;rintro e w4 ⟨rfl,hb4⟩;have HB4:=zh (HB.out.trans (hb4.mono HB.out.size));clear hb4
                 generalize Be E3 pat=se at *;by_cases hse:se=0
                 ·subst hse
                  have HN:Hid (Ht (p.binds.drop (k+1))=Ht p.binds):=by
                   have:=HPD.out;rw[zp rfl,HPE.out] at this;exact this.symm
                  go_wp2_with fail
                  exact⟨⟨k+1,hlt,by go_num,HN.out,HB4.out⟩,by simp[intOf];omega⟩
                 ·have HN:Hid (Bf p=se):=by
                   have:=HPD.out;rw[zq hse,HPE.out] at this;exact HR1.out.trans this
                  have hse':(se != 0)=true:=by simp[hse]
                  go_wp2_with fail
                  all_goals go_ret
                  all_goals exact⟨by rw[HN.out];rfl,(H3.out _ HB4.out).1.2.2⟩
                ·obtain rfl:k=p.binds.length:=by omega
                 have HN:Hid (Bf p=0):=by
                  have:=HPE.out;rw[List.drop_length] at this;exact HR1.out.trans this.symm
                 go_wp2_with fail
                 go_ret
                 exact⟨by rw[HN.out];rfl,(H3.out _ HB.out).1.2.2⟩
        ·have hr:Bf p=6:=by
          unfold Bf;rw[zq HMANY.out,zq HAN.out,hd1,hd2];rfl
         have HR:=zh hr;have HD:=zh (zi hd1 hd2);clear hr hd1 hd2;go_wp2_with fail
         refine(T1.out _ HB.out).mono ?_;rw[HD.out.1];rintro e w4 ⟨rfl,hb4⟩;have HB4:=zh (HB.out.trans (hb4.mono HB.out.size));clear hb4 HB
         go_wp2_with fail
         refine(T2.out _ HB4.out).mono ?_;rw[HD.out.2];rintro e w5 ⟨rfl,hb5⟩;have HB5:=zh (HB4.out.trans (hb5.mono HB4.out.size));clear hb5 HB4 T1 T2
         go_wp2_with fail
         go_ret
         exact⟨by rw[HR.out];rfl,(H3.out _ HB5.out).1.2.2⟩
       ·have hr:Bf p=6:=by
         unfold Bf;rw[zq HMANY.out,zq HAN.out,hd1];rfl
        have HR:=zh hr;have HD:=zh hd1;clear hr hd1;go_wp2_with fail
        refine(T1.out _ HB.out).mono ?_;rw[HD.out];rintro e w4 ⟨rfl,hb4⟩;have HB4:=zh (HB.out.trans (hb4.mono HB.out.size));clear hb4 HB T1 T2
        go_wp2_with fail
        go_ret
        exact⟨by rw[HR.out];rfl,(H3.out _ HB4.out).1.2.2⟩
open Go.RowKit
structure Bz (p:Ab):Prop where
 aj:p.aj.length≤4
 ag:p.ag.length≤4
 binds:p.binds.length≤10
 names:∀s∈Ce p++B7 p,Nm s=true
 nodupPosts:(Ce p).Nodup
 nodupQueues:(B7 p).Nodup
 kind:∀x∈p.aj,1≤x.kind∧x.kind≤3
 queue:∀x∈p.ag,1≤x.bm∧x.bm≤6∧ -1≤x.dead∧x.dead < (p.aj.length:Int)
 bind:∀b∈p.binds,0≤b.src∧b.src < (p.aj.length:Int)∧0≤b.to∧b.to < (if b.cd then (p.aj.length:Int) else (p.ag.length:Int))
 pat:∀b∈p.binds,Be E3 b.pattern=0
theorem Ac5:∀ {bs:List B4},Ht bs=0→∀b∈bs,Be E3 b.pattern=0
 | [],_,b,hb=>by cases hb
 |x::r,h,b,hb=>by
  unfold Ht at h;by_cases hx:Be E3 x.pattern=0
  ·rw[zp hx] at h
   rcases List.mem_cons.1 hb with rfl|hb
   ·exact hx
   ·exact Ac5 h b hb
  ·rw[zq hx] at h
   exact absurd h hx
theorem Ct {p:Ab} (h:Bf p=0):Bz p:=by
 unfold Bf at h
 split at h
 ·cases h
 rename_i h1
 split at h
 ·cases h
 rename_i h2
 split at h
 ·cases h
 rename_i h3
 split at h
 ·cases h
 rename_i h4
 split at h
 ·cases h
 rename_i h5
 split at h
 ·cases h
 rename_i h6
 simp only[Bool.or_eq_true,not_or,Bool.not_eq_true,dup,Bool.not_eq_false',zd] at h3;simp only[Bool.not_eq_true,List.any_eq_false] at h2 h4 h5 h6;refine⟨by omega,by omega,by omega,fun s hs=> ?_,h3.1,h3.2,fun x hx=> ?_,fun x hx=> ?_,fun b hb=> ?_,Ac5 h⟩
 ·have:=h2 s hs;simpa using this
 ·have:=h4 x hx;simp[Ng] at this;omega
 ·have:=h5 x hx;simp[Jq] at this;omega
 ·have h':Uy p.aj.length p.ag.length b=true:=by
   have:=h6 b hb
   cases hq:Uy p.aj.length p.ag.length b
   ·rw[hq] at this;cases this
   ·rfl
  have this:=h';simp only[Uy,zc,zd] at this;exact⟨this.1.1.1,this.1.1.2,this.1.2,this.2⟩
theorem Q6 {p:List UInt8→Bool} {s:ByteArray} (h:Be p s=0):s.size≤24:=by
 unfold Be at h
 split at h
 ·cases h
 ·omega
theorem Akw {p:Ab} {a1 a2 a3:Option Addr} {lo:Nat} {w:World} (hp:Az w lo w.heap.size a1 a2 a3 p) (o:Obj):Az (w.alloc o) 0 (w.alloc o).heap.size a1 a2 a3 p:=
 (hp.below ((zb _ w).alloc (zn _) o) (zn _)).wider (Nat.zero_le _) (by simp)
def Boxed (w W0:World) (p:Ab) (a1 a2 a3:Option Addr) (c1 c2 c3:Nat):Prop:=
 ∀W,Below W0.heap.size W0 W→Az W 0 W0.heap.size a1 a2 a3 p∧(W.cell? ⟨w.heap.size,0,none⟩=some (.slice a1 p.aj.length c1)∧W.cell? ⟨w.heap.size,1,none⟩=some (.slice a2 p.ag.length c2)∧W.cell? ⟨w.heap.size,2,none⟩=some (.slice a3 p.binds.length c3))∧Below w.heap.size w W
theorem G6 {p:Ab} {a1 a2 a3:Option Addr} {lo:Nat} {w:World} (hp:Az w lo w.heap.size a1 a2 a3 p) (c1 c2 c3:Nat) (t:TypeId):
  Boxed w (w.alloc (.cells (zP p a1 a2 a3 c1 c2 c3) t)) p a1 a2 a3 c1 c2 c3:=fun W hW=>by
 have hbk:=(Bk.new w t (zP p a1 a2 a3 c1 c2 c3)).below hW (by simp);refine⟨(Akw hp _).below hW (zn _),⟨?_,?_,?_⟩,((zb _ w).alloc (zn _) _).trans (hW.mono (by simp))⟩
 ·have:=hbk.cell 0;simpa using this
 ·have:=hbk.cell 1;simpa using this
 ·have:=hbk.cell 2;simpa using this
open Go.RowKit
theorem Sl.of_bk {w:World} {g lo hi:Nat} {t:TypeId} {cs:Array Value} (h:Bk w g t cs) (h1:lo≤g) (h2:g < hi) {us:List Value} (hu:us=cs.toList):Sl w lo hi (some ⟨g,0,none⟩) us:=
 .inr ⟨g,0,rfl,h1,h2,fun j u hj=>by
  rw[Nat.zero_add,h.cell];rw[hu,Array.getElem?_toList] at hj;exact hj⟩
def Ae:Ab where
 aj:=[⟨⟨#[109,97,105,110]⟩,3⟩,⟨⟨#[97,108,108]⟩,2⟩,⟨⟨#[100,101,97,100]⟩,1⟩]
 ag:=[⟨⟨#[97]⟩,2,2⟩,⟨⟨#[98]⟩,3,-1⟩,⟨⟨#[100]⟩,2,-1⟩]
 binds:=[⟨0,false,0,⟨#[120,46,35]⟩⟩,⟨0,true,1,⟨#[42,46,121]⟩⟩,⟨1,false,1,⟨#[35]⟩⟩,⟨1,true,0,⟨#[35]⟩⟩,⟨2,false,2,⟨#[120,46,121]⟩⟩]
def Ur:Array Value:=(Ae.aj.flatMap Jt).toArray
def S2:Array Value:=(Ae.ag.flatMap Hc).toArray
def Xp:Array Value:=(Ae.binds.flatMap D4).toArray
structure Mq (w:World) (b1 b2 b3:Nat):Prop where
 aj:Bk w b1 123 Ur
 ag:Bk w b2 104 S2
 binds:Bk w b3 127 Xp
def E8 (b1 b2 b3:Nat):Value:=Bc Ae (some ⟨b1,0,none⟩) (some ⟨b2,0,none⟩) (some ⟨b3,0,none⟩) 3 3 5
theorem Qi (w:World):Calls Tryz.prog 57 #[] w fun e w'=>e= .returned (E8 (w.heap.size+1) (w.heap.size+2) (w.heap.size+3))∧Mq w' (w.heap.size+1) (w.heap.size+2) (w.heap.size+3)∧w'.heap.size=w.heap.size+4∧Below w.heap.size w w':=by
 go_enter Tryz.func57,Tryz.ntmps57
 go_wp2_with fail
 refine bodyPost_ret (v:=E8 (w.heap.size+1) (w.heap.size+2) (w.heap.size+3)) (by simp[results,Tryz.results57,go_sem,E8,Bc,Ae]) rfl ⟨rfl,⟨?_,?_,?_⟩,by simp,?_⟩
 ·exact((Bk.cg _ _ _ (by simp)).alloc _).alloc _
 ·exact(Bk.cg _ _ _ (by simp)).alloc _
 ·exact Bk.cg _ _ _ (by simp)
 ·exact((((zb _ w).alloc (zn _) _).alloc (by simp) _).alloc (by simp;omega) _).alloc (by simp;omega) _
theorem Mq.bz {w:World} {b1 b2 b3 lo hi:Nat} (h:Mq w b1 b2 b3) (h1:lo≤b1∧b1 < hi) (h2:lo≤b2∧b2 < hi) (h3:lo≤b3∧b3 < hi):Az w lo hi (some ⟨b1,0,none⟩) (some ⟨b2,0,none⟩) (some ⟨b3,0,none⟩) Ae:=
 ⟨Sl.of_bk h.aj h1.1 h1.2 rfl,Sl.of_bk h.ag h2.1 h2.2 rfl,Sl.of_bk h.binds h3.1 h3.2 rfl⟩
theorem Mq.below {w w':World} {b1 b2 b3 B:Nat} (h:Mq w b1 b2 b3) (hb:Below B w w') (h1:b1 < B) (h2:b2 < B) (h3:b3 < B):Mq w' b1 b2 b3:=
 ⟨h.aj.below hb h1,h.ag.below hb h2,h.binds.below hb h3⟩
theorem Adn {p:Ab} (h1:p.aj.length≤1048576) (h2:p.ag.length≤1048576) (h3:p.binds.length≤1048576) (h4:(p.aj.all fun x=>decide (x.name.size≤1048576))=true) (h5:(p.ag.all fun x=>decide (x.name.size≤1048576))=true)
  (h6:(p.binds.all fun x=>decide (x.pattern.size≤1048576))=true):Ai p:=
 ⟨h1,h2,h3,fun x hx=>of_decide_eq_true (List.all_eq_true.1 h4 x hx),fun x hx=>of_decide_eq_true (List.all_eq_true.1 h5 x hx),fun x hx=>of_decide_eq_true (List.all_eq_true.1 h6 x hx)⟩
theorem C9:Ai Ae:=Adn (by decide) (by decide) (by decide) (by decide) (by decide) (by decide)
/-! For running the plain functions: over lists of bytes. -/
def Av7 (l:List UInt8):Bool:=decide (0 < l.length) && decide (l.length≤8) && !(l.any fun c=>far (c.toNat:Int))
theorem Z9 (s:ByteArray):Nm s=Av7 s.data.toList:=by
 unfold Nm Av7;rw[ByteArray.toList_eq,Array.length_toList];rfl
def Yv:List B4→Int
 | []=>0
 |b::r=>if Jy E3 b.pattern.data.toList=0 then Yv r else Jy E3 b.pattern.data.toList
theorem Xs:∀bs:List B4,Ht bs=Yv bs
 | []=>rfl
 |b::r=>by rw[Ht,Yv,Gk,ByteArray.toList_eq,Xs r]
def Aq7:List (List UInt8)→Bool
 | []=>false
 |x::r=>r.contains x || Aq7 r
theorem Agw:∀l:List ByteArray,dup l=Aq7 (l.map fun s=>s.data.toList)
 | []=>rfl
 |x::r=>by
  have ih:=Agw r;unfold dup at ih⊢;simp only[List.map_cons,Aq7,←ih];rw[Bool.eq_iff_iff];simp only[Bool.not_eq_true',decide_eq_false_iff_not,List.nodup_cons,Bool.or_eq_true,List.contains_eq_mem,zd,List.mem_map]
  constructor
  ·intro h
   by_cases hx:x∈r
   ·exact .inl ⟨x,hx,rfl⟩
   ·exact .inr fun hn=>h ⟨hx,hn⟩
  ·rintro(⟨y,hy,e⟩|h) ⟨h1,h2⟩
   ·have:y=x:=toList_inj (by rw[ByteArray.toList_eq,ByteArray.toList_eq];exact e)
    exact h1 (this▸hy)
   ·exact h h2
def Aq2 (p:Ab):Int:=
 if 4 < p.aj.length∨4 < p.ag.length∨10 < p.binds.length then 2
 else if (Ce p++B7 p).any (fun s=> !Av7 s.data.toList) then 4
 else if Aq7 ((Ce p).map fun s=>s.data.toList) || Aq7 ((B7 p).map fun s=>s.data.toList) then 6
 else if p.aj.any Ng then 7
 else if p.ag.any (Jq p.aj.length) then 3
 else if p.binds.any (fun b=> !Uy p.aj.length p.ag.length b) then 3
 else Yv p.binds
theorem Xc (p:Ab):Bf p=Aq2 p:=by
 unfold Bf Aq2;simp only[Z9,Agw,Xs]
theorem Ab6 (p k:ByteArray):Aa9 p k=Ec (Gy p.data.toList) (Gy k.data.toList):=by
 unfold Aa9;rw[←ByteArray.toList_eq,←ByteArray.toList_eq,←I8,←I8]
theorem D7:Bf Ae=0:=by rw[Xc];decide
structure Eu (w:World) (b1 b2 b3:Nat):Prop where
 at_:Mq w b1 b2 b3
 lt:b1 < w.heap.size∧b2 < w.heap.size∧b3 < w.heap.size
theorem Eu.bz {w:World} {b1 b2 b3:Nat} (h:Eu w b1 b2 b3):Az w 0 w.heap.size (some ⟨b1,0,none⟩) (some ⟨b2,0,none⟩) (some ⟨b3,0,none⟩) Ae:=
 h.at_.bz ⟨Nat.zero_le _,h.lt.1⟩ ⟨Nat.zero_le _,h.lt.2.1⟩ ⟨Nat.zero_le _,h.lt.2.2⟩
theorem Eu.below {w w':World} {b1 b2 b3:Nat} (h:Eu w b1 b2 b3) (hb:Below w.heap.size w w'):Eu w' b1 b2 b3:=
 ⟨h.at_.below hb h.lt.1 h.lt.2.1 h.lt.2.2,by have:=hb.size;have:=h.lt;omega⟩
theorem Dh (w:World):Calls Tryz.prog 57 #[] w fun e w'=>∃b1 b2 b3,e= .returned (E8 b1 b2 b3)∧Eu w' b1 b2 b3∧Below w.heap.size w w':=by
 refine(Qi w).mono ?_;rintro e w' ⟨rfl,h,hz,hb⟩;exact⟨_,_,_,rfl,⟨h,by omega,by omega,by omega⟩,hb⟩
end Go.Proofs.YtaanpcjkflhomaaGreatDoor
