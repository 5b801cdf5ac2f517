/- Lemmas. -/
import Derived.Test.YtpkneogjdfolaaaGreatDoorBunC
set_option maxHeartbeats 20000000
set_option maxRecDepth 100000
set_option linter.unusedSimpArgs false
set_option linter.unusedVariables false
namespace Go.Proofs.YtpkneogjdfolaaaGreatDoor
open Go.RowKit
def Ar0(l:List zN)(B:Nat)(w:zW)(i:Value)(wr:zW):Prop:=
 ∃k:Nat,k≤l.length∧i= .int .i64 k∧(l.take k).Nodup∧Below B w wr
def Aos(l:List zN)(x:zN)(B:Nat)(w:zW)(n:Nat)(i:Value)(wr:zW):Prop:=
 ∃k:Nat,k≤n∧i= .int .i64 k∧(∀j y,j < k→l[j]? =some y→y≠x)∧Below B w wr
theorem Afq(a:zZ)(c:Nat)(l:List zN)(lo:Nat)(w:zW)(hx:Sl w lo w.heap.size a (l.map Value.string))(hl:l.length≤1048576):
  Calls Tryz.prog 54 #[.slice a l.length c] w fun e w'=>e= .returned (.bool (dup l))∧Below w.heap.size w w':=by
 have HX:=zh hx;clear hx
 go_enter Tryz.func54,Tryz.ntmps54
 go_wp2_with fail
 go_loopw [3] (fun i wr=>Ar0 l w.heap.size w i wr) (fun i _=>l.length - (intOf i).toNat)
 case atStart=>exact⟨0,by omega,rfl,by simp,zb _ _⟩
 case round=>
  obtain⟨k,hk,rfl,hnd,hB⟩:=hrel;have HN:=zh hnd;clear hnd
  by_cases hlt:k < l.length
  ·obtain⟨b,o,rfl,_,hb,hc⟩:=HX.out.at_ (k:=k) (by simpa using hlt)
   have hcell:∀W,Below w.heap.size w W→∀j (h:j < l.length),W.cell? ⟨b,o+j,none⟩=some (.string l[j]):=fun W hW j h=>(hW.cell (p:=⟨b,_,none⟩) hb).trans (hc j _ (by simp[h]));have HC:=zh hcell;clear hcell hc
   go_wp2_with fail
   go_loopw [4] (fun i wr=>Aos l l[k] w.heap.size w k i wr) (fun i _=>k - (intOf i).toNat)
   case atStart=>exact⟨0,by omega,rfl,fun j y hj=>absurd hj (by omega),hB⟩
   case round=>
    obtain⟨m,hm,rfl,hne,hB⟩:=hrel;have HE:=zh hne;clear hne
    by_cases hmk:m < k
    ·have hml:m < l.length:=by omega
     have e0:=HC.out _ hB k hlt;have e1:=HC.out _ hB m hml
     go_wp2
     go_quiet (fail)
     all_goals go_wp2
     ·have hq:l[k]=l[m]:=toList_inj (by simp_all)
      have HD:dup l=true:=by
       have:¬ l.Nodup:=fun h=>(List.pairwise_iff_getElem.1 h) m k hml hlt hmk hq.symm;simp[dup,this]
      go_ret
      exact⟨by rw[HD];rfl,below_draws hB _⟩
     ·have hq:¬ l[k]=l[m]:=fun e=>by simp_all
      exact⟨⟨m+1,by omega,by go_num,fun j y hj hy=>by
       rcases Nat.lt_or_ge j m with h1|h1
       ·exact HE.out j y h1 hy
       ·obtain rfl:j=m:=by omega
        rw[zG hml] at hy
        cases hy
        exact fun e=>hq e.symm,below_draws hB _⟩,by simp[intOf];omega⟩
    ·obtain rfl:m=k:=by omega
     have HD:Hid ((l.take (m+1)).Nodup):=(Ace hlt).2 ⟨HN.out,fun h=>by
      obtain⟨j,h1,h2⟩:=Ag0.1 h;exact HE.out j _ h1 h2 rfl⟩
     go_wp2_with fail
     exact⟨⟨m+1,hlt,by go_num,HD.out,hB⟩,by simp[intOf];omega⟩
  ·obtain rfl:k=l.length:=by omega
   have HD:Hid (dup l=false):=by
    have:=HN.out;rw[List.take_length] at this;exact(by simp[dup,this]:dup l=false)
   go_wp2_with fail
   go_ret
   exact⟨by rw[HD.out];rfl,hB⟩
end Go.Proofs.YtpkneogjdfolaaaGreatDoor
namespace Go.Proofs.YtpkneogjdfolaaaGreatDoor
open Go.RowKit
theorem bn1{x:Bool}(h:true= !x):x=false:=by cases x<;>simp_all
theorem bn2{x:Bool}(h:false= !x):x=true:=by cases x<;>simp_all
theorem Ut{α:Type}{p:α→Bool}{xs:List α}{k:Nat}(hall:∀j x,j < k→xs[j]? =some x→p x=false)(h:xs.length≤k):xs.any p=false:=by
 rw[List.any_eq_false];intro x hx;obtain⟨j,hj⟩:=List.mem_iff_getElem?.1 hx;have:j < xs.length:=(List.getElem?_eq_some_iff.1 hj).1;rw[hall j x (by omega) hj];simp
theorem Oe{α:Type}{p:α→Bool}{xs:List α}{k:Nat}(h:k < xs.length)(hp:p xs[k]=true):xs.any p=true:=List.any_eq_true.2 ⟨_,zg h,hp⟩
theorem G2(p:Ab)(a1 a2 a3:zZ)(c1 c2 c3 lo:Nat)(w:zW)(hp:Au w lo w.heap.size a1 a2 a3 p)(hs:Ai p):
  Calls Tryz.prog 16 #[Ay p a1 a2 a3 c1 c2 c3] w fun e w'=>e= .returned (.int .i64 (Bc p))∧Below w.heap.size w w':=by
 have HP:=zh hp;clear hp
 have HS:=zh hs;clear hs
 have l1:=HS.out.aj;have l2:=HS.out.ag;have l3:=HS.out.binds;unfold Ay;go_enter Tryz.func16,Tryz.ntmps16
 have hw0:Below w.heap.size w (w.alloc (.cells (zP p a1 a2 a3 c1 c2 c3) 26)):=(zb _ _).alloc (zn _) _;have hc0:=Bk.new w 26 (zP p a1 a2 a3 c1 c2 c3);have hz0:(w.alloc (.cells (zP p a1 a2 a3 c1 c2 c3) 26)).heap.size=w.heap.size+1:=by simp
 by_cases hmany:4 < p.aj.length∨4 < p.ag.length∨10 < p.binds.length
 ·have hr:Bc p=2:=by unfold Bc;rw[zp hmany]
  have HR:=zh hr;clear hr
  clear hc0 hz0;have HW0:=zh hw0;clear hw0
  go_wp2_with fail
  all_goals go_ret
  all_goals exact⟨by rw[HR.out];rfl,HW0.out⟩
 have q1:p.aj.length≤4:=by omega
 have q2:p.ag.length≤4:=by omega
 have q3:p.binds.length≤10:=by omega
 have HMANY:=zh hmany;clear hmany
 go_wp2_with fail
 generalize w.alloc (.cells (zP p a1 a2 a3 c1 c2 c3) 26)=W0 at *;have hp0:Au W0 0 W0.heap.size a1 a2 a3 p:=(HP.out.below hw0 (zn _)).wider (Nat.zero_le _) (by omega);have hall0:∀W,Below W0.heap.size W0 W→Au W 0 W0.heap.size a1 a2 a3 p∧(W.cell? ⟨w.heap.size,0,none⟩=some (.slice a1 p.aj.length c1)∧W.cell? ⟨w.heap.size,1,none⟩=some (.slice a2 p.ag.length c2)∧W.cell? ⟨w.heap.size,2,none⟩=some (.slice a3 p.binds.length c3))∧Below w.heap.size w W:=fun W hW=>by
  have hbk:=hc0.below hW (by omega);refine⟨hp0.below hW (zn _),⟨?_,?_,?_⟩,hw0.trans (hW.mono (by omega))⟩
  ·have:=hbk.cell 0;simpa using this
  ·have:=hbk.cell 1;simpa using this
  ·have:=hbk.cell 2;simpa using this
 have H0:=zh hall0;clear hall0 hp0 hc0
 clear hw0
 go_loopw [3,5] (fun v i wr=>V8 (Cm p) W0.heap.size W0 v i wr) (fun _ i _=>p.aj.length - (intOf i).toNat)
 case atStart=>exact⟨0,by omega,rfl,World.ownsRow_nil _ _ _ _,zb _ _⟩
 case round=>
  obtain⟨k,hk,rfl,hown,hB⟩:=hrel;have hkl:(Cm p).length=p.aj.length:=by simp[Cm]
  rw[hkl] at hk;obtain⟨F1,⟨m0,m1,m2⟩,_⟩:=H0.out wr hB;by_cases hlt:k < p.aj.length
  ·obtain⟨b,o,ha,_,hb,hc⟩:=Bf J9 (by decide) F1.aj hlt
   have e0:wr.cell? ⟨b,o+k * 2,none⟩=some (.string p.aj[k].name):=hc 0 _ rfl;clear hc F1;have HO:=zh hown;clear hown
   have HB:=zh hB;have hbs:=hB.size;clear hB;subst ha;have hk4:k < 4294967296:=by omega
   have hbase:W0.heap.size≤wr.heap.size:=hbs;go_wp2_with (at_builtin;refine Em rfl _ _ 64 rfl W0.heap.size 9 Jt Tryz.underlying64 rfl (by decide) (by decide) wr _ _ _ rfl HO.out _ rfl rfl rfl (by simp[Value.oneCell']) hk4 hbase ?_;intro v' w2 hown' hgrow)
   refine⟨⟨k+1,by simp[Cm];omega,by go_num,?_,Br HO.out hgrow HB.out (zn _) hbase⟩,by simp[intOf];omega⟩;rw[List.take_add_one];simp only[Cm,List.getElem?_map,zG hlt];simpa [Cm] using hown'
  ·obtain rfl:k=p.aj.length:=by omega
   rw[List.take_of_length_le (by rw[hkl];exact zn _)] at hown;obtain⟨na,nc,rfl,hnc⟩:=Ae hown;have hz1:=hB.size;have H1:Hid (∀W,Below wr.heap.size wr W→(Au W 0 W0.heap.size a1 a2 a3 p∧(W.cell? ⟨w.heap.size,0,none⟩=some (.slice a1 p.aj.length c1)∧W.cell? ⟨w.heap.size,1,none⟩=some (.slice a2 p.ag.length c2)∧W.cell? ⟨w.heap.size,2,none⟩=some (.slice a3 p.binds.length c3))∧Below w.heap.size w W)∧Sl W 0 wr.heap.size na ((Cm p).map Value.string)):=
    fun W hW=>⟨H0.out W (hB.trans (hW.mono hz1)),((Sl.cu hown).wider (Nat.zero_le _) (zn _)).below hW (zn _)⟩
   clear hown hB F1 hkl;generalize hW1:wr=W1 at *;clear hW1;go_wp2_with fail
   go_loopw [4,6] (fun v i wr=>V8 (Cd p) W1.heap.size W1 v i wr) (fun _ i _=>p.ag.length - (intOf i).toNat)
   case atStart=>exact⟨0,by omega,rfl,World.ownsRow_nil _ _ _ _,zb _ _⟩
   case round=>
    obtain⟨k,hk,rfl,hown,hB⟩:=hrel;have hkl:(Cd p).length=p.ag.length:=by simp[Cd]
    rw[hkl] at hk;obtain⟨⟨F1,⟨m0,m1,m2⟩,_⟩,_⟩:=H1.out wr hB;by_cases hlt:k < p.ag.length
    ·obtain⟨b,o,ha,_,hb,hc⟩:=Bf Hg (by decide) F1.ag hlt
     have e0:wr.cell? ⟨b,o+k * 3,none⟩=some (.string p.ag[k].name):=hc 0 _ rfl;clear hc F1;have HO:=zh hown;clear hown
     have HB:=zh hB;have hbs:=hB.size;clear hB;subst ha;have hk4:k < 4294967296:=by omega
     have hbase:W1.heap.size≤wr.heap.size:=hbs;go_wp2_with (at_builtin;refine Em rfl _ _ 64 rfl W1.heap.size 9 Jt Tryz.underlying64 rfl (by decide) (by decide) wr _ _ _ rfl HO.out _ rfl rfl rfl (by simp[Value.oneCell']) hk4 hbase ?_;intro v' w2 hown' hgrow)
     refine⟨⟨k+1,by simp[Cd];omega,by go_num,?_,Br HO.out hgrow HB.out (zn _) hbase⟩,by simp[intOf];omega⟩;rw[List.take_add_one];simp only[Cd,List.getElem?_map,zG hlt];simpa [Cd] using hown'
    ·obtain rfl:k=p.ag.length:=by omega
     rw[List.take_of_length_le (by rw[hkl];exact zn _)] at hown;obtain⟨qa,qc,rfl,hqc⟩:=Ae hown;have hz2:=hB.size;have H2:Hid (∀W,Below wr.heap.size wr W→(Au W 0 W0.heap.size a1 a2 a3 p∧(W.cell? ⟨w.heap.size,0,none⟩=some (.slice a1 p.aj.length c1)∧W.cell? ⟨w.heap.size,1,none⟩=some (.slice a2 p.ag.length c2)∧W.cell? ⟨w.heap.size,2,none⟩=some (.slice a3 p.binds.length c3))∧Below w.heap.size w W)∧Sl W 0 W1.heap.size na ((Cm p).map Value.string)∧Sl W 0 wr.heap.size qa ((Cd p).map Value.string)):=
      fun W hW=>⟨(H1.out W (hB.trans (hW.mono hz2))).1,(H1.out W (hB.trans (hW.mono hz2))).2,((Sl.cu hown).wider (Nat.zero_le _) (zn _)).below hW (zn _)⟩
     clear hown hB F1 hkl;generalize hW2:wr=W2 at *;clear hW2;have hlp:p.aj.length=(Cm p).length:=by simp[Cm]
     have hlq:p.ag.length=(Cd p).length:=by simp[Cd]
     have HLP:=zh (zi hlp hlq);have hal:Below W2.heap.size W2 (W2.alloc (.cells #[] 9)):=(zb _ _).alloc (zn _) _;have hownE:(W2.alloc (.cells #[] 9)).ownsRow W2.heap.size 9 1 (.slice (some ⟨W2.heap.size,0,none⟩) 0 0) 0 []:=World.ownsRow_lit W2 #[] 0 (zn _) (by decide) rfl;have HX:=zh (H2.out _ hal).2.1;have HE:=zh hownE;have HAL:=zh hal;clear hlp hlq hownE hal;have hs1:0+p.aj.length≤4294967296:=by omega
     have hs2:0+p.aj.length+p.ag.length≤4294967296:=by omega
     have hbs:W2.heap.size≤(W2.alloc (.cells #[] 9)).heap.size:=by simp
     have hn1:((Cm p).map Value.string).length=p.aj.length * 1:=by simp[Cm]
     have hn2:((Cd p).map Value.string).length=p.ag.length * 1:=by simp[Cd]
     go_wp2_with (first
      |(at_builtin;refine Aaw rfl _ _ 64 rfl W2.heap.size 9 Jt Tryz.underlying64 rfl (by decide) (by decide) _ _ _ rfl HE.out _ _ _ rfl 0 _ ((Cm p).map Value.string) hn1 HX.out (by simp[Value.oneCell']) hs1 hbs ?_;intro v' w2 hown' hgrow;have HB3:=zh (Br HE.out hgrow HAL.out (zn _) hbs);have hown3:=zh hown';have hbs3:=HB3.out.size;have HX3:=zh (H2.out w2 HB3.out).2.2;clear hown' hgrow)
      |(at_builtin;refine Aaw rfl _ _ 64 rfl W2.heap.size 9 Jt Tryz.underlying64 rfl (by decide) (by decide) _ _ _ rfl hown3.out _ _ _ rfl 0 _ ((Cd p).map Value.string) hn2 HX3.out (by simp[Value.oneCell']) hs2 hbs3 ?_;intro v'' w3 hown' hgrow;have HB4:=zh (Br hown3.out hgrow HB3.out (zn _) hbs3);have hown4:=zh hown';clear hown' hgrow))
     have hn5:0+p.aj.length+p.ag.length=(Cm p++Cd p).length:=by rw[ze,←HLP.out.1,←HLP.out.2,Nat.zero_add]
     have hown5:=hown4.out;rw[List.nil_append,←List.map_append,hn5] at hown5;have hcl:(Cm p++Cd p).length≤8:=by rw[←hn5];omega
     obtain⟨aa,ac,rfl,hac⟩:=Ae hown5;have hz3:=HB4.out.size;have H3:Hid (∀W,Below w3.heap.size w3 W→(Au W 0 W0.heap.size a1 a2 a3 p∧(W.cell? ⟨w.heap.size,0,none⟩=some (.slice a1 p.aj.length c1)∧W.cell? ⟨w.heap.size,1,none⟩=some (.slice a2 p.ag.length c2)∧W.cell? ⟨w.heap.size,2,none⟩=some (.slice a3 p.binds.length c3))∧Below w.heap.size w W)∧Sl W 0 W1.heap.size na ((Cm p).map Value.string)∧Sl W 0 W2.heap.size qa ((Cd p).map Value.string)∧Sl W 0 w3.heap.size aa ((Cm p++Cd p).map Value.string)):=
      fun W hW=>⟨(H2.out W (HB4.out.trans (hW.mono hz3))).1,(H2.out W (HB4.out.trans (hW.mono hz3))).2.1,(H2.out W (HB4.out.trans (hW.mono hz3))).2.2,((Sl.cu hown5).wider (Nat.zero_le _) (zn _)).below hW (zn _)⟩
     clear hown4 hown5 hown3 HX3 HE HAL HX HB3 HB4 hs1 hs2 hbs hbs3 hn1 hn2 hn5 H0 H1 H2;generalize hall:Cm p++Cd p=all at *;have HA:=zh hall;clear hall
     generalize hW3:w3=W3 at *;clear hW3;go_wp2_with fail
     go_loopw [8] (fun i wr=>Ky (fun s=> !N4 s) all W3.heap.size W3 i wr) (fun i _=>all.length - (intOf i).toNat)
     case atStart=>exact⟨0,by omega,rfl,zb _ _,fun j x hj=>absurd hj (by omega)⟩
     case round=>
      obtain⟨k,hk,rfl,hB,hall⟩:=hrel;have HN:=zh hall;clear hall
      have HB:=zh hB;by_cases hlt:k < all.length
      ·obtain⟨b,o,rfl,_,hb,hc⟩:=(H3.out wr hB).2.2.2.at_ (k:=k) (by simpa using hlt)
       have e0:wr.cell? ⟨b,o+k,none⟩=some (.string all[k]):=hc k _ (by simp[hlt]);clear hc hB;have hsz:all[k].size < 4294967281:=by
        have hm:all[k]∈Cm p++Cd p:=by rw[HA.out];exact zg hlt
        rcases List.mem_append.1 hm with h|h
        ·obtain⟨x,hx,he⟩:=List.mem_map.1 h
         have:=HS.out.post x hx;rw[←he];omega
        ·obtain⟨x,hx,he⟩:=List.mem_map.1 h
         have:=HS.out.queue x hx;rw[←he];omega
       have HSZ:=zh hsz;clear hsz
       cases hq:N4 all[k]
       ·have hr:Bc p=4:=by
         unfold Bc;rw[zq HMANY.out,HA.out,zp (Oe hlt (by rw[hq];rfl))]
        have HR:=zh hr;clear hr
        have HQ:=zh hq;clear hq
        go_wp2_with fail
        refine(Xz _ HSZ.out _).mono ?_;rw[HQ.out];rintro e w4 ⟨rfl,rfl⟩;go_wp2_with fail
        go_ret
        exact⟨by rw[HR.out];rfl,(H3.out _ HB.out).1.2.2⟩
       ·have HQ:=zh hq;clear hq
        go_wp2_with fail
        refine(Xz _ HSZ.out _).mono ?_;rw[HQ.out];rintro e w4 ⟨rfl,rfl⟩;go_wp2_with fail
        exact⟨E0 HN.out hlt (by rw[HQ.out];rfl) HB.out,by simp[intOf];omega⟩
      ·have HAN:Hid (¬ ((Cm p++Cd p).any (fun s=> !N4 s))=true):=by
        have:=Ut (p:=fun s=> !N4 s) HN.out (by omega);rw[HA.out,this];exact Bool.false_ne_true
       clear HN;have t1:=fun W (hW:Below W3.heap.size W3 W)=>Afq na nc (Cm p) 0 W ((H3.out W hW).2.1.wider (zn _) (zr (by omega) hW.size)) (by rw[←HLP.out.1];omega);have t2:=fun W (hW:Below W3.heap.size W3 W)=>Afq qa qc (Cd p) 0 W ((H3.out W hW).2.2.1.wider (zn _) (zr (by omega) hW.size)) (by rw[←HLP.out.2];omega);rw[←HLP.out.1] at t1;rw[←HLP.out.2] at t2;have T1:=zh t1;have T2:=zh t2;clear t1 t2 hB
       cases hd1:dup (Cm p)
       ·cases hd2:dup (Cd p)
        ·have hr0:Bc p=if p.aj.any Ny then 7
          else if p.ag.any (J4 p.aj.length) then 3
          else if p.binds.any (fun b=> !Wh p.aj.length p.ag.length b) then 3
          else Ih p.binds:=by
          unfold Bc;rw[zq HMANY.out,zq HAN.out,hd1,hd2];rfl
         have HR0:=zh hr0;have HD:=zh (zi hd1 hd2);clear hr0 hd1 hd2;go_wp2_with fail
         refine(T1.out _ HB.out).mono ?_;rw[HD.out.1];rintro e w4 ⟨rfl,hb4⟩;have HB4:=zm HB hb4;clear hb4 HB
         go_wp2_with fail
         refine(T2.out _ HB4.out).mono ?_;rw[HD.out.2];rintro e w5 ⟨rfl,hb5⟩;have HB5:=zm HB4 hb5;clear hb5 HB4 T1 T2
         go_wp2_with fail
         clear HAN HD
         go_loopw [9] (fun i wr=>Ky Ny p.aj W3.heap.size W3 i wr) (fun i _=>p.aj.length - (intOf i).toNat)
         case atStart=>exact⟨0,by omega,rfl,HB5.out,fun j x hj=>absurd hj (by omega)⟩
         case round=>
          obtain⟨k,hk,rfl,hB,hall⟩:=hrel;have HN:=zh hall;clear hall
          have HB:=zh hB;obtain⟨⟨F1,⟨m0,m1,m2⟩,_⟩,_⟩:=H3.out wr hB;by_cases hlt:k < p.aj.length
          ·obtain⟨b,o,ha,_,hb,hc⟩:=Bf J9 (by decide) F1.aj hlt
           have e1:wr.cell? ⟨b,o+k * 2+1,none⟩=some (.int .i64 p.aj[k].kind):=hc 1 _ rfl;have HKP:Hid (Ny p.aj[k]= !(decide (1≤p.aj[k].kind) && decide (p.aj[k].kind≤3))):=by
            refine(?_:Ny p.aj[k]=_);rw[Bool.eq_iff_iff];simp[Ny]<;>omega
           clear hc F1 hB;subst ha;go_wp2_with fail
           refine(Cc _ _ _ _).mono ?_;rintro e w4 ⟨rfl,rfl⟩
           cases hq:Ny p.aj[k]
           ·have hq':(decide (1≤p.aj[k].kind) && decide (p.aj[k].kind≤3))=true:=by
             have:=HKP.out;rw[hq] at this;exact bn2 this
            have HQ:=zh hq;clear hq
            go_wp2_with fail
            exact⟨E0 HN.out hlt HQ.out HB.out,by simp[intOf];omega⟩
           ·have hr:Bc p=7:=by rw[HR0.out,zp (Oe hlt hq)]
            have HR:=zh hr;clear hr
            have hq':(decide (1≤p.aj[k].kind) && decide (p.aj[k].kind≤3))=false:=by
             have:=HKP.out;rw[hq] at this;exact bn1 this
            clear hq;go_wp2_with fail
            go_ret
            exact⟨by rw[HR.out];rfl,(H3.out _ HB.out).1.2.2⟩
          ·have HK:Hid (¬ p.aj.any Ny=true):=by
            have:=Ut HN.out (by omega);rw[this];exact Bool.false_ne_true
           clear HN F1 hB;go_wp2_with fail
           clear m0 m1 m2
           go_loopw [10] (fun i wr=>Ky (J4 p.aj.length) p.ag W3.heap.size W3 i wr) (fun i _=>p.ag.length - (intOf i).toNat)
           case atStart=>exact⟨0,by omega,rfl,HB.out,fun j x hj=>absurd hj (by omega)⟩
           case round=>
            obtain⟨k,hk,rfl,hB,hall⟩:=hrel;have HN:=zh hall;clear hall
            have HB:=zh hB;obtain⟨⟨F1,⟨m0,m1,m2⟩,_⟩,_⟩:=H3.out wr hB;by_cases hlt:k < p.ag.length
            ·obtain⟨b,o,ha,_,hb,hc⟩:=Bf Hg (by decide) F1.ag hlt
             have e1:wr.cell? ⟨b,o+k * 3+1,none⟩=some (.int .i64 p.ag[k].bm):=hc 1 _ rfl;have e2:wr.cell? ⟨b,o+k * 3+2,none⟩=some (.int .i64 p.ag[k].dead):=hc 2 _ rfl;have HKP:Hid (J4 p.aj.length p.ag[k]=(!(decide (1≤p.ag[k].bm) && decide (p.ag[k].bm≤6)) || !(decide (-1≤p.ag[k].dead) && decide (p.ag[k].dead≤(p.aj.length:Int) - 1)))):=by
              refine(?_:J4 _ p.ag[k]=_);rw[Bool.eq_iff_iff];simp[J4]<;>omega
             clear hc F1 hB;subst ha;generalize hx1:p.ag[k].bm=lim at *;generalize hx2:p.ag[k].dead=dd at *;clear hx1 hx2;go_wp2_with fail
             refine(Cc _ _ _ _).mono ?_;rintro e w4 ⟨rfl,rfl⟩
             cases hq1:(decide (1≤lim) && decide (lim≤6))
             ·have hr:Bc p=3:=by rw[HR0.out,zq HK.out,zp (Oe hlt (by rw[HKP.out,hq1];rfl))]
              have HR:=zh hr;clear hr
              go_wp2_with fail
              go_ret
              exact⟨by rw[HR.out];rfl,(H3.out _ HB.out).1.2.2⟩
             ·go_wp2_with fail
              refine(Cc _ _ _ _).mono ?_;rintro e w4 ⟨rfl,rfl⟩
              cases hq2:(decide (-1≤dd) && decide (dd≤(p.aj.length:Int) - 1))
              ·have hr:Bc p=3:=by rw[HR0.out,zq HK.out,zp (Oe hlt (by rw[HKP.out,hq1,hq2];rfl))]
               have HR:=zh hr;clear hr
               go_wp2_with fail
               go_ret
               exact⟨by rw[HR.out];rfl,(H3.out _ HB.out).1.2.2⟩
              ·have HQ:Hid (J4 p.aj.length p.ag[k]=false):=by
                refine(?_:J4 _ p.ag[k]=_);rw[HKP.out,hq1,hq2];rfl
               go_wp2_with fail
               exact⟨E0 HN.out hlt HQ.out HB.out,by simp[intOf];omega⟩
            ·have HQU:Hid (¬ p.ag.any (J4 p.aj.length)=true):=by
              have:=Ut HN.out (by omega);rw[this];exact Bool.false_ne_true
             clear HN F1 hB;go_wp2_with fail
             clear m0 m1 m2
             go_loopw [11] (fun i wr=>Ky (fun b=> !Wh p.aj.length p.ag.length b) p.binds W3.heap.size W3 i wr) (fun i _=>p.binds.length - (intOf i).toNat)
             case atStart=>exact⟨0,by omega,rfl,HB.out,fun j x hj=>absurd hj (by omega)⟩
             case round=>
              obtain⟨k,hk,rfl,hB,hall⟩:=hrel;have HN:=zh hall;clear hall
              have HB:=zh hB;obtain⟨⟨F1,⟨m0,m1,m2⟩,_⟩,_⟩:=H3.out wr hB;by_cases hlt:k < p.binds.length
              ·obtain⟨b,o,ha,_,hb,hc⟩:=Bf (size:=4) Ia (by decide) F1.binds hlt
               have e0:wr.cell? ⟨b,o+k * 4,none⟩=some (.int .i64 p.binds[k].src):=hc 0 _ rfl;have e1:wr.cell? ⟨b,o+k * 4+1,none⟩=some (.bool p.binds[k].cd):=hc 1 _ rfl;have e2:wr.cell? ⟨b,o+k * 4+2,none⟩=some (.int .i64 p.binds[k].to):=hc 2 _ rfl;have e3:wr.cell? ⟨b,o+k * 4+3,none⟩=some (.string p.binds[k].pattern):=hc 3 _ rfl;have HKP:Hid (Wh p.aj.length p.ag.length p.binds[k]=((decide (0≤p.binds[k].src) && decide (p.binds[k].src≤(p.aj.length:Int) - 1)) && (decide (0≤p.binds[k].to) && decide (p.binds[k].to≤(if p.binds[k].cd then (p.aj.length:Int) else (p.ag.length:Int)) - 1)))):=by
                refine(?_:Wh _ _ p.binds[k]=_);rw[Bool.eq_iff_iff];simp[Wh]<;>omega
               clear hc F1 hB;subst ha;have hbw:Below wr.heap.size wr (wr.alloc (.cells #[.int .i64 p.binds[k].src,.bool p.binds[k].cd,.int .i64 p.binds[k].to,.string p.binds[k].pattern] 83)):=(zb _ _).alloc (zn _) _;have HB4:=zm HB hbw;clear hbw
               cases htp:p.binds[k].cd
               all_goals rw[htp] at HKP HB4 e1
               all_goals have HKP2:=HKP.out
               all_goals simp only[Bool.false_eq_true,if_false,if_true] at HKP2
               all_goals clear HKP
               all_goals have HKP:=zh HKP2
               all_goals clear HKP2
               all_goals generalize p.binds[k].src=src at *
               all_goals generalize p.binds[k].to=dst at *
               all_goals generalize p.binds[k].pattern=pat at *
               all_goals go_wp2_with fail
               ·refine(Cc _ _ _ _).mono ?_
                rintro e w4 ⟨rfl,rfl⟩
                cases hq1:(decide (0≤src) && decide (src≤(p.aj.length:Int) - 1))
                ·have hr:Bc p=3:=by rw[HR0.out,zq HK.out,zq HQU.out,zp (Oe hlt (by rw[HKP.out,hq1];rfl))]
                 have HR:=zh hr;clear hr
                 go_wp2_with fail
                 go_ret
                 exact⟨by rw[HR.out];rfl,(H3.out _ HB4.out).1.2.2⟩
                ·go_wp2_with fail
                 refine(Cc _ _ _ _).mono ?_;rintro e w4 ⟨rfl,rfl⟩
                 cases hq2:(decide (0≤dst) && decide (dst≤(p.ag.length:Int) - 1))
                 ·have hr:Bc p=3:=by rw[HR0.out,zq HK.out,zq HQU.out,zp (Oe hlt (by rw[HKP.out,hq1,hq2];rfl))]
                  have HR:=zh hr;clear hr
                  go_wp2_with fail
                  go_ret
                  exact⟨by rw[HR.out];rfl,(H3.out _ HB4.out).1.2.2⟩
                 ·have HQ:Hid ((!Wh p.aj.length p.ag.length p.binds[k])=false):=by
                   refine(?_:(!Wh _ _ p.binds[k])=_);rw[HKP.out,hq1,hq2];rfl
                  go_wp2_with fail
                  exact⟨E0 HN.out hlt HQ.out HB4.out,by simp[intOf];omega⟩
               ·refine(Cc _ _ _ _).mono ?_
                rintro e w4 ⟨rfl,rfl⟩
                cases hq1:(decide (0≤src) && decide (src≤(p.aj.length:Int) - 1))
                ·have hr:Bc p=3:=by rw[HR0.out,zq HK.out,zq HQU.out,zp (Oe hlt (by rw[HKP.out,hq1];rfl))]
                 have HR:=zh hr;clear hr
                 go_wp2_with fail
                 go_ret
                 exact⟨by rw[HR.out];rfl,(H3.out _ HB4.out).1.2.2⟩
                ·go_wp2_with fail
                 refine(Cc _ _ _ _).mono ?_;rintro e w4 ⟨rfl,rfl⟩
                 cases hq2:(decide (0≤dst) && decide (dst≤(p.aj.length:Int) - 1))
                 ·have hr:Bc p=3:=by rw[HR0.out,zq HK.out,zq HQU.out,zp (Oe hlt (by rw[HKP.out,hq1,hq2];rfl))]
                  have HR:=zh hr;clear hr
                  go_wp2_with fail
                  go_ret
                  exact⟨by rw[HR.out];rfl,(H3.out _ HB4.out).1.2.2⟩
                 ·have HQ:Hid ((!Wh p.aj.length p.ag.length p.binds[k])=false):=by
                   refine(?_:(!Wh _ _ p.binds[k])=_);rw[HKP.out,hq1,hq2];rfl
                  go_wp2_with fail
                  exact⟨E0 HN.out hlt HQ.out HB4.out,by simp[intOf];omega⟩
              ·have HBI:Hid (¬ p.binds.any (fun b=> !Wh p.aj.length p.ag.length b)=true):=by
                have:=Ut (p:=fun b=> !Wh p.aj.length p.ag.length b) HN.out (by omega);rw[this];exact Bool.false_ne_true
               have hr1:Bc p=Ih p.binds:=by rw[HR0.out,zq HK.out,zq HQU.out,zq HBI.out]
               have HR1:=zh hr1;clear hr1
               clear HN F1 hB;go_wp2_with fail
               clear m0 m1 m2
               go_loopw [14] (fun i wr=>Arq p.binds W3.heap.size W3 i wr) (fun i _=>p.binds.length - (intOf i).toNat)
               case atStart=>exact⟨0,by omega,rfl,rfl,HB.out⟩
               case round=>
                obtain⟨k,hk,rfl,hpe,hB⟩:=hrel;have HB:=zh hB;have HPE:=zh hpe;clear hpe
                obtain⟨⟨F1,⟨m0,m1,m2⟩,_⟩,_⟩:=H3.out wr hB;by_cases hlt:k < p.binds.length
                ·obtain⟨b,o,ha,_,hb,hc⟩:=Bf (size:=4) Ia (by decide) F1.binds hlt
                 have e3:wr.cell? ⟨b,o+k * 4+3,none⟩=some (.string p.binds[k].pattern):=hc 3 _ rfl;have hpd:=Z0 hlt;have hps:=HS.out.bind _ (zg hlt);have HPD:=zh hpd;have HPS:=zh hps;clear hc hpd hps hB F1;subst ha;generalize p.binds[k].pattern=pat at *;go_wp2_with fail
                 refine(Lx _ _ (zr HPS.out (by decide))).mono ?_;rintro e w4 ⟨rfl,hb4⟩;have HB4:=zm HB hb4;clear hb4
                 generalize Be E1 pat=se at *;by_cases hse:se=0
                 ·subst hse
                  have HN:Hid (Ih (p.binds.drop (k+1))=Ih p.binds):=by
                   have:=HPD.out;rw[zp rfl,HPE.out] at this;exact this.symm
                  go_wp2_with fail
                  exact⟨⟨k+1,hlt,by go_num,HN.out,HB4.out⟩,by simp[intOf];omega⟩
                 ·have HN:Hid (Bc p=se):=by
                   have:=HPD.out;rw[zq hse,HPE.out] at this;exact HR1.out.trans this
                  have hse':(se != 0)=true:=by simp[hse]
                  go_wp2_with fail
                  all_goals go_ret
                  all_goals exact⟨by rw[HN.out];rfl,(H3.out _ HB4.out).1.2.2⟩
                ·obtain rfl:k=p.binds.length:=by omega
                 have HN:Hid (Bc p=0):=by
                  have:=HPE.out;rw[List.drop_length] at this;exact HR1.out.trans this.symm
                 go_wp2_with fail
                 go_ret
                 exact⟨by rw[HN.out];rfl,(H3.out _ HB.out).1.2.2⟩
        ·have hr:Bc p=6:=by
          unfold Bc;rw[zq HMANY.out,zq HAN.out,hd1,hd2];rfl
         have HR:=zh hr;have HD:=zh (zi hd1 hd2);clear hr hd1 hd2;go_wp2_with fail
         refine(T1.out _ HB.out).mono ?_;rw[HD.out.1];rintro e w4 ⟨rfl,hb4⟩;have HB4:=zm HB hb4;clear hb4 HB
         go_wp2_with fail
         refine(T2.out _ HB4.out).mono ?_;rw[HD.out.2];rintro e w5 ⟨rfl,hb5⟩;have HB5:=zm HB4 hb5;clear hb5 HB4 T1 T2
         go_wp2_with fail
         go_ret
         exact⟨by rw[HR.out];rfl,(H3.out _ HB5.out).1.2.2⟩
       ·have hr:Bc p=6:=by
         unfold Bc;rw[zq HMANY.out,zq HAN.out,hd1];rfl
        have HR:=zh hr;have HD:=zh hd1;clear hr hd1;go_wp2_with fail
        refine(T1.out _ HB.out).mono ?_;rw[HD.out];rintro e w4 ⟨rfl,hb4⟩;have HB4:=zm HB hb4;clear hb4 HB T1 T2
        go_wp2_with fail
        go_ret
        exact⟨by rw[HR.out];rfl,(H3.out _ HB4.out).1.2.2⟩
open Go.RowKit
structure B8 (p:Ab):Prop where
 aj:p.aj.length≤4
 ag:p.ag.length≤4
 binds:p.binds.length≤10
 names:∀s∈Cm p++Cd p,N4 s=true
 nodupPosts:(Cm p).Nodup
 nodupQueues:(Cd p).Nodup
 kind:∀x∈p.aj,1≤x.kind∧x.kind≤3
 queue:∀x∈p.ag,1≤x.bm∧x.bm≤6∧ -1≤x.dead∧x.dead < (p.aj.length:Int)
 bind:∀b∈p.binds,0≤b.src∧b.src < (p.aj.length:Int)∧0≤b.to∧b.to < (if b.cd then (p.aj.length:Int) else (p.ag.length:Int))
 pat:∀b∈p.binds,Be E1 b.pattern=0
theorem Ae8:∀ {bs:List B9},Ih bs=0→∀b∈bs,Be E1 b.pattern=0
 | [],_,b,hb=>by cases hb
 |x::r,h,b,hb=>by
  unfold Ih at h;by_cases hx:Be E1 x.pattern=0
  ·rw[zp hx] at h
   rcases List.mem_cons.1 hb with rfl|hb
   ·exact hx
   ·exact Ae8 h b hb
  ·rw[zq hx] at h
   exact absurd h hx
theorem Cp{p:Ab}(h:Bc p=0):B8 p:=by
 unfold Bc at h
 split at h
 ·cases h
 rename_i h1
 split at h
 ·cases h
 rename_i h2
 split at h
 ·cases h
 rename_i h3
 split at h
 ·cases h
 rename_i h4
 split at h
 ·cases h
 rename_i h5
 split at h
 ·cases h
 rename_i h6
 simp only[Bool.or_eq_true,not_or,Bool.not_eq_true,dup,Bool.not_eq_false',zd] at h3;simp only[Bool.not_eq_true,List.any_eq_false] at h2 h4 h5 h6;refine⟨by omega,by omega,by omega,fun s hs=> ?_,h3.1,h3.2,fun x hx=> ?_,fun x hx=> ?_,fun b hb=> ?_,Ae8 h⟩
 ·have:=h2 s hs;simpa using this
 ·have:=h4 x hx;simp[Ny] at this;omega
 ·have:=h5 x hx;simp[J4] at this;omega
 ·have h':Wh p.aj.length p.ag.length b=true:=by
   have:=h6 b hb
   cases hq:Wh p.aj.length p.ag.length b
   ·rw[hq] at this;cases this
   ·rfl
  have this:=h';simp only[Wh,zc,zd] at this;exact⟨this.1.1.1,this.1.1.2,this.1.2,this.2⟩
theorem Ry{p:List UInt8→Bool}{s:zN}(h:Be p s=0):s.size≤24:=by
 unfold Be at h
 split at h
 ·cases h
 ·omega
theorem Al4{p:Ab}{a1 a2 a3:zZ}{lo:Nat}{w:zW}(hp:Au w lo w.heap.size a1 a2 a3 p)(o:Obj):Au (w.alloc o) 0 (w.alloc o).heap.size a1 a2 a3 p:=
 (hp.below ((zb _ w).alloc (zn _) o) (zn _)).wider (Nat.zero_le _) (by simp)
def Boxed(w W0:zW)(p:Ab)(a1 a2 a3:zZ)(c1 c2 c3:Nat):Prop:=
 ∀W,Below W0.heap.size W0 W→Au W 0 W0.heap.size a1 a2 a3 p∧(W.cell? ⟨w.heap.size,0,none⟩=some (.slice a1 p.aj.length c1)∧W.cell? ⟨w.heap.size,1,none⟩=some (.slice a2 p.ag.length c2)∧W.cell? ⟨w.heap.size,2,none⟩=some (.slice a3 p.binds.length c3))∧Below w.heap.size w W
theorem Gm{p:Ab}{a1 a2 a3:zZ}{lo:Nat}{w:zW}(hp:Au w lo w.heap.size a1 a2 a3 p)(c1 c2 c3:Nat)(t:TypeId):
  Boxed w (w.alloc (.cells (zP p a1 a2 a3 c1 c2 c3) t)) p a1 a2 a3 c1 c2 c3:=fun W hW=>by
 have hbk:=(Bk.new w t (zP p a1 a2 a3 c1 c2 c3)).below hW (by simp);refine⟨(Al4 hp _).below hW (zn _),⟨?_,?_,?_⟩,((zb _ w).alloc (zn _) _).trans (hW.mono (by simp))⟩
 ·have:=hbk.cell 0;simpa using this
 ·have:=hbk.cell 1;simpa using this
 ·have:=hbk.cell 2;simpa using this
theorem Sl.of_bk{w:zW}{g lo hi:Nat}{t:TypeId}{cs:Array Value}(h:Bk w g t cs)(h1:lo≤g)(h2:g < hi){us:List Value}(hu:us=cs.toList):Sl w lo hi (some ⟨g,0,none⟩) us:=
 .inr ⟨g,0,rfl,h1,h2,fun j u hj=>by
  rw[Nat.zero_add,h.cell];rw[hu,Array.getElem?_toList] at hj;exact hj⟩
def Ac:Ab where
 aj:=[⟨⟨#[109,97,105,110]⟩,3⟩,⟨⟨#[97,108,108]⟩,2⟩,⟨⟨#[100,101,97,100]⟩,1⟩]
 ag:=[⟨⟨#[97]⟩,2,2⟩,⟨⟨#[98]⟩,3,-1⟩,⟨⟨#[100]⟩,2,-1⟩]
 binds:=[⟨0,false,0,⟨#[120,46,35]⟩⟩,⟨0,true,1,⟨#[42,46,121]⟩⟩,⟨1,false,1,⟨#[35]⟩⟩,⟨1,true,0,⟨#[35]⟩⟩,⟨2,false,2,⟨#[120,46,121]⟩⟩]
def Vw:Array Value:=(Ac.aj.flatMap I7).toArray
def T9:Array Value:=(Ac.ag.flatMap Gw).toArray
def Zy:Array Value:=(Ac.binds.flatMap D5).toArray
structure M5 (w:zW) (b1 b2 b3:Nat):Prop where
 aj:Bk w b1 67 Vw
 ag:Bk w b2 71 T9
 binds:Bk w b3 83 Zy
def Gf(b1 b2 b3:Nat):Value:=Ay Ac (some ⟨b1,0,none⟩) (some ⟨b2,0,none⟩) (some ⟨b3,0,none⟩) 3 3 5
theorem Q5(w:zW):Calls Tryz.prog 20 #[] w fun e w'=>e= .returned (Gf (w.heap.size+1) (w.heap.size+2) (w.heap.size+3))∧M5 w' (w.heap.size+1) (w.heap.size+2) (w.heap.size+3)∧w'.heap.size=w.heap.size+4∧Below w.heap.size w w':=by
 go_enter Tryz.func20,Tryz.ntmps20
 go_wp2_with fail
 refine bodyPost_ret (v:=Gf (w.heap.size+1) (w.heap.size+2) (w.heap.size+3)) (by simp[results,Tryz.results20,go_sem,Gf,Ay,Ac]) rfl ⟨rfl,⟨?_,?_,?_⟩,by simp,?_⟩
 ·exact((Bk.cg _ _ _ (by simp)).alloc _).alloc _
 ·exact(Bk.cg _ _ _ (by simp)).alloc _
 ·exact Bk.cg _ _ _ (by simp)
 ·exact((((zb _ w).alloc (zn _) _).alloc (by simp) _).alloc (by simp;omega) _).alloc (by simp;omega) _
theorem M5.bz{w:zW}{b1 b2 b3 lo hi:Nat}(h:M5 w b1 b2 b3)(h1:lo≤b1∧b1 < hi)(h2:lo≤b2∧b2 < hi)(h3:lo≤b3∧b3 < hi):Au w lo hi (some ⟨b1,0,none⟩) (some ⟨b2,0,none⟩) (some ⟨b3,0,none⟩) Ac:=
 ⟨Sl.of_bk h.aj h1.1 h1.2 rfl,Sl.of_bk h.ag h2.1 h2.2 rfl,Sl.of_bk h.binds h3.1 h3.2 rfl⟩
theorem M5.below{w w':zW}{b1 b2 b3 B:Nat}(h:M5 w b1 b2 b3)(hb:Below B w w')(h1:b1 < B)(h2:b2 < B)(h3:b3 < B):M5 w' b1 b2 b3:=
 ⟨h.aj.below hb h1,h.ag.below hb h2,h.binds.below hb h3⟩
theorem Afl{p:Ab}(h1:p.aj.length≤1048576)(h2:p.ag.length≤1048576)(h3:p.binds.length≤1048576)(h4:(p.aj.all fun x=>decide (x.name.size≤1048576))=true)(h5:(p.ag.all fun x=>decide (x.name.size≤1048576))=true)
  (h6:(p.binds.all fun x=>decide (x.pattern.size≤1048576))=true):Ai p:=
 ⟨h1,h2,h3,fun x hx=>of_decide_eq_true (List.all_eq_true.1 h4 x hx),fun x hx=>of_decide_eq_true (List.all_eq_true.1 h5 x hx),fun x hx=>of_decide_eq_true (List.all_eq_true.1 h6 x hx)⟩
theorem Dt:Ai Ac:=Afl (by decide) (by decide) (by decide) (by decide) (by decide) (by decide)
/-! For running the plain functions: over lists of bytes. -/
def Ax4(l:List UInt8):Bool:=decide (0 < l.length) && decide (l.length≤8) && !(l.any fun c=>far (c.toNat:Int))
theorem Acb(s:zN):N4 s=Ax4 s.data.toList:=by
 unfold N4 Ax4;rw[ByteArray.toList_eq,Array.length_toList];rfl
def Aa5:List B9→Int
 | []=>0
 |b::r=>if J8 E1 b.pattern.data.toList=0 then Aa5 r else J8 E1 b.pattern.data.toList
theorem Z5:∀bs:List B9,Ih bs=Aa5 bs
 | []=>rfl
 |b::r=>by rw[Ih,Aa5,Gs,ByteArray.toList_eq,Z5 r]
def As0:List (List UInt8)→Bool
 | []=>false
 |x::r=>r.contains x || As0 r
theorem Aig:∀l:List zN,dup l=As0 (l.map fun s=>s.data.toList)
 | []=>rfl
 |x::r=>by
  have ih:=Aig r;unfold dup at ih⊢;simp only[List.map_cons,As0,←ih];rw[Bool.eq_iff_iff];simp only[Bool.not_eq_true',decide_eq_false_iff_not,List.nodup_cons,Bool.or_eq_true,List.contains_eq_mem,zd,List.mem_map]
  constructor
  ·intro h
   by_cases hx:x∈r
   ·exact .inl ⟨x,hx,rfl⟩
   ·exact .inr fun hn=>h ⟨hx,hn⟩
  ·rintro(⟨y,hy,e⟩|h) ⟨h1,h2⟩
   ·have:y=x:=toList_inj (by rw[ByteArray.toList_eq,ByteArray.toList_eq];exact e)
    exact h1 (this▸hy)
   ·exact h h2
def Asp(p:Ab):Int:=
 if 4 < p.aj.length∨4 < p.ag.length∨10 < p.binds.length then 2
 else if (Cm p++Cd p).any (fun s=> !Ax4 s.data.toList) then 4
 else if As0 ((Cm p).map fun s=>s.data.toList) || As0 ((Cd p).map fun s=>s.data.toList) then 6
 else if p.aj.any Ny then 7
 else if p.ag.any (J4 p.aj.length) then 3
 else if p.binds.any (fun b=> !Wh p.aj.length p.ag.length b) then 3
 else Aa5 p.binds
theorem Zi(p:Ab):Bc p=Asp p:=by
 unfold Bc Asp;simp only[Acb,Aig,Z5]
theorem Aej(p k:zN):Adl p k=Eb (G8 p.data.toList) (G8 k.data.toList):=by
 unfold Adl;rw[←ByteArray.toList_eq,←ByteArray.toList_eq,←Jn,←Jn]
theorem Dy:Bc Ac=0:=by rw[Zi];decide
structure Fu (w:zW) (b1 b2 b3:Nat):Prop where
 at_:M5 w b1 b2 b3
 lt:b1 < w.heap.size∧b2 < w.heap.size∧b3 < w.heap.size
theorem Fu.bz{w:zW}{b1 b2 b3:Nat}(h:Fu w b1 b2 b3):Au w 0 w.heap.size (some ⟨b1,0,none⟩) (some ⟨b2,0,none⟩) (some ⟨b3,0,none⟩) Ac:=
 h.at_.bz ⟨Nat.zero_le _,h.lt.1⟩ ⟨Nat.zero_le _,h.lt.2.1⟩ ⟨Nat.zero_le _,h.lt.2.2⟩
theorem Fu.below{w w':zW}{b1 b2 b3:Nat}(h:Fu w b1 b2 b3)(hb:Below w.heap.size w w'):Fu w' b1 b2 b3:=
 ⟨h.at_.below hb h.lt.1 h.lt.2.1 h.lt.2.2,by have:=hb.size;have:=h.lt;omega⟩
theorem Ej(w:zW):Calls Tryz.prog 20 #[] w fun e w'=>∃b1 b2 b3,e= .returned (Gf b1 b2 b3)∧Fu w' b1 b2 b3∧Below w.heap.size w w':=by
 refine(Q5 w).mono ?_;rintro e w' ⟨rfl,h,hz,hb⟩;exact⟨_,_,_,rfl,⟨h,by omega,by omega,by omega⟩,hb⟩
end Go.Proofs.YtpkneogjdfolaaaGreatDoor
