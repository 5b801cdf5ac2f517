/- Lemmas. -/
import Derived.Test.YtpkneogjdfolaaaGreatDoorBunKE
import Derived.Test.YtpkneogjdfolaaaGreatDoorBunCD
set_option maxHeartbeats 20000000
set_option maxRecDepth 100000
set_option linter.unusedSimpArgs false
set_option linter.unusedVariables false
namespace Go.Proofs.YtpkneogjdfolaaaGreatDoor
open Go Go.RowKit
attribute [local go_sem] Oper.semAt_some
theorem Agk(l:List UInt8):Lib.hasSuffix l [10]=decide (l.getLast? =some 10):=by
 unfold Lib.hasSuffix;rw[Bool.eq_iff_iff,List.isSuffixOf_iff_suffix,zd]
 constructor
 ·rintro⟨r,rfl⟩
  simp
 ·intro h
  obtain⟨r,rfl⟩:=List.getLast?_eq_some_iff.1 h;exact⟨r,rfl⟩
theorem Axk{W0 W:zW}{p:Ab}{p1 p2 p3:zZ}{q1 q2 q3:Nat}(hb:Below W0.heap.size W0 W)(hT:Bk W W0.heap.size 42 (Axm p p1 p2 p3 q1 q2 q3 Bd none none none 0 0 0)):
  Rz W0 W p p1 p2 p3 q1 q2 q3 Bd none none none 0 0 0 []:=
 ⟨hb,hT,W0.heap.size+1,Nat.lt_succ_self _,{ same:=rfl,ready:=World.ownsRow_nil _ _ _ _,row:=fun r hr=>(by cases hr),outs:=World.ownsRow_nil _ _ _ _,ae:=World.ownsRow_nil _ _ _ _ }⟩
theorem Se{p:Ab}(hp:Bc p=0):Bw p (B5 p):=
 { Tr p with
  bm:=by
   intro i l q h1 h2;have h3:l=[]:=List.eq_of_mem_replicate (List.mem_of_getElem? h1);have h4:=((Cp hp).queue q (List.mem_of_getElem? h2)).1;rw[h3];simp only[List.length_nil];omega
  held:=by intro i t h;simp[B5] at h
  bz:=hp
  many:=by simp[B5]
  sum:=by
   have h:E8 (B5 p)=0:=by
    unfold E8 B5;simp
   rw[h];rfl
  same:=rfl }
theorem Axl(x:zN):(Lk x).length≤x.size:=by
 have h:x.data.toList.length=x.size:=Array.length_toList;unfold Lk Lib.trimSuffix
 split
 ·rw[List.length_take]
  omega
 ·omega
def Afz(p:Ab)(t:zN)(w:zW)(e:Ending)(w':zW):Prop:=e= .returned (.tuple #[.string (Kt p t),.int .i64 (D2 p t)])∧Below w.heap.size w w'
theorem Aht(p:Ab)(p1 p2 p3:zZ)(q1 q2 q3:Nat)(t:zN)(ht:t.size≤9223372036854775807)(w:zW)(hE:Qg w)(hp:Au w 0 w.heap.size p1 p2 p3 p)(hps:Ai p):
  Calls Tryz.prog 4 #[Ay p p1 p2 p3 q1 q2 q3,.string t] w (Afz p t w):=by
 refine(callsIn_wide (n:=4)).1 ?_;refine callsIn_of_wp_marks Tryz.func4 rfl trivial ?_ rfl;simp only[Tryz.ntmps4,List.size_toArray,List.length_cons,List.length_nil,Nat.reduceAdd,Nat.reduceSub,Array.replicate_succ,Array.replicate_zero,List.push_toArray,List.append_toArray,List.nil_append,List.cons_append];refine wpIn_wide.2 ?_;have hbx:=Gm hp q1 q2 q3 26;have HE:=zh hE;have HS:=zh hps;unfold Ay;clear hE hp hps;obtain⟨W1,hW1⟩:=zo (w.alloc (.cells (zP p p1 p2 p3 q1 q2 q3) 26));rw[hW1] at hbx;have HZ:Hid (w.heap.size < W1.heap.size):=by rw[←hW1];show _ < _;simp
 have HBX:=zh hbx;clear hbx
 obtain⟨-,⟨m0,m1,m2⟩,-⟩:=HBX.out W1 (zb _ _);have HCK:Hid _:=zh (J6 p p1 p2 p3 q1 q2 q3 0 W1 (Ba (HBX.out W1 (zb _ _)).2.2 HE.out.1) (HBX.out W1 (zb _ _)).1 HS.out);unfold Ay at HCK;have hchk:∀W,Below W1.heap.size W1 W→Below w.heap.size w W:=fun W hW=>(HBX.out W hW).2.2;have HBW:=zh hchk;clear hchk
 by_cases hc:Bc p=0
 ·have HC:=zh hc
  rw[hc] at HCK;clear hc;have HCT:=zh (fun W=>Tryz.strings_Count_one t 10 W);have HHS:=zh (fun W=>Tryz.strings_HasSuffix t ⟨#[10]⟩ W ht);obtain⟨big,hbig⟩:∃big:Bool,big=decide (4096 < t.size∨60 < t.data.toList.count 10):=⟨_,rfl⟩;obtain⟨bad,hbad⟩:∃bad:Bool,bad=decide (t.size≠0∧t.data.toList.getLast? ≠some 10):=⟨_,rfl⟩;have HBIG:=zh hbig;have HBAD:=zh hbad;clear hbig hbad;go_upto_region 4 with(go_at_call 7;refine HCK.out.mono ?_;rintro e W2 ⟨rfl,hB2⟩;have HB2:=zh hB2;clear hB2)
  go_cut [22] from 15 to 22 (fun v wx=>v= .bool big∧wx=W2)
  case first=>
   by_cases hlen:4096 < t.size
   ·have hlz:(4096:Int) < (t.size:Int):=by omega
    have HX:Hid (big=true):=zh (by rw[HBIG.out];simp[hlen]);clear hlen;go_wp2_with fail
    go_meet
    exact⟨by rw[HX.out],rfl⟩
   have hlz:¬ (4096:Int) < (t.size:Int):=by omega
   have HX:Hid (big=decide (60 < t.data.toList.count 10)):=zh (by rw[HBIG.out];simp[hlen]);clear hlen;obtain⟨ct,hct⟩:∃ct:Nat,Lib.countByte t.data.toList 10=ct:=⟨_,rfl⟩;have HX2:Hid (big=decide (60 < ct)):=zh (by rw[HX.out,←hct];rfl);rw[hct] at HCT;clear hct HX;by_cases h60:60 < ct
   ·have hcz:(60:Int) < (ct:Int):=by omega
    have HX:Hid (big=true):=zh (by rw[HX2.out];simp[h60]);clear h60;go_wp2_with (go_at_call 8;refine(HCT.out _).mono ?_;rintro e W3 ⟨rfl,rfl⟩)
    go_meet
    exact⟨by rw[HX.out],rfl⟩
   ·have hcz:¬ (60:Int) < (ct:Int):=by omega
    have HX:Hid (big=false):=zh (by rw[HX2.out];simp[h60]);clear h60;go_wp2_with (go_at_call 8;refine(HCT.out _).mono ?_;rintro e W3 ⟨rfl,rfl⟩)
    go_meet
    exact⟨by rw[HX.out];congr 1;exact decide_eq_false (by omega),rfl⟩
  case rest=>
   obtain⟨rfl,rfl⟩:=hcut
   cases big with
   |true=>
    have HR:Hid (Kt p t=⟨#[]⟩∧D2 p t=2):=by
     have h1:D2 p t=2:=by
      unfold D2;rw[zq (by rw[HC.out];decide),zp (of_decide_eq_true HBIG.out.symm)]
     refine⟨?_,h1⟩;unfold Kt;rw[zq (by rw[h1];decide)];rfl
    go_wp2_with fail
    refine Ic (B:=w.heap.size) [] _ (D1.nil _ _) fun W4 hs=>⟨.tuple #[.string ⟨#[]⟩,.int .i64 2],by simp[results,Tryz.results4,go_sem],?_⟩;exact⟨by rw[HR.out.1,HR.out.2],(HBW.out _ HB2.out).trans hs.below⟩
   |false=>
    have HNB:Hid (¬ (4096 < t.size∨60 < t.data.toList.count 10)):=zh (of_decide_eq_false HBIG.out.symm);clear HBIG HCT HCK;go_upto_region 6 with fail
    go_cut [29] from 23 to 29 (fun v wx=>v= .bool bad∧wx=wc)
    case first=>
     by_cases he:t.toList=[]
     ·have HX:Hid (bad=false):=zh (by
       rw[HBAD.out];refine decide_eq_false fun h=>h.1 ?_;rw[←Eo,he];rfl)
      go_wp2_with fail
      go_meet
      exact⟨by rw[HX.out],rfl⟩
     ·have HX:Hid (bad= !(Lib.hasSuffix t.data.toList [10])):=zh (by
       rw[HBAD.out,Agk,←ByteArray.toList_eq];have h1:t.size≠0:=fun h=>he (List.eq_nil_of_length_eq_zero (by rw[Eo,h]));by_cases hl:t.toList.getLast? =some 10
       ·rw[decide_eq_true hl]
        exact decide_eq_false fun h=>h.2 hl
       ·rw[decide_eq_false hl]
        exact decide_eq_true ⟨h1,hl⟩)
      generalize Lib.hasSuffix t.data.toList [10]=hsf at *;have hie:t.toList.isEmpty=false:=by simpa using he
      go_wp2_with (go_at_call 9;refine(HHS.out _).mono ?_;rintro e W3 ⟨rfl,rfl⟩)
      all_goals(go_meet;exact⟨by rw[HX.out],rfl⟩)
    case rest=>
     obtain⟨rfl,rfl⟩:=hcut
     cases bad with
     |true=>
      have HR:Hid (Kt p t=⟨#[]⟩∧D2 p t=1):=by
       have h1:D2 p t=1:=by
        unfold D2;rw[zq (by rw[HC.out];decide),zq HNB.out,zp (of_decide_eq_true HBAD.out.symm)]
       refine⟨?_,h1⟩;unfold Kt;rw[zq (by rw[h1];decide)];rfl
      go_wp2_with fail
      refine Ic (B:=w.heap.size) [] _ (D1.nil _ _) fun W4 hs=>⟨.tuple #[.string ⟨#[]⟩,.int .i64 1],by simp[results,Tryz.results4,go_sem],?_⟩;exact⟨by rw[HR.out.1,HR.out.2],(HBW.out _ HB2.out).trans hs.below⟩
     |false=>
      have HNE:Hid (¬ (t.size≠0∧t.data.toList.getLast? ≠some 10)):=zh (of_decide_eq_false HBAD.out.symm);clear HBAD HHS;clear m0 m1 m2
      rename zW=>Wa
      obtain⟨m0,m1,m2⟩:=(HBX.out Wa HB2.out).2.1;go_upto_region 9 with fail
      obtain⟨X,hX⟩:∃X,X=B5 p:=⟨_,rfl⟩;obtain⟨Wt,hWt⟩:=zo ((Wa.alloc (.cells #[.slice p1 p.aj.length q1,.slice p2 p.ag.length q2,.slice p3 p.binds.length q3,.slice none 0 0,.slice none 0 0,.slice none 0 0,.int .i64 0,.int .i64 0,.int .i64 0,.int .i64 0,.int .i64 0] 42)).alloc (.cells #[zt Wa.heap.size] 35));have hT:Bk Wt Wa.heap.size 42 (Axm p p1 p2 p3 q1 q2 q3 Bd none none none 0 0 0):=by rw[←hWt];exact(Bk.new _ _ _).alloc _
      have hP:Bk Wt (Wa.heap.size+1) 35 #[zt Wa.heap.size]:=by rw[←hWt];exact Bk.cg _ _ _ (by simp)
      have hb:Below Wa.heap.size Wa Wt:=by rw[←hWt];exact((zb _ _).alloc (zn _) _).alloc (by simp) _
      rw[hWt];clear hWt m0 m1 m2;have HX:=zh hX;have hbq:=HBX.out Wa HB2.out;have hpw:=hbq.1.wider (zn _) HB2.out.size;have HW:Hid (DkW Wa p p1 p2 p3):=zh ⟨HE.out.below (HBW.out _ HB2.out),hpw,HS.out⟩;have hwlt:w.heap.size < Wa.heap.size:=Nat.lt_of_lt_of_le HZ.out HB2.out.size;have HK:Hid (∀V,Wt.grownBy V (some Wa.heap.size)→zM V (Wa.heap.size+1) 0 (zt Wa.heap.size)∧zM V w.heap.size 0 (.slice p1 p.aj.length q1)∧zM V w.heap.size 1 (.slice p2 p.ag.length q2)∧zM V w.heap.size 2 (.slice p3 p.binds.length q3)):=zh fun V hV=>by
       have h1:=(hP.grown hV (fun e=>by simp at e)).cell 0;have h2:=hbq.2.1;have h3:∀i,V.cell? ⟨w.heap.size,i,none⟩=Wa.cell? ⟨w.heap.size,i,none⟩:=fun i=>World.cell?_of_block ((hV.block _ (Nat.lt_of_lt_of_le hwlt hb.size) (fun e=>by simp at e;omega)).trans (hb.block _ hwlt));exact⟨h1,(h3 0).trans h2.1,(h3 1).trans h2.2.1,(h3 2).trans h2.2.2⟩
      have HBG:Hid (∀V,Below Wt.heap.size Wt V→Calls Tryz.prog 10 #[.agg (zP p p1 p2 p3 q1 q2 q3)] V fun e V'=>Below V.heap.size V V'∧∃g,e= .returned (.tuple #[.agg #[.slice (some ⟨g,0,none⟩) X.ready.length p.ag.length,.slice none X.outs.length 0,.slice none X.ae.length 0,.int .i64 X.ah,.int .i64 X.af,.int .i64 X.aw,.int .i64 X.ar,.int .i64 X.dropped],.int .i64 0])∧Wa.heap.size < g∧Bk V' g 132 (List.replicate p.ag.length (.slice none 0 0)).toArray):=zh fun V hV=>by
       have hbV:=hb.trans (hV.mono hb.size);refine(Ahn p p1 p2 p3 q1 q2 q3 V ((HW.out.env.below hbV).1) ((hpw.below hbV (zn _)).wider (zn _) hbV.size) HS.out).mono ?_;rintro e V' ⟨a,c,rows,rfl,_,hbb,hg⟩;obtain⟨g,rfl,hg1,rfl,hg2⟩:=hg HC.out;refine⟨hbb,g,?_,?_,hg2⟩
       ·rw[HC.out,show Hh p=X from by rw[HX.out];simp[Hh,HC.out]]
        rfl
       ·have:=hV.size
        have:=hP.lt;omega
      have HT:=zh hT;have HP:=zh hP;have HB:=zh hb;have hlt:=hT.lt;clear hT hP hb hbq hX hwlt hpw
      go_cut [38] from 33 to 40 (fun v wx=>TbS Wa wx p p1 p2 p3 q1 q2 q3 X∧Bk wx (Wa.heap.size+1) 35 #[zt Wa.heap.size])
      case first=>
       have hb0:Below Wt.heap.size Wt Wt.drew:=(zb _ _).drew;refine wp_region_noPanic (wp_region_held_drew (S:=fun V=>zM V (Wa.heap.size+1) 0 (zt Wa.heap.size)∧zM V w.heap.size 0 (.slice p1 p.aj.length q1)∧zM V w.heap.size 1 (.slice p2 p.ag.length q2)∧zM V w.heap.size 2 (.slice p3 p.binds.length q3)) (by kernel_rfl) (HK.out _ (Bs hb0 _)) (fun hHeld=> ?_));refine zH 0 ?_;refine zH 1 ?_;refine zR 2 fun K hK=> ?_
       go_simp
       go_at_call 10
       refine(HBG.out _ hb0).mono ?_;rintro e w4 ⟨hb4,g,rfl,hg,hq⟩;have hb5:=hb0.trans (hb4.mono hb0.size);refine zk hK (by exact HK.out _ (Bs hb5 _)) (fun hHeld=> ?_);clear hK K
       refine zH 3 ?_;refine zH 4 ?_;refine zH 6 ?_;refine zH 7 ?_;refine zH 5 ?_;have hTB:=Axk (p:=p) (p1:=p1) (p2:=p2) (p3:=p3) (q1:=q1) (q2:=q2) (q3:=q3) (HB.out.trans (hb5.mono HB.out.size)) (HT.out.below hb5 hlt);have hHX:=Abp (lo:=Wa.heap.size+1) hg HS.out.ag hq;rw[←HX.out] at hHX;have HPU:=zh (hTB.put (Nat.lt_succ_self _) hHX);obtain⟨-,n0,n1,n2,n3,n4,n5,n6,n7⟩:=hTB.cells;have f0:=hTB.bk.frozen 3;have f1:=hTB.bk.frozen 4;have f2:=hTB.bk.frozen 5;have f3:=hTB.bk.frozen 6;have f4:=hTB.bk.frozen 7;have f5:=hTB.bk.frozen 8;have f6:=hTB.bk.frozen 9;have f7:=hTB.bk.frozen 10
       have hlz:=hTB.bk.lt;clear hTB hHX hq;refine zR 8 fun K hK=> ?_
       go_simp
       refine hK.out _ _ (by exact HK.out _ (Ci (Bs hb5 _) HPU.out.2)) (fun hHeld=> ?_);clear hK K;refine zx (NoPanic.normal ?_);go_wp2_with fail
       go_meet
       exact⟨⟨_,_,_,_,_,_,_,HPU.out.1⟩,HP.out.grown (Ci (Bs hb5 _) HPU.out.2) (fun e=>by simp at e)⟩
      case rest=>
       obtain⟨ht,hpt⟩:=hcut;have HTS:=zh ht;have HPT:=zh hpt;clear ht hpt HBG HK HT HP HB;go_wp2_with (go_at_call 11;refine(Aop t _).mono ?_;rintro e w5 ⟨rfl,rfl⟩)
       obtain⟨W2,hW2⟩:=zo ((wc.alloc (.cells #[.pointer none,.slice none 0 0] 48)).alloc (.cells #[.string t] 9));have hbk:Bk W2 (wc.heap.size+1) 9 #[.string t]:=by rw[←hW2];exact Bk.cg _ _ _ (by simp)
       have hbw:Below wc.heap.size wc W2:=by rw[←hW2];exact((zb _ _).alloc (zn _) _).alloc (by simp) _
       have hbd:Lib.IsBuilderF 48 5 wc.heap.size wc.heap.size (Lib.byteCells []) W2:=by
        rw[←hW2];exact Vg (Lib.IsBuilderF.of (Lib.fresh_isBuilder _ _ wc)) (World.grownBy_alloc _ _ none) (fun r e=>by cases e)
       have hj0:PlJ Wa (Wa.heap.size+1) wc.heap.size (wc.heap.size+1) p p1 p2 p3 q1 q2 q3 (runs p []).1 (runs p []).2 W2:=⟨by rw[show(runs p []).1=X from HX.out.symm];exact HTS.out.keep hbw,hbd,HPT.out.below hbw HPT.out.lt,_,hbk⟩;have HJ0:=zh hj0;have hwa:Hid (Wa.heap.size≤wc.heap.size):=by
        obtain⟨_,_,_,_,_,_,_,h⟩:=HTS.out;exact zh h.below.size
       have HTL:Hid (t.size≤4096):=zh (by have:=HNB.out;omega);have HST:=zh (Ai6 3 (by decide) (wc.heap.size+1) t (by have:=HTL.out;omega) W2 hbk);have HZ2:Hid (wc.heap.size+1 < W2.heap.size):=zh hbk.lt;have HRG:=zh (Acs (Se HC.out));rw[hW2];clear hW2 hbk hbw hbd hj0 HTS HPT;refine(wpIn_wide (n:=4)).1 ?_;refine Aao (n:=4) (Bx:=fun r=>r=wc.heap.size+1) (Kp:=G3 fun r=>r=wc.heap.size+1) rfl (by decide) (gf:=42) (lb:= #[zt (wc.heap.size+1)]) rfl trivial (enters_of Tryz.func42 (by kernel_rfl) rfl)
        HST.out (by rintro r rfl;exact HZ2.out) (fun h k=>G3.trans h k) (fun W l o o' hl _ _ _=>G3.putObj (B:=W2.heap.size) (by rintro r rfl;exact HZ2.out) W l o' hl)
        (zb _ _) (fun _=>rfl) (fun pre V=>PlJ Wa (Wa.heap.size+1) wc.heap.size (wc.heap.size+1) p p1 p2 p3 q1 q2 q3 (runs p pre).1 (runs p pre).2 V) (fun _ _ _=>False)
        (fun pre V V' row h hg hr=>h.own (B:=W2.heap.size) (by have:=HZ2.out;have:=hwa.out;omega) (by have:=hwa.out;omega) hg hr) (fun _ _ _ _ _ h _ _=>h) HJ0.out ?round ?done ?stop
       case stop=>
        rintro D c pre W _ _ h _;exact h.elim
       case done=>
        rintro D ys W hD rfl hJ hK;have HBS:=zh (Tryz.Builder_String_any_k wc.heap.size wc.heap.size (runs p (Fy t)).2 W hJ.bd (by obtain⟨_,hb⟩:=Ns hJ.bd;have:=hb.lt;omega));have HJ:=zh hJ;have HK:=zh hK;clear hJ hK;go_wp2_with (go_at_call 15;refine HBS.out.mono ?_;rintro e w6 ⟨rfl,hbd6,hb6,hk6⟩)
        have hd6:w6.heap[D]? =some (.deferred (some [])):=hk6 D _ HK.out (fun e=>by cases e;have:=HZ2.out;omega) (fun c fz e=>by cases e);have hbw:=HBW.out _ HB2.out;have hpl:D2 p t=0:=by
         unfold D2;rw[zq (by rw[HC.out];decide),zq HNB.out,zq HNE.out]
        have hpt:Kt p t=⟨(runs p (Fy t)).2.toArray⟩:=by
         unfold Kt;rw[zp hpl,Aqd (fun h0=>by rw[ByteArray.toList_eq];exact Classical.byContradiction fun h1=>HNE.out ⟨h0,h1⟩),ByteArray.toList_eq];rfl
        refine Ic (B:=w.heap.size) [D] _ ((D1.nil _ _).cons ?_ (by simp) hd6) fun W4 hs=>⟨.tuple #[.string ⟨(runs p (Fy t)).2.toArray⟩,.int .i64 0],by simp[results,Tryz.results4,go_sem],?_⟩
        ·have:=hbw.size;have:=hwa.out;have:=HZ2.out;omega
        ·exact⟨by rw[hpl,hpt],((hbw.trans (HJ.out.below.mono hbw.size)).trans (hb6.mono (zr hbw.size hwa.out))).trans hs.below⟩
       case round=>
        intro l pre x W K hlen hK
        gi_wp2
        intro V hJ;have hpre:=Awq hlen;have HR1:=zh (HRG.out pre);obtain⟨X1,hX1⟩:∃X1,X1=(runs p pre).1:=⟨_,rfl⟩;obtain⟨o1,ho1⟩:∃o1,o1=(runs p pre).2:=⟨_,rfl⟩;rw[←hX1,←ho1] at hJ;rw[←hX1,←ho1] at HR1;have HN1:Hid (runs p (pre++[x])=(N3 p X1 (Lk x),o1++(Lu p X1 (Lk x)++[10]))):=zh (by rw[Yw,hX1,ho1];rfl);have HJ:=zh hJ;have HPR:=zh hpre;have HTR:=zh (fun W=>Tryz.strings_TrimSuffix x ⟨#[10]⟩ W (by have:=hpre.1;have:=HTL.out;omega));have hp0:=hJ.pt.cell 0;have hpl:=hJ.pt.lt;clear hX1 ho1 hJ hpre hlen
        gi_upto_region 13 with fail
        refine Ag9 (S:=fun V=>V.cell? ⟨Wa.heap.size+1,0,none⟩=some (zt Wa.heap.size)) (by kernel_rfl) (by kernel_rfl) hp0 (fun hHeld=> ?_);refine zH 0 ?_;refine zH 1 ?_;refine zR 2 fun K hK=> ?_
        go_simp
        go_at_call 14
        refine(HTR.out _).mono ?_;rintro e w4 ⟨rfl,rfl⟩;refine zk hK (by exact hHeld) (fun hHeld=> ?_);clear hK K
        have hJd:=PlJ.own (B:=Wa.heap.size) (V':=V.drew) (row:=none) (zn _) (by have:=hwa.out;omega) HJ.out ⟨rfl,rfl,rfl,zn _,fun _ _ _=>rfl⟩ (fun r e=>by cases e);have HLN:=zh (Ath HW.out HR1.out.1 hJd.st (bs (Lk x)) (by
         have h1:=HPR.out.1;have h2:=HTL.out;rw[D7];have h3:(Lk x).length≤x.size:=Axl x;omega))
        have HJD:=zh hJd;clear hJd;refine zR 3 fun K hK=> ?_
        go_simp
        go_at_call 13
        refine HLN.out.mono ?_;rintro e w5 hl5;rw[Di] at hl5;obtain⟨rfl,hJ5,hk5,hp5⟩:=HJD.out.line hl5;clear hl5;refine zk hK (by exact hJ5.pt.cell 0) (fun hHeld=> ?_);clear hK K
        have hln:=Ab7 HR1.out.1 (Lk x);generalize Lu p X1 (Lk x)=lt at *;have HWS:=zh (Au3 wc.heap.size wc.heap.size o1 (bs lt++⟨#[10]⟩) w5 hJ5.bd (by
         have h1:=HR1.out.2;have h2:=HPR.out.2;have h3:=HTL.out;rw[ByteArray.size_append,D7];have h4:(⟨#[10]⟩:zN).size=1:=rfl;omega) (by obtain⟨_,hb⟩:=Ns hJ5.bd;have:=hb.lt;omega))
        have HJ5:=zh hJ5;have hsz:¬ 9223372036854775807 < (bs lt).size+1:=by rw[D7];omega
        clear hJ5 hln;refine zH 4 ?_;refine zR 5 fun K hK=> ?_
        go_simp
        go_at_call 12
        refine HWS.out.mono ?_;rintro e w6 ⟨rfl,h1,h2,h3⟩;obtain⟨hJ6,hk6,hp6⟩:=HJ5.out.write hwa.out h1 h2 h3;refine hK.out _ _ (by exact hJ6.pt.cell 0) (fun hHeld=> ?_);clear hK K;refine zx (RQ1.normal ?_)
        gi_wp2
        refine⟨(KeepsOthers.drew V).trans (hk5.trans hk6),fun r hr=>(G3.trans hp5 hp6) r hr,?_⟩
        show PlJ Wa (Wa.heap.size+1) wc.heap.size (wc.heap.size+1) p p1 p2 p3 q1 q2 q3 (runs p (pre++[x])).1 (runs p (pre++[x])).2 w6
        rw[HN1.out];exact hJ6
 ·have HR:Hid (Kt p t=⟨#[]⟩∧D2 p t=Bc p):=by
   have h1:D2 p t=Bc p:=by unfold D2;rw[zp hc]
   refine⟨?_,h1⟩;unfold Kt;rw[zq (by rw[h1];exact hc)];rfl
  have b1:(Bc p != 0)=true:=by simp[hc]
  clear hc;go_wp2_with (go_at_call 7;refine HCK.out.mono ?_;rintro e W2 ⟨rfl,hB2⟩;have HB2:=zh hB2;clear hB2)
  refine Ic (B:=w.heap.size) [] _ (D1.nil _ _) fun W4 hs=>⟨.tuple #[.string ⟨#[]⟩,.int .i64 (Bc p)],by simp[results,Tryz.results4,go_sem],?_⟩;exact⟨by rw[HR.out.1,HR.out.2],(HBW.out _ HB2.out).trans hs.below⟩
def O6(x:Told)(w:zW)(e:Ending)(w':zW):Prop:=
 ∃(n:Aa)(b1 b2 b3:zZ)(d1 d2 d3:Nat)(rows:List Bm)(out:zN),e= .returned (.tuple #[Ad n b1 b2 b3 d1 d2 d3,.string out,.int .i64 x.2.2])∧Below w.heap.size w w'∧(x.2.2=0→n=x.1∧out=bs x.2.1∧Ca w' 0 (.slice b1 n.ready.length d1) (.slice b2 n.outs.length d2) (.slice b3 n.ae.length d3) rows n)
theorem Ax9{x:Told}{k:Int}(hx:x.2.2=k)(hk:k≠0){w W:zW}{n:Aa}{b1 b2 b3:zZ}{d1 d2 d3:Nat}{o:zN}(hb:Below w.heap.size w W):O6 x w (.returned (.tuple #[Ad n b1 b2 b3 d1 d2 d3,.string o,.int .i64 k])) W:=
 ⟨n,b1,b2,b3,d1,d2,d3,[],o,by rw[hx],hb,fun h=>absurd (hx.symm.trans h) hk⟩
theorem Aw5{x:Told}{s:Aa}{o:List UInt8}(hx:x=(s,o,0)){w W:zW}{a1 a2 a3:zZ}{c1 c2 c3:Nat}{rows:List Bm}(hs:Ca w 0 (.slice a1 s.ready.length c1) (.slice a2 s.outs.length c2) (.slice a3 s.ae.length c3) rows s)(hb:Below w.heap.size w W):O6 x w (.returned (.tuple #[Ad s a1 a2 a3 c1 c2 c3,.string (bs o),.int .i64 0])) W:=by
 subst hx;exact⟨s,a1,a2,a3,c1,c2,c3,rows,_,rfl,hb,fun _=>⟨rfl,rfl,hs.kept (Ah.oqb (ts:=[]) hb)⟩⟩
theorem Aw6{x:Told}{s Y:Aa}{o:List UInt8}{er:Int}(hx:x=Ew s Y o er){w W:zW}{lo:Nat}{b1 b2 b3:zZ}{d1 d2 d3:Nat}{ry:List Bm}(hs:Ca W lo (.slice b1 Y.ready.length d1) (.slice b2 Y.outs.length d2) (.slice b3 Y.ae.length d3) ry Y)(hb:Below w.heap.size w W):
  O6 x w (.returned (.tuple #[Ad Y b1 b2 b3 d1 d2 d3,.string (bs o),.int .i64 er])) W:=by
 subst hx;by_cases h:er=0
 ·subst h
  rw[Ii rfl];exact⟨Y,b1,b2,b3,d1,d2,d3,ry,_,rfl,hb,fun _=>⟨rfl,rfl,hs.wider (Nat.zero_le _)⟩⟩
 ·rw[Hf h]
  exact Ax9 rfl h hb
theorem Al1{x:Told}{w W:zW}{a:Act}{g:Nat}{o:zN}{k:Int}{v0 v1 v2 v3 v4 v5 v6 v7:Value}(h6:a.tmps[6]? =some (zt g))(h7:a.tmps[7]? =some (.string o))(h8:a.tmps[8]? =some (.int .i64 k))(hd:a.defers=[])(hk:Bk W g 40 #[v0,v1,v2,v3,v4,v5,v6,v7])(hp:O6 x w (.returned (.tuple #[.agg #[v0,v1,v2,v3,v4,v5,v6,v7],.string o,.int .i64 k])) W):
  bodyPost Tryz.prog Tryz.f18 (O6 x w) .ret a W:=by
 obtain⟨k0,k1,k2,k3,k4,k5,k6,k7,_,_,_,_,_,_,_,_,hlt⟩:=Af hk;exact bodyPost_ret (v:= .tuple #[.agg #[v0,v1,v2,v3,v4,v5,v6,v7],.string o,.int .i64 k]) (by simp[results,Tryz.results18,h6,h7,h8,go_sem,k0,k1,k2,k3,k4,k5,k6,k7,hlt]) hd hp
theorem Q9{a b:zW}{g:Nat}(h:a.grownBy b (some g))(v0 v1 v2 v3 v4 v5 v6 v7:Value):a.grownBy ((((((((b.setCell ⟨g,0,none⟩ v0).setCell ⟨g,1,none⟩ v1).setCell ⟨g,2,none⟩ v2).setCell ⟨g,3,none⟩ v3).setCell ⟨g,4,none⟩ v4).setCell ⟨g,5,none⟩ v5).setCell ⟨g,6,none⟩ v6).setCell ⟨g,7,none⟩ v7) (some g):=
 Ci (Ci (Ci (Ci (Ci (Ci (Ci (Ci h (Jg _ _ _ _)) (Jg _ _ _ _)) (Jg _ _ _ _)) (Jg _ _ _ _)) (Jg _ _ _ _)) (Jg _ _ _ _)) (Jg _ _ _ _)) (Jg _ _ _ _)
theorem Ph{W:zW}{g:Nat}{t:TypeId}{o0 o1 o2 o3 o4 o5 o6 o7:Value}(h:Bk W g t #[o0,o1,o2,o3,o4,o5,o6,o7])(v0 v1 v2 v3 v4 v5 v6 v7:Value):
  Bk ((((((((W.setCell ⟨g,0,none⟩ v0).setCell ⟨g,1,none⟩ v1).setCell ⟨g,2,none⟩ v2).setCell ⟨g,3,none⟩ v3).setCell ⟨g,4,none⟩ v4).setCell ⟨g,5,none⟩ v5).setCell ⟨g,6,none⟩ v6).setCell ⟨g,7,none⟩ v7) g t #[v0,v1,v2,v3,v4,v5,v6,v7]:=by
 have:=(((((((h.ck 0 v0).ck 1 v1).ck 2 v2).ck 3 v3).ck 4 v4).ck 5 v5).ck 6 v6).ck 7 v7;simpa using this
theorem Vl{x:Told}{w W:zW}{a:Act}{k:Int}{n:Aa}{b1 b2 b3:zZ}{d1 d2 d3:Nat}{o:zN}(h6:a.tmps[6]? =some (zt (w.heap.size+1+1)))(h7:a.tmps[7]? =some (.string o))(h8:a.tmps[8]? =some (.int .i64 k))(hd:a.defers=[])(hz:Below w.heap.size w W∧Bk W (w.heap.size+1+1) 40 zeroCells)(hx:x.2.2=k)(hk:k≠0):
  bodyPost Tryz.prog Tryz.f18 (O6 x w) .ret a ((((((((W.setCell ⟨w.heap.size+1+1,0,none⟩ (.slice b1 n.ready.length d1)).setCell ⟨w.heap.size+1+1,1,none⟩ (.slice b2 n.outs.length d2)).setCell ⟨w.heap.size+1+1,2,none⟩ (.slice b3 n.ae.length d3)).setCell ⟨w.heap.size+1+1,3,none⟩ (.int .i64 n.ah)).setCell ⟨w.heap.size+1+1,4,none⟩ (.int .i64 n.af)).setCell ⟨w.heap.size+1+1,5,none⟩ (.int .i64 n.aw)).setCell ⟨w.heap.size+1+1,6,none⟩ (.int .i64 n.ar)).setCell ⟨w.heap.size+1+1,7,none⟩ (.int .i64 n.dropped)):=
 Al1 h6 h7 h8 hd (Ph hz.2 _ _ _ _ _ _ _ _) (Ax9 (n:=n) (b1:=b1) (b2:=b2) (b3:=b3) (d1:=d1) (d2:=d2) (d3:=d3) hx hk (Al hz.1 (by omega) _ _ _ _ _ _ _ _))
theorem Al2{x:Told}{w W:zW}{a:Act}{k:Int}{s n:Aa}{b1 b2 b3:zZ}{d1 d2 d3 lo:Nat}{ry:List Bm}{o:List UInt8}(h6:a.tmps[6]? =some (zt (w.heap.size+1+1)))(h7:a.tmps[7]? =some (.string (bs o)))(h8:a.tmps[8]? =some (.int .i64 k))(hd:a.defers=[])(hz:Below w.heap.size w W∧Bk W (w.heap.size+1+1) 40 zeroCells)(hx:x=Ew s n o k)
  (hs:Ca W lo (.slice b1 n.ready.length d1) (.slice b2 n.outs.length d2) (.slice b3 n.ae.length d3) ry n):
  bodyPost Tryz.prog Tryz.f18 (O6 x w) .ret a ((((((((W.setCell ⟨w.heap.size+1+1,0,none⟩ (.slice b1 n.ready.length d1)).setCell ⟨w.heap.size+1+1,1,none⟩ (.slice b2 n.outs.length d2)).setCell ⟨w.heap.size+1+1,2,none⟩ (.slice b3 n.ae.length d3)).setCell ⟨w.heap.size+1+1,3,none⟩ (.int .i64 n.ah)).setCell ⟨w.heap.size+1+1,4,none⟩ (.int .i64 n.af)).setCell ⟨w.heap.size+1+1,5,none⟩ (.int .i64 n.aw)).setCell ⟨w.heap.size+1+1,6,none⟩ (.int .i64 n.ar)).setCell ⟨w.heap.size+1+1,7,none⟩ (.int .i64 n.dropped)):=
 Al1 h6 h7 h8 hd (Ph hz.2 _ _ _ _ _ _ _ _) (Aw6 hx (hs.kept (Ah.dg hz.2 (ts:=[40]) (by decide) _ _ _ _ _ _ _ _)) (Al hz.1 (by omega) _ _ _ _ _ _ _ _))
theorem A1b{x:Told}{w W:zW}{a:Act}{n:Aa}{b1 b2 b3:zZ}{d1 d2 d3:Nat}{ry:List Bm}{o:List UInt8}(h6:a.tmps[6]? =some (zt (w.heap.size+1+1)))(h7:a.tmps[7]? =some (.string (bs o)))(h8:a.tmps[8]? =some (.int .i64 0))(hd:a.defers=[])(hz:Below w.heap.size w W∧Bk W (w.heap.size+1+1) 40 zeroCells)(hx:x=(n,o,0))
  (hs:Ca w 0 (.slice b1 n.ready.length d1) (.slice b2 n.outs.length d2) (.slice b3 n.ae.length d3) ry n):
  bodyPost Tryz.prog Tryz.f18 (O6 x w) .ret a ((((((((W.setCell ⟨w.heap.size+1+1,0,none⟩ (.slice b1 n.ready.length d1)).setCell ⟨w.heap.size+1+1,1,none⟩ (.slice b2 n.outs.length d2)).setCell ⟨w.heap.size+1+1,2,none⟩ (.slice b3 n.ae.length d3)).setCell ⟨w.heap.size+1+1,3,none⟩ (.int .i64 n.ah)).setCell ⟨w.heap.size+1+1,4,none⟩ (.int .i64 n.af)).setCell ⟨w.heap.size+1+1,5,none⟩ (.int .i64 n.aw)).setCell ⟨w.heap.size+1+1,6,none⟩ (.int .i64 n.ar)).setCell ⟨w.heap.size+1+1,7,none⟩ (.int .i64 n.dropped)):=
 Al1 h6 h7 h8 hd (Ph hz.2 _ _ _ _ _ _ _ _) (Aw5 hx hs (Al hz.1 (by omega) _ _ _ _ _ _ _ _))
theorem Ra{w:zW}{p:Ab}{s:Aa}{p1 p2 p3 a1 a2 a3:zZ}{q1 q2 q3 c1 c2 c3:Nat}{rows:List Bm}{U V:zW}{g:Nat}(h:Me w p s p1 p2 p3 a1 a2 a3 q1 q2 q3 c1 c2 c3 rows U)(hV:U.grownBy V (some g))(hg:w.heap.size+1 < g):
  zM V w.heap.size 0 (.slice p1 p.aj.length q1)∧zM V w.heap.size 1 (.slice p2 p.ag.length q2)∧zM V w.heap.size 2 (.slice p3 p.binds.length q3)∧zM V (w.heap.size+1) 0 (.slice a1 s.ready.length c1)∧zM V (w.heap.size+1) 1 (.slice a2 s.outs.length c2)∧zM V (w.heap.size+1) 2 (.slice a3 s.ae.length c3)∧
   zM V (w.heap.size+1) 3 (.int .i64 s.ah)∧zM V (w.heap.size+1) 4 (.int .i64 s.af)∧zM V (w.heap.size+1) 5 (.int .i64 s.aw)∧zM V (w.heap.size+1) 6 (.int .i64 s.ar)∧zM V (w.heap.size+1) 7 (.int .i64 s.dropped):=by
 obtain⟨⟨m0,m1,m2⟩,⟨n0,n1,n2,n3,n4,n5,n6,n7⟩,_,_,_,_⟩:=h;have l0:=lt_of_cell m0;have l1:=lt_of_cell n0;have e0:∀i,V.cell? ⟨w.heap.size,i,none⟩=U.cell? ⟨w.heap.size,i,none⟩:=fun i=>World.cell?_of_block (hV.block _ l0 fun e=>by simp at e;omega);have e1:∀i,V.cell? ⟨w.heap.size+1,i,none⟩=U.cell? ⟨w.heap.size+1,i,none⟩:=fun i=>World.cell?_of_block (hV.block _ l1 fun e=>by simp at e;omega);exact⟨(e0 0).trans m0,(e0 1).trans m1,(e0 2).trans m2,(e1 0).trans n0,(e1 1).trans n1,(e1 2).trans n2,(e1 3).trans n3,(e1 4).trans n4,(e1 5).trans n5,(e1 6).trans n6,(e1 7).trans n7⟩
def wdA(l:List UInt8):List UInt8:=match Gt l with|some (a,_)=>a|none=>l
def wdB(l:List UInt8):List UInt8:=match Gt l with|some (_,b)=>b|none=>[]
def wdC(l:List UInt8):Bool:=(Gt l).isSome
theorem Auz(l:List UInt8):Aj6 (bs l)= .tuple #[.string (bs (wdA l)),.string (bs (wdB l)),.bool (wdC l)]:=by
 unfold Aj6 wdA wdB wdC;rw[Di]
 cases Gt l<;>rfl
theorem Amf(l:List UInt8):(wdA l).length≤l.length∧(wdB l).length≤l.length:=by
 unfold wdA wdB
 cases h:Gt l with
 |none=>simp
 |some z=>
  obtain⟨a,r⟩:=z;have:=(Tv h).1;rw[this];simp only[ze,List.length_cons];omega
theorem A1e{p:Ab}{s:Aa}{l:List UInt8}(h1:¬ l=Tk)(h2:¬ l=Aac):Ee p s l=if wdC l then opL p s (wdA l) (wdB l) else (s,[],1):=by
 unfold Ee wdA wdB wdC;rw[zq h1,zq h2]
 cases Gt l<;>rfl
theorem Axq(p:Ab)(s:Aa)(r:List UInt8):Lw p s r=if (wdC r && wdC (wdB r))=true then (if Fz p (wdA r) < 0 then (s,[],5) else Ew s (B6 p s (Fz p (wdA r)) (bs (wdA (wdB r))) (bs (wdB (wdB r)))) (Lib.itoa (Cn p s (Fz p (wdA r)) (bs (wdA (wdB r))) (bs (wdB (wdB r))))) (Bg p s (Fz p (wdA r)) (bs (wdA (wdB r))) (bs (wdB (wdB r))))) else (s,[],1):=by
 unfold Lw wdA wdB wdC
 cases h:Gt r with
 |none=>rfl
 |some z=>
  obtain⟨a,b⟩:=z;simp only[Option.isSome_some,Bool.true_and]
  cases h2:Gt b<;>rfl
theorem Axo(p:Ab)(s:Aa)(r:List UInt8):Ld p s r=if wdC r=true∧¬ Dp (wdB r) < 0 then (if Cl p (wdA r) < 0 then (s,[],5) else Ew s (Eu p s (Cl p (wdA r)) (Dp (wdB r))) (Lib.itoa (Ge p s (Cl p (wdA r)) (Dp (wdB r)))) (Ce p s (Cl p (wdA r)) (Dp (wdB r)))) else (s,[],1):=by
 unfold Ld wdA wdB wdC
 cases h:Gt r with
 |none=>rfl
 |some z=>
  obtain⟨a,b⟩:=z;simp only[Option.isSome_some,true_and];by_cases h2:Dp b < 0
  ·rw[zp h2,zq (fun k=>k h2)]
  ·rw[zq h2,zp h2]
theorem Axp(p:Ab)(s:Aa)(r:List UInt8):Jd p s r=if wdC r=true then (s,[],1) else (if Cl p (wdA r) < 0 then (s,[],5) else Ew s (Bu p s (Cl p (wdA r))) (Xd p s (Cl p (wdA r))) (Bj p s (Cl p (wdA r)))):=by
 unfold Jd wdA wdC
 cases h:Gt r<;>rfl
theorem Aa1(l:List UInt8): -9223372036854775808≤Dp l∧Dp l≤9223372036854775807:=by
 unfold Dp
 split
 ·rename_i h
  have h1:=Aa9 (l:=l) (by rw[←h.2.2];exact(Wk _).1);have:10 ^ l.length≤10 ^ 6:=Nat.pow_le_pow_right (by decide) h.2.1;omega
 ·omega
def Arr(Y:Aa)(n er:Int)(wr:zW)(b nv e:Value)(wx:zW):Prop:=
 ∃(g:Nat)(b1 b2 b3:zZ)(d1 d2 d3:Nat)(ry:List Bm),b=zt g∧nv= .int .i64 n∧e= .int .i64 er∧wr.heap.size≤g∧Bk wx g 40 (Ag Y b1 b2 b3 d1 d2 d3)∧Ca wx wr.heap.size (.slice b1 Y.ready.length d1) (.slice b2 Y.outs.length d2) (.slice b3 Y.ae.length d3) ry Y∧Below wr.heap.size wr wx
theorem Aw7{wd WR:zW}{lo:Nat}{Y:Aa}{n er:Int}{y1 y2 y3:zZ}{e1 e2 e3:Nat}{ry:List Bm}(hs:Ca wd lo (.slice y1 Y.ready.length e1) (.slice y2 Y.outs.length e2) (.slice y3 Y.ae.length e3) ry Y)(hl:WR.heap.size≤lo)(hb:Below WR.heap.size WR wd):
  Arr Y n er WR (zt wd.heap.size) (.int .i64 n) (.int .i64 er) (wd.alloc (.cells (Ag Y y1 y2 y3 e1 e2 e3) 40)):=
 ⟨_,y1,y2,y3,e1,e2,e3,ry,rfl,rfl,rfl,hb.size,Bk.new _ _ _,(hs.kept (Ah.alloc [] _ _)).wider hl,hb.alloc hb.size _⟩
theorem An1{wd WR:zW}{lo g:Nat}{Y:Aa}{n er:Int}{y1 y2 y3:zZ}{e1 e2 e3:Nat}{ry:List Bm}{o0 o1 o2 o3 o4 o5 o6 o7:Value}(hs:Ca wd lo (.slice y1 Y.ready.length e1) (.slice y2 Y.outs.length e2) (.slice y3 Y.ae.length e3) ry Y)(hl:WR.heap.size≤lo)(hk:Bk wd g 40 #[o0,o1,o2,o3,o4,o5,o6,o7])(hg:WR.heap.size≤g)(hb:Below WR.heap.size WR wd):
  Arr Y n er WR (zt g) (.int .i64 n) (.int .i64 er) ((((((((wd.setCell ⟨g,0,none⟩ (.slice y1 Y.ready.length e1)).setCell ⟨g,1,none⟩ (.slice y2 Y.outs.length e2)).setCell ⟨g,2,none⟩ (.slice y3 Y.ae.length e3)).setCell ⟨g,3,none⟩ (.int .i64 Y.ah)).setCell ⟨g,4,none⟩ (.int .i64 Y.af)).setCell ⟨g,5,none⟩ (.int .i64 Y.aw)).setCell ⟨g,6,none⟩ (.int .i64 Y.ar)).setCell ⟨g,7,none⟩ (.int .i64 Y.dropped)):=
 ⟨g,y1,y2,y3,e1,e2,e3,ry,rfl,rfl,rfl,hg,Ph hk _ _ _ _ _ _ _ _,(hs.kept (Ah.dg hk (ts:=[40]) (by decide) _ _ _ _ _ _ _ _)).wider hl,Al hb hg _ _ _ _ _ _ _ _⟩
theorem Al6(p:Ab)(s:Aa)(l:zN)(hl:l.size≤1048576)(p1 p2 p3 a1 a2 a3:zZ)(q1 q2 q3 c1 c2 c3:Nat)(rows:List Bm)(w:zW)(hE:Env w)(hp:Au w 0 w.heap.size p1 p2 p3 p)(hps:Ai p)(hr:Bw p s)(hh:Ca w 0 (.slice a1 s.ready.length c1) (.slice a2 s.outs.length c2) (.slice a3 s.ae.length c3) rows s):
  Calls Tryz.prog 18 #[Ay p p1 p2 p3 q1 q2 q3,Ad s a1 a2 a3 c1 c2 c3,.string l] w (O6 (Ee p s l.toList) w):=by
 have hs:=hh.bc.1;have hcap:s.outs.length≤c2:=by
  obtain⟨_,_,e,hc⟩:=Ae hh.outs;simp only[Value.slice.injEq] at e;omega
 obtain⟨x,hx⟩:∃x:Told,x=Ee p s l.toList:=⟨_,rfl⟩;rw[←hx];have hbx:=Cj q1 q2 q3 c1 c2 c3 hE hp hs 26 40;unfold Ag at hbx;unfold Ad Ay Ag;obtain⟨V2,hV2⟩:=zo ((w.alloc (.cells (zP p p1 p2 p3 q1 q2 q3) 26)).alloc (.cells (zV s a1 a2 a3 c1 c2 c3) 40));have hz2:V2.heap.size=w.heap.size+1+1:=by rw[←hV2];simp
 rw[hV2] at hbx;obtain⟨W0,hW0⟩:=zo (V2.alloc (.cells zO 40));have kbz:Bk W0 (w.heap.size+1+1) 40 zeroCells:=by rw[←hW0];exact Bk.cg _ _ _ hz2.symm
 have bW:=zu hW0
 have HBX:Hid (∀W,Below W0.heap.size W0 W→Me w p s p1 p2 p3 a1 a2 a3 q1 q2 q3 c1 c2 c3 rows W∧Bk W (w.heap.size+1+1) 40 zeroCells):=zh fun W hW=>⟨hbx W (bW.trans (hW.mono bW.size)),kbz.below hW kbz.lt⟩;have HC:=zh (fun W hW=>zi (zi (HBX.out W hW).1.bz (HBX.out W hW).1.state) (Af (HBX.out W hW).2));have HBZ:=zh (fun W hW=>zi (HBX.out W hW).1.below (HBX.out W hW).2);have HR0:Hid (Below W0.heap.size W0 W0):=zh (zb _ _);have HX:=zh hx;have HPS:=zh hps;have HSA:=zh hh;have HCAP:=zh hcap;have hgx:w.heap.size+1 < w.heap.size+1+1:=Nat.lt_succ_self _;have HLT0:Hid (w.heap.size+1+1 < W0.heap.size):=zh kbz.lt;clear hx hE hp hps hs hh hcap hbx kbz bW;go_enter Tryz.func18,Tryz.ntmps18
 go_upto_region 1 with fail
 try rw[hV2,hW0]
 clear hV2 hW0 hz2;by_cases hly:l.toList=Tk
 ·have hb:(l.toList == [108,121,105,110,103])=true:=by rw[hly];rfl
  have HXL:Hid (x=(s,Dr (Ka s),0)):=zh (by rw[HX.out];unfold Ee;rw[zp hly]);have HLL:=zh (Ab6 hr);clear hly;have hck:=HBX.out _ HR0.out;have HK:=zh (fun V (hV:W0.grownBy V (some (w.heap.size+1+1)))=>Ra hck.1 hV hgx);have HLY:Hid (∀V,Below W0.heap.size W0 V→Calls Tryz.prog 58 #[.agg (zV s a1 a2 a3 c1 c2 c3)] V fun e w'=>∃al cl,e= .returned (.slice al (Ka s).length cl)∧Sl w' 0 w'.heap.size al ((Ka s).map (Value.int .i64))∧Below V.heap.size V w'):=zh fun V hV=>by
   have hc:=(HBX.out _ hV).1;refine(Zc s a1 a2 a3 c1 c2 c3 rows V hc.bc hr.small).mono ?_;rintro e w' ⟨v,rfl,ho,hb⟩;obtain⟨al,cl,rfl,_⟩:=Ae ho;exact⟨al,cl,by simp[Ka],(Sl.cu ho).wider (Nat.zero_le _) (zn _),hb⟩
  clear hck;generalize Ka s=ll at *;go_wp2_with fail
  refine Jq HK (by kernel_rfl) (fun hHeld=> ?_);refine zH 0 ?_;refine zH 1 ?_;refine zR 2 fun K hK=> ?_
  go_simp
  go_at_call 58
  refine(HLY.out _ (zb _ _).drew).mono ?_;rintro e w2 ⟨al,cl,rfl,hsl,hb2⟩
  replace hb2:=(zb W0.heap.size W0).drew.trans hb2
  refine zk hK (by exact HK.out _ (Bs hb2 _)) (fun hHeld=> ?_);clear hK K
  refine zR 3 fun K hK=> ?_
  go_simp
  go_at_call 57
  refine(Vy ll al cl 0 _ HLL.out.1 hsl).mono ?_;rintro e w3 ⟨rfl,hb3⟩
  replace hb3:=hb2.trans (hb3.mono hb2.size)
  have HB3:=zh hb3;clear hsl hb2 hb3;refine zk hK (by exact HK.out _ (Bs HB3.out _)) (fun hHeld=> ?_);clear hK K
  have hc:=HC.out _ HB3.out;refine zR 4 fun K hK=> ?_
  go_simp
  refine zk hK (by exact HK.out _ (Q9 (Bs HB3.out _) _ _ _ _ _ _ _ _)) (fun hHeld=> ?_);clear hK K
  refine zH 5 ?_;refine zH 6 ?_;refine zx (NoPanic.normal ?_);go_wp2_with fail
  exact A1b rfl rfl rfl rfl (HBZ.out _ HB3.out) HXL.out HSA.out
 have hb:(l.toList == [108,121,105,110,103])=false:=by simpa [Tk] using hly
 by_cases hsu:l.toList=Aac
 ·have hb2:(l.toList == [115,117,109,115])=true:=by rw[hsu];rfl
  have HXL:Hid (x=(s,Dr [s.aw,s.ar,s.dropped],0)):=zh (by rw[HX.out];unfold Ee;rw[zq hly,zp hsu]);have HS3:=zh (Acz hr);clear hly hsu;have hck:=HBX.out _ HR0.out;have HK:=zh (fun V (hV:W0.grownBy V (some (w.heap.size+1+1)))=>Ra hck.1 hV hgx);clear hck;go_wp2_with fail
  refine Jq HK (by kernel_rfl) (fun hHeld=> ?_);refine zH 0 ?_;refine zH 1 ?_;refine zH 2 ?_;refine zH 3 ?_;refine zH 4 ?_;refine zH 5 ?_;refine zH 6 ?_;refine zR 7 fun K hK=> ?_
  go_simp
  obtain⟨w2,hw2⟩:=zo ((W0.alloc (.cells #[.int .i64 s.aw,.int .i64 s.ar,.int .i64 s.dropped] 3)).drew);have hk2:Bk w2 W0.heap.size 3 #[.int .i64 s.aw,.int .i64 s.ar,.int .i64 s.dropped]:=by rw[←hw2];exact Bk.new W0 _ _
  have hb2':Below W0.heap.size W0 w2:=by rw[←hw2];exact((zb _ _).alloc (zn _) _).drew
  rw[hw2];clear hw2;refine zk hK (by exact HK.out _ (Bs hb2' _)) (fun hHeld=> ?_);clear hK K
  refine zR 8 fun K hK=> ?_
  go_simp
  go_at_call 57
  refine(Vy [s.aw,s.ar,s.dropped] _ 3 0 w2 HS3.out (Sl.of_bk hk2 (Nat.zero_le _) hk2.lt rfl)).mono ?_;rintro e w3 ⟨rfl,hb3⟩
  replace hb3:=hb2'.trans (hb3.mono hb2'.size)
  have HB3:=zh hb3;clear hk2 hb2' hb3;refine zk hK (by exact HK.out _ (Bs HB3.out _)) (fun hHeld=> ?_);clear hK K
  generalize Dr [s.aw,s.ar,s.dropped]=ll at *;have hc:=HC.out _ HB3.out;refine zR 9 fun K hK=> ?_
  go_simp
  refine zk hK (by exact HK.out _ (Q9 (Bs HB3.out _) _ _ _ _ _ _ _ _)) (fun hHeld=> ?_);clear hK K
  refine zH 10 ?_;refine zH 11 ?_;refine zx (NoPanic.normal ?_);go_wp2_with fail
  exact A1b rfl rfl rfl rfl (HBZ.out _ HB3.out) HXL.out HSA.out
 have hb2:(l.toList == [115,117,109,115])=false:=by simpa [Aac] using hsu
 have HXL:Hid (x=if wdC l.toList then opL p s (wdA l.toList) (wdB l.toList) else (s,[],1)):=zh (by rw[HX.out,A1e hly hsu]);have hlen:=Amf l.toList;rw[Eo] at hlen;have HV:=zh (Auz l.toList);rw[Agw] at HV;clear hly hsu HX;generalize wdC l.toList=more at *;generalize wdA l.toList=op at *;generalize wdB l.toList=rest at *;go_wp2_with fail
 refine(Tl l (by omega) W0).mono ?_;rw[HV.out];rintro e w1 ⟨rfl,hb1⟩;have HB1:=zh hb1;clear hb1 hb hb2 HV
 cases more with
 |false=>
  have HX1:Hid (x.2.2=1):=zh (by rw[HXL.out];rfl);have hc:=HC.out _ HB1.out;go_wp2_with fail
  exact Vl rfl rfl rfl rfl (HBZ.out _ HB1.out) HX1.out (by decide)
 |true=>
  have HX:Hid (x=opL p s op rest):=zh (by rw[HXL.out];rfl);have hl2:=Amf rest;have HV:=zh (Auz rest);have hrs:(bs rest).size≤1048576:=by rw[D7];omega
  clear HXL;go_wp2_with fail
  refine(Tl (bs rest) (by omega) w1).mono ?_;rw[HV.out];rintro e w2 ⟨rfl,hb2⟩;have HB2:=zm HB1 hb2;clear hb2 HV HB1;by_cases h1:op=O2
  ·have z1:((bs op).toList == [115,101,110,100])=true:=by rw[Di,h1];rfl
   have HXS:Hid (x=Lw p s rest):=zh (by rw[HX.out];unfold opL;rw[zp h1]);rw[Axq] at HXS;have hl3:=Amf (wdB rest);have HV:=zh (Auz (wdB rest));have hbs:(bs (wdB rest)).size≤1048576:=by rw[D7];omega
   clear h1 HX;generalize wdA rest=nm at *;generalize wdC rest=two at *;generalize wdB rest=be at *;go_wp2_with fail
   refine(Tl (bs be) (by omega) w2).mono ?_;rw[HV.out];rintro e w3 ⟨rfl,hb3⟩;have HB3:=zm HB2 hb3;have hks:(bs (wdA be)).size≤1048576:=by rw[D7];omega
   have hys:(bs (wdB be)).size≤1048576:=by rw[D7];omega
   clear hb3 HV HB2;generalize wdC be=three at *;generalize bs (wdA be)=key at *;generalize bs (wdB be)=body at *;have HKB2:=zh (zi hks hys);clear hks hys hbs hl3 hl2;by_cases h23:(two && three)=true
   ·rw[zp h23] at HXS
    rw[zc] at h23;obtain⟨rfl,rfl⟩:=h23;have HPN:=zh (fun W hW=>Y8 p (bs nm) p1 p2 p3 q1 q2 q3 W hW HPS.out);rw[Di] at HPN;have hki:=Ang (fun x:I5=>x.name.toList == nm) p.aj (by have:=HPS.out.aj;omega);rw[show idxOf (fun x:I5=>x.name.toList == nm) p.aj=Fz p nm from rfl] at hki;unfold Ay at HPN;generalize Fz p nm=k at *;have hc:=HC.out _ HB3.out;go_wp2_with fail
    refine(HPN.out _ (HBX.out _ HB3.out).1.bu).mono ?_;rintro e w4 ⟨rfl,hb4⟩;have HB4:=zm HB3 hb4;clear hb4 HPN HB3;clear hc;have hc:=HC.out _ HB4.out;by_cases hk:k < 0
    ·have HX5:Hid (x.2.2=5):=zh (by rw[HXS.out,zp hk])
     go_wp2_with fail
     exact Vl rfl rfl rfl rfl (HBZ.out _ HB4.out) HX5.out (by decide)
    ·have HXT:=zh (HXS.out.trans (zq hk))
     clear HXS;go_wp2_with fail
     refine(Nr p s k key body p1 p2 p3 a1 a2 a3 q1 q2 q3 c1 c2 c3 rows w4 (HBX.out _ HB4.out).1.env (HBX.out _ HB4.out).1.bu HPS.out (HBX.out _ HB4.out).1.bc hr.small hr.ints HKB2.out.1 HKB2.out.2 hki).mono ?_;rintro e w5 ⟨b1,b2,b3,d1,d2,d3,ry,rfl,hs5,hb5⟩;have HS:=zh hs5;have HB5:=zm HB4 hb5;have HNF:=zh (Nf p s k key body);clear hc;clear hs5 hb5 HB4;generalize B6 p s k key body=Y at *;generalize Bg p s k key body=er at *;obtain⟨N,hN⟩:∃N:Nat,Cn p s k key body=(N:Int):=⟨_,(Int.toNat_of_nonneg HNF.out.1).symm⟩;rw[hN] at HXT HNF⊢;rw[Lib.itoa_nonneg] at HXT;have HNS:Hid (N < 1000000000000):=zh (by have:=HNF.out.2;omega);clear hN HNF;unfold Ad Ag;obtain⟨WA,hW1⟩:=zo (w5.alloc (.cells (zV Y b1 b2 b3 d1 d2 d3) 40));have HKB:=zh (zw hW1);have hba:=zu hW1
     have HBA:=zm HB5 hba;have HSY:=zh (HS.out.kept (Ah.oqb (ts:=[]) hba));go_upto_region 18 with fail
     try rw[hW1]
     have HGB:Hid (w.heap.size+1+1 < w5.heap.size):=zh (by have:=HB5.out.size;have:=HLT0.out;omega);clear hW1 hba;have HN1:=zh (I9 N HNS.out);have HKY:=zh (fun V (hV:WA.grownBy V (some (w.heap.size+1+1)))=>Hm (HKB.out.grown hV (fun e=>by simp at e;have:=HGB.out;omega)));refine Jq HKY (by kernel_rfl) (fun hHeld=> ?_);refine zH 0 ?_;refine zH 1 ?_;refine zH 3 ?_;refine zR 2 fun K hK=> ?_
     go_simp
     go_at_call 19
     refine(HN1.out _).mono ?_;rintro e w6 ⟨rfl,hb6⟩
     replace hb6:=(zb WA.heap.size WA).drew.trans hb6
     have HB6w:=zh hb6;have HB6:=zm HBA hb6;clear hb6;refine zk hK (by exact HKY.out _ (Bs HB6w.out _)) (fun hHeld=> ?_);clear hK K
     have hc:=HC.out _ HB6.out;refine zR 4 fun K hK=> ?_
     go_simp
     refine zk hK (by exact HKY.out _ (Q9 (Bs HB6w.out _) _ _ _ _ _ _ _ _)) (fun hHeld=> ?_);clear hK K
     refine zH 5 ?_;refine zH 6 ?_;refine zx (NoPanic.normal ?_);go_wp2_with fail
     exact Al2 rfl rfl rfl rfl (HBZ.out _ HB6.out) HXT.out (HSY.out.kept (Ah.oqb (ts:=[]) HB6w.out))
   ·have HX1:Hid (x.2.2=1):=zh (by rw[HXS.out,zq h23])
    have hc:=HC.out _ HB3.out
    cases two with
    |false=>
     go_wp2_with fail
     exact Vl rfl rfl rfl rfl (HBZ.out _ HB3.out) HX1.out (by decide)
    |true=>
     cases three with
     |false=>
      go_wp2_with fail
      exact Vl rfl rfl rfl rfl (HBZ.out _ HB3.out) HX1.out (by decide)
     |true=>exact absurd rfl h23
  have z1:((bs op).toList == [115,101,110,100])=false:=by rw[Di];simpa [O2] using h1
  by_cases h2:op=U7
  ·have z2:((bs op).toList == [106,111,105,110])=true:=by rw[Di,h2];rfl
   have HXS:Hid (x=Ld p s rest):=zh (by rw[HX.out,h2];rfl);rw[Axo] at HXS;clear h2 HX;generalize wdA rest=nm at *;generalize wdC rest=two at *;generalize wdB rest=be at *
   cases two with
   |false=>
    have HX1:Hid (x.2.2=1):=zh (by rw[HXS.out,zq (by simp)]);have hc:=HC.out _ HB2.out;go_wp2_with fail
    exact Vl rfl rfl rfl rfl (HBZ.out _ HB2.out) HX1.out (by decide)
   |true=>
    have HNM:=zh (fun W=>Lh (bs be) (by rw[D7];omega) W);rw[Di] at HNM;generalize Dp be=m at *;have HX1:Hid (m < 0→x.2.2=1):=zh fun h=>by rw[HXS.out,zq (fun k=>k.2 h)]
    have HXQ:=zh (fun h:¬ m < 0=>HXS.out.trans (zp ⟨rfl,h⟩));clear HXS;go_wp2_with fail
    refine(HNM.out _).mono ?_;rintro e w3 ⟨rfl,hb3⟩;have HB3:=zm HB2 hb3;clear hb3;by_cases hm:m < 0
    ·have HX1:=zh (HX1.out hm)
     have hc:=HC.out _ HB3.out;go_wp2_with fail
     exact Vl rfl rfl rfl rfl (HBZ.out _ HB3.out) HX1.out (by decide)
    have HXQ:=zh (HXQ.out (by omega));clear HX1;have HQN:=zh (fun W hW=>P7 p (bs nm) p1 p2 p3 q1 q2 q3 W hW HPS.out);rw[Di] at HQN;unfold Ay at HQN;generalize Cl p nm=k at *;have hc:=HC.out _ HB3.out;go_wp2_with fail
    refine(HQN.out _ (HBX.out _ HB3.out).1.bu).mono ?_;rintro e w4 ⟨rfl,hb4⟩;have HB4:=zm HB3 hb4;clear hb4 HQN;clear hc;have hc:=HC.out _ HB4.out;by_cases hk:k < 0
    ·have HX5:Hid (x.2.2=5):=zh (by rw[HXQ.out,zp hk])
     go_wp2_with fail
     exact Vl rfl rfl rfl rfl (HBZ.out _ HB4.out) HX5.out (by decide)
    have HXT:=zh (HXQ.out.trans (zq hk));have HJ:Hid (∀V,Below w4.heap.size w4 V→Calls Tryz.prog 64 #[.agg (zP p p1 p2 p3 q1 q2 q3),.agg (zV s a1 a2 a3 c1 c2 c3),.int .i64 k,.int .i64 m] V (Gj (Eu p s k m) (Ge p s k m) (Ce p s k m) V)):=zh fun V hV=>by
     have hB:=HB4.out.trans (hV.mono HB4.out.size);exact Qd p s k m p1 p2 p3 a1 a2 a3 q1 q2 q3 c1 c2 c3 rows V (HBX.out _ hB).1.env (HBX.out _ hB).1.bu HPS.out (HBX.out _ hB).1.bc hr.small hr.ints
    have HN4:=zh (Yh hr k m);have hck:=HBX.out _ HB4.out;have HK4:=zh (fun V (hV:Below w4.heap.size w4 V)=>Ra hck.1 (Bs hV (some (w.heap.size+1+1))) hgx);clear hck HXQ;generalize Eu p s k m=Y at *;generalize Ce p s k m=er at *;generalize Ge p s k m=N at *;rw[Lib.itoa_nonneg] at HXT;have HNS:Hid (N < 1000000000000):=zh (by have:=HN4.out;omega);clear HN4;go_upto_region 25 with fail
    clear hc
    go_cut [23,24,25] from 118 to 128 (fun b n e wx=>Arr Y (N:Int) er w4 b n e wx)
    case first=>
     refine Lj HK4 (by kernel_rfl) (fun hHeld=> ?_);have hb0:Below w4.heap.size w4 w4.drew:=(zb _ _).drew;refine zH 0 ?_;refine zH 1 ?_;refine zH 2 ?_;refine zH 3 ?_;refine zR2 4 10 (fun K hK=> ?_) (fun K hK=> ?_)
     ·go_simp
      go_at_call 62
      refine(HNM.out _).mono ?_;rintro e w5 ⟨rfl,hb5⟩
      replace hb5:=hb0.trans (hb5.mono hb0.size)
      refine zk hK (by exact HK4.out _ hb5) (fun hHeld=> ?_);clear hK K
      refine zR2 5 10 (fun K hK=> ?_) (fun K hK=> ?_)
      ·go_simp
       go_at_call 64
       refine(HJ.out _ hb5).mono ?_;rintro e w6 ⟨b1,b2,b3,d1,d2,d3,ry,rfl,hs6,hb6⟩;unfold Ad Ag
       replace hb6:=hb5.trans (hb6.mono hb5.size)
       refine zk hK (by exact HK4.out _ hb6) (fun hHeld=> ?_);clear hK K
       refine zH 6 ?_;refine zH 7 ?_;refine zH 8 ?_;refine zH 9 ?_;refine zR 10 fun K hK=> ?_
       go_simp
       have hbk:=Bk.new w6 40 zO;have hal:Below w4.heap.size w4 (w6.alloc (.cells zO 40)):=hb6.alloc hb6.size _;refine zk hK (by exact HK4.out _ hal) (fun hHeld=> ?_);clear hK K
       refine zR 11 fun K hK=> ?_;have hc:=Af hbk;have hS8:=HK4.out _ (hb6.alloc hb6.size (.cells (zV Y b1 b2 b3 d1 d2 d3) 40))
       go_simp
       refine zk hK (by exact hS8) (fun hHeld=> ?_);clear hK K
       refine zH 12 ?_;refine zH 13 ?_;refine zx ?_;go_wp2_with fail
       go_meet
       exact Aw7 (hs6.wider hb5.size) (zn _) hb6
      ·go_simp
       obtain⟨wz,hwz⟩:=zo (w5.alloc (.cells zO 40));have hbk:=zw hwz
       have hbz:Below w4.heap.size w4 wz:=by rw[←hwz];exact hb5.alloc hb5.size _
       rw[hwz];clear hwz;refine zk hK (by exact HK4.out _ hbz) (fun hHeld=> ?_);clear hK K
       refine zR 5 fun K hK=> ?_
       go_simp
       go_at_call 64
       refine(HJ.out _ hbz).mono ?_;rintro e w6 ⟨b1,b2,b3,d1,d2,d3,ry,rfl,hs6,hb6⟩;unfold Ad Ag;have hb7:=hbz.trans (hb6.mono hbz.size);refine zk hK (by exact HK4.out _ hb7) (fun hHeld=> ?_);clear hK K
       refine zH 6 ?_;refine zH 7 ?_;refine zH 8 ?_;refine zH 9 ?_;have hbk7:=hbk.below hb6 hbk.lt;have hc:=Af hbk7;have hS8:=HK4.out _ (Al hb7 hb5.size (.slice b1 Y.ready.length d1) (.slice b2 Y.outs.length d2) (.slice b3 Y.ae.length d3) (.int .i64 Y.ah) (.int .i64 Y.af) (.int .i64 Y.aw) (.int .i64 Y.ar) (.int .i64 Y.dropped));refine zR 11 fun K hK=> ?_
       go_simp
       refine zk hK (by exact hS8) (fun hHeld=> ?_);clear hK K
       refine zH 12 ?_;refine zH 13 ?_;refine zx ?_;go_wp2_with fail
       go_meet
       exact An1 (hs6.wider hbz.size) (zn _) hbk7 hb5.size hb7
     ·go_simp
      obtain⟨wz,hwz⟩:=zo ((w4.alloc (.cells zO 40)).drew);have hbk:Bk wz w4.heap.size 40 zO:=by rw[←hwz];exact Bk.new w4 _ _
      have hbz:Below w4.heap.size w4 wz:=by rw[←hwz];exact((zb _ _).alloc (zn _) _).drew
      rw[hwz];clear hwz;refine zk hK (by exact HK4.out _ hbz) (fun hHeld=> ?_);clear hK K
      refine zR 4 fun K hK=> ?_
      go_simp
      go_at_call 62
      refine(HNM.out _).mono ?_;rintro e w5 ⟨rfl,hb5⟩;have hb5z:=hbz.trans (hb5.mono hbz.size);refine zk hK (by exact HK4.out _ hb5z) (fun hHeld=> ?_);clear hK K
      refine zR 5 fun K hK=> ?_
      go_simp
      go_at_call 64
      refine(HJ.out _ hb5z).mono ?_;rintro e w6 ⟨b1,b2,b3,d1,d2,d3,ry,rfl,hs6,hb6⟩;unfold Ad Ag;have hb7:=hb5z.trans (hb6.mono hb5z.size);refine zk hK (by exact HK4.out _ hb7) (fun hHeld=> ?_);clear hK K
      refine zH 6 ?_;refine zH 7 ?_;refine zH 8 ?_;refine zH 9 ?_;have hbk7:=(hbk.below hb5 hbk.lt).below hb6 (Nat.lt_of_lt_of_le hbk.lt hb5.size);have hc:=Af hbk7;have hS8:=HK4.out _ (Al hb7 (zn _) (.slice b1 Y.ready.length d1) (.slice b2 Y.outs.length d2) (.slice b3 Y.ae.length d3) (.int .i64 Y.ah) (.int .i64 Y.af) (.int .i64 Y.aw) (.int .i64 Y.ar) (.int .i64 Y.dropped));refine zR 11 fun K hK=> ?_
      go_simp
      refine zk hK (by exact hS8) (fun hHeld=> ?_);clear hK K
      refine zH 12 ?_;refine zH 13 ?_;refine zx ?_;go_wp2_with fail
      go_meet
      exact An1 (hs6.wider hb5z.size) (zn _) hbk7 (zn _) hb7
    case rest=>
     obtain⟨g,b1,b2,b3,d1,d2,d3,ry,rfl,rfl,rfl,hg,hkb,hs,hbb⟩:=hcut;unfold Ag at hkb;have HKB:=zh hkb;have HSY:=zh hs;have HBA:=zm HB4 hbb;have HGB:Hid (w.heap.size+1+1 < g):=zh (by have:=HB4.out.size;have:=HLT0.out;omega);clear hkb hs hbb hg HK4 HJ HNM;go_upto_region 26 with fail
     have HN1:=zh (I9 N HNS.out);have HKY:=zh (fun V (hV:wc.grownBy V (some (w.heap.size+1+1)))=>Hm (HKB.out.grown hV (fun e=>by simp at e;have:=HGB.out;omega)));refine Jq HKY (by kernel_rfl) (fun hHeld=> ?_);refine zH 0 ?_;refine zH 1 ?_;refine zH 3 ?_;refine zR 2 fun K hK=> ?_
     go_simp
     go_at_call 19
     refine(HN1.out _).mono ?_;rintro e w6 ⟨rfl,hb6⟩
     replace hb6:=(zb wc.heap.size wc).drew.trans hb6
     have HB6w:=zh hb6;have HB6:=zm HBA hb6;clear hb6;refine zk hK (by exact HKY.out _ (Bs HB6w.out _)) (fun hHeld=> ?_);clear hK K
     have hc:=HC.out _ HB6.out;refine zR 4 fun K hK=> ?_
     go_simp
     refine zk hK (by exact HKY.out _ (Q9 (Bs HB6w.out _) _ _ _ _ _ _ _ _)) (fun hHeld=> ?_);clear hK K
     refine zH 5 ?_;refine zH 6 ?_;refine zx (NoPanic.normal ?_);go_wp2_with fail
     exact Al2 rfl rfl rfl rfl (HBZ.out _ HB6.out) HXT.out (HSY.out.kept (Ah.oqb (ts:=[]) HB6w.out))
  have z2:((bs op).toList == [106,111,105,110])=false:=by rw[Di];simpa [U7] using h2
  by_cases h3:op=O1
  ·have z3:((bs op).toList == [110,101,120,116])=true:=by rw[Di,h3];rfl
   have HXS:Hid (x=Jd p s rest):=zh (by rw[HX.out,h3];rfl);rw[Axp] at HXS;clear h3 HX;generalize wdA rest=nm at *;generalize wdC rest=two at *;generalize wdB rest=be at *
   cases two with
   |true=>
    have HX1:Hid (x.2.2=1):=zh (by rw[HXS.out,zp rfl]);have hc:=HC.out _ HB2.out;go_wp2_with fail
    exact Vl rfl rfl rfl rfl (HBZ.out _ HB2.out) HX1.out (by decide)
   |false=>
    have HXQ:=zh (HXS.out.trans (zq (by decide)));clear HXS;have HQN:=zh (fun W hW=>P7 p (bs nm) p1 p2 p3 q1 q2 q3 W hW HPS.out);rw[Di] at HQN;unfold Ay at HQN;generalize Cl p nm=k at *;have hc:=HC.out _ HB2.out;go_wp2_with fail
    refine(HQN.out _ (HBX.out _ HB2.out).1.bu).mono ?_;rintro e w4 ⟨rfl,hb4⟩;have HB4:=zm HB2 hb4;clear hb4 HQN;clear hc;have hc:=HC.out _ HB4.out;by_cases hk:k < 0
    ·have HX5:Hid (x.2.2=5):=zh (by rw[HXQ.out,zp hk])
     go_wp2_with fail
     exact Vl rfl rfl rfl rfl (HBZ.out _ HB4.out) HX5.out (by decide)
    have HXT:=zh (HXQ.out.trans (zq hk));have HF:=zh fun h=>Vj (p:=p) (s:=s) (q:=k) hr h;clear HXQ;go_wp2_with fail
    refine(Mm p s k p1 p2 p3 a1 a2 a3 q1 q2 q3 c1 c2 c3 rows w4 (HBX.out _ HB4.out).1.env (HBX.out _ HB4.out).1.bu HPS.out (HBX.out _ HB4.out).1.bc hr.small hr.ints).mono ?_;rintro e w5 ⟨b1,b2,b3,d1,d2,d3,ry,rfl,hs5,hb5⟩;have HS:=zh hs5;have HB5:=zm HB4 hb5;clear hc;clear hs5 hb5;generalize Bu p s k=Y at *;generalize Bj p s k=er at *;generalize Ch p s k=n at *;generalize Xd p s k=o at *;unfold Ad Ag;obtain⟨WA,hW1⟩:=zo (w5.alloc (.cells (zV Y b1 b2 b3 d1 d2 d3) 40));have HKB:=zh (zw hW1);have hba:=zu hW1
    have HBA:=zm HB5 hba;have HSY:=zh (HS.out.kept (Ah.oqb (ts:=[]) hba));go_upto_region 34 with fail
    try rw[hW1]
    have HGB:Hid (w.heap.size+1+1 < w5.heap.size):=zh (by have:=HB5.out.size;have:=HLT0.out;omega);clear hW1 hba;by_cases he:er=0
    ·subst he
     obtain⟨m,y,hm,hlm,hy,ho,htk,htg,hbd,hml⟩:=HF.out rfl;obtain⟨T,rfl⟩:=Int.eq_ofNat_of_zero_le htg.1;obtain⟨K,hK0⟩:=Int.eq_ofNat_of_zero_le htk.1;have hsl:=HSY.out.bc.1;obtain⟨gb,ob,hab,_,hgb,hcl⟩:=Bf (enc:=D6) (size:=8) (fun _=>rfl) (by decide) hsl.outs hm;rw[hy] at hcl;subst hab;obtain⟨o0,o1,o2,o3,o4,o5,o6,o7⟩:=Gd (x:=y) hcl;obtain⟨y0,y1,y2,y3,y4,y5,y6,y7⟩:=Hm HKB.out;rw[hlm] at y1;have hwr:wrap64 (((m+1:Nat):Int) - 1)=(m:Int):=by unfold wrap64;omega
     have hwr2:wrap64 (((m:Int)+1) - 1)=(m:Int):=by unfold wrap64;omega
     have hwr3:wrap64 (m:Int)=(m:Int):=by unfold wrap64;omega
     have hm1:(m:Int) < ((m+1:Nat):Int):=by omega
     have hm2:(m:Int) < (m:Int)+1:=by omega
     obtain⟨agn,hag⟩:=zo y.item.again;rw[hag] at o6;rw[hK0] at o1;obtain⟨WO,hWO⟩:=zo (WA.alloc (.cells #[.int .i64 y.tag,.int .i64 (K:Int),.int .i64 y.queue,.int .i64 y.item.seq,.string y.item.key,.string y.item.body,.bool agn,.int .i64 y.item.au] 115));have HKO:=zh (zw hWO);have hbo:=zu hWO
     have HBO:=zm HBA hbo;have HSO:=zh (HSY.out.kept (Ah.oqb (ts:=[]) hbo));have HKB2:=zh (HKB.out.below hbo HKB.out.lt);have HXG:Hid (w.heap.size+1+1 < WA.heap.size):=zh (by have:=HGB.out;have:=HKB.out.lt;omega);have HTK:Hid ((T:Int) < 1000000000000∧(K:Int) < 1000000000000∧y.item.body.size≤1048576):=zh ⟨htg.2,by omega,hbd⟩;have HO:Hid (o=Lib.decDigits T++32::Lib.decDigits K++32::(if y.item.again then [97,103,97,105,110] else [110,101,119])++32::y.item.body.data.toList):=zh (by
      rw[ho,hK0]
      show(Lib.itoa (T:Int)++32::Lib.itoa (K:Int))++_++_=_
      rw[Lib.itoa_nonneg,Lib.itoa_nonneg])
     rw[hag] at HO;have HK6:=zh (fun V (hV:WO.grownBy V (some (w.heap.size+1+1)))=>zi (Hm (HKB2.out.grown hV (fun e=>by simp at e;have:=HGB.out;omega))) (zi ((HKO.out.grown hV (fun e=>by simp at e;have:=HXG.out;omega)).cell 1) ((HKO.out.grown hV (fun e=>by simp at e;have:=HXG.out;omega)).cell 5)));simp only[zI,zJ,zK] at HK6;have x6:WO.cell? ⟨WA.heap.size,6,none⟩=some (.bool agn):=HKO.out.cell 6;have HD1:=zh (I9 T (by have:=HTK.out;omega));have HD2:=zh (I9 K (by have:=HTK.out;omega));have hT1:(bs (Lib.decDigits T)).size≤1000000000000:=by have:=Tx T;have:=HTK.out.1;rw[D7];omega
     have hK1:(bs (Lib.decDigits K)).size≤1000000000000:=by have:=Tx K;have:=HTK.out.2.1;rw[D7];omega
     have hB1:=HTK.out.2.2;obtain⟨B,hB0⟩:∃B:zN,(if agn then (⟨#[32,97,103,97,105,110,32]⟩:zN) else ⟨#[32,110,101,119,32]⟩)=B:=⟨_,rfl⟩;have hB2:B.size≤7:=by rw[←hB0];cases agn<;>decide
     have HOB:Hid (bs (Lib.decDigits T)++⟨#[32]⟩++bs (Lib.decDigits K)++B++y.item.body=bs o):=zh (by
      rw[HO.out,←hB0]
      apply ByteArray.ext
      cases agn<;>simp[ByteArray.data_append,bs])
     clear hag htk htg hbd ho hy hcl hm hml HO hK0 HTK HF hgb hbo;have s1:¬ 9223372036854775807 < (bs (Lib.decDigits T)).size+1:=by omega
     have s2:¬ 9223372036854775807 < (bs (Lib.decDigits T)).size+1+(bs (Lib.decDigits K)).size:=by omega
     have s3:¬ 9223372036854775807 < (bs (Lib.decDigits T)).size+1+(bs (Lib.decDigits K)).size+B.size:=by omega
     have s4:¬ 9223372036854775807 < (bs (Lib.decDigits T)).size+1+(bs (Lib.decDigits K)).size+B.size+y.item.body.size:=by omega
     go_upto_region 37 with fail
     try rw[hWO]
     clear hWO o0 o1 o2 o3 o4 o5 o6 o7 y0 y1 y2 y3 y4 y5 y6 y7 hwr hwr2 hwr3 hm1 hm2 hlm
     cases agn
     all_goals
      simp only[if_true,if_false,Bool.false_eq_true] at hB0;go_upto_region 40 with fail
      rw[hB0];clear hB0 x6;refine Jq HK6 (by kernel_rfl) (fun hHeld=> ?_);refine zH 0 ?_;refine zH 1 ?_;refine zH 4 ?_;refine zH 5 ?_;refine zH 8 ?_;refine zH 10 ?_;refine zH 11 ?_;refine zH 12 ?_;refine zR 2 fun K hK=> ?_
      go_simp
      go_at_call 19
      refine(HD1.out _).mono ?_;rintro e w6 ⟨rfl,hb6⟩
      replace hb6:=(zb WO.heap.size WO).drew.trans hb6
      refine zk hK (by exact HK6.out _ (Bs hb6 _)) (fun hHeld=> ?_);clear hK K
      refine zH 3 ?_;refine zR 6 fun K hK=> ?_
      go_simp
      go_at_call 19
      refine(HD2.out _).mono ?_;rintro e w7 ⟨rfl,hb7⟩
      replace hb7:=hb6.trans (hb7.mono hb6.size)
      have HB7w:=zh hb7;have HB7:=zm HBO hb7;clear hb6 hb7;refine zk hK (by exact HK6.out _ (Bs HB7w.out _)) (fun hHeld=> ?_);clear hK K
      refine zH 7 ?_;refine zH 9 ?_;refine zH 13 ?_;have hc:=HC.out _ HB7.out;refine zR 14 fun K hK=> ?_
      go_simp
      refine zk hK (by exact HK6.out _ (Q9 (Bs HB7w.out _) _ _ _ _ _ _ _ _)) (fun hHeld=> ?_);clear hK K
      refine zH 15 ?_;refine zH 16 ?_;refine zx (NoPanic.normal ?_);go_wp2_with fail
      rw[HOB.out];exact Al2 rfl rfl rfl rfl (HBZ.out _ HB7.out) HXT.out (HSO.out.kept (Ah.oqb (ts:=[]) HB7w.out))
    ·have HXE:Hid (x.2.2=er):=zh (by rw[HXT.out,Hf he])
     have HE:=zh he;have hne:(er != 0)=true:=by simp[he]
     clear he;have hc:=HC.out _ HBA.out;go_wp2_with fail
     exact Vl rfl rfl rfl rfl (HBZ.out _ HBA.out) HXE.out HE.out
  have z3:((bs op).toList == [110,101,120,116])=false:=by rw[Di];simpa [O1] using h3
  by_cases h4:op=Po
  ·have z4:((bs op).toList == [108,101,97,118,101])=true:=by rw[Di,h4];rfl
   have HXS:Hid (x=if Dp rest < 0 then (s,[],1) else Ew s (De p s (Dp rest)) wOk (Bv p s (Dp rest))):=zh (by rw[HX.out,h4];rfl);have HNB:=zh (Aa1 rest);have HNM:=zh (fun W=>Lh (bs rest) (by omega) W);rw[Di] at HNM;clear HX h4;generalize Dp rest=m at *;go_wp2_with fail
   refine(HNM.out _).mono ?_;rintro e w3 ⟨rfl,hb3⟩;have HB3:=zm HB2 hb3;clear hb3;by_cases hm:m < 0
   ·have HX1:Hid (x.2.2=1):=zh (by rw[HXS.out,zp hm])
    have hc:=HC.out _ HB3.out;go_wp2_with fail
    exact Vl rfl rfl rfl rfl (HBZ.out _ HB3.out) HX1.out (by decide)
   have HXT:=zh (HXS.out.trans (zq hm));obtain⟨W5,hW5⟩:=zo (w3.alloc (.cells zO 40));have HK5:=zh (zw hW5);have HB5:=zh (show Below W0.heap.size W0 W5 by rw[←hW5];exact HB3.out.alloc HB3.out.size _);have HGB:Hid (w.heap.size+1+1 < w3.heap.size):=zh (by have:=HB3.out.size;have:=HLT0.out;omega);go_upto_region 52 with fail
   try rw[hW5]
   clear hW5 HXS;have hck:=HBX.out _ HB5.out;have HK:=zh (fun V (hV:W5.grownBy V (some w3.heap.size))=>Ra hck.1 hV (by have:=HGB.out;omega));clear hck;refine Jq HK (by kernel_rfl) (fun hHeld=> ?_);refine zH 0 ?_;refine zH 1 ?_;refine zH 2 ?_;refine zR 3 fun K hK=> ?_
   go_simp
   go_at_call 62
   refine(HNM.out _).mono ?_;rintro e w6 ⟨rfl,hb6⟩
   replace hb6:=(zb W5.heap.size W5).drew.trans hb6
   refine zk hK (by exact HK.out _ (Bs hb6 _)) (fun hHeld=> ?_);clear hK K
   refine zR 4 fun K hK=> ?_
   go_simp
   go_at_call 66
   have hc6:=(HBX.out _ (HB5.out.trans (hb6.mono HB5.out.size))).1;refine(Vq p s m HNB.out p1 p2 p3 a1 a2 a3 q1 q2 q3 c1 c2 c3 rows w6 hc6.env hc6.bu HPS.out hc6.bc hr.small hr.ints).mono ?_;rintro e w7 ⟨b1,b2,b3,d1,d2,d3,ry,rfl,hs7,hb7⟩
   replace hb7:=hb6.trans (hb7.mono hb6.size)
   have HS7:=zh hs7;have HB7w:=zh hb7;have HB7:=zm HB5 hb7;clear hs7 hb6 hb7 hc6;unfold Ad Ag;refine zk hK (by exact HK.out _ (Bs HB7w.out _)) (fun hHeld=> ?_);clear hK K
   generalize De p s m=Y at *;generalize Bv p s m=er at *;refine zH 5 ?_;refine zH 6 ?_;refine zH 7 ?_;have HZ7:=zh (HK5.out.below HB7w.out HK5.out.lt);have hc:=Af HZ7.out;refine zR 8 fun K hK=> ?_
   go_simp
   refine zk hK (by exact HK.out _ (Q9 (Bs HB7w.out _) _ _ _ _ _ _ _ _)) (fun hHeld=> ?_);clear hK K
   refine zH 9 ?_;refine zx (NoPanic.normal ?_);clear hc;generalize h8:World.setCell _ _ _=W8;have HK8:=zh (h8▸Ph HZ7.out _ _ _ _ _ _ _ _:Bk W8 w3.heap.size 40 (zV Y b1 b2 b3 d1 d2 d3));have HS8:=zh (h8▸HS7.out.kept (Ah.dg HZ7.out (ts:=[40]) (by decide) _ _ _ _ _ _ _ _):Ca W8 _ _ _ _ ry Y);have HB8:Hid (Below W0.heap.size W0 W8):=zh (h8▸Al HB7.out (show W0.heap.size≤w3.heap.size from HB3.out.size) _ _ _ _ _ _ _ _);clear h8;have hc:=HC.out _ HB8.out;have hy:=Hm HK8.out;have hgt:=HK8.out.lt;go_wp2_with fail
   exact Al2 (o:=wOk) rfl rfl rfl rfl (HBZ.out _ HB8.out) HXT.out HS8.out
  have z4:((bs op).toList == [108,101,97,118,101])=false:=by rw[Di];simpa [Po] using h4
  by_cases h5:op=Adw
  ·have z5:((bs op).toList == [97,99,107])=true:=by rw[Di,h5];rfl
   have HXS:Hid (x=if Dp rest < 0 then (s,[],1) else Ew s (Gy p s (Dp rest)) wOk (Df p s (Dp rest))):=zh (by rw[HX.out,h5];rfl);have HNB:=zh (Aa1 rest);have HNM:=zh (fun W=>Lh (bs rest) (by omega) W);rw[Di] at HNM;clear HX h5;generalize Dp rest=m at *;go_wp2_with fail
   refine(HNM.out _).mono ?_;rintro e w3 ⟨rfl,hb3⟩;have HB3:=zm HB2 hb3;clear hb3;by_cases hm:m < 0
   ·have HX1:Hid (x.2.2=1):=zh (by rw[HXS.out,zp hm])
    have hc:=HC.out _ HB3.out;go_wp2_with fail
    exact Vl rfl rfl rfl rfl (HBZ.out _ HB3.out) HX1.out (by decide)
   have HXT:=zh (HXS.out.trans (zq hm));obtain⟨W5,hW5⟩:=zo (w3.alloc (.cells zO 40));have HK5:=zh (zw hW5);have HB5:=zh (show Below W0.heap.size W0 W5 by rw[←hW5];exact HB3.out.alloc HB3.out.size _);have HGB:Hid (w.heap.size+1+1 < w3.heap.size):=zh (by have:=HB3.out.size;have:=HLT0.out;omega);go_upto_region 54 with fail
   try rw[hW5]
   clear hW5 HXS;have hck:=HBX.out _ HB5.out;have HK:=zh (fun V (hV:W5.grownBy V (some w3.heap.size))=>Ra hck.1 hV (by have:=HGB.out;omega));clear hck;refine Jq HK (by kernel_rfl) (fun hHeld=> ?_);refine zH 0 ?_;refine zH 1 ?_;refine zH 2 ?_;refine zR 3 fun K hK=> ?_
   go_simp
   go_at_call 62
   refine(HNM.out _).mono ?_;rintro e w6 ⟨rfl,hb6⟩
   replace hb6:=(zb W5.heap.size W5).drew.trans hb6
   refine zk hK (by exact HK.out _ (Bs hb6 _)) (fun hHeld=> ?_);clear hK K
   refine zR 4 fun K hK=> ?_
   go_simp
   go_at_call 67
   have hc6:=(HBX.out _ (HB5.out.trans (hb6.mono HB5.out.size))).1;refine(Xw p s m p1 p2 p3 a1 a2 a3 q1 q2 q3 c1 c2 c3 rows w6 hc6.env hc6.bu HPS.out hc6.bc hr.small hr.ints HCAP.out).mono ?_;rintro e w7 ⟨b1,b2,b3,d1,d2,d3,ry,rfl,hs7,hb7⟩
   replace hb7:=hb6.trans (hb7.mono hb6.size)
   have HS7:=zh hs7;have HB7w:=zh hb7;have HB7:=zm HB5 hb7;clear hs7 hb6 hb7 hc6;unfold Ad Ag;refine zk hK (by exact HK.out _ (Bs HB7w.out _)) (fun hHeld=> ?_);clear hK K
   generalize Gy p s m=Y at *;generalize Df p s m=er at *;refine zH 5 ?_;refine zH 6 ?_;refine zH 7 ?_;have HZ7:=zh (HK5.out.below HB7w.out HK5.out.lt);have hc:=Af HZ7.out;refine zR 8 fun K hK=> ?_
   go_simp
   refine zk hK (by exact HK.out _ (Q9 (Bs HB7w.out _) _ _ _ _ _ _ _ _)) (fun hHeld=> ?_);clear hK K
   refine zH 9 ?_;refine zx (NoPanic.normal ?_);clear hc;generalize h8:World.setCell _ _ _=W8;have HK8:=zh (h8▸Ph HZ7.out _ _ _ _ _ _ _ _:Bk W8 w3.heap.size 40 (zV Y b1 b2 b3 d1 d2 d3));have HS8:=zh (h8▸HS7.out.kept (Ah.dg HZ7.out (ts:=[40]) (by decide) _ _ _ _ _ _ _ _):Ca W8 _ _ _ _ ry Y);have HB8:Hid (Below W0.heap.size W0 W8):=zh (h8▸Al HB7.out (show W0.heap.size≤w3.heap.size from HB3.out.size) _ _ _ _ _ _ _ _);clear h8;have hc:=HC.out _ HB8.out;have hy:=Hm HK8.out;have hgt:=HK8.out.lt;go_wp2_with fail
   exact Al2 (o:=wOk) rfl rfl rfl rfl (HBZ.out _ HB8.out) HXT.out HS8.out
  have z5:((bs op).toList == [97,99,107])=false:=by rw[Di];simpa [Adw] using h5
  by_cases h6:op=Rw
  ·have z6:((bs op).toList == [98,97,99,107])=true:=by rw[Di,h6];rfl
   have HXS:Hid (x=if Dp rest < 0 then (s,[],1) else Ew s (Cb p s (Dp rest) true) wOk (Az p s (Dp rest))):=zh (by rw[HX.out,h6];rfl);have HNB:=zh (Aa1 rest);have HNM:=zh (fun W=>Lh (bs rest) (by omega) W);rw[Di] at HNM;clear HX h6;generalize Dp rest=m at *;go_wp2_with fail
   refine(HNM.out _).mono ?_;rintro e w3 ⟨rfl,hb3⟩;have HB3:=zm HB2 hb3;clear hb3;by_cases hm:m < 0
   ·have HX1:Hid (x.2.2=1):=zh (by rw[HXS.out,zp hm])
    have hc:=HC.out _ HB3.out;go_wp2_with fail
    exact Vl rfl rfl rfl rfl (HBZ.out _ HB3.out) HX1.out (by decide)
   have HXT:=zh (HXS.out.trans (zq hm));obtain⟨W5,hW5⟩:=zo (w3.alloc (.cells zO 40));have HK5:=zh (zw hW5);have HB5:=zh (show Below W0.heap.size W0 W5 by rw[←hW5];exact HB3.out.alloc HB3.out.size _);have HGB:Hid (w.heap.size+1+1 < w3.heap.size):=zh (by have:=HB3.out.size;have:=HLT0.out;omega);go_upto_region 50 with fail
   try rw[hW5]
   clear hW5 HXS;have hck:=HBX.out _ HB5.out;have HK:=zh (fun V (hV:W5.grownBy V (some w3.heap.size))=>Ra hck.1 hV (by have:=HGB.out;omega));clear hck;refine Jq HK (by kernel_rfl) (fun hHeld=> ?_);refine zH 0 ?_;refine zH 1 ?_;refine zH 2 ?_;refine zH 4 ?_;refine zH 5 ?_;refine zR 3 fun K hK=> ?_
   go_simp
   go_at_call 62
   refine(HNM.out _).mono ?_;rintro e w6 ⟨rfl,hb6⟩
   replace hb6:=(zb W5.heap.size W5).drew.trans hb6
   refine zk hK (by exact HK.out _ (Bs hb6 _)) (fun hHeld=> ?_);clear hK K
   refine zR 6 fun K hK=> ?_
   go_simp
   go_at_call 68
   have hc6:=(HBX.out _ (HB5.out.trans (hb6.mono HB5.out.size))).1;refine(Mf p s m true p1 p2 p3 a1 a2 a3 q1 q2 q3 c1 c2 c3 rows w6 hc6.env hc6.bu HPS.out hc6.bc hr.small hr.ints HCAP.out).mono ?_;rintro e w7 ⟨b1,b2,b3,d1,d2,d3,ry,rfl,hs7,hb7⟩
   replace hb7:=hb6.trans (hb7.mono hb6.size)
   have HS7:=zh hs7;have HB7w:=zh hb7;have HB7:=zm HB5 hb7;clear hs7 hb6 hb7 hc6;unfold Ad Ag;refine zk hK (by exact HK.out _ (Bs HB7w.out _)) (fun hHeld=> ?_);clear hK K
   generalize Cb p s m true=Y at *;generalize Az p s m=er at *;refine zH 7 ?_;refine zH 8 ?_;refine zH 9 ?_;have HZ7:=zh (HK5.out.below HB7w.out HK5.out.lt);have hc:=Af HZ7.out;refine zR 10 fun K hK=> ?_
   go_simp
   refine zk hK (by exact HK.out _ (Q9 (Bs HB7w.out _) _ _ _ _ _ _ _ _)) (fun hHeld=> ?_);clear hK K
   refine zH 11 ?_;refine zx (NoPanic.normal ?_);clear hc;generalize h8:World.setCell _ _ _=W8;have HK8:=zh (h8▸Ph HZ7.out _ _ _ _ _ _ _ _:Bk W8 w3.heap.size 40 (zV Y b1 b2 b3 d1 d2 d3));have HS8:=zh (h8▸HS7.out.kept (Ah.dg HZ7.out (ts:=[40]) (by decide) _ _ _ _ _ _ _ _):Ca W8 _ _ _ _ ry Y);have HB8:Hid (Below W0.heap.size W0 W8):=zh (h8▸Al HB7.out (show W0.heap.size≤w3.heap.size from HB3.out.size) _ _ _ _ _ _ _ _);clear h8;have hc:=HC.out _ HB8.out;have hy:=Hm HK8.out;have hgt:=HK8.out.lt;go_wp2_with fail
   exact Al2 (o:=wOk) rfl rfl rfl rfl (HBZ.out _ HB8.out) HXT.out HS8.out
  have z6:((bs op).toList == [98,97,99,107])=false:=by rw[Di];simpa [Rw] using h6
  by_cases h7:op=Xt
  ·have z7:((bs op).toList == [100,114,111,112])=true:=by rw[Di,h7];rfl
   have HXS:Hid (x=if Dp rest < 0 then (s,[],1) else Ew s (Cb p s (Dp rest) false) wOk (Az p s (Dp rest))):=zh (by rw[HX.out,h7];rfl);have HNB:=zh (Aa1 rest);have HNM:=zh (fun W=>Lh (bs rest) (by omega) W);rw[Di] at HNM;clear HX h7;generalize Dp rest=m at *;go_wp2_with fail
   refine(HNM.out _).mono ?_;rintro e w3 ⟨rfl,hb3⟩;have HB3:=zm HB2 hb3;clear hb3;by_cases hm:m < 0
   ·have HX1:Hid (x.2.2=1):=zh (by rw[HXS.out,zp hm])
    have hc:=HC.out _ HB3.out;go_wp2_with fail
    exact Vl rfl rfl rfl rfl (HBZ.out _ HB3.out) HX1.out (by decide)
   have HXT:=zh (HXS.out.trans (zq hm));obtain⟨W5,hW5⟩:=zo (w3.alloc (.cells zO 40));have HK5:=zh (zw hW5);have HB5:=zh (show Below W0.heap.size W0 W5 by rw[←hW5];exact HB3.out.alloc HB3.out.size _);have HGB:Hid (w.heap.size+1+1 < w3.heap.size):=zh (by have:=HB3.out.size;have:=HLT0.out;omega);go_upto_region 50 with fail
   try rw[hW5]
   clear hW5 HXS;have hck:=HBX.out _ HB5.out;have HK:=zh (fun V (hV:W5.grownBy V (some w3.heap.size))=>Ra hck.1 hV (by have:=HGB.out;omega));clear hck;refine Jq HK (by kernel_rfl) (fun hHeld=> ?_);refine zH 0 ?_;refine zH 1 ?_;refine zH 2 ?_;refine zH 4 ?_;refine zH 5 ?_;refine zR 3 fun K hK=> ?_
   go_simp
   go_at_call 62
   refine(HNM.out _).mono ?_;rintro e w6 ⟨rfl,hb6⟩
   replace hb6:=(zb W5.heap.size W5).drew.trans hb6
   refine zk hK (by exact HK.out _ (Bs hb6 _)) (fun hHeld=> ?_);clear hK K
   refine zR 6 fun K hK=> ?_
   go_simp
   go_at_call 68
   have hc6:=(HBX.out _ (HB5.out.trans (hb6.mono HB5.out.size))).1;refine(Mf p s m false p1 p2 p3 a1 a2 a3 q1 q2 q3 c1 c2 c3 rows w6 hc6.env hc6.bu HPS.out hc6.bc hr.small hr.ints HCAP.out).mono ?_;rintro e w7 ⟨b1,b2,b3,d1,d2,d3,ry,rfl,hs7,hb7⟩
   replace hb7:=hb6.trans (hb7.mono hb6.size)
   have HS7:=zh hs7;have HB7w:=zh hb7;have HB7:=zm HB5 hb7;clear hs7 hb6 hb7 hc6;unfold Ad Ag;refine zk hK (by exact HK.out _ (Bs HB7w.out _)) (fun hHeld=> ?_);clear hK K
   generalize Cb p s m false=Y at *;generalize Az p s m=er at *;refine zH 7 ?_;refine zH 8 ?_;refine zH 9 ?_;have HZ7:=zh (HK5.out.below HB7w.out HK5.out.lt);have hc:=Af HZ7.out;refine zR 10 fun K hK=> ?_
   go_simp
   refine zk hK (by exact HK.out _ (Q9 (Bs HB7w.out _) _ _ _ _ _ _ _ _)) (fun hHeld=> ?_);clear hK K
   refine zH 11 ?_;refine zx (NoPanic.normal ?_);clear hc;generalize h8:World.setCell _ _ _=W8;have HK8:=zh (h8▸Ph HZ7.out _ _ _ _ _ _ _ _:Bk W8 w3.heap.size 40 (zV Y b1 b2 b3 d1 d2 d3));have HS8:=zh (h8▸HS7.out.kept (Ah.dg HZ7.out (ts:=[40]) (by decide) _ _ _ _ _ _ _ _):Ca W8 _ _ _ _ ry Y);have HB8:Hid (Below W0.heap.size W0 W8):=zh (h8▸Al HB7.out (show W0.heap.size≤w3.heap.size from HB3.out.size) _ _ _ _ _ _ _ _);clear h8;have hc:=HC.out _ HB8.out;have hy:=Hm HK8.out;have hgt:=HK8.out.lt;go_wp2_with fail
   exact Al2 (o:=wOk) rfl rfl rfl rfl (HBZ.out _ HB8.out) HXT.out HS8.out
  have z7:((bs op).toList == [100,114,111,112])=false:=by rw[Di];simpa [Xt] using h7
  have HX1:Hid (x.2.2=1):=zh (by rw[HX.out];unfold opL;rw[zq h1,zq h2,zq h3,zq (by simp[h4,h5,h6,h7])]);clear HX h1 h2 h3 h4 h5 h6 h7;have hc:=HC.out _ HB2.out;go_wp2_with fail
  exact Vl rfl rfl rfl rfl (HBZ.out _ HB2.out) HX1.out (by decide)
end Go.Proofs.YtpkneogjdfolaaaGreatDoor
