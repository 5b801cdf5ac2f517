/- Lemmas. -/
import Derived.Test.YtpkneogjdfolaaaGreatDoorBunKF
import Derived.Test.YtpkneogjdfolaaaGreatDoorBunKG
set_option maxHeartbeats 20000000
set_option maxRecDepth 100000
set_option linter.unusedSimpArgs false
set_option linter.unusedVariables false
namespace Go.Proofs.YtpkneogjdfolaaaGreatDoor
open Go Go.RowKit
def M7:List UInt8→List UInt8→List UInt8
 |acc,[]=>acc
 |acc,b::r=>if b=10 then M7 [] r else M7 (acc++[b]) r
theorem Ub:∀(l acc:List UInt8)(b:UInt8),M7 acc (l++[b])=(if b=10 then [] else M7 acc l++[b])∧Hz acc (l++[b])=if b=10 then Hz acc l++[M7 acc l] else Hz acc l
 | [],acc,b=>by
  unfold M7 Hz
  split<;>simp_all [M7,Hz]
 |c::l,acc,b=>by
  have h1:=Ub l [] b;have h2:=Ub l (acc++[c]) b;simp only[List.cons_append,M7,Hz];by_cases hc:c=10
  ·simp only[zp hc]
   refine⟨h1.1,?_⟩;rw[h1.2]
   split<;>rfl
  ·simp only[zq hc]
   exact h2
theorem Yo:∀(l acc:List UInt8),(Hz acc l).length≤l.length
 | [],acc=>zn _
 |b::l,acc=>by
  unfold Hz
  split
  ·have:=Yo l []
   simp only[List.length_cons];omega
  ·have:=Yo l (acc++[b])
   simp only[List.length_cons];omega
def rsA(p:Ab)(t:zN)(k:Nat):Aa×List UInt8:=runs p ((Hz [] (t.toList.take k)).map fun l=>bs (l++[10]))
theorem Xs{t:zN}{k:Nat}(h:k < t.size):t.toList.take (k+1)=t.toList.take k++[t[k]]:=by
 have hl:k < t.toList.length:=by rw[Eo];exact h
 have hk:t.toList[k]=t[k]:=by
  have:=Sy h;rw[zG hl] at this;exact Option.some.inj this
 rw[zj hl,hk]
theorem Azt(p:Ab){t:zN}{k:Nat}(h:k < t.size)(hb:t[k]=10):M7 [] (t.toList.take (k+1))=[]∧rsA p t (k+1)=Aum p (rsA p t k) (M7 [] (t.toList.take k)):=by
 obtain⟨h1,h2⟩:=Ub (t.toList.take k) [] 10;unfold rsA;rw[Xs h,hb,h1,h2,zp rfl,zp rfl,List.map_append,List.map_cons,List.map_nil,Yw,Ahi];exact⟨rfl,rfl⟩
theorem Axj(p:Ab){t:zN}{k:Nat}(h:k < t.size)(hb:¬ t[k]=10):M7 [] (t.toList.take (k+1))=M7 [] (t.toList.take k)++[t[k]]∧rsA p t (k+1)=rsA p t k:=by
 obtain⟨h1,h2⟩:=Ub (t.toList.take k) [] t[k];unfold rsA;rw[Xs h,h1,h2,zq hb,zq hb];exact⟨rfl,rfl⟩
theorem Azs(p:Ab)(t:zN):(rsA p t t.size).2=Oz p (B5 p) (Hz [] t.toList):=by
 unfold rsA runs;rw[List.take_of_length_le (by rw[Eo];exact zn _),List.map_map,Acr]
 show []++Oz p (B5 p) _=_
 rw[List.nil_append]
 conv=>rhs;rw[←List.map_id (Hz [] t.toList)]
 exact congrArg _ (List.map_congr_left fun x _=>Ahi x)
theorem Axi{p:Ab}(h:Bw p (B5 p))(t:zN){k:Nat}(hk:k≤4096):Bw p (rsA p t k).1∧(rsA p t k).2.length≤549755817984:=by
 have:=Acs h ((Hz [] (t.toList.take k)).map fun l=>bs (l++[10]));refine⟨this.1,zr this.2 ?_⟩;have h1:=Yo (t.toList.take k) [];rw[List.length_map];rw[List.length_take] at h1;omega
theorem Aqp{s n:Aa}{o:List UInt8}{e:Int}(h:(Ew s n o e).2.2≠0):(Ew s n o e).1=s:=by
 unfold Ew at h⊢
 split
 ·rename_i h0;rw[zp h0] at h;exact absurd rfl h
 ·rfl
theorem Apy{p:Ab}{s:Aa}{l:List UInt8}(h:(Ee p s l).2.2≠0):(Ee p s l).1=s:=by
 have key:∀x:Told,(x.1=s∨∃n o e,x=Ew s n o e)→x.2.2≠0→x.1=s:=by
  rintro x (h|⟨n,o,e,rfl⟩) h0
  ·exact h
  ·exact Aqp h0
 refine key _ ?_ h;unfold Ee
 split
 ·exact .inl rfl
 split
 ·exact .inl rfl
 split
 ·exact .inl rfl
 unfold opL
 split
 ·unfold Lw
  split
  ·exact .inl rfl
  split
  ·exact .inl rfl
  split
  ·exact .inl rfl
  ·exact .inr ⟨_,_,_,rfl⟩
 split
 ·unfold Ld
  split
  ·exact .inl rfl
  split
  ·exact .inl rfl
  split
  ·exact .inl rfl
  ·exact .inr ⟨_,_,_,rfl⟩
 split
 ·unfold Jd
  split
  ·exact .inl rfl
  split
  ·exact .inl rfl
  ·exact .inr ⟨_,_,_,rfl⟩
 split
 ·split
  ·exact .inl rfl
  split
  ·exact .inr ⟨_,_,_,rfl⟩
  split
  ·exact .inr ⟨_,_,_,rfl⟩
  ·exact .inr ⟨_,_,_,rfl⟩
 ·exact .inl rfl
def Az4(t:zN)(w:zW)(c i:Value)(wr:zW):Prop:=
 ∃k ct:Nat,k≤t.size∧ct≤61∧i= .int .i64 k∧c= .int .i64 ct∧ct=(t.toList.take k).count 10∧wr=w
theorem Ay2{t:zN}{k:Nat}(h:k < t.size)(hb:t[k]=10):(t.toList.take (k+1)).count (10:UInt8)=(t.toList.take k).count (10:UInt8)+1:=by
 rw[Xs h,hb,List.count_append];rfl
theorem Av3{t:zN}{k:Nat}(h:k < t.size)(hb:¬ t[k]=10):(t.toList.take (k+1)).count (10:UInt8)=(t.toList.take k).count (10:UInt8):=by
 rw[Xs h,List.count_append,List.count_eq_zero_of_not_mem (l:=[t[k]]) (by simpa using fun e=>hb e.symm),Nat.add_zero]
def Axt(p:Ab)(t:zN)(g:Nat)(W0:zW)(o f i:Value)(wr:zW):Prop:=
 ∃(k fr:Nat)(c1 c2 c3:zZ)(d1 d2 d3:Nat)(rows:List Bm),k≤t.size∧fr≤k∧i= .int .i64 k∧f= .int .i64 fr∧o= .string (bs (rsA p t k).2)∧M7 [] (t.toList.take k)=(t.toList.take k).drop fr∧
  Bk wr g 40 (Ag (rsA p t k).1 c1 c2 c3 d1 d2 d3)∧Ca wr 0 (.slice c1 (rsA p t k).1.ready.length d1) (.slice c2 (rsA p t k).1.outs.length d2) (.slice c3 (rsA p t k).1.ae.length d3) rows (rsA p t k).1∧Below W0.heap.size W0 wr
def A0m(x:Told)(wr:zW)(b o e:Value)(wx:zW):Prop:=
 ∃(g:Nat)(n:Aa)(b1 b2 b3:zZ)(d1 d2 d3:Nat)(rows:List Bm)(out:zN),b=zt g∧o= .string out∧e= .int .i64 x.2.2∧wr.heap.size≤g∧Bk wx g 40 (Ag n b1 b2 b3 d1 d2 d3)∧Below wr.heap.size wr wx∧
  (x.2.2=0→n=x.1∧out=bs x.2.1∧Ca wx 0 (.slice b1 n.ready.length d1) (.slice b2 n.outs.length d2) (.slice b3 n.ae.length d3) rows n)
theorem Akx(p:Ab)(p1 p2 p3:zZ)(q1 q2 q3:Nat)(t:zN)(ht:t.size≤1048576)(w:zW)(hE:Env w)(hp:Au w 0 w.heap.size p1 p2 p3 p)(hps:Ai p):
  Calls Tryz.prog 5 #[Ay p p1 p2 p3 q1 q2 q3,.string t] w (Afz p t w):=by
 have HEV:=zh hE;clear hE;have hbx:=Gm hp q1 q2 q3 26;have HS:=zh hps;unfold Ay;clear hp hps;obtain⟨W1,hW1⟩:=zo (w.alloc (.cells (zP p p1 p2 p3 q1 q2 q3) 26));rw[hW1] at hbx;have HBX:=zh hbx;obtain⟨_,⟨m0,m1,m2⟩,_⟩:=hbx W1 (zb _ _);have HCK:=zh (G2 p p1 p2 p3 q1 q2 q3 0 W1 (hbx W1 (zb _ _)).1 HS.out);unfold Ay at HCK;have HE2:Hid ((Bc p=0∧(4096 < t.size∨60 < t.toList.count 10))→Kt p t=⟨#[]⟩∧D2 p t=2):=zh fun h=>by
  rw[ByteArray.toList_eq] at h;have h1:D2 p t=2:=by
   unfold D2;rw[zq (by rw[h.1];decide),zp h.2]
  refine⟨?_,h1⟩;unfold Kt;rw[zq (by rw[h1];decide)];rfl
 clear hbx;go_enter Tryz.func5,Tryz.ntmps5
 go_wp2_with fail
 try rw[hW1]
 clear hW1;refine HCK.out.mono ?_;rintro e w2 ⟨rfl,hb2⟩;have HB1:=zh hb2;have HB2:=zh (HBX.out _ hb2).2.2;clear hb2 HCK m0 m1 m2;by_cases hc:Bc p=0
 ·have HC:=zh hc
  rw[hc];clear hc;go_wp2_with fail
  go_loopw [7,8] (fun c i wr=>Az4 t w2 c i wr) (fun _ i _=>t.size - (intOf i).toNat)
  case atStart=>exact⟨0,0,Nat.zero_le _,Nat.zero_le _,rfl,rfl,rfl,rfl⟩
  case round=>
   obtain⟨k,ct,hk,h61,rfl,rfl,hct,rfl⟩:=hrel;have HCT:=zh hct;clear hct;by_cases hlt:k < t.size
   ·by_cases hle:ct≤60
    ·have hleI:(ct:Int)≤60:=by omega
     have hltI:(k:Int) < (t.size:Int):=by omega
     by_cases hb:t[k]=10
     ·have hb':(t[k].toNat:Int)=10:=by rw[hb];rfl
      have HQ:Hid (ct+1=(t.toList.take (k+1)).count 10):=zh (by rw[Ay2 hlt hb,HCT.out]);clear hb;go_wp2_with fail
      exact⟨⟨k+1,ct+1,hlt,by omega,by go_num,by go_num,HQ.out,rfl⟩,by simp[intOf];omega⟩
     ·have hb':¬ (t[k].toNat:Int)=10:=fun h=>hb (UInt8.toNat_inj.1 (by simpa using(by omega:t[k].toNat=10)))
      have HQ:Hid (ct=(t.toList.take (k+1)).count 10):=zh (by rw[Av3 hlt hb,HCT.out]);clear hb;go_wp2_with fail
      exact⟨⟨k+1,ct,hlt,h61,by go_num,rfl,HQ.out,rfl⟩,by simp[intOf];omega⟩
    ·have hltI:(k:Int) < (t.size:Int):=by omega
     have hleI:¬ (ct:Int)≤60:=by omega
     have hgtI:(60:Int) < (ct:Int):=by omega
     have HBIG:Hid (Bc p=0∧(4096 < t.size∨60 < t.toList.count 10)):=zh ⟨HC.out,.inr (Nat.lt_of_lt_of_le (by rw[←HCT.out];omega) (List.Sublist.count_le 10 (List.take_sublist k t.toList)))⟩;by_cases h4:(4096:Int) < (t.size:Int)
     ·go_wp2_with fail
      refine bodyPost_ret (v:= .tuple #[.string ⟨#[]⟩,.int .i64 2]) (by simp[results,Tryz.results5,go_sem]) rfl ?_;exact⟨by rw[(HE2.out HBIG.out).1,(HE2.out HBIG.out).2],HB2.out⟩
     ·go_wp2_with fail
      refine bodyPost_ret (v:= .tuple #[.string ⟨#[]⟩,.int .i64 2]) (by simp[results,Tryz.results5,go_sem]) rfl ?_;exact⟨by rw[(HE2.out HBIG.out).1,(HE2.out HBIG.out).2],HB2.out⟩
   ·obtain rfl:k=t.size:=by omega
    have HCT:Hid (ct=t.toList.count 10):=zh (by rw[HCT.out,List.take_of_length_le (by rw[Eo];exact zn _)]);by_cases h4:(4096:Int) < (t.size:Int)
    ·have HBIG:Hid (Bc p=0∧(4096 < t.size∨60 < t.toList.count 10)):=zh ⟨HC.out,.inl (by omega)⟩
     go_wp2_with fail
     refine bodyPost_ret (v:= .tuple #[.string ⟨#[]⟩,.int .i64 2]) (by simp[results,Tryz.results5,go_sem]) rfl ?_;exact⟨by rw[(HE2.out HBIG.out).1,(HE2.out HBIG.out).2],HB2.out⟩
    by_cases h60:(60:Int) < (ct:Int)
    ·have HBIG:Hid (Bc p=0∧(4096 < t.size∨60 < t.toList.count 10)):=zh ⟨HC.out,.inr (by rw[←HCT.out];omega)⟩
     go_wp2_with fail
     refine bodyPost_ret (v:= .tuple #[.string ⟨#[]⟩,.int .i64 2]) (by simp[results,Tryz.results5,go_sem]) rfl ?_;exact⟨by rw[(HE2.out HBIG.out).1,(HE2.out HBIG.out).2],HB2.out⟩
    have HNB:Hid (¬ (4096 < t.size∨60 < t.toList.count 10)):=zh (by rw[←HCT.out];omega);clear HCT HE2;have HPE:Hid (∀e:Int,(if t.size≠0∧t.toList.getLast? ≠some 10 then 1 else 0)=e→D2 p t=e):=zh fun e he=>by
     rw[←he];have h1:=HNB.out;rw[ByteArray.toList_eq] at h1⊢;unfold D2;rw[zq (by rw[HC.out];decide),zq h1]
    go_upto_region 12 with fail
    go_cut [54] from 44 to 55 (fun v wx=>((v= .bool false∧D2 p t=0)∨(v= .bool true∧D2 p t=1))∧wx=wr)
    case first=>
     by_cases hz:t.size=0
     ·have hz':¬ (0:Int) < (t.size:Int):=by omega
      have HX:Hid (D2 p t=0):=zh (HPE.out _ (zq (fun h=>h.1 hz)));clear hz;go_wp2_with fail
      go_meet
      exact⟨.inl ⟨rfl,HX.out⟩,rfl⟩
     ·have hz':(0:Int) < (t.size:Int):=by omega
      have hmt:t.size - 1 < t.size:=by omega
      have HG:Hid (t.toList.getLast? =some t[t.size - 1]):=zh (by rw[List.getLast?_eq_getElem?,Eo,Sy hmt]);have HZ:=zh hz;have hwr:wrap64 ((t.size:Int) - 1)=((t.size - 1:Nat):Int):=by unfold wrap64;omega
      have hmi:((t.size - 1:Nat):Int) < (t.size:Int):=by omega
      clear hz;by_cases hb:t[t.size - 1]=10
      ·have hb':((t[t.size - 1].toNat:Int) != 10)=false:=by rw[hb];rfl
       have HX:Hid (D2 p t=0):=zh (HPE.out _ (zq (fun h=>h.2 (by rw[HG.out,hb]))));clear hb;go_wp2_with fail
       go_meet
       exact⟨.inl ⟨rfl,HX.out⟩,rfl⟩
      ·have hb':((t[t.size - 1].toNat:Int) != 10)=true:=by
        rw[bne_iff_ne];exact fun h=>hb (UInt8.toNat_inj.1 (by simpa using(by omega:t[t.size - 1].toNat=10)))
       have HX:Hid (D2 p t=1):=zh (HPE.out _ (zp ⟨HZ.out,by rw[HG.out];simpa using hb⟩));clear hb;go_wp2_with fail
       go_meet
       exact⟨.inr ⟨rfl,HX.out⟩,rfl⟩
    case rest=>
     obtain⟨⟨rfl,hr⟩|⟨rfl,hr⟩,rfl⟩:=hcut
     rotate_left
     ·have HR:=zh hr
      have HT:Hid (Kt p t=⟨#[]⟩):=zh (by unfold Kt;rw[zq (by rw[HR.out];decide)];rfl);go_wp2_with fail
      refine bodyPost_ret (v:= .tuple #[.string ⟨#[]⟩,.int .i64 1]) (by simp[results,Tryz.results5,go_sem]) rfl ?_;exact⟨by rw[HT.out,HR.out],HB2.out⟩
     ·have HR:=zh hr
      clear hr HPE;have hbx:=HBX.out _ HB1.out;obtain⟨m0,m1,m2⟩:=hbx.2.1;have HBG:=zh (Abf p p1 p2 p3 q1 q2 q3 wc (hbx.1.wider (zn _) HB1.out.size) HS.out);have HRB:=zh (Se HC.out);unfold Ay at HBG;clear hbx;go_wp2_with fail
      refine HBG.out.mono ?_;rintro e W3 ⟨a,c,rowsX,rfl,_,hb3,g0,rfl,hg0,rfl,hbk0⟩;have HB3:=zm HB1 hb3;have hh0:=Abp (lo:=0) (Nat.zero_le _) HS.out.ag hbk0;unfold Ad Ag;clear m0 m1 m2 HBG hb3 hbk0;obtain⟨W4,hW4⟩:=zo (W3.alloc (.cells #[.slice (some ⟨g0,0,none⟩) (B5 p).ready.length p.ag.length,.slice none (B5 p).outs.length 0,.slice none (B5 p).ae.length 0,.int .i64 (B5 p).ah,.int .i64 (B5 p).af,.int .i64 (B5 p).aw,.int .i64 (B5 p).ar,.int .i64 (B5 p).dropped] 40));have HI:Hid (Axt p t W3.heap.size W3 (.string ⟨#[]⟩) (.int .i64 0) (.int .i64 0) W4):=zh (by
       rw[←hW4];exact⟨0,0,some ⟨g0,0,none⟩,none,none,p.ag.length,0,0,Jr p,Nat.zero_le _,zn _,rfl,rfl,rfl,rfl,Bk.new _ _ _,hh0.kept (Ah.alloc [] _ _),(zb _ _).alloc (zn _) _⟩)
      clear hh0;go_upto_region 17 with fail
      try rw[hW4]
      clear hW4;have hts:t.size≤4096:=by have:=HNB.out;omega
      go_wp2_with fail
      go_loopw [10,11,12] (fun o f i wr=>Axt p t W3.heap.size W3 o f i wr) (fun _ _ i _=>t.size - (intOf i).toNat)
      case atStart=>exact HI.out
      case round=>
       obtain⟨k,fr,c1,c2,c3,d1,d2,d3,rows,hk,hfr,rfl,rfl,rfl,hpt,hbk,hhd,hB⟩:=hrel;have HB:=zh hB;have HBW:=zm HB3 hB;have HBK:=zh hbk;have HHD:=zh hhd;have HRG:=zh (Axi (t:=t) (k:=k) HRB.out (by omega));clear hbk hhd hB HI;by_cases hlt:k < t.size
       ·have HKL:=zh hlt
        by_cases hb:t[k]=10
        ·have hb':((t[k].toNat:Int) == 10)=true:=by rw[hb];rfl
         have hnx:=Azt p hlt hb;have HPT:=zh hnx.1;have HNX:=zh hnx.2;have HLN:Hid (t.extract fr k=bs (M7 [] (t.toList.take k))):=zh (by rw[hpt,Ale,List.drop_take]);clear hb hnx hpt;generalize M7 [] (t.toList.take k)=ln at *;obtain⟨S,hS⟩:=zo ((rsA p t k).1);obtain⟨O,hO⟩:=zo ((rsA p t k).2);have hSO:rsA p t k=(S,O):=by rw[←hS,←hO]
         rw[hS] at HBK HHD HRG;rw[hO] at HRG⊢;rw[hSO] at HNX;clear hS hO hSO;obtain⟨x,hx⟩:∃x,x=Ee p S ln:=⟨_,rfl⟩;have HX:=zh hx;clear hx;have hkI:(k:Int) < (t.size:Int):=by omega
         have hfk:(fr:Int)≤(k:Int):=by omega
         have hkl:(k:Int)≤(t.size:Int):=by omega
         have hlnz:(bs ln).size≤4096:=by
          rw[←HLN.out,ByteArray.size_extract];omega
         have HPD:Hid (∀V,Below wr.heap.size wr V→Calls Tryz.prog 18 #[.agg (zP p p1 p2 p3 q1 q2 q3),.agg (zV S c1 c2 c3 d1 d2 d3),.string (t.extract fr k)] V (O6 x V)):=zh fun V hV=>by
          have hc:=HBX.out _ (HBW.out.trans (hV.mono HBW.out.size));rw[HLN.out,HX.out,←Di ln];have:=Al6 p S (bs ln) (by omega) p1 p2 p3 c1 c2 c3 q1 q2 q3 d1 d2 d3 rows V (Ba hc.2.2 HEV.out) (hc.1.wider (zn _) (HBW.out.trans (hV.mono HBW.out.size)).size) HS.out HRG.out.1 (HHD.out.kept (Ah.oqb (ts:=[]) hV));rwa [Di] at this⊢
         unfold Ag at HBK;have HK:Hid (∀V,Below wr.heap.size wr V→(zM V w.heap.size 0 (.slice p1 p.aj.length q1)∧zM V w.heap.size 1 (.slice p2 p.ag.length q2)∧zM V w.heap.size 2 (.slice p3 p.binds.length q3))∧(zM V W3.heap.size 0 (.slice c1 S.ready.length d1)∧zM V W3.heap.size 1 (.slice c2 S.outs.length d2)∧zM V W3.heap.size 2 (.slice c3 S.ae.length d3)∧zM V W3.heap.size 3 (.int .i64 S.ah)∧zM V W3.heap.size 4 (.int .i64 S.af)∧zM V W3.heap.size 5 (.int .i64 S.aw)∧zM V W3.heap.size 6 (.int .i64 S.ar)∧zM V W3.heap.size 7 (.int .i64 S.dropped))):=zh fun V hV=>⟨(HBX.out _ (HBW.out.trans (hV.mono HBW.out.size))).2.1,Hm (HBK.out.below hV HBK.out.lt)⟩;go_upto_region 21 with fail
         clear hb'
         go_cut [13,14,15] from 66 to 78 (fun b o e wx=>A0m x wr b o e wx)
         case first=>
          refine Lj HK (by kernel_rfl) (fun hHeld=> ?_);have hb0:Below wr.heap.size wr wr.drew:=(zb _ _).drew;refine zH 0 ?_;refine zH 1 ?_;refine zH 2 ?_;refine zH 3 ?_;refine zH 4 ?_;refine zH 5 ?_;refine zR2 6 11 (fun K hK=> ?_) (fun K hK=> ?_)
          ·go_simp
           go_at_call 18
           refine(HPD.out _ hb0).mono ?_;rintro e wd ⟨n,y1,y2,y3,e1,e2,e3,ry,out,rfl,hbd,hcd⟩;unfold Ad Ag;have hb2:=hb0.trans (hbd.mono hb0.size);refine zk hK (by exact HK.out _ hb2) (fun hHeld=> ?_);clear hK K
           refine zH 7 ?_;refine zH 8 ?_;refine zH 9 ?_;refine zH 10 ?_;refine zR 11 fun K hK=> ?_
           go_simp
           have hbk:=Bk.new wd 40 zO;have hal:Below wr.heap.size wr (wd.alloc (.cells zO 40)):=hb2.alloc hb2.size _;refine zk hK (by exact HK.out _ hal) (fun hHeld=> ?_);clear hK K
           refine zR 12 fun K hK=> ?_;obtain⟨k0,k1,k2,k3,k4,k5,k6,k7,f0,f1,f2,f3,f4,f5,f6,f7,hlg⟩:=Af hbk;have hS8:=HK.out _ (hb2.alloc hb2.size (.cells (zV n y1 y2 y3 e1 e2 e3) 40))
           go_simp
           refine zk hK (by exact hS8) (fun hHeld=> ?_);clear hK K
           refine zH 13 ?_;refine zH 14 ?_;refine zx ?_;go_wp2_with fail
           go_meet
           exact⟨_,n,y1,y2,y3,e1,e2,e3,ry,out,rfl,rfl,rfl,hb2.size,Bk.new _ _ _,hb2.alloc hb2.size _,fun h=>⟨(hcd h).1,(hcd h).2.1,(hcd h).2.2.kept (Ah.alloc [] _ _)⟩⟩
          ·go_simp
           obtain⟨wz,hwz⟩:=zo ((wr.alloc (.cells zO 40)).drew);have hbk:Bk wz wr.heap.size 40 zO:=by rw[←hwz];exact Bk.new wr _ _
           have hbz:Below wr.heap.size wr wz:=by rw[←hwz];exact((zb _ _).alloc (zn _) _).drew
           rw[hwz];clear hwz;refine zk hK (by exact HK.out _ hbz) (fun hHeld=> ?_);clear hK K
           refine zR 6 fun K hK=> ?_
           go_simp
           go_at_call 18
           refine(HPD.out wz hbz).mono ?_;rintro e wd ⟨n,y1,y2,y3,e1,e2,e3,ry,out,rfl,hbd,hcd⟩;unfold Ad Ag;have hb2:=hbz.trans (hbd.mono hbz.size);refine zk hK (by exact HK.out _ hb2) (fun hHeld=> ?_);clear hK K
           refine zH 7 ?_;refine zH 8 ?_;refine zH 9 ?_;refine zH 10 ?_;have hbk7:=hbk.below hbd hbk.lt;refine zR 12 fun K hK=> ?_;obtain⟨k0,k1,k2,k3,k4,k5,k6,k7,f0,f1,f2,f3,f4,f5,f6,f7,hlg⟩:=Af hbk7;have hS8:=HK.out _ (Al hb2 (zn _) (.slice y1 n.ready.length e1) (.slice y2 n.outs.length e2) (.slice y3 n.ae.length e3) (.int .i64 n.ah) (.int .i64 n.af) (.int .i64 n.aw) (.int .i64 n.ar) (.int .i64 n.dropped))
           go_simp
           refine zk hK (by exact hS8) (fun hHeld=> ?_);clear hK K
           refine zH 13 ?_;refine zH 14 ?_;refine zx ?_;go_wp2_with fail
           go_meet
           exact⟨_,n,y1,y2,y3,e1,e2,e3,ry,out,rfl,rfl,rfl,zn _,Ph hbk7 _ _ _ _ _ _ _ _,Al hb2 (zn _) _ _ _ _ _ _ _ _,fun h=>⟨(hcd h).1,(hcd h).2.1,(hcd h).2.2.kept (Ah.dg hbk7 (ts:=[40]) (by decide) _ _ _ _ _ _ _ _)⟩⟩
         case rest=>
          obtain⟨g,n,y1,y2,y3,e1,e2,e3,ry,out,rfl,rfl,rfl,hg,hkb,hbb,hcd⟩:=hcut;unfold Ag at hkb;have HKN:=zh hkb;have HB9:=zm HB hbb;have HBK9:=zh (HBK.out.below hbb HBK.out.lt);have HHD9:=zh (HHD.out.kept (Ah.oqb (ts:=[]) hbb));have HCD:=zh hcd;clear hkb hbb hcd HK HPD hg;by_cases h0:x.2.2=0
          ·obtain⟨hn,ho,hh⟩:=HCD.out h0
           subst hn;have HHN:=zh hh;have HRX:Hid (rsA p t (k+1)=(x.1,O++(x.2.1++[10]))):=zh (by
            rw[HNX.out]
            show(N3 p S ln,O++(Lu p S ln++[10]))=_
            unfold N3 Lu;rw[←HX.out,zp h0])
           have HO2:Hid (x.2.1.length≤134217728):=zh (by
            have:=Ab7 (p:=p) (s:=S) HRG.out.1 ln;unfold Lu at this;rw[←HX.out,zp h0] at this;exact this)
           have b0:(x.2.2 == 0)=true:=by simp[h0]
           obtain⟨y0,y1',y2',y3',y4,y5,y6,y7,_,_,_,_,_,_,_,_,hlty⟩:=Af HKN.out;obtain⟨_,_,_,_,_,_,_,_,f0,f1,f2,f3,f4,f5,f6,f7,hlt9⟩:=Af HBK9.out;subst ho;have hs1:¬ 9223372036854775807 < (bs O).size+(bs x.2.1).size:=by rw[D7,D7];have:=HRG.out.2;have:=HO2.out;omega
           have hs2:¬ 9223372036854775807 < (bs O).size+(bs x.2.1).size+1:=by rw[D7,D7];have:=HRG.out.2;have:=HO2.out;omega
           clear hh;go_wp2_with fail
           refine⟨⟨k+1,k+1,y1,y2,y3,e1,e2,e3,ry,HKL.out,zn _,by go_num,by go_num,?_,?_,?_,?_,Al HB9.out (zn _) _ _ _ _ _ _ _ _⟩,by simp[intOf];omega⟩
           ·rw[HRX.out,←Gn,←Gn,ByteArray.append_assoc]
            rfl
           ·rw[HPT.out,List.drop_of_length_le (by rw[List.length_take];omega)]
           ·rw[HRX.out]
            exact Ph HBK9.out _ _ _ _ _ _ _ _
           ·rw[HRX.out]
            exact HHN.out.kept (Ah.dg HBK9.out (ts:=[40]) (by decide) _ _ _ _ _ _ _ _)
          ·have HSM:=zh (Agv (p:=p) (s:=S) HRG.out.1 ln)
           rw[←HX.out] at HSM;have hS:x.1=S:=by
            have:=Apy (p:=p) (s:=S) (l:=ln) (by rw[←HX.out];exact h0);rwa [←HX.out] at this
           obtain⟨er,her⟩:=Int.eq_ofNat_of_zero_le HSM.out.1;have HRX:Hid (rsA p t (k+1)=(S,O++(Rj++Lib.decDigits er++[10]))):=zh (by
            rw[HNX.out]
            show(N3 p S ln,O++(Lu p S ln++[10]))=_
            unfold N3 Lu;rw[←HX.out,zq h0,hS,her,Lib.itoa_nonneg])
           have b0:(x.2.2 == 0)=false:=by simp[h0]
           rw[her] at b0⊢;have HE20:Hid (er≤20):=zh (by have:=HSM.out.2;omega);clear hS her h0 HCD;go_wp2_with fail
           refine(I9 er (by have:=HE20.out;omega) _).mono ?_;rintro e wE ⟨rfl,hbE⟩;have HBE:=zm HB9 hbE;have HBKE:=zh (HBK9.out.below hbE HBK9.out.lt);have HHE:=zh (HHD9.out.kept (Ah.oqb (ts:=[]) hbE));have hde:(bs (Lib.decDigits er)).size≤21:=by rw[D7];have:=Tx er;have:=HE20.out;omega
           have hs0:¬ 9223372036854775807 < 6+(bs (Lib.decDigits er)).size:=by omega
           have hs1:¬ 9223372036854775807 < (bs O).size+(6+(bs (Lib.decDigits er)).size):=by have:=HRG.out.2;rw[D7];omega
           have hs2:¬ 9223372036854775807 < (bs O).size+(6+(bs (Lib.decDigits er)).size)+1:=by have:=HRG.out.2;rw[D7];omega
           clear hbE;go_wp2_with fail
           refine⟨⟨k+1,k+1,c1,c2,c3,d1,d2,d3,rows,HKL.out,zn _,by go_num,by go_num,?_,?_,?_,?_,HBE.out⟩,by simp[intOf];omega⟩
           ·rw[HRX.out,←Gn,←Gn,←Gn,ByteArray.append_assoc]
            rfl
           ·rw[HPT.out,List.drop_of_length_le (by rw[List.length_take];omega)]
           ·rw[HRX.out];exact HBKE.out
           ·rw[HRX.out];exact HHE.out
        ·have hb':¬ (t[k].toNat:Int)=10:=fun h=>hb (UInt8.toNat_inj.1 (by simpa using(by omega:t[k].toNat=10)))
         have hnx:=Axj p hlt hb;have HPT:Hid (M7 [] (t.toList.take (k+1))=(t.toList.take (k+1)).drop fr):=zh (by
          rw[hnx.1,hpt,Xs hlt,List.drop_append_of_le_length (by rw[List.length_take,Eo];omega)])
         have HNX:=zh hnx.2;clear hb hnx hpt;go_wp2_with fail
         exact⟨⟨k+1,fr,c1,c2,c3,d1,d2,d3,rows,HKL.out,by omega,by go_num,rfl,by rw[HNX.out],HPT.out,by rw[HNX.out];exact HBK.out,by rw[HNX.out];exact HHD.out,HB.out⟩,by simp[intOf];omega⟩
       ·obtain rfl:k=t.size:=by omega
        have HT:Hid (Kt p t=bs (rsA p t t.size).2∧D2 p t=0):=zh (by
         have h0:D2 p t=0:=HR.out;refine⟨?_,h0⟩;unfold Kt;rw[zp h0,Azs,ByteArray.toList_eq])
        clear hpt;generalize (rsA p t t.size).2=O at *;go_wp2_with fail
        refine bodyPost_ret (v:= .tuple #[.string (bs O),.int .i64 0]) (by simp[results,Tryz.results5,go_sem]) rfl ?_;exact⟨by rw[HT.out.1,HT.out.2],(HBX.out _ (HB3.out.trans (HB.out.mono HB3.out.size))).2.2⟩
 ·have HR:Hid (Kt p t=⟨#[]⟩∧D2 p t=Bc p):=by
   have h1:D2 p t=Bc p:=by unfold D2;rw[zp hc]
   refine⟨?_,h1⟩;unfold Kt;rw[zq (by rw[h1];exact hc)];rfl
  have b1:(Bc p != 0)=true:=by simp[hc]
  clear hc;go_wp2_with fail
  refine bodyPost_ret (v:= .tuple #[.string ⟨#[]⟩,.int .i64 (Bc p)]) (by simp[results,Tryz.results5,go_sem]) rfl ?_;exact⟨by rw[HR.out.1,HR.out.2],HB2.out⟩
theorem Adk(w:zW)(hE:Qg w):Calls Tryz.prog 6 #[] w fun e w'=>e= .returned (.bool true)∧Below w.heap.size w w':=by
 have HE:=zh hE;clear hE;have HP:Hid (∀(t:zN)(p1 p2 p3:zZ)(V:zW),t=Yb→Qg V→Au V 0 V.heap.size p1 p2 p3 Ac→Calls Tryz.prog 4 #[Ay Ac p1 p2 p3 3 3 5,.string t] V fun e w'=>e= .returned (.tuple #[.string Am1,.int .i64 0])∧Below V.heap.size V w'):=zh fun t p1 p2 p3 V ht hE hp=>by
  subst ht;have:=Aht Ac p1 p2 p3 3 3 5 Yb (by decide) V hE hp Dt;unfold Afz at this;rwa [Aka.1,Aka.2] at this
 go_enter Tryz.func6,Tryz.ntmps6
 go_wp2_with fail
 refine(Ej _).mono ?_;rintro e w1 ⟨p1,p2,p3,rfl,ho,hb⟩;have HB:=zh hb;have HQ:=zh (fun t h=>HP.out t _ _ _ w1 h (HE.out.below hb) ho.bz);clear HP HE hb ho;go_wp2_with fail
 refine(HQ.out _ (by kernel_rfl)).mono ?_;rintro e w2 ⟨rfl,hb2⟩;have HB2:=zm HB hb2;clear HQ hb2;have hq:∀l,l=Am1.data.toList→(Am1.toList == l)=true:=fun l h=>by rw[ByteArray.toList_eq,h];simp
 go_wp2_with fail
 rw[hq _ (by kernel_rfl)];go_ret
 exact⟨rfl,HB2.out⟩
theorem Y5(p:Ab)(p1 p2 p3:zZ)(q1 q2 q3:Nat)(t:zN)(w:zW)(hp:Au w 0 w.heap.size p1 p2 p3 p)(hps:Ai p)(_:Fc p)(ht:t.size≤1048576)(hE:Qg w):
  Calls Tryz.prog 3 #[Ay p p1 p2 p3 q1 q2 q3,.string t] w fun e w'=>e= .returned (.bool true)∧Below w.heap.size w w':=by
 have hbx:=Gm hp q1 q2 q3 26;have HS:=zh hps;have HE:=zh hE;unfold Ay;obtain⟨W1,hW1⟩:=zo (w.alloc (.cells (zP p p1 p2 p3 q1 q2 q3) 26));rw[hW1] at hbx;have HBX:=zh hbx;obtain⟨_,⟨m0,m1,m2⟩,_⟩:=hbx W1 (zb _ _);have HA:Hid (∀V,Below W1.heap.size W1 V→_):=zh fun V hV=>Aht p p1 p2 p3 q1 q2 q3 t (by omega) V (hE.below (hbx V hV).2.2) (((hbx V hV).1).wider (zn _) hV.size) hps;have HR:Hid (∀V,Below W1.heap.size W1 V→_):=zh fun V hV=>Akx p p1 p2 p3 q1 q2 q3 t ht V (hE.below (hbx V hV).2.2).1 (((hbx V hV).1).wider (zn _) hV.size) hps;unfold Afz Ay at HA HR;clear hp hps hE hbx;generalize Kt p t=o at *;generalize D2 p t=er at *;go_enter Tryz.func3,Tryz.ntmps3
 go_wp2_with fail
 try rw[hW1]
 clear hW1;refine(HA.out _ (zb _ _)).mono ?_;rintro e w2 ⟨rfl,hb2⟩;have HB2:=zh hb2;obtain⟨n0,n1,n2⟩:=(HBX.out _ hb2).2.1;clear hb2 HA m0 m1 m2;go_wp2_with fail
 refine(HR.out _ HB2.out).mono ?_;rintro e w3 ⟨rfl,hb3⟩;have HB3:=zm HB2 hb3;clear hb3 HR n0 n1 n2;go_wp2_with fail
 refine(Adk _ (HE.out.below (HBX.out _ HB3.out).2.2)).mono ?_;rintro e w4 ⟨rfl,hb4⟩;have HB4:=zm HB3 hb4;clear hb4;go_wp2_with fail
 go_ret
 exact⟨rfl,(HBX.out _ HB4.out).2.2⟩
end Go.Proofs.YtpkneogjdfolaaaGreatDoor
