/- Lemmas. -/
import Derived.Test.YtpkneogjdfolaaaGreatDoorStateE
import Derived.Test.YtpkneogjdfolaaaGreatDoorStateD
set_option maxHeartbeats 20000000
set_option maxRecDepth 100000
set_option linter.unusedSimpArgs false
set_option linter.unusedVariables false
namespace Go.Proofs.YtpkneogjdfolaaaGreatDoor
open Go.RowKit
theorem Xy(s:Aa)(a1 a2 a3:zZ)(c1 c2 c3:Nat)(t:Int)(lo:Nat)(w:zW)(ho:Sl w lo w.heap.size a2 (s.outs.flatMap D6))(hl:s.outs.length≤1048576):
  Calls Tryz.prog 151 #[Ad s a1 a2 a3 c1 c2 c3,.int .i64 t] w fun e w'=>e= .returned (.int .i64 (Ck s t))∧Below w.heap.size w w':=by
 have hbx:=Qk w s a1 a2 a3 c1 c2 c3 40;have ho0:=(ho.below ((zb _ w).alloc (zn _) (.cells (Ag s a1 a2 a3 c1 c2 c3) 40)) (zn _)).wider (lo':=0) (hi':=(w.alloc (.cells (Ag s a1 a2 a3 c1 c2 c3) 40)).heap.size) (Nat.zero_le _) (by simp);have HO:=zh ho0;have HF:Hid (Rp s.outs t=Ck s t):=(rfl:Rp s.outs t=Ck s t);have hbb:Hid (Afw w (w.alloc (.cells (Ag s a1 a2 a3 c1 c2 c3) 40)) s a1 a2 a3 c1 c2 c3):=hbx;clear hbx ho ho0;unfold Ad;unfold Ag at *;go_enter Tryz.func151,Tryz.ntmps151
 go_wp2_with fail
 generalize w.alloc (.cells (zV s a1 a2 a3 c1 c2 c3) 40)=W0 at *;generalize hou:s.outs=l at *
 go_loopw [5,6] (fun n i wr=>Axs l t W0 n i wr) (fun _ i _=>l.length - (intOf i).toNat)
 case atStart=>exact⟨0,by omega,rfl,rfl,zb _ _⟩
 case round=>
  obtain⟨k,hk,rfl,rfl,hB⟩:=hrel;have HB:=zh hB;have hh:=Anc l t k;obtain⟨⟨_,f1,_⟩,_⟩:=hbb.out _ hB;rw[hou] at f1;generalize hN:Rp (l.take k) t=N at *;by_cases hlt:k < l.length
  ·obtain⟨b,o,ha,_,hb,hc⟩:=Bf Dx (by decide) HO.out hlt
   subst ha;obtain⟨e0,e1,e2,e3,e4,e5,e6,e7⟩:=Gd (wr:=wr) (b:=b) (o:=o) (k:=k) (x:=l[k]) fun j u hu=>(hB.cell (p:=⟨b,_,none⟩) hb).trans (hc j u hu);have HST:=zh (Aen (t:=t) hlt);rw[hN] at HST;clear hc hB hN;generalize l[k]=x at *;by_cases hq:x.bg=t
   ·have hqb:(x.bg == t)=true:=by simp[hq]
    rw[zp hq] at HST;clear hq;go_wp2_with fail
    exact⟨⟨k+1,hlt,by go_num,by rw[HST.out];go_num,HB.out⟩,by simp[intOf];omega⟩
   ·have hqb:(x.bg == t)=false:=by simp[hq]
    rw[zq hq] at HST;clear hq;go_wp2_with fail
    exact⟨⟨k+1,hlt,by go_num,by rw[HST.out];rfl,HB.out⟩,by simp[intOf];omega⟩
  ·obtain rfl:k=l.length:=by omega
   have hF:N=Ck s t:=by rw[←hN,List.take_length,←HF.out]
   have HFN:=zh hF;clear hB hF hN;go_wp2_with fail
   go_ret
   exact⟨by rw[HFN.out];rfl,(hbb.out _ HB.out).2⟩
end Go.Proofs.YtpkneogjdfolaaaGreatDoor
namespace Go.Proofs.YtpkneogjdfolaaaGreatDoor
open Go.RowKit
def Ayh(p:Ab)(s:Aa)(W0:zW)(n i:Value)(wr:zW):Prop:=
 ∃j:Nat,j≤s.ready.length∧i= .int .i64 j∧n= .int .i64 ((s.outs.length+lyK s j:Nat):Int)∧(∀(q:Nat)(l:List Ao)(x:F7),q < j→s.ready[q]? =some l→p.ag[q]? =some x→(l.length:Int)≤x.bm)∧Below W0.heap.size W0 wr
def Ayi(s:Aa)(W0:zW)(i:Value)(wr:zW):Prop:=
 ∃j:Nat,j≤s.ae.length∧i= .int .i64 j∧(∀(k:Nat)(t:Cf),k < j→s.ae[k]? =some t→(Ck s k:Int)≤t.cf)∧Below W0.heap.size W0 wr
theorem F5(p:Ab)(s:Aa)(p1 p2 p3 a1 a2 a3:zZ)(q1 q2 q3 c1 c2 c3:Nat)(rows:List Bm)(w:zW)(hE:Env w)(hp:Au w 0 w.heap.size p1 p2 p3 p)(hps:Ai p)(hs:Av w 0 w.heap.size a1 a2 a3 rows s)(hss:Ap s)(hsi:A9 s):
  Calls Tryz.prog 101 #[Ay p p1 p2 p3 q1 q2 q3,Ad s a1 a2 a3 c1 c2 c3] w fun e w'=>e= .returned (.int .i64 (Am p s))∧Below w.heap.size w w':=by
 have hbx:=Cj q1 q2 q3 c1 c2 c3 hE hp hs 26 40;unfold Ag at hbx;unfold Ad Ay Ag;have HBX:=zh hbx;have HPS:=zh hps;have HSS:=zh hss;have HSI:=zh hsi;clear hbx hE hp hs hps hss hsi;go_enter Tryz.func101,Tryz.ntmps101
 go_wp2_with fail
 generalize ((w.alloc (.cells (zP p p1 p2 p3 q1 q2 q3) 26)).alloc (.cells (zV s a1 a2 a3 c1 c2 c3) 40))=W0 at *;refine(G2 p p1 p2 p3 q1 q2 q3 0 W0 (HBX.out _ (zb _ _)).bu HPS.out).mono ?_;rintro e W1 ⟨rfl,hb1⟩;have HB1:=zh hb1;obtain⟨⟨m0,m1,m2⟩,⟨n0,n1,n2,n3,n4,n5,n6,n7⟩,_,_,_,_⟩:=HBX.out _ hb1;clear hb1;by_cases h0:Bc p=0
 ·have HP0:=zh h0
  rw[h0];clear h0;by_cases hm:s.ae.length≤4
  ·have HM:=zh hm
   have hmb:decide ((4:Int) < (s.ae.length:Int))=false:=by simp;omega
   go_wp2_with fail
   refine(Alg p s p1 p2 p3 a1 a2 a3 q1 q2 q3 c1 c2 c3 rows W1 (HBX.out _ HB1.out).env (HBX.out _ HB1.out).bu HPS.out (HBX.out _ HB1.out).bc HSS.out HSI.out).mono ?_;rintro e W2 ⟨rfl,hb2⟩;have HB2:=zm HB1 hb2;clear hb2 m0 m1 m2 n0 n1 n2 n3 n4 n5 n6 n7 hmb;obtain⟨_,⟨n0,n1,n2,n3,n4,n5,n6,n7⟩,_,_,_,_⟩:=HBX.out _ HB2.out
   cases hf:Ot p s
   ·have HR:=zh (Ek HP0.out HM.out (by rw[←Ip,hf];decide))
    clear hf;go_wp2_with fail
    go_ret
    exact⟨by rw[HR.out];rfl,(HBX.out _ HB2.out).below⟩
   ·have HFORM:=zh (Ip.1 hf)
    clear hf;go_wp2_with fail
    clear n0 n1 n2 n3 n4 n5 n6 n7
    go_loopw [6,7] (fun n i wr=>Ayh p s W0 n i wr) (fun _ i _=>s.ready.length - (intOf i).toNat)
    case atStart=>exact⟨0,by omega,rfl,rfl,fun q l x hq=>absurd hq (by omega),HB2.out⟩
    case round=>
     clear HB1 HB2;obtain⟨j,hj,rfl,rfl,hlim,hB⟩:=hrel;have HB:=zh hB;have HLIM:=zh hlim;have hrd:=HSS.out.ready;have hol:=HSS.out.outs;have hly4:E8 s≤1048576:=HSS.out.lying;have hly2:=Yp s j;clear hlim;obtain⟨⟨m0,m1,m2⟩,⟨n0,n1,n2,n3,n4,n5,n6,n7⟩,_,_,hpat,hsat⟩:=HBX.out _ hB;by_cases hjl:j < s.ready.length
     ·have hrl:rows.length=s.ready.length:=by rw[←hsat.same,List.length_map]
      have hltr:j < rows.length:=by omega
      have hltq:j < p.ag.length:=by have:=HFORM.out.len;omega
      obtain⟨b,o,ha,_,hb,hc⟩:=Bf El (by decide) hsat.ready hltr;have e0:wr.cell? ⟨b,o+j,none⟩=some (.slice rows[j].at_ rows[j].items.length rows[j].cap):=by have:=hc 0 _ rfl;simpa using this
      obtain⟨b2,o2,ha2,_,hb2,hc2⟩:=Bf Hg (by decide) hpat.ag hltq;have d1:wr.cell? ⟨b2,o2+j * 3+1,none⟩=some (.int .i64 p.ag[j].bm):=hc2 1 _ rfl;have hit:s.ready[j]=rows[j].items:=by simp[←hsat.same]
      have HNR:=zh (Ajg (p:=p) (s:=s) hjl hltq);have HGQ:=zh (zG hltq);have HGR:=zh (zG hjl);have hly1:=Zw hjl;have hly3:=Yp s (j+1);rw[hit] at HNR HGR hly1;clear hc hc2 hsat hpat hB hit;generalize rows[j]=r at *;obtain⟨ra,rc,ri⟩:=r;dsimp only at e0 HNR HGR hly1;generalize p.ag[j]=qd at *;have HLY:=zh hly1;have hlr:ri.length≤1048576:=by omega
      clear hly1;subst ha ha2;by_cases hle:qd.bm < (ri.length:Int)
      ·have HR:=zh (Jp HP0.out HM.out HFORM.out (HNR.out hle))
       go_wp2
       go_quiet (fail)
       all_goals go_wp2
       all_goals go_ret
       all_goals exact⟨by rw[HR.out];rfl,(HBX.out _ (below_draws HB.out _)).below⟩
      ·have HLE:=zh hle
       go_wp2
       go_quiet (fail)
       all_goals go_wp2
       all_goals exact⟨⟨j+1,hjl,by go_num,by rw[HLY.out];go_num,fun q l' x' hq hl' hx'=>by
        rcases Nat.lt_or_ge q j with h|h
        ·exact HLIM.out q l' x' h hl' hx'
        ·obtain rfl:q=j:=by omega
         rw[HGR.out] at hl';rw[HGQ.out] at hx'
         cases hl';cases hx'
         have:=HLE.out;omega,below_draws HB.out _⟩,by simp[intOf];omega⟩
     ·obtain rfl:j=s.ready.length:=by omega
      have HLIMIT:Hid (Jc p s=true):=N0.2 fun q l x hl hx=>HLIM.out q l x (List.getElem?_eq_some_iff.1 hl).1 hl hx;clear hB hsat hpat;go_wp2_with fail
      clear m0 m1 m2 n0 n1 n2 n3 n4 n5 n6 n7
      go_loopw [8] (fun i wr=>Ayi s W0 i wr) (fun i _=>s.ae.length - (intOf i).toNat)
      case atStart=>exact⟨0,by omega,rfl,fun k t hk=>absurd hk (by omega),HB.out⟩
      case round=>
       clear HB HLIM;obtain⟨j,hj,rfl,hhe,hB⟩:=hrel;have HB:=zh hB;have HHE:=zh hhe;have htl:=HM.out;clear hhe;obtain⟨⟨m0,m1,m2⟩,⟨n0,n1,n2,n3,n4,n5,n6,n7⟩,_,_,_,hsat⟩:=HBX.out _ hB;by_cases hjl:j < s.ae.length
       ·obtain⟨b,o,ha,_,hb,hc⟩:=Bf Dg (by decide) hsat.ae hjl
        obtain⟨e0,e1⟩:=Gx (wr:=wr) (b:=b) (o:=o) (k:=j) (x:=s.ae[j]) fun q u hu=>hc q u hu;have HNR:=zh (Anv (p:=p) (s:=s) hjl);have HGT:=zh (zG hjl);clear hc hsat hB;generalize s.ae[j]=t at *;obtain⟨hn,hhn⟩:=zo (Ck s j);subst ha;have HK:Hid (∀W,Below wr.heap.size wr W→(zM W b (o+j * 2+1) (.int .i64 t.cf)∧zM W (w.heap.size+1) 0 (.slice a1 s.ready.length c1)∧zM W (w.heap.size+1) 1 (.slice a2 s.outs.length c2)∧zM W (w.heap.size+1) 2 (.slice (some ⟨b,o,none⟩) s.ae.length c3)∧zM W (w.heap.size+1) 3 (.int .i64 s.ah)∧zM W (w.heap.size+1) 4 (.int .i64 s.af)∧zM W (w.heap.size+1) 5 (.int .i64 s.aw)∧zM W (w.heap.size+1) 6 (.int .i64 s.ar)∧zM W (w.heap.size+1) 7 (.int .i64 s.dropped))∧Below wr.heap.size wr W):=fun W hW=>by
         have h:=(HBX.out W (HB.out.trans (hW.mono HB.out.size))).state;exact⟨⟨(hW.cell (p:=⟨b,_,none⟩) hb).trans e1,h⟩,hW⟩
        have HFN:Hid (∀W,(∃D:Prop,D∧Below wr.heap.size wr W)→Calls Tryz.prog 151 #[.agg (zV s a1 a2 (some ⟨b,o,none⟩) c1 c2 c3),.int .i64 (j:Int)] W fun e w'=>e= .returned (.int .i64 (hn:Int))∧Below W.heap.size W w'):=fun W hW=>by
         obtain⟨_,_,hW⟩:=hW;have:=Xy s a1 a2 (some ⟨b,o,none⟩) c1 c2 c3 (j:Int) 0 W (HBX.out _ (HB.out.trans (hW.mono HB.out.size))).bc.outs HSS.out.outs;rw[hhn] at this;exact this
        rw[hhn] at HNR;have HHN:=zh hhn;clear hhn;go_upto_region 18 with fail
        clear m0 m1 m2 n0 n1 n2 n3 n4 n5 n6 n7 e0 e1;by_cases hgt:t.cf < (hn:Int)
        ·have HR:=zh (Jp HP0.out HM.out HFORM.out (HNR.out hgt))
         refine Kl [(0,false),(1,false),(3,false),(4,false),(5,false),(6,false),(7,false),(8,false),(2,true),(9,false)] (by kernel_rfl) (fun hOrd=> ?_);refine zS HK hOrd (by kernel_rfl) (fun hHeld=> ?_);clear hOrd
         iterate 10 ((first|(refine zT ?_)|(refine zL ?_)|(refine NW.call rfl (fun K hK=> ?_);go_simp;((go_at_call 151;have hfn:=HFN.out _ ⟨_,by assumption⟩;with_reducible refine hfn.mono ?_;clear hfn;rintro e wf ⟨rfl,hbf⟩;have hbf2:=Bq (by assumption) hbf;clear hbf));refine zk hK (by first|assumption|exact HK.out _ (B7 (by assumption) _)|exact HK.out _ (by assumption)) (fun hHeld=> ?_);clear hK K)))
         refine NW.done ?_;go_wp2_with fail
         go_ret
         exact⟨by rw[HR.out];rfl,(HBX.out _ (HB.out.trans (hbf2.mono HB.out.size))).below⟩
        ·have HGT2:=zh hgt
         refine Kl [(0,false),(1,false),(3,false),(4,false),(5,false),(6,false),(7,false),(8,false),(2,true),(9,false)] (by kernel_rfl) (fun hOrd=> ?_);refine zS HK hOrd (by kernel_rfl) (fun hHeld=> ?_);clear hOrd
         iterate 10 ((first|(refine zT ?_)|(refine zL ?_)|(refine NW.call rfl (fun K hK=> ?_);go_simp;((go_at_call 151;have hfn:=HFN.out _ ⟨_,by assumption⟩;with_reducible refine hfn.mono ?_;clear hfn;rintro e wf ⟨rfl,hbf⟩;have hbf2:=Bq (by assumption) hbf;clear hbf));refine zk hK (by first|assumption|exact HK.out _ (B7 (by assumption) _)|exact HK.out _ (by assumption)) (fun hHeld=> ?_);clear hK K)))
         refine NW.done ?_;go_wp2_with fail
         exact⟨⟨j+1,hjl,by go_num,fun k' t' hk' ht'=>by
          rcases Nat.lt_or_ge k' j with h|h
          ·exact HHE.out k' t' h ht'
          ·obtain rfl:k'=j:=by omega
           rw[HGT.out] at ht'
           cases ht'
           rw[HHN.out];have:=HGT2.out;omega,HB.out.trans (hbf2.mono HB.out.size)⟩,by simp[intOf];omega⟩
       ·obtain rfl:j=s.ae.length:=by omega
        have HHELD:Hid (Lt s=true):=Pz.2 fun k t ht=>HHE.out k t (List.getElem?_eq_some_iff.1 ht).1 ht;have HRANGE:Hid ((Jc p s && Lt s)=true):=(by rw[HLIMIT.out,HHELD.out];rfl:(Jc p s && Lt s)=true);clear hB hsat;have hak:=HFORM.out.ar;have hdk:=HFORM.out.dropped;unfold countB at hak hdk;simp only[zc,zd] at hak hdk;have HALL:=zh (Ade s);have hw2:wrap64 ((s.outs.length:Int)+(lyK s s.ready.length:Int)+s.ar)=(s.outs.length:Int)+(lyK s s.ready.length:Int)+s.ar:=w64 (by omega) (by omega);have hw3:wrap64 ((s.outs.length:Int)+(lyK s s.ready.length:Int)+s.ar+s.dropped)=(s.outs.length:Int)+(lyK s s.ready.length:Int)+s.ar+s.dropped:=w64 (by omega) (by omega);have HSUM:Hid (∀b1 b2:Bool,(s.aw != (s.outs.length:Int)+(lyK s s.ready.length:Int)+s.ar+s.dropped)=b1→(s.aw != s.ah)=b2→Adv s=(!b1 && !b2)):=fun b1 b2 h1 h2=>by
         subst h1 h2;unfold Adv;rw[HALL.out,Bool.eq_iff_iff];simp only[zc,zd,Bool.not_eq_true',bne_eq_false_iff_eq]
         constructor
         ·rintro⟨h1,h2⟩;exact⟨by omega,h2⟩
         ·rintro⟨h1,h2⟩;exact⟨by omega,h2⟩
        clear hak hdk
        cases hc1:(s.aw != (s.outs.length:Int)+(lyK s s.ready.length:Int)+s.ar+s.dropped)
        ·cases hc2:(s.aw != s.ah)
         ·have HR:=zh (Mr HP0.out HM.out HFORM.out HRANGE.out ((HSUM.out _ _ hc1 hc2).trans rfl))
          go_wp2_with fail
          go_ret
          exact⟨by rw[HR.out];rfl,(HBX.out _ HB.out).below⟩
         ·have HR:=zh (Li HP0.out HM.out HFORM.out HRANGE.out ((HSUM.out _ _ hc1 hc2).trans rfl))
          go_wp2_with fail
          go_ret
          exact⟨by rw[HR.out];rfl,(HBX.out _ HB.out).below⟩
        ·have HR:=zh (Li HP0.out HM.out HFORM.out HRANGE.out ((HSUM.out _ _ hc1 rfl).trans (by simp)))
         go_wp2_with fail
         go_ret
         exact⟨by rw[HR.out];rfl,(HBX.out _ HB.out).below⟩
  ·have HR:=zh (Pk (s:=s) HP0.out (by omega))
   have hmb:decide ((4:Int) < (s.ae.length:Int))=true:=by simp;omega
   go_wp2_with fail
   go_ret
   exact⟨by rw[HR.out];rfl,(HBX.out _ HB1.out).below⟩
 ·have HR:=zh (Pm (s:=s) h0)
  have h0b:(Bc p == 0)=false:=by simp[h0]
  clear h0;go_wp2_with fail
  go_ret
  exact⟨by rw[HR.out];rfl,(HBX.out _ HB1.out).below⟩
open Go.RowKit
def Ae3(x y:D8):Bool:=x.tag == y.tag && (x.bg == y.bg && (x.queue == y.queue && Lr x.item y.item))
def Rh(x y:Cf):Bool:=x.queue == y.queue && x.cf == y.cf
theorem Am7(x y:Cf)(w:zW):(Op.equalIn 10000 147 (.agg #[.int .i64 x.queue,.int .i64 x.cf]) (.agg #[.int .i64 y.queue,.int .i64 y.cf])).run Tryz.prog w= .ok (Rh x y) w:=by
 have u1:=Tryz.underlying3;have a1:=Tryz.isAgg3;have z1:=Tryz.sizeOf3;have hS:Tryz.prog.underlying 147=some (.struct (Tryz.prog.fieldsOf 147)):=by kernel_rfl
 have hH:Tryz.prog.stoodInHeld 147=false:=by kernel_rfl
 rw[show(10000:Nat)=9999+1 from rfl,run_equalIn_agg w 9999 147 _ _ hS hH];simp only[Program.fieldsOf,Tryz.underlying147];unfold Rh
 go_simp
 by_cases h1:x.queue=y.queue<;>by_cases h2:x.cf=y.cf<;>simp[h1,h2]
@[go_sem ↓] theorem A05(x y:Cf)(w:zW):(binOp .neq 147 (.agg #[.int .i64 x.queue,.int .i64 x.cf]) (.agg #[.int .i64 y.queue,.int .i64 y.cf])).run Tryz.prog w= .ok (.bool (!Rh x y)) w:=by
 rw[run_neq_struct,Am7];rfl
@[go_sem ↓] theorem Axy(x y:Cf)(w:zW):(binOp .eql 147 (.agg #[.int .i64 x.queue,.int .i64 x.cf]) (.agg #[.int .i64 y.queue,.int .i64 y.cf])).run Tryz.prog w= .ok (.bool (Rh x y)) w:=by
 rw[run_eql_struct,Am7];rfl
@[go_sem] theorem Awi:Tryz.prog.eqGuardType Tryz.prog.depth 147=false:=by kernel_rfl
theorem Awj(x y:Ao)(w:zW):(Op.equalIn 9999 113 (.agg (zY x)) (.agg (zY y))).run Tryz.prog w= .ok (Lr x y) w:=by
 have u1:=Tryz.underlying3;have a1:=Tryz.isAgg3;have z1:=Tryz.sizeOf3;have u2:=Tryz.underlying9;have a2:=Tryz.isAgg9;have z2:=Tryz.sizeOf9;have u3:=Tryz.underlying4;have a3:=Tryz.isAgg4;have z3:=Tryz.sizeOf4;have hS:Tryz.prog.underlying 113=some (.struct (Tryz.prog.fieldsOf 113)):=by kernel_rfl
 have hH:Tryz.prog.stoodInHeld 113=false:=by kernel_rfl
 rw[show(9999:Nat)=9998+1 from rfl,run_equalIn_agg w 9998 113 _ _ hS hH];simp only[Program.fieldsOf,Tryz.underlying113];unfold Lr
 go_simp
 by_cases h1:x.seq=y.seq<;>by_cases h2:x.key.toList=y.key.toList<;>by_cases h3:x.body.toList=y.body.toList<;>by_cases h4:x.again=y.again<;>by_cases h5:x.au=y.au<;>simp[h1,h2,h3,h4,h5]
theorem A01(x y:D8)(w:zW):(Op.equalIn 10000 115 (.agg #[.int .i64 x.tag,.int .i64 x.bg,.int .i64 x.queue,.int .i64 x.item.seq,.string x.item.key,.string x.item.body,.bool x.item.again,.int .i64 x.item.au]) (.agg #[.int .i64 y.tag,.int .i64 y.bg,.int .i64 y.queue,.int .i64 y.item.seq,.string y.item.key,.string y.item.body,.bool y.item.again,.int .i64 y.item.au])).run Tryz.prog w= .ok (Ae3 x y) w:=by
 have u1:=Tryz.underlying3;have a1:=Tryz.isAgg3;have z1:=Tryz.sizeOf3;have a4:=Tryz.isAgg113;have z4:=Tryz.sizeOf113;have hS:Tryz.prog.underlying 115=some (.struct (Tryz.prog.fieldsOf 115)):=by kernel_rfl
 have hH:Tryz.prog.stoodInHeld 115=false:=by kernel_rfl
 have hI:=Awj x.item y.item;rw[show(10000:Nat)=9999+1 from rfl,run_equalIn_agg w 9999 115 _ _ hS hH];simp only[Program.fieldsOf,Tryz.underlying115];unfold Ae3
 go_simp
 by_cases h1:x.tag=y.tag<;>by_cases h2:x.bg=y.bg<;>by_cases h3:x.queue=y.queue<;>simp[h1,h2,h3,hI]<;>cases Lr x.item y.item<;>rfl
@[go_sem ↓] theorem A1r(x y:D8)(w:zW):(binOp .neq 115 (.agg #[.int .i64 x.tag,.int .i64 x.bg,.int .i64 x.queue,.int .i64 x.item.seq,.string x.item.key,.string x.item.body,.bool x.item.again,.int .i64 x.item.au]) (.agg #[.int .i64 y.tag,.int .i64 y.bg,.int .i64 y.queue,.int .i64 y.item.seq,.string y.item.key,.string y.item.body,.bool y.item.again,.int .i64 y.item.au])).run Tryz.prog w= .ok (.bool (!Ae3 x y)) w:=by
 rw[run_neq_struct,A01];rfl
@[go_sem] theorem Azf:Tryz.prog.eqGuardType Tryz.prog.depth 115=false:=by kernel_rfl
end Go.Proofs.YtpkneogjdfolaaaGreatDoor
namespace Go.Proofs.YtpkneogjdfolaaaGreatDoor
open Go.RowKit
open Go.RowKit
end Go.Proofs.YtpkneogjdfolaaaGreatDoor
namespace Go.Proofs.YtpkneogjdfolaaaGreatDoor
open Go.RowKit
instance (n:Int):Decidable (i64 n):=inferInstanceAs (Decidable (_∧_))
end Go.Proofs.YtpkneogjdfolaaaGreatDoor
