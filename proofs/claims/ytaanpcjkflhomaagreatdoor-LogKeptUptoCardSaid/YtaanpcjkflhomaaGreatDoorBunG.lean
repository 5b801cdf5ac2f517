/-
  Walks of the reference: HeldOf; Held. Walk of the reference's CheckState.
-/
import Derived.Test.YtaanpcjkflhomaaGreatDoorBunA
import Derived.Test.YtaanpcjkflhomaaGreatDoorBunF
import Derived.Test.YtaanpcjkflhomaaGreatDoorStateE
import Derived.Test.YtaanpcjkflhomaaGreatDoorBunD
import Derived.Deep.RegionHeld3
import Derived.Deep.QuietTactic
import Derived.BigQuiet
import Derived.Deep.CutRange
import Derived.Test.YtaanpcjkflhomaaGreatDoorBunE
import Derived.IntWalk
import Derived.Test.YtaanpcjkflhomaaGreatDoorStateD
set_option maxHeartbeats 20000000
set_option maxRecDepth 100000
set_option linter.unusedSimpArgs false
set_option linter.unusedVariables false
namespace Go.Proofs.YtaanpcjkflhomaaGreatDoor
open Go.RowKit
theorem Vo (s:Aa) (a1 a2 a3:Option Addr) (c1 c2 c3:Nat) (t:Int) (lo:Nat) (w:World) (ho:Sl w lo w.heap.size a2 (s.outs.flatMap Eg)) (hl:s.outs.length≤1048576):
  Calls Tryz.prog 68 #[Ac s a1 a2 a3 c1 c2 c3,.int .i64 t] w fun e w'=>e= .returned (.int .i64 (Cd s t))∧Below w.heap.size w w':=by
 have hbx:=Pw w s a1 a2 a3 c1 c2 c3 31;have ho0:=(ho.below ((zb _ w).alloc (zn _) (.cells (Ag s a1 a2 a3 c1 c2 c3) 31)) (zn _)).wider (lo':=0) (hi':=(w.alloc (.cells (Ag s a1 a2 a3 c1 c2 c3) 31)).heap.size) (Nat.zero_le _) (by simp);have HO:=zh ho0;have HF:Hid (Qv s.outs t=Cd s t):=(rfl:Qv s.outs t=Cd s t);have hbb:Hid (Adw w (w.alloc (.cells (Ag s a1 a2 a3 c1 c2 c3) 31)) s a1 a2 a3 c1 c2 c3):=hbx;clear hbx ho ho0;unfold Ac;unfold Ag at *;go_enter Tryz.func68,Tryz.ntmps68
 go_wp2_with fail
 generalize w.alloc (.cells (zV s a1 a2 a3 c1 c2 c3) 31)=W0 at *;generalize hou:s.outs=l at *
 go_loopw [5,6] (fun n i wr=>Avt l t W0 n i wr) (fun _ i _=>l.length - (intOf i).toNat)
 case atStart=>exact⟨0,by omega,rfl,rfl,zb _ _⟩
 case round=>
  obtain⟨k,hk,rfl,rfl,hB⟩:=hrel;have HB:=zh hB;have hh:=Alz l t k;obtain⟨⟨_,f1,_⟩,_⟩:=hbb.out _ hB;rw[hou] at f1;generalize hN:Qv (l.take k) t=N at *;by_cases hlt:k < l.length
  ·obtain⟨b,o,ha,_,hb,hc⟩:=Bd Dy (by decide) HO.out hlt
   subst ha;obtain⟨e0,e1,e2,e3,e4,e5,e6,e7⟩:=G7 (wr:=wr) (b:=b) (o:=o) (k:=k) (x:=l[k]) fun j u hu=>(hB.cell (p:=⟨b,_,none⟩) hb).trans (hc j u hu);have HST:=zh (Aca (t:=t) hlt);rw[hN] at HST;clear hc hB hN;generalize l[k]=x at *;by_cases hq:x.bg=t
   ·have hqb:(x.bg == t)=true:=by simp[hq]
    rw[zp hq] at HST;clear hq;go_wp2_with fail
    exact⟨⟨k+1,hlt,by go_num,by rw[HST.out];go_num,HB.out⟩,by simp[intOf];omega⟩
   ·have hqb:(x.bg == t)=false:=by simp[hq]
    rw[zq hq] at HST;clear hq;go_wp2_with fail
    exact⟨⟨k+1,hlt,by go_num,by rw[HST.out];rfl,HB.out⟩,by simp[intOf];omega⟩
  ·obtain rfl:k=l.length:=by omega
   have hF:N=Cd s t:=by rw[←hN,List.take_length,←HF.out]
   have HFN:=zh hF;clear hB hF hN;go_wp2_with fail
   go_ret
   exact⟨by rw[HFN.out];rfl,(hbb.out _ HB.out).2⟩
end Go.Proofs.YtaanpcjkflhomaaGreatDoor
namespace Go.Proofs.YtaanpcjkflhomaaGreatDoor
open Go.RowKit
def Awf (p:Ab) (s:Aa) (W0:World) (n i:Value) (wr:World):Prop:=
 ∃j:Nat,j≤s.ready.length∧i= .int .i64 j∧n= .int .i64 ((s.outs.length+lyK s j:Nat):Int)∧(∀(q:Nat) (l:List Ap) (x:Ge),q < j→s.ready[q]? =some l→p.ag[q]? =some x→(l.length:Int)≤x.bm)∧Below W0.heap.size W0 wr
def Awg (s:Aa) (W0:World) (i:Value) (wr:World):Prop:=
 ∃j:Nat,j≤s.ae.length∧i= .int .i64 j∧(∀(k:Nat) (t:B6),k < j→s.ae[k]? =some t→(Cd s k:Int)≤t.cf)∧Below W0.heap.size W0 wr
theorem Fx (p:Ab) (s:Aa) (p1 p2 p3 a1 a2 a3:Option Addr) (q1 q2 q3 c1 c2 c3:Nat) (rows:List Bq) (w:World) (hE:Env w) (hp:Az w 0 w.heap.size p1 p2 p3 p) (hps:Ai p) (hs:Ax w 0 w.heap.size a1 a2 a3 rows s) (hss:Am s) (hsi:Ba s):
  Calls Tryz.prog 25 #[Bc p p1 p2 p3 q1 q2 q3,Ac s a1 a2 a3 c1 c2 c3] w fun e w'=>e= .returned (.int .i64 (Ao p s))∧Below w.heap.size w w':=by
 have hbx:=B9 q1 q2 q3 c1 c2 c3 hE hp hs 26 31;unfold Ag at hbx;unfold Ac Bc Ag;have HBX:=zh hbx;have HPS:=zh hps;have HSS:=zh hss;have HSI:=zh hsi;clear hbx hE hp hs hps hss hsi;go_enter Tryz.func25,Tryz.ntmps25
 go_wp2_with fail
 generalize ((w.alloc (.cells (zP p p1 p2 p3 q1 q2 q3) 26)).alloc (.cells (zV s a1 a2 a3 c1 c2 c3) 31))=W0 at *;refine(Gt p p1 p2 p3 q1 q2 q3 0 W0 (HBX.out _ (zb _ _)).bu HPS.out).mono ?_;rintro e W1 ⟨rfl,hb1⟩;have HB1:=zh hb1;obtain⟨⟨m0,m1,m2⟩,⟨n0,n1,n2,n3,n4,n5,n6,n7⟩,_,_,_,_⟩:=HBX.out _ hb1;clear hb1;by_cases h0:Bf p=0
 ·have HP0:=zh h0
  rw[h0];clear h0;by_cases hm:s.ae.length≤4
  ·have HM:=zh hm
   have hmb:decide ((4:Int) < (s.ae.length:Int))=false:=by simp;omega
   go_wp2_with fail
   refine(Aj6 p s p1 p2 p3 a1 a2 a3 q1 q2 q3 c1 c2 c3 rows W1 (HBX.out _ HB1.out).env (HBX.out _ HB1.out).bu HPS.out (HBX.out _ HB1.out).bc HSS.out HSI.out).mono ?_;rintro e W2 ⟨rfl,hb2⟩;have HB2:=zh (HB1.out.trans (hb2.mono HB1.out.size));clear hb2 m0 m1 m2 n0 n1 n2 n3 n4 n5 n6 n7 hmb;obtain⟨_,⟨n0,n1,n2,n3,n4,n5,n6,n7⟩,_,_,_,_⟩:=HBX.out _ HB2.out
   cases hf:N5 p s
   ·have HR:=zh (Ei HP0.out HM.out (by rw[←Ia,hf];decide))
    clear hf;go_wp2_with fail
    go_ret
    exact⟨by rw[HR.out];rfl,(HBX.out _ HB2.out).below⟩
   ·have HFORM:=zh (Ia.1 hf)
    clear hf;go_wp2_with fail
    clear n0 n1 n2 n3 n4 n5 n6 n7
    go_loopw [6,7] (fun n i wr=>Awf p s W0 n i wr) (fun _ i _=>s.ready.length - (intOf i).toNat)
    case atStart=>exact⟨0,by omega,rfl,rfl,fun q l x hq=>absurd hq (by omega),HB2.out⟩
    case round=>
     clear HB1 HB2;obtain⟨j,hj,rfl,rfl,hlim,hB⟩:=hrel;have HB:=zh hB;have HLIM:=zh hlim;have hrd:=HSS.out.ready;have hol:=HSS.out.outs;have hly4:Er s≤1048576:=HSS.out.lying;have hly2:=V8 s j;clear hlim;obtain⟨⟨m0,m1,m2⟩,⟨n0,n1,n2,n3,n4,n5,n6,n7⟩,_,_,hpat,hsat⟩:=HBX.out _ hB;by_cases hjl:j < s.ready.length
     ·have hrl:rows.length=s.ready.length:=by rw[←hsat.same,List.length_map]
      have hltr:j < rows.length:=by omega
      have hltq:j < p.ag.length:=by have:=HFORM.out.len;omega
      obtain⟨b,o,ha,_,hb,hc⟩:=Bd Dv (by decide) hsat.ready hltr;have e0:wr.cell? ⟨b,o+j,none⟩=some (.slice rows[j].at_ rows[j].items.length rows[j].cap):=by have:=hc 0 _ rfl;simpa using this
      obtain⟨b2,o2,ha2,_,hb2,hc2⟩:=Bd G3 (by decide) hpat.ag hltq;have d1:wr.cell? ⟨b2,o2+j * 3+1,none⟩=some (.int .i64 p.ag[j].bm):=hc2 1 _ rfl;have hit:s.ready[j]=rows[j].items:=by simp[←hsat.same]
      have HNR:=zh (Ahv (p:=p) (s:=s) hjl hltq);have HGQ:=zh (zG hltq);have HGR:=zh (zG hjl);have hly1:=Xo hjl;have hly3:=V8 s (j+1);rw[hit] at HNR HGR hly1;clear hc hc2 hsat hpat hB hit;generalize rows[j]=r at *;obtain⟨ra,rc,ri⟩:=r;dsimp only at e0 HNR HGR hly1;generalize p.ag[j]=qd at *;have HLY:=zh hly1;have hlr:ri.length≤1048576:=by omega
      clear hly1;subst ha ha2;by_cases hle:qd.bm < (ri.length:Int)
      ·have HR:=zh (I9 HP0.out HM.out HFORM.out (HNR.out hle))
       go_wp2
       go_quiet (fail)
       all_goals go_wp2
       all_goals go_ret
       all_goals exact⟨by rw[HR.out];rfl,(HBX.out _ (below_draws HB.out _)).below⟩
      ·have HLE:=zh hle
       go_wp2
       go_quiet (fail)
       all_goals go_wp2
       all_goals exact⟨⟨j+1,hjl,by go_num,by rw[HLY.out];go_num,fun q l' x' hq hl' hx'=>by
        rcases Nat.lt_or_ge q j with h|h
        ·exact HLIM.out q l' x' h hl' hx'
        ·obtain rfl:q=j:=by omega
         rw[HGR.out] at hl';rw[HGQ.out] at hx'
         cases hl';cases hx'
         have:=HLE.out;omega,below_draws HB.out _⟩,by simp[intOf];omega⟩
     ·obtain rfl:j=s.ready.length:=by omega
      have HLIMIT:Hid (Iw p s=true):=Ni.2 fun q l x hl hx=>HLIM.out q l x (List.getElem?_eq_some_iff.1 hl).1 hl hx;clear hB hsat hpat;go_wp2_with fail
      clear m0 m1 m2 n0 n1 n2 n3 n4 n5 n6 n7
      go_loopw [8] (fun i wr=>Awg s W0 i wr) (fun i _=>s.ae.length - (intOf i).toNat)
      case atStart=>exact⟨0,by omega,rfl,fun k t hk=>absurd hk (by omega),HB.out⟩
      case round=>
       clear HB HLIM;obtain⟨j,hj,rfl,hhe,hB⟩:=hrel;have HB:=zh hB;have HHE:=zh hhe;have htl:=HM.out;clear hhe;obtain⟨⟨m0,m1,m2⟩,⟨n0,n1,n2,n3,n4,n5,n6,n7⟩,_,_,_,hsat⟩:=HBX.out _ hB;by_cases hjl:j < s.ae.length
       ·obtain⟨b,o,ha,_,hb,hc⟩:=Bd Cy (by decide) hsat.ae hjl
        obtain⟨e0,e1⟩:=Gx (wr:=wr) (b:=b) (o:=o) (k:=j) (x:=s.ae[j]) fun q u hu=>hc q u hu;have HNR:=zh (Aml (p:=p) (s:=s) hjl);have HGT:=zh (zG hjl);clear hc hsat hB;generalize s.ae[j]=t at *;obtain⟨hn,hhn⟩:∃hn,Cd s j=hn:=⟨_,rfl⟩;subst ha;have HK:Hid (∀W,Below wr.heap.size wr W→(W.cell? ⟨b,o+j * 2+1,none⟩=some (.int .i64 t.cf)∧W.cell? ⟨w.heap.size+1,0,none⟩=some (.slice a1 s.ready.length c1)∧W.cell? ⟨w.heap.size+1,1,none⟩=some (.slice a2 s.outs.length c2)∧W.cell? ⟨w.heap.size+1,2,none⟩=some (.slice (some ⟨b,o,none⟩) s.ae.length c3)∧W.cell? ⟨w.heap.size+1,3,none⟩=some (.int .i64 s.ah)∧W.cell? ⟨w.heap.size+1,4,none⟩=some (.int .i64 s.af)∧W.cell? ⟨w.heap.size+1,5,none⟩=some (.int .i64 s.aw)∧W.cell? ⟨w.heap.size+1,6,none⟩=some (.int .i64 s.ar)∧W.cell? ⟨w.heap.size+1,7,none⟩=some (.int .i64 s.dropped))∧Below wr.heap.size wr W):=fun W hW=>by
         have h:=(HBX.out W (HB.out.trans (hW.mono HB.out.size))).state;exact⟨⟨(hW.cell (p:=⟨b,_,none⟩) hb).trans e1,h⟩,hW⟩
        have HFN:Hid (∀W,(∃D:Prop,D∧Below wr.heap.size wr W)→Calls Tryz.prog 68 #[.agg (zV s a1 a2 (some ⟨b,o,none⟩) c1 c2 c3),.int .i64 (j:Int)] W fun e w'=>e= .returned (.int .i64 (hn:Int))∧Below W.heap.size W w'):=fun W hW=>by
         obtain⟨_,_,hW⟩:=hW;have:=Vo s a1 a2 (some ⟨b,o,none⟩) c1 c2 c3 (j:Int) 0 W (HBX.out _ (HB.out.trans (hW.mono HB.out.size))).bc.outs HSS.out.outs;rw[hhn] at this;exact this
        rw[hhn] at HNR;have HHN:=zh hhn;clear hhn;go_upto_region 18 with fail
        clear m0 m1 m2 n0 n1 n2 n3 n4 n5 n6 n7 e0 e1;by_cases hgt:t.cf < (hn:Int)
        ·have HR:=zh (I9 HP0.out HM.out HFORM.out (HNR.out hgt))
         refine Jn [(0,false),(1,false),(3,false),(4,false),(5,false),(6,false),(7,false),(8,false),(2,true),(9,false)] (by kernel_rfl) (fun hOrd=> ?_);refine zS HK hOrd (by kernel_rfl) (fun hHeld=> ?_);clear hOrd
         iterate 10 ((first|(refine zT ?_)|(refine zL ?_)|(refine NW.call rfl (fun K hK=> ?_);go_simp;((go_at_call 68;have hfn:=HFN.out _ ⟨_,by assumption⟩;with_reducible refine hfn.mono ?_;clear hfn;rintro e wf ⟨rfl,hbf⟩;have hbf2:=Bp (by assumption) hbf;clear hbf));refine hK.out _ _ (by first|assumption|exact HK.out _ (Br (by assumption) _)|exact HK.out _ (by assumption)) (fun hHeld=> ?_);clear hK K));try simp only[Act.put,zA,zB,zC,zD,zE,zF])
         refine NW.done ?_;go_wp2_with fail
         go_ret
         exact⟨by rw[HR.out];rfl,(HBX.out _ (HB.out.trans (hbf2.mono HB.out.size))).below⟩
        ·have HGT2:=zh hgt
         refine Jn [(0,false),(1,false),(3,false),(4,false),(5,false),(6,false),(7,false),(8,false),(2,true),(9,false)] (by kernel_rfl) (fun hOrd=> ?_);refine zS HK hOrd (by kernel_rfl) (fun hHeld=> ?_);clear hOrd
         iterate 10 ((first|(refine zT ?_)|(refine zL ?_)|(refine NW.call rfl (fun K hK=> ?_);go_simp;((go_at_call 68;have hfn:=HFN.out _ ⟨_,by assumption⟩;with_reducible refine hfn.mono ?_;clear hfn;rintro e wf ⟨rfl,hbf⟩;have hbf2:=Bp (by assumption) hbf;clear hbf));refine hK.out _ _ (by first|assumption|exact HK.out _ (Br (by assumption) _)|exact HK.out _ (by assumption)) (fun hHeld=> ?_);clear hK K));try simp only[Act.put,zA,zB,zC,zD,zE,zF])
         refine NW.done ?_;go_wp2_with fail
         exact⟨⟨j+1,hjl,by go_num,fun k' t' hk' ht'=>by
          rcases Nat.lt_or_ge k' j with h|h
          ·exact HHE.out k' t' h ht'
          ·obtain rfl:k'=j:=by omega
           rw[HGT.out] at ht'
           cases ht'
           rw[HHN.out];have:=HGT2.out;omega,HB.out.trans (hbf2.mono HB.out.size)⟩,by simp[intOf];omega⟩
       ·obtain rfl:j=s.ae.length:=by omega
        have HHELD:Hid (Lc s=true):=Ph.2 fun k t ht=>HHE.out k t (List.getElem?_eq_some_iff.1 ht).1 ht;have HRANGE:Hid ((Iw p s && Lc s)=true):=(by rw[HLIMIT.out,HHELD.out];rfl:(Iw p s && Lc s)=true);clear hB hsat;have hak:=HFORM.out.ar;have hdk:=HFORM.out.dropped;unfold countB at hak hdk;simp only[zc,zd] at hak hdk;have HALL:=zh (Aa4 s);have hw2:wrap64 ((s.outs.length:Int)+(lyK s s.ready.length:Int)+s.ar)=(s.outs.length:Int)+(lyK s s.ready.length:Int)+s.ar:=w64 (by omega) (by omega);have hw3:wrap64 ((s.outs.length:Int)+(lyK s s.ready.length:Int)+s.ar+s.dropped)=(s.outs.length:Int)+(lyK s s.ready.length:Int)+s.ar+s.dropped:=w64 (by omega) (by omega);have HSUM:Hid (∀b1 b2:Bool,(s.aw != (s.outs.length:Int)+(lyK s s.ready.length:Int)+s.ar+s.dropped)=b1→(s.aw != s.ah)=b2→Abj s=(!b1 && !b2)):=fun b1 b2 h1 h2=>by
         subst h1 h2;unfold Abj;rw[HALL.out,Bool.eq_iff_iff];simp only[zc,zd,Bool.not_eq_true',bne_eq_false_iff_eq]
         constructor
         ·rintro⟨h1,h2⟩;exact⟨by omega,h2⟩
         ·rintro⟨h1,h2⟩;exact⟨by omega,h2⟩
        clear hak hdk
        cases hc1:(s.aw != (s.outs.length:Int)+(lyK s s.ready.length:Int)+s.ar+s.dropped)
        ·cases hc2:(s.aw != s.ah)
         ·have HR:=zh (Ma HP0.out HM.out HFORM.out HRANGE.out ((HSUM.out _ _ hc1 hc2).trans rfl))
          go_wp2_with fail
          go_ret
          exact⟨by rw[HR.out];rfl,(HBX.out _ HB.out).below⟩
         ·have HR:=zh (Kt HP0.out HM.out HFORM.out HRANGE.out ((HSUM.out _ _ hc1 hc2).trans rfl))
          go_wp2_with fail
          go_ret
          exact⟨by rw[HR.out];rfl,(HBX.out _ HB.out).below⟩
        ·have HR:=zh (Kt HP0.out HM.out HFORM.out HRANGE.out ((HSUM.out _ _ hc1 rfl).trans (by simp)))
         go_wp2_with fail
         go_ret
         exact⟨by rw[HR.out];rfl,(HBX.out _ HB.out).below⟩
  ·have HR:=zh (Oy (s:=s) HP0.out (by omega))
   have hmb:decide ((4:Int) < (s.ae.length:Int))=true:=by simp;omega
   go_wp2_with fail
   go_ret
   exact⟨by rw[HR.out];rfl,(HBX.out _ HB1.out).below⟩
 ·have HR:=zh (Oz (s:=s) h0)
  have h0b:(Bf p == 0)=false:=by simp[h0]
  clear h0;go_wp2_with fail
  go_ret
  exact⟨by rw[HR.out];rfl,(HBX.out _ HB1.out).below⟩
open Go.RowKit
def Ac0 (x y:Eh):Bool:=x.tag == y.tag && (x.bg == y.bg && (x.queue == y.queue && K9 x.item y.item))
theorem We {x y:Eh} :Ac0 x y=true↔x=y:=by
 obtain⟨a,b,c,d⟩:=x;obtain⟨a',b',c',d'⟩:=y;simp only[Ac0,zc,beq_iff_eq,Eh.mk.injEq,Rp]
def Qq (x y:B6):Bool:=x.queue == y.queue && x.cf == y.cf
theorem R8 {x y:B6} :Qq x y=true↔x=y:=by
 obtain⟨a,b⟩:=x;obtain⟨a',b'⟩:=y;simp only[Qq,zc,beq_iff_eq,B6.mk.injEq]
theorem Alu (x y:B6) (w:World):(Op.equalIn 10000 79 (.agg #[.int .i64 x.queue,.int .i64 x.cf]) (.agg #[.int .i64 y.queue,.int .i64 y.cf])).run Tryz.prog w= .ok (Qq x y) w:=by
 have u1:=Tryz.underlying3;have a1:=Tryz.isAgg3;have z1:=Tryz.sizeOf3;have hS:Tryz.prog.underlying 79=some (.struct (Tryz.prog.fieldsOf 79)):=by kernel_rfl
 have hH:Tryz.prog.stoodInHeld 79=false:=by kernel_rfl
 rw[show(10000:Nat)=9999+1 from rfl,run_equalIn_agg w 9999 79 _ _ hS hH];simp only[Program.fieldsOf,Tryz.underlying79];unfold Qq
 go_simp
 by_cases h1:x.queue=y.queue<;>by_cases h2:x.cf=y.cf<;>simp[h1,h2]
@[go_sem ↓] theorem Ayu (x y:B6) (w:World):(binOp .neq 79 (.agg #[.int .i64 x.queue,.int .i64 x.cf]) (.agg #[.int .i64 y.queue,.int .i64 y.cf])).run Tryz.prog w= .ok (.bool (!Qq x y)) w:=by
 rw[run_neq_struct,Alu];rfl
@[go_sem ↓] theorem Av1 (x y:B6) (w:World):(binOp .eql 79 (.agg #[.int .i64 x.queue,.int .i64 x.cf]) (.agg #[.int .i64 y.queue,.int .i64 y.cf])).run Tryz.prog w= .ok (.bool (Qq x y)) w:=by
 rw[run_eql_struct,Alu];rfl
@[go_sem] theorem Auq:Tryz.prog.eqGuardType Tryz.prog.depth 79=false:=by kernel_rfl
theorem Aur (x y:Ap) (w:World):(Op.equalIn 9999 52 (.agg (zY x)) (.agg (zY y))).run Tryz.prog w= .ok (K9 x y) w:=by
 have u1:=Tryz.underlying3;have a1:=Tryz.isAgg3;have z1:=Tryz.sizeOf3;have u2:=Tryz.underlying9;have a2:=Tryz.isAgg9;have z2:=Tryz.sizeOf9;have u3:=Tryz.underlying4;have a3:=Tryz.isAgg4;have z3:=Tryz.sizeOf4;have hS:Tryz.prog.underlying 52=some (.struct (Tryz.prog.fieldsOf 52)):=by kernel_rfl
 have hH:Tryz.prog.stoodInHeld 52=false:=by kernel_rfl
 rw[show(9999:Nat)=9998+1 from rfl,run_equalIn_agg w 9998 52 _ _ hS hH];simp only[Program.fieldsOf,Tryz.underlying52];unfold K9
 go_simp
 by_cases h1:x.seq=y.seq<;>by_cases h2:x.key.toList=y.key.toList<;>by_cases h3:x.body.toList=y.body.toList<;>by_cases h4:x.again=y.again<;>by_cases h5:x.au=y.au<;>simp[h1,h2,h3,h4,h5]
theorem Ayn (x y:Eh) (w:World):(Op.equalIn 10000 77 (.agg #[.int .i64 x.tag,.int .i64 x.bg,.int .i64 x.queue,.int .i64 x.item.seq,.string x.item.key,.string x.item.body,.bool x.item.again,.int .i64 x.item.au]) (.agg #[.int .i64 y.tag,.int .i64 y.bg,.int .i64 y.queue,.int .i64 y.item.seq,.string y.item.key,.string y.item.body,.bool y.item.again,.int .i64 y.item.au])).run Tryz.prog w= .ok (Ac0 x y) w:=by
 have u1:=Tryz.underlying3;have a1:=Tryz.isAgg3;have z1:=Tryz.sizeOf3;have a4:=Tryz.isAgg52;have z4:=Tryz.sizeOf52;have hS:Tryz.prog.underlying 77=some (.struct (Tryz.prog.fieldsOf 77)):=by kernel_rfl
 have hH:Tryz.prog.stoodInHeld 77=false:=by kernel_rfl
 have hI:=Aur x.item y.item;rw[show(10000:Nat)=9999+1 from rfl,run_equalIn_agg w 9999 77 _ _ hS hH];simp only[Program.fieldsOf,Tryz.underlying77];unfold Ac0
 go_simp
 by_cases h1:x.tag=y.tag<;>by_cases h2:x.bg=y.bg<;>by_cases h3:x.queue=y.queue<;>simp[h1,h2,h3,hI]<;>cases K9 x.item y.item<;>rfl
@[go_sem ↓] theorem Aze (x y:Eh) (w:World):(binOp .neq 77 (.agg #[.int .i64 x.tag,.int .i64 x.bg,.int .i64 x.queue,.int .i64 x.item.seq,.string x.item.key,.string x.item.body,.bool x.item.again,.int .i64 x.item.au]) (.agg #[.int .i64 y.tag,.int .i64 y.bg,.int .i64 y.queue,.int .i64 y.item.seq,.string y.item.key,.string y.item.body,.bool y.item.again,.int .i64 y.item.au])).run Tryz.prog w= .ok (.bool (!Ac0 x y)) w:=by
 rw[run_neq_struct,Ayn];rfl
@[go_sem] theorem Aw5:Tryz.prog.eqGuardType Tryz.prog.depth 77=false:=by kernel_rfl
end Go.Proofs.YtaanpcjkflhomaaGreatDoor
namespace Go.Proofs.YtaanpcjkflhomaaGreatDoor
open Go.RowKit
def Qg {α:Type} (eq:α→α→Bool):List α→List α→Bool
 | [],[]=>true
 |x::xs,y::ys=>eq x y && Qg eq xs ys
 |_,_=>false
theorem Qh {α:Type} {eq:α→α→Bool} (h:∀x y,eq x y=true↔x=y):∀ {l m:List α},Qg eq l m=true↔l=m
 | [],[]=>by simp[Qg]
 | [],y::ys=>by simp[Qg]
 |x::xs,[]=>by simp[Qg]
 |x::xs,y::ys=>by
  simp only[Qg,zc,List.cons.injEq,h,Qh h]
def Tf (s t:Aa):Bool:=Qg Ff s.ready t.ready && (Qg Ac0 s.outs t.outs && (Qg Qq s.ae t.ae && (s.ah == t.ah && (s.af == t.af && (s.aw == t.aw && (s.ar == t.ar && s.dropped == t.dropped))))))
theorem R7 {s t:Aa} :Tf s t=true↔s=t:=by
 obtain⟨a,b,c,d,e,f,g,h⟩:=s;obtain⟨a',b',c',d',e',f',g',h'⟩:=t;simp only[Tf,zc,beq_iff_eq,Aa.mk.injEq,Qh (fun x y=>Iq),Qh (fun x y=>We),Qh (fun x y=>R8)]
theorem Ea (s:Aa):Tf s s=true:=R7.2 rfl
theorem G1 {s t:Aa} (h:s≠t):Tf s t=false:=by rw[←Bool.not_eq_true,R7];exact h
structure Aza (w:World) (s t:Aa) (a1 a2 a3 b1 b2 b3:Option Addr) (c1 c2 c3 d1 d2 d3:Nat) (rows rowt:List Bq) (W:World):Prop where
 one:W.cell? ⟨w.heap.size,0,none⟩=some (.slice a1 s.ready.length c1)∧W.cell? ⟨w.heap.size,1,none⟩=some (.slice a2 s.outs.length c2)∧W.cell? ⟨w.heap.size,2,none⟩=some (.slice a3 s.ae.length c3)∧W.cell? ⟨w.heap.size,3,none⟩=some (.int .i64 s.ah)∧W.cell? ⟨w.heap.size,4,none⟩=some (.int .i64 s.af)∧W.cell? ⟨w.heap.size,5,none⟩=some (.int .i64 s.aw)∧W.cell? ⟨w.heap.size,6,none⟩=some (.int .i64 s.ar)∧W.cell? ⟨w.heap.size,7,none⟩=some (.int .i64 s.dropped)
 two:W.cell? ⟨w.heap.size+1,0,none⟩=some (.slice b1 t.ready.length d1)∧W.cell? ⟨w.heap.size+1,1,none⟩=some (.slice b2 t.outs.length d2)∧W.cell? ⟨w.heap.size+1,2,none⟩=some (.slice b3 t.ae.length d3)∧W.cell? ⟨w.heap.size+1,3,none⟩=some (.int .i64 t.ah)∧W.cell? ⟨w.heap.size+1,4,none⟩=some (.int .i64 t.af)∧W.cell? ⟨w.heap.size+1,5,none⟩=some (.int .i64 t.aw)∧W.cell? ⟨w.heap.size+1,6,none⟩=some (.int .i64 t.ar)∧W.cell? ⟨w.heap.size+1,7,none⟩=some (.int .i64 t.dropped)
 below:Below w.heap.size w W
 oneAt:Ax W 0 W.heap.size a1 a2 a3 rows s
 twoAt:Ax W 0 W.heap.size b1 b2 b3 rowt t
theorem Ak5 {w:World} {s t:Aa} {a1 a2 a3 b1 b2 b3:Option Addr} {rows rowt:List Bq} (c1 c2 c3 d1 d2 d3:Nat) (hs:Ax w 0 w.heap.size a1 a2 a3 rows s) (ht:Ax w 0 w.heap.size b1 b2 b3 rowt t) (t1 t2:TypeId) (W:World)
  (hW:Below ((w.alloc (.cells (Ag s a1 a2 a3 c1 c2 c3) t1)).alloc (.cells (Ag t b1 b2 b3 d1 d2 d3) t2)).heap.size ((w.alloc (.cells (Ag s a1 a2 a3 c1 c2 c3) t1)).alloc (.cells (Ag t b1 b2 b3 d1 d2 d3) t2)) W):
  Aza w s t a1 a2 a3 b1 b2 b3 c1 c2 c3 d1 d2 d3 rows rowt W:=by
 generalize hA:w.alloc (.cells (Ag s a1 a2 a3 c1 c2 c3) t1)=wA at hW;have hsA:wA.heap.size=w.heap.size+1:=by rw[←hA];simp
 have kA:Bk wA w.heap.size t1 (Ag s a1 a2 a3 c1 c2 c3):=by rw[←hA];exact Bk.new _ _ _
 have bA:Below w.heap.size w wA:=by rw[←hA];exact(zb _ _).alloc (zn _) _
 have kB:=Bk.new wA t2 (Ag t b1 b2 b3 d1 d2 d3);have bB:Below wA.heap.size wA (wA.alloc (.cells (Ag t b1 b2 b3 d1 d2 d3) t2)):=(zb _ _).alloc (zn _) _;have hsB:(wA.alloc (.cells (Ag t b1 b2 b3 d1 d2 d3) t2)).heap.size=wA.heap.size+1:=by simp
 have bW:=bB.trans (hW.mono bB.size);have k1:=kA.below bW (by omega);have k2:=kB.below hW (by omega);rw[hsA] at k2;have bw:Below w.heap.size w W:=bA.trans (bW.mono (by omega));exact⟨⟨k1.cell 0,k1.cell 1,k1.cell 2,k1.cell 3,k1.cell 4,k1.cell 5,k1.cell 6,k1.cell 7⟩,⟨k2.cell 0,k2.cell 1,k2.cell 2,k2.cell 3,k2.cell 4,k2.cell 5,k2.cell 6,k2.cell 7⟩,bw,(hs.below bw (zn _)).wider (zn _) bw.size,(ht.below bw (zn _)).wider (zn _) bw.size⟩
theorem Wn {α:Type} {l m:List α} {k:Nat} (h1:k < l.length) (h2:k < m.length) (h:l.take k=m.take k) (he:l[k]=m[k]):l.take (k+1)=m.take (k+1):=by
 rw[zj h1,zj h2,h,he]
theorem Ul {α:Type} {l m:List α} (hl:l.length=m.length) (h:l.take l.length=m.take l.length):l=m:=by
 rw[List.take_length] at h;rw[h,hl,List.take_length]
theorem Akh {n m:Nat} (h:((n:Int) != (m:Int))=false):n=m:=by
 have h:(n:Int)=(m:Int):=by simpa using h
 omega
def Ap4 {α:Type} (l m:List α) (W0:World) (i:Value) (wr:World):Prop:=
 ∃k:Nat,k≤l.length∧i= .int .i64 k∧l.take k=m.take k∧Below W0.heap.size W0 wr
theorem Di (s t:Aa) (a1 a2 a3 b1 b2 b3:Option Addr) (c1 c2 c3 d1 d2 d3:Nat) (rows rowt:List Bq) (w:World) (hs:Ax w 0 w.heap.size a1 a2 a3 rows s) (hss:Am s) (ht:Ax w 0 w.heap.size b1 b2 b3 rowt t) (hts:Am t):
  Calls Tryz.prog 20 #[Ac s a1 a2 a3 c1 c2 c3,Ac t b1 b2 b3 d1 d2 d3] w fun e w'=>e= .returned (.bool (Tf s t))∧Below w.heap.size w w':=by
 have hbx:=Ak5 c1 c2 c3 d1 d2 d3 hs ht 31 31;unfold Ag at hbx;unfold Ac Ag;have HBX:=zh hbx;have HSS:=zh hss;have HTS:=zh hts;have hl1:=hss.ready;have hl2:=hss.outs;have hl3:=hss.ae
 have hl4:=hts.ready;have hl5:=hts.outs;have hl6:=hts.ae
 clear hbx hs ht hss hts;go_enter Tryz.func20,Tryz.ntmps20
 obtain⟨⟨m0,m1,m2,m3,m4,m5,m6,m7⟩,⟨n0,n1,n2,n3,n4,n5,n6,n7⟩,_,_,_⟩:=HBX.out _ (zb _ _)
 cases g0:((s.ready.length:Int) != (t.ready.length:Int))
 ·cases g1:((s.outs.length:Int) != (t.outs.length:Int))
  ·cases g2:((s.ae.length:Int) != (t.ae.length:Int))
   ·cases g3:(s.ah != t.ah)
    ·cases g4:(s.af != t.af)
     ·cases g5:(s.aw != t.aw)
      ·cases g6:(s.ar != t.ar)
       ·cases g7:(s.dropped != t.dropped)
        ·have HG:=zh (zi (Akh g0) (zi (Akh g1) (zi (Akh g2) (zi (show s.ah=t.ah by simpa using g3) (zi (show s.af=t.af by simpa using g4) (zi (show s.aw=t.aw by simpa using g5) (zi (show s.ar=t.ar by simpa using g6) (show s.dropped=t.dropped by simpa using g7))))))))
         go_wp2_with fail
         clear m0 m1 m2 m3 m4 m5 m6 m7 n0 n1 n2 n3 n4 n5 n6 n7 g0 g1 g2 g3 g4 g5 g6 g7;generalize ((w.alloc (.cells (zV s a1 a2 a3 c1 c2 c3) 31)).alloc (.cells (zV t b1 b2 b3 d1 d2 d3) 31))=W0 at *
         go_loopw [5] (fun i wr=>Ap4 s.ready t.ready W0 i wr) (fun i _=>s.ready.length - (intOf i).toNat)
         case atStart=>exact⟨0,by omega,rfl,rfl,zb _ _⟩
         case round=>
          obtain⟨k,hk,rfl,hq,hB⟩:=hrel;have HQ:=zh hq;have HB:=zh hB;clear hq;obtain⟨⟨m0,_,_,_,_,_,_,_⟩,⟨n0,_,_,_,_,_,_,_⟩,_,hsat,htat⟩:=HBX.out _ hB;by_cases hlt:k < s.ready.length
          ·have hlt2:k < t.ready.length:=by have:=HG.out.1;omega
           have hltr:k < rows.length:=by have h:=congrArg List.length hsat.same;rw[List.length_map] at h;omega
           have hltt:k < rowt.length:=by have h:=congrArg List.length htat.same;rw[List.length_map] at h;omega
           obtain⟨b,o,ha,_,hb,hc⟩:=Bd Dv (by decide) hsat.ready hltr;obtain⟨b',o',ha',_,hb',hc'⟩:=Bd Dv (by decide) htat.ready hltt;have e0:wr.cell? ⟨b,o+k,none⟩=some (.slice rows[k].at_ rows[k].items.length rows[k].cap):=by have:=hc 0 _ rfl;simpa using this
           have f0:wr.cell? ⟨b',o'+k,none⟩=some (.slice rowt[k].at_ rowt[k].items.length rowt[k].cap):=by have:=hc' 0 _ rfl;simpa using this
           have hit:s.ready[k]=rows[k].items:=by simp[←hsat.same]
           have hit':t.ready[k]=rowt[k].items:=by simp[←htat.same]
           have HIT:=zh hit;have HIT':=zh hit'
           have HR1:=zh (hsat.row _ (zg hltr)).1;have HR2:=zh (htat.row _ (zg hltt)).1;have hn1:=(HSS.out.row _ (zg hlt)).len;have hn2:=(HTS.out.row _ (zg hlt2)).len;rw[hit] at hn1;rw[hit'] at hn2;clear hc hc' hit hit' hsat htat hB;generalize rows[k]=r at *;obtain⟨ra,rc,ri⟩:=r;generalize rowt[k]=r2 at *;obtain⟨ta,tc,ti⟩:=r2;dsimp only at e0 f0 HIT HIT' HR1 HR2 hn1 hn2;subst ha ha';have HK:Hid (∀W,Below wr.heap.size wr W→(W.cell? ⟨w.heap.size,0,none⟩=some (.slice (some ⟨b,o,none⟩) s.ready.length c1)∧W.cell? ⟨w.heap.size+1,0,none⟩=some (.slice (some ⟨b',o',none⟩) t.ready.length d1)∧W.cell? ⟨b,o+k,none⟩=some (.slice ra ri.length rc)∧W.cell? ⟨b',o'+k,none⟩=some (.slice ta ti.length tc))∧Below wr.heap.size wr W):=fun W hW=>by
            have h:=HBX.out W (HB.out.trans (hW.mono HB.out.size));exact⟨⟨h.one.1,h.two.1,(hW.cell (p:=⟨b,_,none⟩) hb).trans e0,(hW.cell (p:=⟨b',_,none⟩) hb').trans f0⟩,hW⟩
           obtain⟨q,hq⟩:∃q,Ff ri ti=q:=⟨_,rfl⟩;have HCALL:Hid (∀W,(∃C:Prop,C∧Below wr.heap.size wr W)→Calls Tryz.prog 33 #[.slice ra ri.length rc,.slice ta ti.length tc] W fun e w'=>e= .returned (.bool q)∧Below W.heap.size W w'):=fun W ⟨_,hW⟩=>by
            have:=Gj ra ta rc tc ri ti W 0 ((HR1.out.below hW.2 (zn _)).wider (zn _) hW.2.size) ((HR2.out.below hW.2 (zn _)).wider (zn _) hW.2.size) (by omega) (by omega);rw[hq] at this;exact this
           have HQQ:=zh hq;clear hq;go_upto_region 6 with fail
           clear m0 n0 e0 f0
           cases q
           ·have HNE:=zh (G1 (s:=s) (t:=t) (fun e=>by
             have h1:=HIT.out;have h2:=HIT'.out
             subst e;have h3:=HQQ.out;rw[←h1,←h2,Jc] at h3
             cases h3))
            refine Jn [(0,false),(1,false),(2,false),(3,false),(4,false),(5,false),(6,false),(7,false),(8,false),(9,false),(10,true),(11,false)] (by kernel_rfl) (fun hOrd=> ?_);refine zS HK hOrd (by kernel_rfl) (fun hHeld=> ?_);clear hOrd
            iterate 12 ((first|(refine zT ?_)|(refine zL ?_)|(refine NW.call rfl (fun K hK=> ?_);go_simp;((go_at_call 33;have hfn:=HCALL.out _ ⟨_,by assumption⟩;with_reducible refine hfn.mono ?_;clear hfn;rintro e wf ⟨rfl,hbf⟩;have hbf2:=Bp (by assumption) hbf;clear hbf));refine hK.out _ _ (by first|assumption|exact HK.out _ (Br (by assumption) _)|exact HK.out _ (by assumption)) (fun hHeld=> ?_);clear hK K));try simp only[Act.put,zA,zB,zC,zD,zE,zF])
            refine NW.done ?_;go_wp2_with fail
            go_ret
            exact⟨by rw[HNE.out];rfl,(HBX.out _ (HB.out.trans (hbf2.mono HB.out.size))).below⟩
           ·have HNEXT:Hid (s.ready.take (k+1)=t.ready.take (k+1)):=Wn hlt hlt2 HQ.out (by rw[HIT.out,HIT'.out];exact Iq.1 HQQ.out)
            refine Jn [(0,false),(1,false),(2,false),(3,false),(4,false),(5,false),(6,false),(7,false),(8,false),(9,false),(10,true),(11,false)] (by kernel_rfl) (fun hOrd=> ?_);refine zS HK hOrd (by kernel_rfl) (fun hHeld=> ?_);clear hOrd
            iterate 12 ((first|(refine zT ?_)|(refine zL ?_)|(refine NW.call rfl (fun K hK=> ?_);go_simp;((go_at_call 33;have hfn:=HCALL.out _ ⟨_,by assumption⟩;with_reducible refine hfn.mono ?_;clear hfn;rintro e wf ⟨rfl,hbf⟩;have hbf2:=Bp (by assumption) hbf;clear hbf));refine hK.out _ _ (by first|assumption|exact HK.out _ (Br (by assumption) _)|exact HK.out _ (by assumption)) (fun hHeld=> ?_);clear hK K));try simp only[Act.put,zA,zB,zC,zD,zE,zF])
            refine NW.done ?_;go_wp2_with fail
            exact⟨⟨k+1,hlt,by go_num,HNEXT.out,HB.out.trans (hbf2.mono HB.out.size)⟩,by simp[intOf];omega⟩
          ·obtain rfl:k=s.ready.length:=by omega
           have HREADY:Hid (s.ready=t.ready):=Ul HG.out.1 HQ.out;clear hsat htat hB;go_wp2_with fail
           clear m0 n0
           go_loopw [6] (fun i wr=>Ap4 s.outs t.outs W0 i wr) (fun i _=>s.outs.length - (intOf i).toNat)
           case atStart=>exact⟨0,by omega,rfl,rfl,HB.out⟩
           case round=>
            clear HQ HB;obtain⟨k,hk,rfl,hq,hB⟩:=hrel;have HQ:=zh hq;have HB:=zh hB;clear hq;obtain⟨⟨_,m1,_,_,_,_,_,_⟩,⟨_,n1,_,_,_,_,_,_⟩,_,hsat,htat⟩:=HBX.out _ hB;by_cases hlt:k < s.outs.length
            ·have hlt2:k < t.outs.length:=by have:=HG.out.2.1;omega
             obtain⟨b,o,ha,_,hb,hc⟩:=Bd Dy (by decide) hsat.outs hlt;obtain⟨b',o',ha',_,hb',hc'⟩:=Bd Dy (by decide) htat.outs hlt2;obtain⟨e0,e1,e2,e3,e4,e5,e6,e7⟩:=G7 (wr:=wr) (b:=b) (o:=o) (k:=k) (x:=s.outs[k]) fun q u hu=>hc q u hu;obtain⟨f0,f1,f2,f3,f4,f5,f6,f7⟩:=G7 (wr:=wr) (b:=b') (o:=o') (k:=k) (x:=t.outs[k]) fun q u hu=>hc' q u hu;have HX:Hid (∀h1 h2,(s.outs[k]'h1)=s.outs[k]∧(t.outs[k]'h2)=t.outs[k]):=fun _ _=>⟨rfl,rfl⟩;clear hc hc' hsat htat hB;generalize hx:s.outs[k]=x at *;generalize hy:t.outs[k]=y at *;have HXY:=zh (zi hx hy);clear hx hy HX;subst ha ha'
             cases hq:Ac0 x y
             ·have HNE:=zh (G1 (s:=s) (t:=t) (fun e=>by
               have h1:=HXY.out;subst e;have h2:=h1.1.symm.trans h1.2;subst h2;rw[We.2 rfl] at hq
               cases hq))
              go_wp2
              go_quiet (fail)
              all_goals go_wp2
              all_goals go_ret
              all_goals exact⟨by rw[HNE.out];rfl,(HBX.out _ (below_draws HB.out _)).below⟩
             ·have HNEXT:Hid (s.outs.take (k+1)=t.outs.take (k+1)):=Wn hlt hlt2 HQ.out (by rw[HXY.out.1,HXY.out.2];exact We.1 hq)
              go_wp2
              go_quiet (fail)
              all_goals go_wp2
              all_goals exact⟨⟨k+1,hlt,by go_num,HNEXT.out,below_draws HB.out _⟩,by simp[intOf];omega⟩
            ·obtain rfl:k=s.outs.length:=by omega
             have HOUTS:Hid (s.outs=t.outs):=Ul HG.out.2.1 HQ.out;clear hsat htat hB;go_wp2_with fail
             clear m1 n1
             go_loopw [7] (fun i wr=>Ap4 s.ae t.ae W0 i wr) (fun i _=>s.ae.length - (intOf i).toNat)
             case atStart=>exact⟨0,by omega,rfl,rfl,HB.out⟩
             case round=>
              clear HQ HB;obtain⟨k,hk,rfl,hq,hB⟩:=hrel;have HQ:=zh hq;have HB:=zh hB;clear hq;obtain⟨⟨_,_,m2,_,_,_,_,_⟩,⟨_,_,n2,_,_,_,_,_⟩,_,hsat,htat⟩:=HBX.out _ hB;by_cases hlt:k < s.ae.length
              ·have hlt2:k < t.ae.length:=by have:=HG.out.2.2.1;omega
               obtain⟨b,o,ha,_,hb,hc⟩:=Bd Cy (by decide) hsat.ae hlt;obtain⟨b',o',ha',_,hb',hc'⟩:=Bd Cy (by decide) htat.ae hlt2;obtain⟨e0,e1⟩:=Gx (wr:=wr) (b:=b) (o:=o) (k:=k) (x:=s.ae[k]) fun q u hu=>hc q u hu;obtain⟨f0,f1⟩:=Gx (wr:=wr) (b:=b') (o:=o') (k:=k) (x:=t.ae[k]) fun q u hu=>hc' q u hu;clear hc hc' hsat htat hB;generalize hx:s.ae[k]=x at *;generalize hy:t.ae[k]=y at *;have HXY:=zh (zi hx hy);clear hx hy;subst ha ha'
               cases hq:Qq x y
               ·have HNE:=zh (G1 (s:=s) (t:=t) (fun e=>by
                 have h1:=HXY.out;subst e;have h2:=h1.1.symm.trans h1.2;subst h2;rw[R8.2 rfl] at hq
                 cases hq))
                go_wp2
                go_quiet (fail)
                all_goals go_wp2
                all_goals go_ret
                all_goals exact⟨by rw[HNE.out];rfl,(HBX.out _ (below_draws HB.out _)).below⟩
               ·have HNEXT:Hid (s.ae.take (k+1)=t.ae.take (k+1)):=Wn hlt hlt2 HQ.out (by rw[HXY.out.1,HXY.out.2];exact R8.1 hq)
                go_wp2
                go_quiet (fail)
                all_goals go_wp2
                all_goals exact⟨⟨k+1,hlt,by go_num,HNEXT.out,below_draws HB.out _⟩,by simp[intOf];omega⟩
              ·obtain rfl:k=s.ae.length:=by omega
               have HEQ:Hid (Tf s t=true):=R7.2 (by
                have ht:=Ul HG.out.2.2.1 HQ.out;have h1:=HREADY.out;have h2:=HOUTS.out
                obtain⟨_,_,_,h3,h4,h5,h6,h7⟩:=HG.out
                cases s;cases t
                simp_all)
               clear hsat htat hB;go_wp2_with fail
               go_ret
               exact⟨by rw[HEQ.out];rfl,(HBX.out _ HB.out).below⟩
        ·have HNE:=zh (G1 (s:=s) (t:=t) (fun e=>by subst e;simp at g7))
         have HB0:=zh (HBX.out _ (zb _ _)).below;clear HBX HSS HTS;go_wp2_with fail
         go_ret
         exact⟨by rw[HNE.out];rfl,HB0.out⟩
       ·have HNE:=zh (G1 (s:=s) (t:=t) (fun e=>by subst e;simp at g6))
        have HB0:=zh (HBX.out _ (zb _ _)).below;clear HBX HSS HTS;go_wp2_with fail
        go_ret
        exact⟨by rw[HNE.out];rfl,HB0.out⟩
      ·have HNE:=zh (G1 (s:=s) (t:=t) (fun e=>by subst e;simp at g5))
       have HB0:=zh (HBX.out _ (zb _ _)).below;clear HBX HSS HTS;go_wp2_with fail
       go_ret
       exact⟨by rw[HNE.out];rfl,HB0.out⟩
     ·have HNE:=zh (G1 (s:=s) (t:=t) (fun e=>by subst e;simp at g4))
      have HB0:=zh (HBX.out _ (zb _ _)).below;clear HBX HSS HTS;go_wp2_with fail
      go_ret
      exact⟨by rw[HNE.out];rfl,HB0.out⟩
    ·have HNE:=zh (G1 (s:=s) (t:=t) (fun e=>by subst e;simp at g3))
     have HB0:=zh (HBX.out _ (zb _ _)).below;clear HBX HSS HTS;go_wp2_with fail
     go_ret
     exact⟨by rw[HNE.out];rfl,HB0.out⟩
   ·have HNE:=zh (G1 (s:=s) (t:=t) (fun e=>by subst e;simp at g2))
    have HB0:=zh (HBX.out _ (zb _ _)).below;clear HBX HSS HTS;go_wp2_with fail
    go_ret
    exact⟨by rw[HNE.out];rfl,HB0.out⟩
  ·have HNE:=zh (G1 (s:=s) (t:=t) (fun e=>by subst e;simp at g1))
   have HB0:=zh (HBX.out _ (zb _ _)).below;clear HBX HSS HTS;go_wp2_with fail
   go_ret
   exact⟨by rw[HNE.out];rfl,HB0.out⟩
 ·have HNE:=zh (G1 (s:=s) (t:=t) (fun e=>by subst e;simp at g0))
  have HB0:=zh (HBX.out _ (zb _ _)).below;clear HBX HSS HTS;go_wp2_with fail
  go_ret
  exact⟨by rw[HNE.out];rfl,HB0.out⟩
open Go.RowKit
end Go.Proofs.YtaanpcjkflhomaaGreatDoor
namespace Go.Proofs.YtaanpcjkflhomaaGreatDoor
open Go.RowKit
instance (n:Int):Decidable (i64 n):=inferInstanceAs (Decidable (_∧_))
theorem Gr:Ba Bn:=by
 refine⟨by decide,by decide,by decide,by decide,by decide,?_,?_⟩
 ·intro x hx
  simp only[Bn,List.mem_cons,List.not_mem_nil,or_false] at hx;rcases hx with rfl|rfl<;>decide
 ·intro x hx
  simp only[Bn,List.mem_singleton] at hx;subst hx;exact⟨by decide,by decide,by decide⟩
theorem Ro:i64 0:=by decide
theorem Aea (p:Ab):Ba (Cx p):=by
 refine⟨Ro,Ro,Ro,Ro,Ro,?_,?_⟩
 ·intro x hx;cases hx
 ·intro x hx;cases hx
end Go.Proofs.YtaanpcjkflhomaaGreatDoor
