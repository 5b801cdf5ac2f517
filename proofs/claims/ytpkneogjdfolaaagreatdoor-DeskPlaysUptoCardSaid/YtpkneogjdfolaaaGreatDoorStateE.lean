/- Lemmas. -/
import Derived.Test.YtpkneogjdfolaaaGreatDoorBunF
import Derived.Deep.CutRange
set_option maxHeartbeats 20000000
set_option maxRecDepth 100000
set_option linter.unusedSimpArgs false
set_option linter.unusedVariables false
namespace Go.Proofs.YtpkneogjdfolaaaGreatDoor
open Go.RowKit
theorem Js:(Tryz.prog.info? 3).map (fun i=>(i.zero,i.size,i.bytes))=some (some (.int .i64 0),1,8):=by kernel_rfl
def M6(l:List Int):List Value:=l.map (Value.int .i64)
theorem Qt(l:List Int)(n:Int):M6 (l++[n])=M6 l++[.int .i64 n]:=by unfold M6;rw[List.map_append];rfl
theorem Ye(l:List Int):(M6 l).length=l.length:=List.length_map _
def Qj(W0:zW)(l:List Int)(v:Value)(wr:zW):Prop:=wr.ownsRow W0.heap.size 3 1 v l.length (M6 l)∧Below W0.heap.size W0 wr
def Az6(s:Aa)(W0:zW)(v i:Value)(wr:zW):Prop:=
 ∃k:Nat,k≤s.ready.length∧i= .int .i64 k∧Qj W0 (Dj (s.ready.take k)) v wr∧(∀l∈s.ready.take k,Ct l=true)
def Az7(s:Aa)(W0:zW)(k:Nat)(r:List Ao)(v i:Value)(wr:zW):Prop:=
 ∃j:Nat,j≤r.length∧i= .int .i64 j∧Qj W0 (Dj (s.ready.take k)++(r.take j).map (·.seq)) v wr
def Az8(p:Ab)(s:Aa)(W0:zW)(v i:Value)(wr:zW):Prop:=
 ∃j:Nat,j≤s.ae.length∧i= .int .i64 j∧Qj W0 (Dj s.ready) v wr∧∀t∈s.ae.take j,Iv p.ag.length t=true
def Az9(s:Aa)(W0:zW)(v i:Value)(wr:zW):Prop:=
 ∃j:Nat,j≤s.outs.length∧i= .int .i64 j∧Qj W0 (Dj s.ready++Hd (s.outs.take j)) v wr∧(∀x∈s.outs.take j,Mt s x=true)∧∀q (hq:q < s.outs.length),q < j→Hi s.outs q < s.outs[q].tag
def A0a(s:Aa)(w0:zW)(i:Value)(wq:zW):Prop:=
 ∃k:Nat,k≤(Dh s).length∧i= .int .i64 k∧((Dh s).take k).Nodup∧(∀n∈(Dh s).take k,n < s.ah)∧Below w0.heap.size w0 wq
def A0b(s:Aa)(w0:zW)(i:Nat)(k:Value)(wq:zW):Prop:=
 ∃j:Nat,j≤i∧k= .int .i64 j∧(∀q (hq:q < (Dh s).length),q < j→∀z,(Dh s)[i]? =some z→(Dh s)[q]≠z)∧Below w0.heap.size w0 wq
theorem Ga{p:Ab}{s:Aa}(h:¬ Formed p s):Ot p s=false:=by
 rw[←Bool.not_eq_true,Ip];exact h
theorem Alg(p:Ab)(s:Aa)(p1 p2 p3 a1 a2 a3:zZ)(q1 q2 q3 c1 c2 c3:Nat)(rows:List Bm)(w:zW)(hE:Env w)(hp:Au w 0 w.heap.size p1 p2 p3 p)(hps:Ai p)(hs:Av w 0 w.heap.size a1 a2 a3 rows s)(hss:Ap s)(hsi:A9 s):
  Calls Tryz.prog 150 #[Ay p p1 p2 p3 q1 q2 q3,Ad s a1 a2 a3 c1 c2 c3] w fun e w'=>e= .returned (.bool (Ot p s))∧Below w.heap.size w w':=by
 have hbx:=Cj q1 q2 q3 c1 c2 c3 hE hp hs 26 40;unfold Ag at hbx;unfold Ad Ay Ag;have HBX:=zh hbx;have HPS:=zh hps;have HSS:=zh hss;have HSI:=zh hsi;clear hbx hE hp hs hps hss hsi;go_enter Tryz.func150,Tryz.ntmps150
 obtain⟨⟨m0,m1,m2⟩,⟨n0,n1,n2,n3,n4,n5,n6,n7⟩,_,_,_,_⟩:=HBX.out _ (zb _ _);by_cases hlen:s.ready.length=p.ag.length
 ·have hlb:((s.ready.length:Int) != (p.ag.length:Int))=false:=by simp[hlen]
  have HLEN:=zh hlen;clear hlen;go_wp2_with fail
  clear m0 m1 m2 n0 n1 n2 n3 n4 n5 n6 n7 hlb;generalize ((w.alloc (.cells (zP p p1 p2 p3 q1 q2 q3) 26)).alloc (.cells (zV s a1 a2 a3 c1 c2 c3) 40))=W0 at *
  go_loopw [5,6] (fun v i wr=>Az6 s W0 v i wr) (fun _ i _=>s.ready.length - (intOf i).toNat)
  case atStart=>exact⟨0,by omega,rfl,⟨World.ownsRow_nil _ _ _ _,zb _ _⟩,fun l hl=>by simp at hl⟩
  case round=>
   obtain⟨k,hk,rfl,⟨hown,hB⟩,hfine⟩:=hrel;have HB:=zh hB;have HO:=zh hown;have HFINE:=zh hfine
   clear hown hfine;obtain⟨_,⟨n0,n1,n2,n3,n4,n5,n6,n7⟩,_,henv,_,hsat⟩:=HBX.out _ hB;have HSAT:=zh hsat;by_cases hlt:k < s.ready.length
   ·have hrl:rows.length=s.ready.length:=by rw[←hsat.same,List.length_map]
    have hltr:k < rows.length:=by omega
    obtain⟨b,o,ha,_,hb,hc⟩:=Bf El (by decide) hsat.ready hltr;have e0:wr.cell? ⟨b,o+k,none⟩=some (.slice rows[k].at_ rows[k].items.length rows[k].cap):=by have:=hc 0 _ rfl;simpa using this
    have hit:s.ready[k]=rows[k].items:=by simp[←hsat.same]
    have hsm:=HSS.out.row _ (zg hlt);have HIT:=zh hit;rw[hit] at hsm;have HSM:=zh hsm;have HMEM:=zh (zg hltr);have hllen:=hsm.len;have hly1:=Zw hlt;rw[hit] at hly1;have hly3:=Yp s (k+1);have hly4:E8 s≤1048576:=HSS.out.lying;have hrdy:=HSS.out.ready;have HLK:=zh (Ajy s k);have hrow:=(hsat.row _ (zg hltr)).1;have HCELL:Hid (∀W,Below W0.heap.size W0 W→W.cell? ⟨b,o+k,none⟩=some (.slice rows[k].at_ rows[k].items.length rows[k].cap)∧W.cell? ⟨w.heap.size+1,0,none⟩=some (.slice (some ⟨b,o,none⟩) s.ready.length c1)):=fun W hW=>by
     have h:=HBX.out W hW;obtain⟨b',o',ha',_,_,hc'⟩:=Bf El (by decide) h.bc.ready hltr;rw[ha] at ha';simp only[Option.some.injEq,Addr.mk.injEq,and_true] at ha';obtain⟨rfl,rfl⟩:=ha';have:=hc' 0 _ rfl;rw[←ha];exact⟨by simpa using this,h.state.1⟩
    clear hc hsm hit hsat hB;generalize rows[k]=r at *;obtain⟨ra,rc,ri⟩:=r;dsimp only at e0 hllen hly1 HIT HSM hrow HCELL;have HROW:=zh hrow;clear hrow
    subst ha;go_wp2_with fail
    refine(Tn ra rc ri 0 wr HROW.out HSM.out).mono ?_;rintro e W5 ⟨rfl,hb5⟩;have HB5:=zm HB hb5;have HO5:=zh (own_below HO.out hb5);clear hb5 n0 n1 n2 n3 n4 n5 n6 n7 e0
    cases hq:Ct ri
    ·have HNF:=zh (Ga (Anu (p:=p) (zg hlt) (by rw[HIT.out];exact hq)))
     clear hq;go_wp2_with fail
     go_ret
     exact⟨by rw[HNF.out];rfl,(HBX.out _ HB5.out).below⟩
    ·have HQ:=zh hq;clear hq
     go_wp2_with fail
     go_loopw [5,7] (fun v i wr=>Az7 s W0 k ri v i wr) (fun _ i _=>ri.length - (intOf i).toNat)
     case atStart=>exact⟨0,by omega,rfl,by rw[List.take_zero,List.map_nil,List.append_nil];exact⟨HO5.out,HB5.out⟩⟩
     case round=>
      obtain⟨j,hj,rfl,hown,hB⟩:=hrel;have HB7:=zh hB;have HO7:=zh hown;obtain⟨e0,n0⟩:=HCELL.out _ hB;by_cases hjl:j < ri.length
      ·obtain⟨b',o',ha',_,hb',hc'⟩:=Bf Cu (by decide) ((HBX.out _ hB).bc.row _ HMEM.out).1 hjl
       dsimp only at ha' hc';obtain⟨f0,f1,f2,f3,f4⟩:=Hw (wr:=wr) (b:=b') (o:=o') (k:=j) (x:=ri[j]) fun q u hu=>hc' q u hu;have hstep:=row_step (s:=s) hlt (k:=j) (by rw[HIT.out];exact hjl);simp only[HIT.out] at hstep;have HSTEP:=zh hstep;have hL:(Dj (s.ready.take k)++(ri.take j).map (·.seq)).length < 4294967296:=by
        rw[ze,HLK.out,List.length_map,List.length_take];omega
       have hbase:=hB.size;clear hc' hstep hown hB;generalize ri[j]=x at *;generalize hLL:Dj (s.ready.take k)++(ri.take j).map (·.seq)=L at *;subst ha';go_wp2_with (at_builtin;refine Em rfl _ _ 92 rfl W0.heap.size 3 Js Tryz.underlying92 rfl (by decide) (by decide) wr _ _ _ rfl HO7.out [.int .i64 x.seq] rfl rfl rfl (by simp[Value.oneCell']) hL hbase ?_;intro v2 w2 hown' hgrow;have HO2:=zh hown';have HB2:=zh (Br HO7.out hgrow HB7.out (zn _) hbase);clear hown' hgrow)
       exact⟨⟨j+1,hjl,by go_num,by rw[←HSTEP.out];exact⟨by rw[ze,Qt];exact HO2.out,HB2.out⟩⟩,by simp[intOf];omega⟩
      ·obtain rfl:j=ri.length:=by omega
       have hnext:=Ajt (s:=s) hlt;rw[HIT.out] at hnext;rw[hnext] at hown;have HON:=zh hown;clear hown hB hnext;go_wp2_with fail
       exact⟨⟨k+1,hlt,by go_num,⟨HON.out,HB7.out⟩,fun l hl=>by
        rw[zj hlt] at hl;rcases List.mem_append.1 hl with h|h
        ·exact HFINE.out l h
        ·rw[List.mem_singleton.1 h,HIT.out];exact HQ.out⟩,by simp[intOf];omega⟩
   ·obtain rfl:k=s.ready.length:=by omega
    have hs3:=HO.out;rw[List.take_length] at hs3;have HSR:Hid (Qj W0 (Dj s.ready) u5 wr):=(⟨hs3,HB.out⟩:Qj W0 (Dj s.ready) u5 wr);have HLINES:=zh (fun l hl=>HFINE.out l (by rw[List.take_length];exact hl));clear hB hsat hs3;go_wp2_with fail
    clear n0 n1 n2 n3 n4 n5 n6 n7
    go_loopw [8] (fun i wr=>Az8 p s W0 u5 i wr) (fun i _=>s.ae.length - (intOf i).toNat)
    case atStart=>exact⟨0,by omega,rfl,HSR.out,fun t ht=>by simp at ht⟩
    case round=>
     clear HB HO HFINE HSAT HSR henv;obtain⟨j,hj,rfl,⟨hown,hB⟩,htk⟩:=hrel;have HB:=zh hB;have HO:=zh hown;have HTK:=zh htk
     have htl:=HSS.out.ae;have hql:=HPS.out.ag;clear hown htk;obtain⟨⟨m0,m1,m2⟩,⟨n0,n1,n2,n3,n4,n5,n6,n7⟩,_,_,_,hsat⟩:=HBX.out _ hB;by_cases hjl:j < s.ae.length
     ·obtain⟨b,o,ha,_,hb,hc⟩:=Bf Dg (by decide) hsat.ae hjl
      obtain⟨e0,e1⟩:=Gx (wr:=wr) (b:=b) (o:=o) (k:=j) (x:=s.ae[j]) fun q u hu=>hc q u hu;have HMEM:=zh (zg hjl);have HTS:=zh (zj hjl);clear hc hsat hB;generalize s.ae[j]=t at *;subst ha;have HK:Hid (∀W,Below wr.heap.size wr W→(W.cell? ⟨w.heap.size,1,none⟩=some (.slice p2 p.ag.length q2)∧W.cell? ⟨w.heap.size+1,2,none⟩=some (.slice (some ⟨b,o,none⟩) s.ae.length c3)∧W.cell? ⟨b,o+j * 2,none⟩=some (.int .i64 t.queue)∧W.cell? ⟨b,o+j * 2+1,none⟩=some (.int .i64 t.cf))∧Below wr.heap.size wr W):=fun W hW=>by
       have h:=HBX.out W (HB.out.trans (hW.mono HB.out.size));exact⟨⟨h.bz.2.1,h.state.2.2.1,(hW.cell (p:=⟨b,_,none⟩) hb).trans e0,(hW.cell (p:=⟨b,_,none⟩) hb).trans e1⟩,hW⟩
      have hw1:IntKind.i64.wrap ((p.ag.length:Int) - 1)=(p.ag.length:Int) - 1:=IntWalk.i64_in _ (by omega);obtain⟨b1,hb1⟩:=zo (decide (-1≤t.queue) && decide (t.queue≤(p.ag.length:Int) - 1));obtain⟨b2,hb2⟩:=zo (decide (1≤t.cf) && decide (t.cf≤4));have HW1:Hid (∀W,Calls Tryz.prog 55 #[.int .i64 t.queue,.int .i64 (-1),.int .i64 ((p.ag.length:Int) - 1)] W fun e w'=>e= .returned (.bool b1)∧W=w'):=fun W=>hb1▸Cc _ _ _ W;have HW2:Hid (∀W,Calls Tryz.prog 55 #[.int .i64 t.cf,.int .i64 1,.int .i64 4] W fun e w'=>e= .returned (.bool b2)∧W=w'):=fun W=>hb2▸Cc _ _ _ W;have HTB:Hid (Iv p.ag.length t=(b1 && b2)):=by
       refine(?_:Iv p.ag.length t=(b1 && b2));rw[←hb1,←hb2,Aqo]
      clear hb1 hb2;go_upto_region 16 with fail
      clear m0 m1 m2 n0 n1 n2 n3 n4 n5 n6 n7 e0 e1;refine Kl [(0,false),(1,false),(2,false),(3,false),(4,false),(5,false),(6,false),(7,false),(8,false),(9,false),(10,true),(11,false),(12,false),(13,false),(14,false),(15,false),(16,false),(17,false),(18,false),(19,true),(20,false),(21,false)] (by kernel_rfl) (fun hOrd=> ?_)
      cases b1
      ·have HNF:=zh (Ga (Acd (p:=p) HMEM.out (by rw[HTB.out];rfl)))
       as_aux_lemma=>
        refine zS HK hOrd (by kernel_rfl) (fun hHeld=> ?_);clear hOrd
        iterate 22 ((first|(refine zT ?_)|(refine zL ?_)|(refine NW.call rfl (fun K hK=> ?_);go_simp;((go_at_call 55;(first|with_reducible refine(HW1.out _).mono ?_|with_reducible refine(HW2.out _).mono ?_);rintro e wq ⟨rfl,rfl⟩));refine hK.out _ _ (by first|assumption|exact HK.out _ (B7 (by assumption) _)|exact HK.out _ (by assumption)) (fun hHeld=> ?_);clear hK K));try simp only[Act.put,zA,zB,zC,zD,zE,zF])
        refine NW.done ?_;go_wp2_with fail
        go_ret
        exact⟨by rw[HNF.out];rfl,(HBX.out _ (HB.out.trans ((by assumption:_∧Below wr.heap.size wr _).2.mono HB.out.size))).below⟩
      ·cases b2
       ·have HNF:=zh (Ga (Acd (p:=p) HMEM.out (by rw[HTB.out];rfl)))
        as_aux_lemma=>
         refine zS HK hOrd (by kernel_rfl) (fun hHeld=> ?_);clear hOrd
         iterate 22 ((first|(refine zT ?_)|(refine zL ?_)|(refine NW.call rfl (fun K hK=> ?_);go_simp;((go_at_call 55;(first|with_reducible refine(HW1.out _).mono ?_|with_reducible refine(HW2.out _).mono ?_);rintro e wq ⟨rfl,rfl⟩));refine hK.out _ _ (by first|assumption|exact HK.out _ (B7 (by assumption) _)|exact HK.out _ (by assumption)) (fun hHeld=> ?_);clear hK K));try simp only[Act.put,zA,zB,zC,zD,zE,zF])
         refine NW.done ?_;go_wp2_with fail
         go_ret
         exact⟨by rw[HNF.out];rfl,(HBX.out _ (HB.out.trans ((by assumption:_∧Below wr.heap.size wr _).2.mono HB.out.size))).below⟩
       ·skip
        as_aux_lemma=>
         refine zS HK hOrd (by kernel_rfl) (fun hHeld=> ?_);clear hOrd
         iterate 22 ((first|(refine zT ?_)|(refine zL ?_)|(refine NW.call rfl (fun K hK=> ?_);go_simp;((go_at_call 55;(first|with_reducible refine(HW1.out _).mono ?_|with_reducible refine(HW2.out _).mono ?_);rintro e wq ⟨rfl,rfl⟩));refine hK.out _ _ (by first|assumption|exact HK.out _ (B7 (by assumption) _)|exact HK.out _ (by assumption)) (fun hHeld=> ?_);clear hK K));try simp only[Act.put,zA,zB,zC,zD,zE,zF])
         refine NW.done ?_;go_wp2_with fail
         have hbw:=(by assumption:_∧Below wr.heap.size wr _).2;exact⟨⟨j+1,hjl,by go_num,⟨own_below HO.out hbw,HB.out.trans (hbw.mono HB.out.size)⟩,fun y hy=>by
          rw[HTS.out] at hy;rcases List.mem_append.1 hy with h|h
          ·exact HTK.out y h
          ·rw[List.mem_singleton.1 h,HTB.out];rfl⟩,by simp[intOf];omega⟩
     ·obtain rfl:j=s.ae.length:=by omega
      have HTAKERS:=zh (fun t ht=>HTK.out t (by rw[List.take_length];exact ht));have HSR:Hid (Qj W0 (Dj s.ready++Hd (s.outs.take 0)) u5 wr):=by
       refine(?_:Qj W0 (Dj s.ready++Hd (s.outs.take 0)) u5 wr);rw[List.take_zero,show Hd []=[] from rfl,List.append_nil];exact⟨HO.out,HB.out⟩
      clear hB hsat;go_wp2_with fail
      clear m0 m1 m2 n0 n1 n2 n3 n4 n5 n6 n7
      go_loopw [5,9] (fun v i wr=>Az9 s W0 v i wr) (fun _ i _=>s.outs.length - (intOf i).toNat)
      case atStart=>exact⟨0,by omega,rfl,HSR.out,fun x hx=>by simp at hx,fun q hq h=>absurd h (by omega)⟩
      case round=>
       clear HB HO HTK HSR htl hql;obtain⟨j,hj,rfl,⟨hown,hB⟩,hou,hor⟩:=hrel;have HB:=zh hB;have HO:=zh hown;have HOU:=zh hou;have HOR:=zh hor
       have hol:=HSS.out.outs;have htl:=HSS.out.ae;clear hown hou hor;obtain⟨_,⟨n0,n1,n2,n3,n4,n5,n6,n7⟩,_,_,_,hsat⟩:=HBX.out _ hB;by_cases hjl:j < s.outs.length
       ·obtain⟨b,o,ha,_,hb,hc⟩:=Bf Dx (by decide) hsat.outs hjl
        obtain⟨e0,e1,e2,e3,e4,e5,e6,e7⟩:=Gd (wr:=wr) (b:=b) (o:=o) (k:=j) (x:=s.outs[j]) fun q u hu=>hc q u hu;have HMEM:=zh (zg hjl);have HTS:=zh (zj hjl);have HSTEP:=zh (Ajk (s:=s) hjl);have HSMALL:=zh (HSS.out.out _ (zg hjl));obtain⟨la,hla⟩:=zo (Hi s.outs j);have HLA:=zh hla;have HNO:Hid (s.outs[j].tag≤la→¬ Formed p s):=fun h=>Ajd (p:=p) hjl (by rw[hla];exact h);have hL:(Dj s.ready++Hd (s.outs.take j)).length < 4294967296:=by
         have h1:=Uh s.ready;have h2:(s.ready.map List.length).sum≤1048576:=HSS.out.lying;rw[ze,h1,Yx,List.length_take];omega
        have HL:=zh hL;have HORX:Hid (Hi s.outs j < s.outs[j].tag→∀q (hq:q < s.outs.length),q < j+1→Hi s.outs q < s.outs[q].tag):=fun h q hq hqj=>by
         rcases Nat.lt_or_ge q j with h'|h'
         ·exact HOR.out q hq h'
         ·obtain rfl:q=j:=by omega
          exact h
        rw[hla] at HORX;clear hc hL hla;have HSAT:=zh hsat;clear hsat hB;generalize s.outs[j]=x at *;generalize hLL:Dj s.ready++Hd (s.outs.take j)=L at *;obtain⟨W7,hW7⟩:=zo (wr.alloc (.cells #[.int .i64 x.tag,.int .i64 x.bg,.int .i64 x.queue,.int .i64 x.item.seq,.string x.item.key,.string x.item.body,.bool x.item.again,.int .i64 x.item.au] 115));have hb7:=zu hW7
        have k7:=zw hW7
        have HK7:=zh k7;have HB7:=zm HB hb7;have HO7:=zh (own_below HO.out hb7);have hwt:IntKind.i64.wrap ((s.ae.length:Int) - 1)=(s.ae.length:Int) - 1:=IntWalk.i64_in _ (by omega);clear hb7 k7;subst ha;go_upto_region 22 with fail
        clear n0 n1 n2 n3 n4 n5 n6 n7 e0 e1 e2 e3 e4 e5 e6 e7 hW7 hb;refine Kl [(0,false),(1,false),(2,false),(3,false),(4,false),(5,false),(6,false),(7,false),(8,false),(9,false),(10,false),(11,false),(12,false),(13,false),(14,false),(15,false),(16,false),(17,false),(18,false),(19,false),(20,false),(21,false),(22,false),(23,false),(24,false),(25,false),(26,true),(27,false),(28,false),(29,false),(30,false),(31,false),(32,false),(33,false),(34,false),(35,false),(36,false),(37,false),(38,false),(39,false),(40,false),(41,false),(42,false),(43,false),(44,false),(45,false),(46,false),(47,false),(48,false),(49,false),(50,false),(51,false),(52,false),(53,false),(54,true),(55,false),(56,false),(57,false),(58,false),(59,false),(60,false),(61,false),(62,false),(63,false)] (by kernel_rfl) (fun hOrd=> ?_);by_cases hd0:x.tag < 0
        ·have HW3:Hid (∀W,Calls Tryz.prog 55 #[.int .i64 x.bg,.int .i64 0,.int .i64 ((s.ae.length:Int) - 1)] W fun e w'=>e= .returned (.bool (decide (0≤x.bg) && decide (x.bg≤(s.ae.length:Int) - 1)))∧W=w'):=fun W=>Cc _ _ _ W
         have HFN:Hid (∀W,Calls Tryz.prog 185 #[.agg (zY x.item)] W fun e w'=>e= .returned (.bool (Bl x.item))∧Below W.heap.size W w'):=fun W=>Ef x.item W HSMALL.out;have HNF:=zh (Ga (p:=p) (s:=s) (fun hf=>by have:=Ig (x:=x) hf HMEM.out;omega));have HK:Hid (∀W,Below W7.heap.size W7 W→(W.cell? ⟨w.heap.size+1,1,none⟩=some (.slice (some ⟨b,o,none⟩) s.outs.length c2)∧W.cell? ⟨w.heap.size+1,4,none⟩=some (.int .i64 s.af)∧W.cell? ⟨wr.heap.size,0,none⟩=some (.int .i64 x.tag)∧W.cell? ⟨wr.heap.size,1,none⟩=some (.int .i64 x.bg)∧W.cell? ⟨wr.heap.size,2,none⟩=some (.int .i64 x.queue)∧W.cell? ⟨wr.heap.size,3,none⟩=some (.int .i64 x.item.seq)∧W.cell? ⟨wr.heap.size,4,none⟩=some (.string x.item.key)∧W.cell? ⟨wr.heap.size,5,none⟩=some (.string x.item.body)∧W.cell? ⟨wr.heap.size,6,none⟩=some (.bool x.item.again)∧W.cell? ⟨wr.heap.size,7,none⟩=some (.int .i64 x.item.au)∧W.cell? ⟨w.heap.size+1,2,none⟩=some (.slice a3 s.ae.length c3))∧Below W7.heap.size W7 W):=fun W hW=>by
          have h:=HBX.out W (HB7.out.trans (hW.mono HB7.out.size));have q7:=HK7.out.below hW HK7.out.lt;exact⟨⟨h.state.2.1,h.state.2.2.2.2.1,q7.cell 0,q7.cell 1,q7.cell 2,q7.cell 3,q7.cell 4,q7.cell 5,q7.cell 6,q7.cell 7,h.state.2.2.1⟩,hW⟩
         as_aux_lemma=>
          refine zS HK hOrd (by kernel_rfl) (fun hHeld=> ?_);clear hOrd
          iterate 64 ((first|(refine zT ?_)|(refine zL ?_)|(refine NW.call rfl (fun K hK=> ?_);go_simp;(first|(go_at_call 55;with_reducible refine(HW3.out _).mono ?_;rintro e wq ⟨rfl,rfl⟩)|(go_at_call 185;with_reducible refine(HFN.out _).mono ?_;rintro e wf ⟨rfl,hbf⟩;have hbf2:=Bq (by assumption) hbf;clear hbf));refine hK.out _ _ (by first|assumption|exact HK.out _ (B7 (by assumption) _)|exact HK.out _ (by assumption)) (fun hHeld=> ?_);clear hK K));try simp only[Act.put,zA,zB,zC,zD,zE,zF])
          refine NW.done ?_;go_wp2_with fail
          go_ret
          exact⟨by rw[HNF.out];rfl,(HBX.out _ (HB7.out.trans ((by assumption:_∧Below W7.heap.size W7 _).2.mono HB7.out.size))).below⟩
        ·rcases Nat.eq_zero_or_pos j with hj0|hj0
         ·subst hj0
          cases hb3:(decide (0≤x.bg) && decide (x.bg≤(s.ae.length:Int) - 1))
          ·have HW3:Hid (∀W,Calls Tryz.prog 55 #[.int .i64 x.bg,.int .i64 0,.int .i64 ((s.ae.length:Int) - 1)] W fun e w'=>e= .returned (.bool false)∧W=w'):=fun W=>hb3▸Cc _ _ _ W
           have HNF:=zh (Ga (p:=p) (s:=s) (fun hf=>by have:=Ig (x:=x) hf HMEM.out;rw[Bool.and_eq_false_iff,decide_eq_false_iff_not,decide_eq_false_iff_not] at hb3;omega));clear hb3;have HK:Hid (∀W,Below W7.heap.size W7 W→(W.cell? ⟨w.heap.size+1,1,none⟩=some (.slice (some ⟨b,o,none⟩) s.outs.length c2)∧W.cell? ⟨w.heap.size+1,4,none⟩=some (.int .i64 s.af)∧W.cell? ⟨wr.heap.size,0,none⟩=some (.int .i64 x.tag)∧W.cell? ⟨wr.heap.size,1,none⟩=some (.int .i64 x.bg)∧W.cell? ⟨wr.heap.size,2,none⟩=some (.int .i64 x.queue)∧W.cell? ⟨wr.heap.size,3,none⟩=some (.int .i64 x.item.seq)∧W.cell? ⟨wr.heap.size,4,none⟩=some (.string x.item.key)∧W.cell? ⟨wr.heap.size,5,none⟩=some (.string x.item.body)∧W.cell? ⟨wr.heap.size,6,none⟩=some (.bool x.item.again)∧W.cell? ⟨wr.heap.size,7,none⟩=some (.int .i64 x.item.au)∧W.cell? ⟨w.heap.size+1,2,none⟩=some (.slice a3 s.ae.length c3))∧Below W7.heap.size W7 W):=fun W hW=>by
            have h:=HBX.out W (HB7.out.trans (hW.mono HB7.out.size));have q7:=HK7.out.below hW HK7.out.lt;exact⟨⟨h.state.2.1,h.state.2.2.2.2.1,q7.cell 0,q7.cell 1,q7.cell 2,q7.cell 3,q7.cell 4,q7.cell 5,q7.cell 6,q7.cell 7,h.state.2.2.1⟩,hW⟩
           as_aux_lemma=>
            refine zS HK hOrd (by kernel_rfl) (fun hHeld=> ?_);clear hOrd
            iterate 64 ((first|(refine zT ?_)|(refine zL ?_)|(refine NW.call rfl (fun K hK=> ?_);go_simp;(first|(go_at_call 55;with_reducible refine(HW3.out _).mono ?_;rintro e wq ⟨rfl,rfl⟩)|(go_at_call 185;with_reducible refine(HFN.out _).mono ?_;rintro e wf ⟨rfl,hbf⟩;have hbf2:=Bq (by assumption) hbf;clear hbf));refine hK.out _ _ (by first|assumption|exact HK.out _ (B7 (by assumption) _)|exact HK.out _ (by assumption)) (fun hHeld=> ?_);clear hK K));try simp only[Act.put,zA,zB,zC,zD,zE,zF])
            refine NW.done ?_;go_wp2_with fail
            go_ret
            exact⟨by rw[HNF.out];rfl,(HBX.out _ (HB7.out.trans ((by assumption:_∧Below W7.heap.size W7 _).2.mono HB7.out.size))).below⟩
          ·have HW3:Hid (∀W,Calls Tryz.prog 55 #[.int .i64 x.bg,.int .i64 0,.int .i64 ((s.ae.length:Int) - 1)] W fun e w'=>e= .returned (.bool true)∧W=w'):=fun W=>hb3▸Cc _ _ _ W
           rw[zc,zd,zd] at hb3;have HIN:Hid (0≤x.bg∧x.bg < (s.ae.length:Int)):=(⟨hb3.1,by omega⟩:0≤x.bg∧x.bg < (s.ae.length:Int));have ht0:=hb3.1;have ht1:=HIN.out.2;have htl2:x.bg.toNat < s.ae.length:=by omega
           clear hb3;obtain⟨b2,o2,ha2,_,hb2,hc2⟩:=Bf Dg (by decide) HSAT.out.ae htl2;have hqc:=hc2 0 _ rfl;have HQ1:Hid (-1≤s.ae[x.bg.toNat].queue):=by
            have:=HTAKERS.out _ (zg htl2);unfold Iv at this;simp only[zc,zd] at this;exact this.1.1.1
           have HGT:=zh (zG htl2);clear hc2;generalize s.ae[x.bg.toNat]=t at *;have HT:Hid (∀W,Below W0.heap.size W0 W→W.cell? ⟨b2,o2+x.bg.toNat * 2,none⟩=some (.int .i64 t.queue)):=fun W hW=>by
            have h:=HBX.out W hW;obtain⟨b',o',ha',_,_,hc'⟩:=Bf Dg (by decide) h.bc.ae htl2;rw[ha2] at ha';simp only[Option.some.injEq,Addr.mk.injEq,and_true] at ha';obtain⟨rfl,rfl⟩:=ha';have hg:=HGT.out;rw[zG htl2] at hg;simp only[Option.some.injEq] at hg;have:=hc' 0 _ rfl;rw[hg] at this;exact this
           subst ha2;clear hqc;have HK:Hid (∀W,Below W7.heap.size W7 W→(W.cell? ⟨w.heap.size+1,1,none⟩=some (.slice (some ⟨b,o,none⟩) s.outs.length c2)∧W.cell? ⟨w.heap.size+1,4,none⟩=some (.int .i64 s.af)∧W.cell? ⟨wr.heap.size,0,none⟩=some (.int .i64 x.tag)∧W.cell? ⟨wr.heap.size,1,none⟩=some (.int .i64 x.bg)∧W.cell? ⟨wr.heap.size,2,none⟩=some (.int .i64 x.queue)∧W.cell? ⟨wr.heap.size,3,none⟩=some (.int .i64 x.item.seq)∧W.cell? ⟨wr.heap.size,4,none⟩=some (.string x.item.key)∧W.cell? ⟨wr.heap.size,5,none⟩=some (.string x.item.body)∧W.cell? ⟨wr.heap.size,6,none⟩=some (.bool x.item.again)∧W.cell? ⟨wr.heap.size,7,none⟩=some (.int .i64 x.item.au)∧W.cell? ⟨w.heap.size+1,2,none⟩=some (.slice (some ⟨b2,o2,none⟩) s.ae.length c3)∧W.cell? ⟨b2,o2+x.bg.toNat * 2,none⟩=some (.int .i64 t.queue))∧Below W7.heap.size W7 W):=fun W hW=>by
            have h:=HBX.out W (HB7.out.trans (hW.mono HB7.out.size));have q7:=HK7.out.below hW HK7.out.lt;exact⟨⟨h.state.2.1,h.state.2.2.2.2.1,q7.cell 0,q7.cell 1,q7.cell 2,q7.cell 3,q7.cell 4,q7.cell 5,q7.cell 6,q7.cell 7,h.state.2.2.1,(HT.out W (HB7.out.trans (hW.mono HB7.out.size)))⟩,hW⟩
           cases hd4:(t.queue == -1)
           ·cases hd5:(t.queue != x.queue)
            ·have H5:Hid (t.queue=x.queue):=(by simpa using hd5:t.queue=x.queue)
             have H4:Hid (t.queue≠ -1):=(by simpa using hd4:t.queue≠ -1)
             cases hb6:Bl x.item
             ·have HFN:Hid (∀W,Calls Tryz.prog 185 #[.agg (zY x.item)] W fun e w'=>e= .returned (.bool false)∧Below W.heap.size W w'):=fun W=>hb6▸Ef x.item W HSMALL.out
              have HNF:=zh (Ga (p:=p) (s:=s) (fun hf=>by have:=Ig (x:=x) hf HMEM.out;rw[hb6] at this;exact absurd this.2.2.2.1 (by decide)));clear hb6
              as_aux_lemma=>
               refine zS HK hOrd (by kernel_rfl) (fun hHeld=> ?_);clear hOrd
               iterate 64 ((first|(refine zT ?_)|(refine zL ?_)|(refine NW.call rfl (fun K hK=> ?_);go_simp;(first|(go_at_call 55;with_reducible refine(HW3.out _).mono ?_;rintro e wq ⟨rfl,rfl⟩)|(go_at_call 185;with_reducible refine(HFN.out _).mono ?_;rintro e wf ⟨rfl,hbf⟩;have hbf2:=Bq (by assumption) hbf;clear hbf));refine hK.out _ _ (by first|assumption|exact HK.out _ (B7 (by assumption) _)|exact HK.out _ (by assumption)) (fun hHeld=> ?_);clear hK K));try simp only[Act.put,zA,zB,zC,zD,zE,zF])
               refine NW.done ?_;go_wp2_with fail
               go_ret
               exact⟨by rw[HNF.out];rfl,(HBX.out _ (HB7.out.trans ((by assumption:_∧Below W7.heap.size W7 _).2.mono HB7.out.size))).below⟩
             ·have HFN:Hid (∀W,Calls Tryz.prog 185 #[.agg (zY x.item)] W fun e w'=>e= .returned (.bool true)∧Below W.heap.size W w'):=fun W=>hb6▸Ef x.item W HSMALL.out
              by_cases hd7:s.af≤x.tag
              ·have hfail:=()
               have HNF:=zh (Ga (p:=p) (s:=s) (fun hf=>by have:=Ig (x:=x) hf HMEM.out;omega));clear hfail
               as_aux_lemma=>
                refine zS HK hOrd (by kernel_rfl) (fun hHeld=> ?_);clear hOrd
                iterate 64 ((first|(refine zT ?_)|(refine zL ?_)|(refine NW.call rfl (fun K hK=> ?_);go_simp;(first|(go_at_call 55;with_reducible refine(HW3.out _).mono ?_;rintro e wq ⟨rfl,rfl⟩)|(go_at_call 185;with_reducible refine(HFN.out _).mono ?_;rintro e wf ⟨rfl,hbf⟩;have hbf2:=Bq (by assumption) hbf;clear hbf));refine hK.out _ _ (by first|assumption|exact HK.out _ (B7 (by assumption) _)|exact HK.out _ (by assumption)) (fun hHeld=> ?_);clear hK K));try simp only[Act.put,zA,zB,zC,zD,zE,zF])
                refine NW.done ?_;go_wp2_with fail
                go_ret
                exact⟨by rw[HNF.out];rfl,(HBX.out _ (HB7.out.trans ((by assumption:_∧Below W7.heap.size W7 _).2.mono HB7.out.size))).below⟩
              ·have hlow:x.tag < s.af:=by omega
               as_aux_lemma=>
                refine zS HK hOrd (by kernel_rfl) (fun hHeld=> ?_);clear hOrd
                iterate 64 ((first|(refine zT ?_)|(refine zL ?_)|(refine NW.call rfl (fun K hK=> ?_);go_simp;(first|(go_at_call 55;with_reducible refine(HW3.out _).mono ?_;rintro e wq ⟨rfl,rfl⟩)|(go_at_call 185;with_reducible refine(HFN.out _).mono ?_;rintro e wf ⟨rfl,hbf⟩;have hbf2:=Bq (by assumption) hbf;clear hbf));refine hK.out _ _ (by first|assumption|exact HK.out _ (B7 (by assumption) _)|exact HK.out _ (by assumption)) (fun hHeld=> ?_);clear hK K));try simp only[Act.put,zA,zB,zC,zD,zE,zF])
                refine NW.done ?_;have hf3:wf.cell? ⟨wr.heap.size,3,none⟩=some (.int .i64 x.item.seq):=(HK.out wf hbf2).1.2.2.2.2.2.1;have HOUT:Hid (Mt s x=true):=At1 (t:=t) HGT.out (by omega) (by omega) HIN.out.1 HIN.out.2 (by have k1:=HQ1.out;have k2:=H4.out;omega) H5.out hb6;have HORD:=zh (HORX.out (by have:(-1:Int)=la:=HLA.out;omega));have HOF:=zh (own_below HO7.out hbf2);have HBF2:=zm HB7 hbf2;have hbase:=HBF2.out.size;have hLL:=HL.out;clear hbf2;go_wp2_with (at_builtin;refine Em rfl _ _ 92 rfl W0.heap.size 3 Js Tryz.underlying92 rfl (by decide) (by decide) wf _ _ _ rfl HOF.out [.int .i64 x.item.seq] rfl rfl rfl (by simp[Value.oneCell']) hLL hbase ?_;intro v2 w2 hown' hgrow;have HO2:=zh hown';have HB2:=zh (Br HOF.out hgrow HBF2.out (zn _) hbase);clear hown' hgrow)
                exact⟨⟨0+1,hjl,by go_num,by rw[←HSTEP.out];exact⟨by rw[ze,Qt];exact HO2.out,HB2.out⟩,fun y hy=>by
                 rw[HTS.out] at hy;rcases List.mem_append.1 hy with h|h
                 ·exact HOU.out y h
                 ·rw[List.mem_singleton.1 h];exact HOUT.out,HORD.out⟩,by simp[intOf];omega⟩
            ·have h5:t.queue≠x.queue:=by simpa using hd5
             have HNF:=zh (Ga (p:=p) (s:=s) (fun hf=>by have:=Ig (x:=x) hf HMEM.out;exact h5 (this.2.2.2.2 t HGT.out).2));clear h5;have HFN:Hid (∀W,Calls Tryz.prog 185 #[.agg (zY x.item)] W fun e w'=>e= .returned (.bool (Bl x.item))∧Below W.heap.size W w'):=fun W=>Ef x.item W HSMALL.out
             as_aux_lemma=>
              refine zS HK hOrd (by kernel_rfl) (fun hHeld=> ?_);clear hOrd
              iterate 64 ((first|(refine zT ?_)|(refine zL ?_)|(refine NW.call rfl (fun K hK=> ?_);go_simp;(first|(go_at_call 55;with_reducible refine(HW3.out _).mono ?_;rintro e wq ⟨rfl,rfl⟩)|(go_at_call 185;with_reducible refine(HFN.out _).mono ?_;rintro e wf ⟨rfl,hbf⟩;have hbf2:=Bq (by assumption) hbf;clear hbf));refine hK.out _ _ (by first|assumption|exact HK.out _ (B7 (by assumption) _)|exact HK.out _ (by assumption)) (fun hHeld=> ?_);clear hK K));try simp only[Act.put,zA,zB,zC,zD,zE,zF])
              refine NW.done ?_;go_wp2_with fail
              go_ret
              exact⟨by rw[HNF.out];rfl,(HBX.out _ (HB7.out.trans ((by assumption:_∧Below W7.heap.size W7 _).2.mono HB7.out.size))).below⟩
           ·have h4:t.queue= -1:=by simpa using hd4
            have HNF:=zh (Ga (p:=p) (s:=s) (fun hf=>by have:=Ig (x:=x) hf HMEM.out;have h9:=this.2.2.2.2 t HGT.out;omega));clear h4;have HFN:Hid (∀W,Calls Tryz.prog 185 #[.agg (zY x.item)] W fun e w'=>e= .returned (.bool (Bl x.item))∧Below W.heap.size W w'):=fun W=>Ef x.item W HSMALL.out
            as_aux_lemma=>
             refine zS HK hOrd (by kernel_rfl) (fun hHeld=> ?_);clear hOrd
             iterate 64 ((first|(refine zT ?_)|(refine zL ?_)|(refine NW.call rfl (fun K hK=> ?_);go_simp;(first|(go_at_call 55;with_reducible refine(HW3.out _).mono ?_;rintro e wq ⟨rfl,rfl⟩)|(go_at_call 185;with_reducible refine(HFN.out _).mono ?_;rintro e wf ⟨rfl,hbf⟩;have hbf2:=Bq (by assumption) hbf;clear hbf));refine hK.out _ _ (by first|assumption|exact HK.out _ (B7 (by assumption) _)|exact HK.out _ (by assumption)) (fun hHeld=> ?_);clear hK K));try simp only[Act.put,zA,zB,zC,zD,zE,zF])
             refine NW.done ?_;go_wp2_with fail
             go_ret
             exact⟨by rw[HNF.out];rfl,(HBX.out _ (HB7.out.trans ((by assumption:_∧Below W7.heap.size W7 _).2.mono HB7.out.size))).below⟩
         ·obtain⟨m,hkm⟩:∃m,j=m+1:=⟨j - 1,by omega⟩
          have hm:m < s.outs.length:=by omega
          have hw:IntKind.i64.wrap ((j:Int) - 1)=(m:Int):=(IntWalk.i64_in _ (by omega)).trans (by omega);have hpos:decide ((0:Int) < (j:Int))=true:=by simp;omega
          have hkp2:decide (0 < j)=true:=by simp;omega
          have hi1:(0:Int)≤(j:Int):=by omega
          have hi2:(j:Int) < (s.outs.length:Int):=by omega
          have hi3:(0:Int)≤(m:Int):=by omega
          have hi4:(m:Int) < (s.outs.length:Int):=by omega
          have hyt:Hi s.outs j=s.outs[m].tag:=by rw[hkm];exact Le hm
          have HPV0:Hid (∀W,Below W0.heap.size W0 W→W.cell? ⟨b,o+m * 8,none⟩=some (.int .i64 s.outs[m].tag)):=fun W hW=>by
           have h:=HBX.out W hW;obtain⟨b',o',ha',_,_,hc'⟩:=Bf Dx (by decide) h.bc.outs hm;simp only[Option.some.injEq,Addr.mk.injEq,and_true] at ha';obtain⟨rfl,rfl⟩:=ha';exact hc' 0 _ rfl
          have HKM:=zh hkm;rw[hyt] at HLA;clear hkm hyt;generalize s.outs[m]=y at *;have HPV:=HPV0;by_cases hd1:x.tag≤y.tag
          ·have HNF:=zh (Ga (HNO.out (by have:=HLA.out;omega)))
           have HW3:Hid (∀W,Calls Tryz.prog 55 #[.int .i64 x.bg,.int .i64 0,.int .i64 ((s.ae.length:Int) - 1)] W fun e w'=>e= .returned (.bool (decide (0≤x.bg) && decide (x.bg≤(s.ae.length:Int) - 1)))∧W=w'):=fun W=>Cc _ _ _ W;have HFN:Hid (∀W,Calls Tryz.prog 185 #[.agg (zY x.item)] W fun e w'=>e= .returned (.bool (Bl x.item))∧Below W.heap.size W w'):=fun W=>Ef x.item W HSMALL.out;have HK:Hid (∀W,Below W7.heap.size W7 W→(W.cell? ⟨w.heap.size+1,1,none⟩=some (.slice (some ⟨b,o,none⟩) s.outs.length c2)∧W.cell? ⟨w.heap.size+1,4,none⟩=some (.int .i64 s.af)∧W.cell? ⟨wr.heap.size,0,none⟩=some (.int .i64 x.tag)∧W.cell? ⟨wr.heap.size,1,none⟩=some (.int .i64 x.bg)∧W.cell? ⟨wr.heap.size,2,none⟩=some (.int .i64 x.queue)∧W.cell? ⟨wr.heap.size,3,none⟩=some (.int .i64 x.item.seq)∧W.cell? ⟨wr.heap.size,4,none⟩=some (.string x.item.key)∧W.cell? ⟨wr.heap.size,5,none⟩=some (.string x.item.body)∧W.cell? ⟨wr.heap.size,6,none⟩=some (.bool x.item.again)∧W.cell? ⟨wr.heap.size,7,none⟩=some (.int .i64 x.item.au)∧W.cell? ⟨w.heap.size+1,2,none⟩=some (.slice a3 s.ae.length c3)∧W.cell? ⟨b,o+m * 8,none⟩=some (.int .i64 y.tag))∧Below W7.heap.size W7 W):=fun W hW=>by
            have h:=HBX.out W (HB7.out.trans (hW.mono HB7.out.size));have q7:=HK7.out.below hW HK7.out.lt;exact⟨⟨h.state.2.1,h.state.2.2.2.2.1,q7.cell 0,q7.cell 1,q7.cell 2,q7.cell 3,q7.cell 4,q7.cell 5,q7.cell 6,q7.cell 7,h.state.2.2.1,(HPV.out W (HB7.out.trans (hW.mono HB7.out.size)))⟩,hW⟩
           as_aux_lemma=>
            refine zS HK hOrd (by kernel_rfl) (fun hHeld=> ?_);clear hOrd
            iterate 64 ((first|(refine zT ?_)|(refine zL ?_)|(refine NW.call rfl (fun K hK=> ?_);go_simp;(first|(go_at_call 55;with_reducible refine(HW3.out _).mono ?_;rintro e wq ⟨rfl,rfl⟩)|(go_at_call 185;with_reducible refine(HFN.out _).mono ?_;rintro e wf ⟨rfl,hbf⟩;have hbf2:=Bq (by assumption) hbf;clear hbf));refine hK.out _ _ (by first|assumption|exact HK.out _ (B7 (by assumption) _)|exact HK.out _ (by assumption)) (fun hHeld=> ?_);clear hK K));try simp only[Act.put,zA,zB,zC,zD,zE,zF])
            refine NW.done ?_;go_wp2_with fail
            go_ret
            exact⟨by rw[HNF.out];rfl,(HBX.out _ (HB7.out.trans ((by assumption:_∧Below W7.heap.size W7 _).2.mono HB7.out.size))).below⟩
          ·have hd1':y.tag < x.tag:=by omega
           cases hb3:(decide (0≤x.bg) && decide (x.bg≤(s.ae.length:Int) - 1))
           ·have HW3:Hid (∀W,Calls Tryz.prog 55 #[.int .i64 x.bg,.int .i64 0,.int .i64 ((s.ae.length:Int) - 1)] W fun e w'=>e= .returned (.bool false)∧W=w'):=fun W=>hb3▸Cc _ _ _ W
            have HNF:=zh (Ga (p:=p) (s:=s) (fun hf=>by have:=Ig (x:=x) hf HMEM.out;rw[Bool.and_eq_false_iff,decide_eq_false_iff_not,decide_eq_false_iff_not] at hb3;omega));clear hb3;have HK:Hid (∀W,Below W7.heap.size W7 W→(W.cell? ⟨w.heap.size+1,1,none⟩=some (.slice (some ⟨b,o,none⟩) s.outs.length c2)∧W.cell? ⟨w.heap.size+1,4,none⟩=some (.int .i64 s.af)∧W.cell? ⟨wr.heap.size,0,none⟩=some (.int .i64 x.tag)∧W.cell? ⟨wr.heap.size,1,none⟩=some (.int .i64 x.bg)∧W.cell? ⟨wr.heap.size,2,none⟩=some (.int .i64 x.queue)∧W.cell? ⟨wr.heap.size,3,none⟩=some (.int .i64 x.item.seq)∧W.cell? ⟨wr.heap.size,4,none⟩=some (.string x.item.key)∧W.cell? ⟨wr.heap.size,5,none⟩=some (.string x.item.body)∧W.cell? ⟨wr.heap.size,6,none⟩=some (.bool x.item.again)∧W.cell? ⟨wr.heap.size,7,none⟩=some (.int .i64 x.item.au)∧W.cell? ⟨w.heap.size+1,2,none⟩=some (.slice a3 s.ae.length c3)∧W.cell? ⟨b,o+m * 8,none⟩=some (.int .i64 y.tag))∧Below W7.heap.size W7 W):=fun W hW=>by
             have h:=HBX.out W (HB7.out.trans (hW.mono HB7.out.size));have q7:=HK7.out.below hW HK7.out.lt;exact⟨⟨h.state.2.1,h.state.2.2.2.2.1,q7.cell 0,q7.cell 1,q7.cell 2,q7.cell 3,q7.cell 4,q7.cell 5,q7.cell 6,q7.cell 7,h.state.2.2.1,(HPV.out W (HB7.out.trans (hW.mono HB7.out.size)))⟩,hW⟩
            as_aux_lemma=>
             refine zS HK hOrd (by kernel_rfl) (fun hHeld=> ?_);clear hOrd
             iterate 64 ((first|(refine zT ?_)|(refine zL ?_)|(refine NW.call rfl (fun K hK=> ?_);go_simp;(first|(go_at_call 55;with_reducible refine(HW3.out _).mono ?_;rintro e wq ⟨rfl,rfl⟩)|(go_at_call 185;with_reducible refine(HFN.out _).mono ?_;rintro e wf ⟨rfl,hbf⟩;have hbf2:=Bq (by assumption) hbf;clear hbf));refine hK.out _ _ (by first|assumption|exact HK.out _ (B7 (by assumption) _)|exact HK.out _ (by assumption)) (fun hHeld=> ?_);clear hK K));try simp only[Act.put,zA,zB,zC,zD,zE,zF])
             refine NW.done ?_;go_wp2_with fail
             go_ret
             exact⟨by rw[HNF.out];rfl,(HBX.out _ (HB7.out.trans ((by assumption:_∧Below W7.heap.size W7 _).2.mono HB7.out.size))).below⟩
           ·have HW3:Hid (∀W,Calls Tryz.prog 55 #[.int .i64 x.bg,.int .i64 0,.int .i64 ((s.ae.length:Int) - 1)] W fun e w'=>e= .returned (.bool true)∧W=w'):=fun W=>hb3▸Cc _ _ _ W
            rw[zc,zd,zd] at hb3;have HIN:Hid (0≤x.bg∧x.bg < (s.ae.length:Int)):=(⟨hb3.1,by omega⟩:0≤x.bg∧x.bg < (s.ae.length:Int));have ht0:=hb3.1;have ht1:=HIN.out.2;have htl2:x.bg.toNat < s.ae.length:=by omega
            clear hb3;obtain⟨b2,o2,ha2,_,hb2,hc2⟩:=Bf Dg (by decide) HSAT.out.ae htl2;have hqc:=hc2 0 _ rfl;have HQ1:Hid (-1≤s.ae[x.bg.toNat].queue):=by
             have:=HTAKERS.out _ (zg htl2);unfold Iv at this;simp only[zc,zd] at this;exact this.1.1.1
            have HGT:=zh (zG htl2);clear hc2;generalize s.ae[x.bg.toNat]=t at *;have HT:Hid (∀W,Below W0.heap.size W0 W→W.cell? ⟨b2,o2+x.bg.toNat * 2,none⟩=some (.int .i64 t.queue)):=fun W hW=>by
             have h:=HBX.out W hW;obtain⟨b',o',ha',_,_,hc'⟩:=Bf Dg (by decide) h.bc.ae htl2;rw[ha2] at ha';simp only[Option.some.injEq,Addr.mk.injEq,and_true] at ha';obtain⟨rfl,rfl⟩:=ha';have hg:=HGT.out;rw[zG htl2] at hg;simp only[Option.some.injEq] at hg;have:=hc' 0 _ rfl;rw[hg] at this;exact this
            subst ha2;clear hqc;have HK:Hid (∀W,Below W7.heap.size W7 W→(W.cell? ⟨w.heap.size+1,1,none⟩=some (.slice (some ⟨b,o,none⟩) s.outs.length c2)∧W.cell? ⟨w.heap.size+1,4,none⟩=some (.int .i64 s.af)∧W.cell? ⟨wr.heap.size,0,none⟩=some (.int .i64 x.tag)∧W.cell? ⟨wr.heap.size,1,none⟩=some (.int .i64 x.bg)∧W.cell? ⟨wr.heap.size,2,none⟩=some (.int .i64 x.queue)∧W.cell? ⟨wr.heap.size,3,none⟩=some (.int .i64 x.item.seq)∧W.cell? ⟨wr.heap.size,4,none⟩=some (.string x.item.key)∧W.cell? ⟨wr.heap.size,5,none⟩=some (.string x.item.body)∧W.cell? ⟨wr.heap.size,6,none⟩=some (.bool x.item.again)∧W.cell? ⟨wr.heap.size,7,none⟩=some (.int .i64 x.item.au)∧W.cell? ⟨w.heap.size+1,2,none⟩=some (.slice (some ⟨b2,o2,none⟩) s.ae.length c3)∧W.cell? ⟨b2,o2+x.bg.toNat * 2,none⟩=some (.int .i64 t.queue)∧W.cell? ⟨b,o+m * 8,none⟩=some (.int .i64 y.tag))∧Below W7.heap.size W7 W):=fun W hW=>by
             have h:=HBX.out W (HB7.out.trans (hW.mono HB7.out.size));have q7:=HK7.out.below hW HK7.out.lt;exact⟨⟨h.state.2.1,h.state.2.2.2.2.1,q7.cell 0,q7.cell 1,q7.cell 2,q7.cell 3,q7.cell 4,q7.cell 5,q7.cell 6,q7.cell 7,h.state.2.2.1,(HT.out W (HB7.out.trans (hW.mono HB7.out.size))),(HPV.out W (HB7.out.trans (hW.mono HB7.out.size)))⟩,hW⟩
            cases hd4:(t.queue == -1)
            ·cases hd5:(t.queue != x.queue)
             ·have H5:Hid (t.queue=x.queue):=(by simpa using hd5:t.queue=x.queue)
              have H4:Hid (t.queue≠ -1):=(by simpa using hd4:t.queue≠ -1)
              cases hb6:Bl x.item
              ·have HFN:Hid (∀W,Calls Tryz.prog 185 #[.agg (zY x.item)] W fun e w'=>e= .returned (.bool false)∧Below W.heap.size W w'):=fun W=>hb6▸Ef x.item W HSMALL.out
               have HNF:=zh (Ga (p:=p) (s:=s) (fun hf=>by have:=Ig (x:=x) hf HMEM.out;rw[hb6] at this;exact absurd this.2.2.2.1 (by decide)));clear hb6
               as_aux_lemma=>
                refine zS HK hOrd (by kernel_rfl) (fun hHeld=> ?_);clear hOrd
                iterate 64 ((first|(refine zT ?_)|(refine zL ?_)|(refine NW.call rfl (fun K hK=> ?_);go_simp;(first|(go_at_call 55;with_reducible refine(HW3.out _).mono ?_;rintro e wq ⟨rfl,rfl⟩)|(go_at_call 185;with_reducible refine(HFN.out _).mono ?_;rintro e wf ⟨rfl,hbf⟩;have hbf2:=Bq (by assumption) hbf;clear hbf));refine hK.out _ _ (by first|assumption|exact HK.out _ (B7 (by assumption) _)|exact HK.out _ (by assumption)) (fun hHeld=> ?_);clear hK K));try simp only[Act.put,zA,zB,zC,zD,zE,zF])
                refine NW.done ?_;go_wp2_with fail
                go_ret
                exact⟨by rw[HNF.out];rfl,(HBX.out _ (HB7.out.trans ((by assumption:_∧Below W7.heap.size W7 _).2.mono HB7.out.size))).below⟩
              ·have HFN:Hid (∀W,Calls Tryz.prog 185 #[.agg (zY x.item)] W fun e w'=>e= .returned (.bool true)∧Below W.heap.size W w'):=fun W=>hb6▸Ef x.item W HSMALL.out
               by_cases hd7:s.af≤x.tag
               ·have hfail:=()
                have HNF:=zh (Ga (p:=p) (s:=s) (fun hf=>by have:=Ig (x:=x) hf HMEM.out;omega));clear hfail
                as_aux_lemma=>
                 refine zS HK hOrd (by kernel_rfl) (fun hHeld=> ?_);clear hOrd
                 iterate 64 ((first|(refine zT ?_)|(refine zL ?_)|(refine NW.call rfl (fun K hK=> ?_);go_simp;(first|(go_at_call 55;with_reducible refine(HW3.out _).mono ?_;rintro e wq ⟨rfl,rfl⟩)|(go_at_call 185;with_reducible refine(HFN.out _).mono ?_;rintro e wf ⟨rfl,hbf⟩;have hbf2:=Bq (by assumption) hbf;clear hbf));refine hK.out _ _ (by first|assumption|exact HK.out _ (B7 (by assumption) _)|exact HK.out _ (by assumption)) (fun hHeld=> ?_);clear hK K));try simp only[Act.put,zA,zB,zC,zD,zE,zF])
                 refine NW.done ?_;go_wp2_with fail
                 go_ret
                 exact⟨by rw[HNF.out];rfl,(HBX.out _ (HB7.out.trans ((by assumption:_∧Below W7.heap.size W7 _).2.mono HB7.out.size))).below⟩
               ·have hlow:x.tag < s.af:=by omega
                as_aux_lemma=>
                 refine zS HK hOrd (by kernel_rfl) (fun hHeld=> ?_);clear hOrd
                 iterate 64 ((first|(refine zT ?_)|(refine zL ?_)|(refine NW.call rfl (fun K hK=> ?_);go_simp;(first|(go_at_call 55;with_reducible refine(HW3.out _).mono ?_;rintro e wq ⟨rfl,rfl⟩)|(go_at_call 185;with_reducible refine(HFN.out _).mono ?_;rintro e wf ⟨rfl,hbf⟩;have hbf2:=Bq (by assumption) hbf;clear hbf));refine hK.out _ _ (by first|assumption|exact HK.out _ (B7 (by assumption) _)|exact HK.out _ (by assumption)) (fun hHeld=> ?_);clear hK K));try simp only[Act.put,zA,zB,zC,zD,zE,zF])
                 refine NW.done ?_;have hf3:wf.cell? ⟨wr.heap.size,3,none⟩=some (.int .i64 x.item.seq):=(HK.out wf hbf2).1.2.2.2.2.2.1;have HOUT:Hid (Mt s x=true):=At1 (t:=t) HGT.out (by omega) (by omega) HIN.out.1 HIN.out.2 (by have k1:=HQ1.out;have k2:=H4.out;omega) H5.out hb6;have HORD:=zh (HORX.out (by have:=HLA.out;omega));have HOF:=zh (own_below HO7.out hbf2);have HBF2:=zm HB7 hbf2;have hbase:=HBF2.out.size;have hLL:=HL.out;clear hbf2;go_wp2_with (at_builtin;refine Em rfl _ _ 92 rfl W0.heap.size 3 Js Tryz.underlying92 rfl (by decide) (by decide) wf _ _ _ rfl HOF.out [.int .i64 x.item.seq] rfl rfl rfl (by simp[Value.oneCell']) hLL hbase ?_;intro v2 w2 hown' hgrow;have HO2:=zh hown';have HB2:=zh (Br HOF.out hgrow HBF2.out (zn _) hbase);clear hown' hgrow)
                 exact⟨⟨j+1,hjl,by go_num,by rw[←HSTEP.out];exact⟨by rw[ze,Qt];exact HO2.out,HB2.out⟩,fun y hy=>by
                  rw[HTS.out] at hy;rcases List.mem_append.1 hy with h|h
                  ·exact HOU.out y h
                  ·rw[List.mem_singleton.1 h];exact HOUT.out,HORD.out⟩,by simp[intOf];omega⟩
             ·have h5:t.queue≠x.queue:=by simpa using hd5
              have HNF:=zh (Ga (p:=p) (s:=s) (fun hf=>by have:=Ig (x:=x) hf HMEM.out;exact h5 (this.2.2.2.2 t HGT.out).2));clear h5;have HFN:Hid (∀W,Calls Tryz.prog 185 #[.agg (zY x.item)] W fun e w'=>e= .returned (.bool (Bl x.item))∧Below W.heap.size W w'):=fun W=>Ef x.item W HSMALL.out
              as_aux_lemma=>
               refine zS HK hOrd (by kernel_rfl) (fun hHeld=> ?_);clear hOrd
               iterate 64 ((first|(refine zT ?_)|(refine zL ?_)|(refine NW.call rfl (fun K hK=> ?_);go_simp;(first|(go_at_call 55;with_reducible refine(HW3.out _).mono ?_;rintro e wq ⟨rfl,rfl⟩)|(go_at_call 185;with_reducible refine(HFN.out _).mono ?_;rintro e wf ⟨rfl,hbf⟩;have hbf2:=Bq (by assumption) hbf;clear hbf));refine hK.out _ _ (by first|assumption|exact HK.out _ (B7 (by assumption) _)|exact HK.out _ (by assumption)) (fun hHeld=> ?_);clear hK K));try simp only[Act.put,zA,zB,zC,zD,zE,zF])
               refine NW.done ?_;go_wp2_with fail
               go_ret
               exact⟨by rw[HNF.out];rfl,(HBX.out _ (HB7.out.trans ((by assumption:_∧Below W7.heap.size W7 _).2.mono HB7.out.size))).below⟩
            ·have h4:t.queue= -1:=by simpa using hd4
             have HNF:=zh (Ga (p:=p) (s:=s) (fun hf=>by have:=Ig (x:=x) hf HMEM.out;have h9:=this.2.2.2.2 t HGT.out;omega));clear h4;have HFN:Hid (∀W,Calls Tryz.prog 185 #[.agg (zY x.item)] W fun e w'=>e= .returned (.bool (Bl x.item))∧Below W.heap.size W w'):=fun W=>Ef x.item W HSMALL.out
             as_aux_lemma=>
              refine zS HK hOrd (by kernel_rfl) (fun hHeld=> ?_);clear hOrd
              iterate 64 ((first|(refine zT ?_)|(refine zL ?_)|(refine NW.call rfl (fun K hK=> ?_);go_simp;(first|(go_at_call 55;with_reducible refine(HW3.out _).mono ?_;rintro e wq ⟨rfl,rfl⟩)|(go_at_call 185;with_reducible refine(HFN.out _).mono ?_;rintro e wf ⟨rfl,hbf⟩;have hbf2:=Bq (by assumption) hbf;clear hbf));refine hK.out _ _ (by first|assumption|exact HK.out _ (B7 (by assumption) _)|exact HK.out _ (by assumption)) (fun hHeld=> ?_);clear hK K));try simp only[Act.put,zA,zB,zC,zD,zE,zF])
              refine NW.done ?_;go_wp2_with fail
              go_ret
              exact⟨by rw[HNF.out];rfl,(HBX.out _ (HB7.out.trans ((by assumption:_∧Below W7.heap.size W7 _).2.mono HB7.out.size))).below⟩
       ·as_aux_lemma=>
         obtain rfl:j=s.outs.length:=by omega
         have hown:=HO.out;rw[List.take_length] at hown;have hown':wr.ownsRow W0.heap.size 3 1 u5 (Dh s).length (M6 (Dh s)):=hown;have hou:∀x∈s.outs,Mt s x=true:=fun x hx=>HOU.out x (by rw[List.take_length];exact hx);have HOUTS:=zh hou;have HRISE:=zh (Afn (l:=s.outs) fun q hq=>HOR.out q hq hq);have hsl:(Dh s).length≤2097152:=by
          have h1:=Uh s.ready;have h2:(s.ready.map List.length).sum≤1048576:=HSS.out.lying;unfold Dh;rw[ze,h1,Yx];omega
         obtain⟨va,vc,hv,hvc⟩:=Ae hown';subst hv;have HSL:=zh (Sl.cu hown');clear hown hown' hou hB hsat HO HOU HOR;go_wp2_with fail
         clear n0 n1 n2 n3 n4 n5 n6 n7;have hwz:∃z:zW,z=wr:=⟨wr,rfl⟩;obtain⟨wz,hz⟩:=hwz;subst hz
         go_loopw [11] (fun i wq=>A0a s wz i wq) (fun i _=>(Dh s).length - (intOf i).toNat)
         case atStart=>exact⟨0,by omega,rfl,by simp,fun n hn=>by simp at hn,zb _ _⟩
         case round=>
          obtain⟨i,hi,rfl,hnd,hlow,hB⟩:=hrel;have HND:=zh hnd;have HLOW:=zh hlow
          have HBQ:=zh hB;clear hnd hlow;have hBW:=HB.out.trans (hB.mono HB.out.size);have HBW:=zh hBW;by_cases hil:i < (Dh s).length
          ·have HCELL:Hid (∀W,Below wz.heap.size wz W→∃b o,va=some ⟨b,o,none⟩∧∀q (hq:q < (Dh s).length),W.cell? ⟨b,o+q,none⟩=some (.int .i64 (Dh s)[q])):=fun W hW=>by
            obtain⟨b,o,rfl,_,hb,hc⟩:=HSL.out.at_ (k:=i) (by rw[Ye];exact hil);refine⟨b,o,rfl,fun q hq=>(hW.cell (p:=⟨b,_,none⟩) hb).trans (hc q _ ?_)⟩;unfold M6;rw[List.getElem?_map,zG hq];rfl
           clear hB hBW;go_wp2_with fail
           go_loopw [12] (fun k wq=>A0b s wz i k wq) (fun k _=>i - (intOf k).toNat)
           case atStart=>exact⟨0,by omega,rfl,fun q hq h=>absurd h (by omega),HBQ.out⟩
           case round=>
            clear HBQ HBW;obtain⟨k,hk,rfl,hne,hB⟩:=hrel;have HNE:=zh hne;have HBQ:=zh hB;have HBW:=zm HB hB;obtain⟨b,o,ha,hcell⟩:=HCELL.out _ hB;have n3:=(HBX.out _ HBW.out).state.2.2.2.1;clear hne hB;by_cases hkl:k < i
            ·have hks:k < (Dh s).length:=by omega
             have e0:=hcell k hks;have e1:=hcell i hil;have HPAIR:=zh (fun h=>Awx (p:=p) hil hkl h);clear hcell
             cases hq:((Dh s)[k] == (Dh s)[i])
             ·have hne1:(Dh s)[k]≠(Dh s)[i]:=by simpa using hq
              have HN1:=zh hne1;clear hne1;subst ha
              go_wp2
              go_quiet (fail)
              all_goals go_wp2
              all_goals exact⟨⟨k+1,by omega,by go_num,fun q hqs h=>by
               rcases Nat.lt_or_ge q k with h'|h'
               ·exact HNE.out q hqs h'
               ·obtain rfl:q=k:=by omega
                intro z hz;rw[zG hil] at hz
                cases hz
                exact HN1.out,below_draws HBQ.out _⟩,by simp[intOf];omega⟩
             ·have HNF:=zh (Ga (HPAIR.out (by simpa using hq)))
              subst ha
              go_wp2
              go_quiet (fail)
              all_goals go_wp2
              all_goals go_ret
              all_goals exact⟨by rw[HNF.out];rfl,(HBX.out _ (below_draws HBW.out _)).below⟩
            ·obtain rfl:k=i:=by omega
             have e1:=hcell k hil;have HSTEP:Hid (((Dh s).take (k+1)).Nodup):=by
              refine(?_:((Dh s).take (k+1)).Nodup);rw[zj hil,List.nodup_append];refine⟨HND.out,by simp,fun a ha b hb e=> ?_⟩;rw[List.mem_singleton.1 hb] at e;rw[List.mem_take_iff_getElem] at ha;obtain⟨q,hq,rfl⟩:=ha;exact HNE.out q (by omega) (by omega) _ (zG hil) e
             have HGREAT:=zh (fun h=>Atr (p:=p) hil h);clear hcell;by_cases hlo:s.ah≤(Dh s)[k]
             ·have HNF:=zh (Ga (HGREAT.out hlo))
              subst ha
              go_wp2
              go_quiet (fail)
              all_goals go_wp2
              all_goals go_ret
              all_goals exact⟨by rw[HNF.out];rfl,(HBX.out _ (below_draws HBW.out _)).below⟩
             ·have HLO:=zh hlo
              subst ha
              go_wp2
              go_quiet (fail)
              all_goals go_wp2
              all_goals exact⟨⟨k+1,hil,by go_num,HSTEP.out,fun n hn=>by
               rw[zj hil] at hn;rcases List.mem_append.1 hn with h|h
               ·exact HLOW.out n h
               ·rw[List.mem_singleton.1 h];have:=HLO.out;omega,below_draws HBQ.out _⟩,by simp[intOf];omega⟩
          ·obtain rfl:i=(Dh s).length:=by omega
           have hnd:=HND.out;have hlo:=HLOW.out
           rw[List.take_length] at hnd hlo;have HTAIL:=zh (Aim (p:=p) HLEN.out HLINES.out HTAKERS.out HOUTS.out HRISE.out hnd hlo);obtain⟨_,⟨n0,n1,n2,n3,n4,n5,n6,n7⟩,_,_,_,_⟩:=HBX.out _ hBW;clear hB hBW hnd hlo;go_wp2_with fail
           refine(Cc _ _ _ _).mono ?_;rintro e w1 ⟨rfl,rfl⟩
           cases hq0:(decide (0≤s.ah) && decide (s.ah≤1048576))
           ·have HNF:=zh (HTAIL.out.trans (by rw[show countB s.ah=false from hq0];simp:_=false))
            clear hq0;go_wp2_with fail
            go_ret
            exact⟨by rw[HNF.out];rfl,(HBX.out _ HBW.out).below⟩
           ·go_wp2_with fail
            refine(Cc _ _ _ _).mono ?_;rintro e w1 ⟨rfl,rfl⟩
            cases hq1:(decide (0≤s.af) && decide (s.af≤1048576))
            ·have HNF:=zh (HTAIL.out.trans (by rw[show countB s.ah=true from hq0,show countB s.af=false from hq1];simp:_=false))
             clear hq0 hq1;go_wp2_with fail
             go_ret
             exact⟨by rw[HNF.out];rfl,(HBX.out _ HBW.out).below⟩
            ·go_wp2_with fail
             refine(Cc _ _ _ _).mono ?_;rintro e w1 ⟨rfl,rfl⟩
             cases hq2:(decide (0≤s.aw) && decide (s.aw≤1048576))
             ·have HNF:=zh (HTAIL.out.trans (by rw[show countB s.ah=true from hq0,show countB s.af=true from hq1,show countB s.aw=false from hq2];simp:_=false))
              clear hq0 hq1 hq2;go_wp2_with fail
              go_ret
              exact⟨by rw[HNF.out];rfl,(HBX.out _ HBW.out).below⟩
             ·go_wp2_with fail
              refine(Cc _ _ _ _).mono ?_;rintro e w1 ⟨rfl,rfl⟩
              cases hq3:(decide (0≤s.ar) && decide (s.ar≤1048576))
              ·have HNF:=zh (HTAIL.out.trans (by rw[show countB s.ah=true from hq0,show countB s.af=true from hq1,show countB s.aw=true from hq2,show countB s.ar=false from hq3];simp:_=false))
               clear hq0 hq1 hq2 hq3;go_wp2_with fail
               go_ret
               exact⟨by rw[HNF.out];rfl,(HBX.out _ HBW.out).below⟩
              ·go_wp2_with fail
               refine(Cc _ _ _ _).mono ?_;rintro e w1 ⟨rfl,rfl⟩
               cases hq4:(decide (0≤s.dropped) && decide (s.dropped≤1048576))
               ·have HNF:=zh (HTAIL.out.trans (by rw[show countB s.ah=true from hq0,show countB s.af=true from hq1,show countB s.aw=true from hq2,show countB s.ar=true from hq3,show countB s.dropped=false from hq4];simp:_=false))
                clear hq0 hq1 hq2 hq3 hq4;go_wp2_with fail
                go_ret
                exact⟨by rw[HNF.out];rfl,(HBX.out _ HBW.out).below⟩
               ·have HNF:=zh (HTAIL.out.trans (by rw[show countB s.ah=true from hq0,show countB s.af=true from hq1,show countB s.aw=true from hq2,show countB s.ar=true from hq3,show countB s.dropped=true from hq4];rfl:_=true))
                clear hq0 hq1 hq2 hq3 hq4;go_wp2_with fail
                go_ret
                exact⟨by rw[HNF.out];rfl,(HBX.out _ HBW.out).below⟩
 ·have hlb:((s.ready.length:Int) != (p.ag.length:Int))=true:=by simp;omega
  have HNF:Hid (Ot p s=false):=Ga fun hf=>hlen hf.len;have HBB:=zh (HBX.out _ (zb _ _)).below;clear hlen;go_wp2_with fail
  go_ret
  exact⟨by rw[HNF.out];rfl,HBB.out⟩
end Go.Proofs.YtpkneogjdfolaaaGreatDoor
