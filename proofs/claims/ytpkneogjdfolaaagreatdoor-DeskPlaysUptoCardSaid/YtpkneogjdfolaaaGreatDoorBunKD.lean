/- Lemmas. -/
import Derived.Test.YtpkneogjdfolaaaGreatDoorBunKC
import Derived.StringKeys
import Derived.Test.YtpkneogjdfolaaaGreatDoorBunDE
set_option maxHeartbeats 20000000
set_option maxRecDepth 100000
set_option linter.unusedSimpArgs false
set_option linter.unusedVariables false
namespace Go.Proofs.YtpkneogjdfolaaaGreatDoor
open Go Go.RowKit
theorem Aem:∀l:List UInt8,decide (0≤Lib.indexByte l 32)=(Gt l).isSome
 | []=>rfl
 |b::l=>by
  have ih:=Aem l;have hg:=Lib.indexByte_ge l 32;unfold Lib.indexByte Gt;by_cases h:b=32
  ·subst h
   rfl
  ·rw[zq (by simpa using h),zq h,Option.isSome_map,←ih]
   by_cases h1:Lib.indexByte l 32= -1
   ·rw[h1];rfl
   ·rw[zq (by simpa using h1),Bool.eq_iff_iff,zd,zd]
    omega
theorem Vj{p:Ab}{s:Aa}{q:Int}(hr0:Bw p s)(h:Bj p s q=0):∃(m:Nat)(y:D8)(hm:m < (Bu p s q).outs.length),(Bu p s q).outs.length=m+1∧(Bu p s q).outs[m]=y∧
  Xd p s q=Dr [Ch p s q,y.bg]++32::(if y.item.again then [97,103,97,105,110] else [110,101,119])++32::y.item.body.data.toList∧(0≤y.bg∧y.bg < 1000000000000)∧(0≤Ch p s q∧Ch p s q < 1000000000000)∧y.item.body.size≤1048576∧m≤1048576:=by
 obtain⟨i,hb,⟨t,ht,_⟩,_,e,hr⟩:=G5 h;have hs:=hr.small;have h4:=hr.many;have hil:=(List.getElem?_eq_some_iff.1 ht).1;have htag:Ch p s q=s.af:=by unfold Ch;rw[zp h]
 have hcnt:=Gz hr.af;have hcnt2:=Gz hr0.af;have ho:(Bu p s q).outs=s.outs++[⟨s.af,(i:Int),q,G9 s q⟩]:=by rw[e];rfl
 have hy:(⟨s.af,(i:Int),q,G9 s q⟩:D8)∈(Bu p s q).outs:=by rw[ho];simp
 have hol:(Bu p s q).outs.length≤1048576:=by rw[e];exact hs.outs
 rw[ho,ze,List.length_singleton] at hol;have h5:s.ae.length≤4:=hr0.many;refine⟨s.outs.length,⟨s.af,(i:Int),q,G9 s q⟩,by rw[ho];simp,by rw[ho];simp,by simp[ho],?_,?_,?_,?_,by omega⟩
 ·unfold Xd
  rw[ho];simp only[List.getLast?_append,List.getLast?_singleton,Option.some_or]
  show _=(Lib.itoa (Ch p s q)++32::Lib.itoa (i:Int))++32::_++32::_
  cases (G9 s q).again<;>simp[Aux,A1d]
 ·show 0≤(i:Int)∧(i:Int) < 1000000000000
  omega
 ·rw[htag]
  omega
 ·rw[e] at hy
  exact(hs.out _ hy).2.1
theorem Ant{W0 W:zW}{p:Ab}{p1 p2 p3:zZ}{q1 q2 q3:Nat}{s:Aa}(hw:DkW W0 p p1 p2 p3)(hr:Bw p s)(h:TbS W0 W p p1 p2 p3 q1 q2 q3 s)(name:zN)(hs:name.size≤1048576):
  Calls Tryz.prog 91 #[zt W0.heap.size,.string name] W (O5 W0 W p p1 p2 p3 q1 q2 q3 (Jd p s name.toList)):=by
 obtain⟨a1,a2,a3,c1,c2,c3,rows,h⟩:=h;have HT:=Ac2 hw h;have HG:=Auu (W0:=W0) (p:=p) p1 p2 p3 q1 q2 q3;have HK:=Ayc h;have HC:=Ac1 h;have hlt:=h.bk.lt;clear h;obtain⟨x,hx⟩:∃x:Told,x=Jd p s name.toList:=⟨_,rfl⟩;rw[←hx];have HX:=zh hx;have hcn:=Tryz.strings_Contains_one name 32 W;rw[←ByteArray.toList_eq,Aem] at hcn;have HCN:=zh hcn;clear hx hcn;go_enter Tryz.func91,Tryz.ntmps91
 go_wp2_with fail
 refine HCN.out.mono ?_;rintro e w1 ⟨rfl,rfl⟩
 cases hc:Gt name.toList with
 |some y=>
  rw[Option.isSome_some];have HX2:Hid (x=(s,[],1)):=zh (by rw[HX.out];unfold Jd;rw[hc]);clear hc;go_wp2_with fail
  refine(Hu 1 _).mono ?_;rintro e w2 ⟨rfl,rfl⟩;go_wp2_with fail
  exact⟨rfl,D9 HX2.out (by decide) ⟨_,_,_,_,_,_,_,(HT.out w2 (zb _ _)).1⟩ (zb _ _)⟩
 |none=>
 rw[Option.isSome_none];have HX2:Hid (x=if Cl p name.toList < 0 then (s,[],5) else Ew s (Bu p s (Cl p name.toList)) (Xd p s (Cl p name.toList)) (Bj p s (Cl p name.toList))):=zh (by rw[HX.out];unfold Jd;rw[hc]);clear hc HX;go_wp2_with fail
 refine(Kj 1 _).mono ?_;rintro e w2 ⟨rfl,rfl⟩;have HX:=HX2;have HQ:Hid (∀V,Below w2.heap.size w2 V→_):=zh fun V hV=>Aff hw ⟨_,_,_,_,_,_,_,(HT.out V hV).1⟩ name;clear HX2 HCN;generalize Cl p name.toList=k at *;have HF:=zh fun h=>Vj (p:=p) (s:=s) (q:=k) hr h;have HA:Hid (∀V,Below w2.heap.size w2 V→Calls Tryz.prog 140 #[.agg (zP p p1 p2 p3 q1 q2 q3),.agg (zV s a1 a2 a3 c1 c2 c3),.int .i64 k] V (Gj (Bu p s k) (Ch p s k) (Bj p s k) V)):=zh fun V hV=>
  Qf p s k p1 p2 p3 a1 a2 a3 q1 q2 q3 c1 c2 c3 rows V (HT.out V hV).2.2.2.1 (HT.out V hV).2.1 hw.small (HT.out V hV).2.2.2.2 hr.small hr.ints
 generalize Xd p s k=o at *;generalize Bu p s k=X at *;generalize Ch p s k=n at *;generalize Bj p s k=er at *;go_upto_region 2 with fail
 go_cut [5] from 12 to 28 (fun v wx=>(v= .int .i64 n∧er=0∧¬ k < 0)∧TbS W0 wx p p1 p2 p3 q1 q2 q3 X∧w2.grownBy wx (some W0.heap.size))
 case first=>
  refine Lj HK (by kernel_rfl) (fun hHeld=> ?_);have hb0:Below w2.heap.size w2 w2.drew:=(zb _ _).drew
  refine zH 0 ?_;refine zH 1 ?_;refine zH 2 ?_;refine zH 3 ?_;refine zH 4 ?_;refine zH 5 ?_;refine zH 6 ?_;refine zH 7 ?_;refine zH 9 ?_;refine zH 10 ?_
  refine zR2 8 11 (fun K hK=> ?_) (fun K hK=> ?_)
  ·have hb:=hb0
   obtain⟨l0,l1,l2,l3,l4,l5,l6,l7⟩:=HC.out _ hb
   go_simp
   refine zk hK (by exact HK.out _ hb) (fun hHeld=> ?_);clear hK K
   clear l0 l1 l2 l3 l4 l5 l6 l7;refine zR 11 fun K hK=> ?_
   go_simp
   go_at_call 90
   refine(HQ.out _ hb).mono ?_;rintro e w4 ⟨hb4,⟨hn,rfl⟩|⟨hn,rfl⟩⟩
   ·exact⟨rfl,D9 (by rw[HX.out,zp hn]) (by decide) ⟨_,_,_,_,_,_,_,(HT.out w2 (zb _ _)).1⟩ (hb.trans (hb4.mono hb.size))⟩
   replace hb:=hb.trans (hb4.mono hb.size)
   refine zk hK (by exact HK.out _ hb) (fun hHeld=> ?_);clear hK K
   refine zR 12 fun K hK=> ?_
   go_simp
   go_at_call 140
   refine(HA.out _ hb).mono ?_;rintro e w5 ⟨y1,y2,y3,d1,d2,d3,ry,rfl,hs5,hb5⟩;have hl5:=Nat.lt_of_lt_of_le hlt hb.size
   replace hb:=hb.trans (hb5.mono hb.size)
   have hs5':=hs5;unfold Ad Ag;refine zk hK (by exact HK.out _ hb) (fun hHeld=> ?_);clear hK K
   refine zH 13 ?_;refine zH 14 ?_;refine zH 15 ?_
   refine zR 16 fun K hK=> ?_
   go_simp
   go_at_call 88
   refine(Tj ⟨_,_,_,_,_,_,_,(HT.out _ hb).1⟩ d1 d2 d3 hl5 hs5' n er).mono ?_;rintro e w6 (⟨he,rfl,ht6,hg6⟩|⟨he,rfl,hb6⟩)
   ·have hg:=Ci (Bs hb (some W0.heap.size)) hg6
    refine zk hK (by exact HG.out _ _ ht6) (fun hHeld=> ?_);clear hK K
    refine zH 17 ?_
    refine zx ?_;go_wp2_with fail
    go_meet
    exact⟨⟨rfl,he,by omega⟩,ht6,hg⟩
   ·exact⟨rfl,D9 (by rw[HX.out,zq (by omega)];exact Hf he) he ⟨_,_,_,_,_,_,_,(HT.out w2 (zb _ _)).1⟩ (hb.trans (hb6.mono hb.size))⟩
  ·have hb:=hb0
   go_simp
   go_at_call 90
   refine(HQ.out _ hb).mono ?_;rintro e w4 ⟨hb4,⟨hn,rfl⟩|⟨hn,rfl⟩⟩
   ·exact⟨rfl,D9 (by rw[HX.out,zp hn]) (by decide) ⟨_,_,_,_,_,_,_,(HT.out w2 (zb _ _)).1⟩ (hb.trans (hb4.mono hb.size))⟩
   replace hb:=hb.trans (hb4.mono hb.size)
   refine zk hK (by exact HK.out _ hb) (fun hHeld=> ?_);clear hK K
   refine zR 8 fun K hK=> ?_;obtain⟨l0,l1,l2,l3,l4,l5,l6,l7⟩:=HC.out _ hb
   go_simp
   refine zk hK (by exact HK.out _ hb) (fun hHeld=> ?_);clear hK K
   clear l0 l1 l2 l3 l4 l5 l6 l7;refine zR 12 fun K hK=> ?_
   go_simp
   go_at_call 140
   refine(HA.out _ hb).mono ?_;rintro e w5 ⟨y1,y2,y3,d1,d2,d3,ry,rfl,hs5,hb5⟩;have hl5:=Nat.lt_of_lt_of_le hlt hb.size
   replace hb:=hb.trans (hb5.mono hb.size)
   have hs5':=hs5;unfold Ad Ag;refine zk hK (by exact HK.out _ hb) (fun hHeld=> ?_);clear hK K
   refine zH 13 ?_;refine zH 14 ?_;refine zH 15 ?_
   refine zR 16 fun K hK=> ?_
   go_simp
   go_at_call 88
   refine(Tj ⟨_,_,_,_,_,_,_,(HT.out _ hb).1⟩ d1 d2 d3 hl5 hs5' n er).mono ?_;rintro e w6 (⟨he,rfl,ht6,hg6⟩|⟨he,rfl,hb6⟩)
   ·have hg:=Ci (Bs hb (some W0.heap.size)) hg6
    refine zk hK (by exact HG.out _ _ ht6) (fun hHeld=> ?_);clear hK K
    refine zH 17 ?_
    refine zx ?_;go_wp2_with fail
    go_meet
    exact⟨⟨rfl,he,by omega⟩,ht6,hg⟩
   ·exact⟨rfl,D9 (by rw[HX.out,zq (by omega)];exact Hf he) he ⟨_,_,_,_,_,_,_,(HT.out w2 (zb _ _)).1⟩ (hb.trans (hb6.mono hb.size))⟩
 case rest=>
  obtain⟨⟨rfl,he,hk⟩,ht,hg⟩:=hcut;subst he;obtain⟨m,y,hm,hlm,hy,ho,htk,htg,hbd,hml⟩:=HF.out rfl;have HX3:Hid (x=(X,o,0)):=zh (by rw[HX.out,zq hk];exact Ii rfl);obtain⟨b1,b2,b3,d1,d2,d3,ry,hT⟩:=ht;obtain⟨gb,ob,rfl,_,hgb,hcl⟩:=Bf (enc:=D6) (size:=8) (fun _=>rfl) (by decide) (hT.bu hw).2.2.2.outs hm;rw[hy] at hcl;obtain⟨_,_,k1,_⟩:=hT.cells;rw[hlm] at k1;have hoc:=Gd (x:=y) hcl;have HO:=zh ho;have HTS:=zh (show TbS W0 wc p p1 p2 p3 q1 q2 q3 X from⟨_,_,_,_,_,_,_,hT⟩);have HGR:=zh hg;have hlt2:=hT.bk.lt;have HK3:Hid (∀W,Below wc.heap.size wc W→(zM W W0.heap.size 4 (.slice (some ⟨gb,ob,none⟩) (m+1) d2)∧zM W gb (ob+m * 8) (.int .i64 y.tag)∧zM W gb (ob+m * 8+1) (.int .i64 y.bg)∧zM W gb (ob+m * 8+2) (.int .i64 y.queue)∧zM W gb (ob+m * 8+3) (.int .i64 y.item.seq)∧zM W gb (ob+m * 8+4) (.string y.item.key)∧zM W gb (ob+m * 8+5) (.string y.item.body)∧zM W gb (ob+m * 8+6) (.bool y.item.again)∧zM W gb (ob+m * 8+7) (.int .i64 y.item.au))∧Below wc.heap.size wc W):=zh fun V hV=>by
   obtain⟨o0,o1,o2,o3,o4,o5,o6,o7⟩:=hoc;have hk:=hV.cell (p:=⟨W0.heap.size,4,none⟩) hlt2;exact⟨⟨hk.trans k1,(hV.cell (p:=⟨gb,_,none⟩) hgb).trans o0,(hV.cell (p:=⟨gb,_,none⟩) hgb).trans o1,(hV.cell (p:=⟨gb,_,none⟩) hgb).trans o2,(hV.cell (p:=⟨gb,_,none⟩) hgb).trans o3,(hV.cell (p:=⟨gb,_,none⟩) hgb).trans o4,(hV.cell (p:=⟨gb,_,none⟩) hgb).trans o5,(hV.cell (p:=⟨gb,_,none⟩) hgb).trans o6,(hV.cell (p:=⟨gb,_,none⟩) hgb).trans o7⟩,hV⟩
  have hwr:wrap64 (((m+1:Nat):Int) - 1)=(m:Int):=by unfold wrap64;omega
  have hwr2:wrap64 (((m:Int)+1) - 1)=(m:Int):=by unfold wrap64;omega
  have hm1:(m:Int) < ((m+1:Nat):Int):=by omega
  have hm2:(m:Int) < (m:Int)+1:=by omega
  have hwi:IntKind.i64.wrap (m:Int)=(m:Int):=by rw[IntKind.wrap_i64];omega
  have hwi2:IntKind.i64.wrap ((m:Int)+1 - 1)=(m:Int):=by rw[IntKind.wrap_i64];omega
  have hwi3:IntKind.i64.wrap (((m+1:Nat):Int) - 1)=(m:Int):=by rw[IntKind.wrap_i64];omega
  clear hT hg hoc hcl k1 ho hk hy HK HT HC HQ HA HF HX HG hgb;go_upto_region 3 with fail
  refine Lj (S:=fun W=>(zM W W0.heap.size 4 (.slice (some ⟨gb,ob,none⟩) (m+1) d2)∧zM W gb (ob+m * 8) (.int .i64 y.tag)∧zM W gb (ob+m * 8+1) (.int .i64 y.bg)∧zM W gb (ob+m * 8+2) (.int .i64 y.queue)∧zM W gb (ob+m * 8+3) (.int .i64 y.item.seq)∧zM W gb (ob+m * 8+4) (.string y.item.key)∧zM W gb (ob+m * 8+5) (.string y.item.body)∧zM W gb (ob+m * 8+6) (.bool y.item.again)∧zM W gb (ob+m * 8+7) (.int .i64 y.item.au))∧Below wc.heap.size wc W) HK3 (by kernel_rfl) (fun hHeld=> ?_);refine zH 0 ?_;refine zH 1 ?_;refine zH 2 ?_;refine zH 3 ?_;refine zH 4 ?_;refine zH 5 ?_;refine zH 6 ?_;refine zH 7 ?_;refine zH 8 ?_;refine zH 9 ?_;refine zH 10 ?_;refine zH 11 ?_;refine zH 12 ?_;refine zH 13 ?_
  refine zR 14 fun K hK=> ?_
  go_simp
  obtain⟨Wz,hWz⟩:=zo ((wc.alloc (.cells #[.int .i64 0,.int .i64 0,.int .i64 0,.int .i64 0,.string ⟨#[]⟩,.string ⟨#[]⟩,.bool false,.int .i64 0] 115)).drew);have hbk:Bk Wz wc.heap.size 115 #[.int .i64 0,.int .i64 0,.int .i64 0,.int .i64 0,.string ⟨#[]⟩,.string ⟨#[]⟩,.bool false,.int .i64 0]:=by rw[←hWz];exact Bk.new wc _ _
  have hbz:Below wc.heap.size wc Wz:=by rw[←hWz];exact((zb _ _).alloc (zn _) _).drew
  rw[hWz];clear hWz;refine zk hK (by exact HK3.out _ hbz) (fun hHeld=> ?_);clear hK K
  refine zR 15 fun K hK=> ?_;have z0:=hbk.cell 0;have z1:=hbk.cell 1;have z2:=hbk.cell 2;have z3:=hbk.cell 3;have z4:=hbk.cell 4;have z5:=hbk.cell 5;have z6:=hbk.cell 6;have z7:=hbk.cell 7
  have f0:=hbk.frozen 0;have f1:=hbk.frozen 1;have f2:=hbk.frozen 2;have f3:=hbk.frozen 3;have f4:=hbk.frozen 4;have f5:=hbk.frozen 5;have f6:=hbk.frozen 6;have f7:=hbk.frozen 7
  simp only[zI,zJ,zK] at z0 z1 z2 z3 z4 z5 z6 z7;have hlz:=hbk.lt;have hb8:=Al hbz (zn wc.heap.size) (.int .i64 y.tag) (.int .i64 y.bg) (.int .i64 y.queue) (.int .i64 y.item.seq) (.string y.item.key) (.string y.item.body) (.bool y.item.again) (.int .i64 y.item.au)
  go_simp
  refine zk hK (by exact HK3.out _ hb8) (fun hHeld=> ?_);clear hK K
  refine zx ?_;have hbx:Bk ((((((((Wz.setCell ⟨wc.heap.size,0,none⟩ (.int .i64 y.tag)).setCell ⟨wc.heap.size,1,none⟩ (.int .i64 y.bg)).setCell ⟨wc.heap.size,2,none⟩ (.int .i64 y.queue)).setCell ⟨wc.heap.size,3,none⟩ (.int .i64 y.item.seq)).setCell ⟨wc.heap.size,4,none⟩ (.string y.item.key)).setCell ⟨wc.heap.size,5,none⟩ (.string y.item.body)).setCell ⟨wc.heap.size,6,none⟩ (.bool y.item.again)).setCell ⟨wc.heap.size,7,none⟩ (.int .i64 y.item.au)) wc.heap.size 115 (D6 y).toArray:=by
   have:=((((((((hbk.ck 0 (.int .i64 y.tag)).ck 1 (.int .i64 y.bg)).ck 2 (.int .i64 y.queue)).ck 3 (.int .i64 y.item.seq)).ck 4 (.string y.item.key)).ck 5 (.string y.item.body)).ck 6 (.bool y.item.again)).ck 7 (.int .i64 y.item.au));simpa [D6] using this
  have HB4:=zh hb8;generalize ((((((((Wz.setCell ⟨wc.heap.size,0,none⟩ (.int .i64 y.tag)).setCell ⟨wc.heap.size,1,none⟩ (.int .i64 y.bg)).setCell ⟨wc.heap.size,2,none⟩ (.int .i64 y.queue)).setCell ⟨wc.heap.size,3,none⟩ (.int .i64 y.item.seq)).setCell ⟨wc.heap.size,4,none⟩ (.string y.item.key)).setCell ⟨wc.heap.size,5,none⟩ (.string y.item.body)).setCell ⟨wc.heap.size,6,none⟩ (.bool y.item.again)).setCell ⟨wc.heap.size,7,none⟩ (.int .i64 y.item.au))=W4 at *;have x1:W4.cell? ⟨wc.heap.size,1,none⟩=some (.int .i64 y.bg):=hbx.cell 1;have x5:W4.cell? ⟨wc.heap.size,5,none⟩=some (.string y.item.body):=hbx.cell 5;have x6:W4.cell? ⟨wc.heap.size,6,none⟩=some (.bool y.item.again):=hbx.cell 6;have HBX:=zh hbx;clear z0 z1 z2 z3 z4 z5 z6 z7 f0 f1 f2 f3 f4 f5 f6 f7 hlz hb8 hbz hbk hbx hHeld HK3;have HT4:Hid (TbS W0 W4 p p1 p2 p3 q1 q2 q3 X∧w2.grownBy W4 (some W0.heap.size)):=zh ⟨HTS.out.keep HB4.out,Ci HGR.out (Bs HB4.out _)⟩;clear HTS HGR HB4;generalize wc.heap.size=xb at *;have HK7:Hid (∀V,Below W4.heap.size W4 V→zM V xb 1 (.int .i64 y.bg)∧zM V xb 5 (.string y.item.body)):=zh fun V hV=>⟨(HBX.out.below hV HBX.out.lt).cell 1,(HBX.out.below hV HBX.out.lt).cell 5⟩;obtain⟨B,hB,hwd⟩:∃B:zN,(if y.item.again then (⟨#[97,103,97,105,110]⟩:zN) else ⟨#[110,101,119]⟩)=B∧B.data.toList=if y.item.again then [97,103,97,105,110] else [110,101,119]:=⟨_,rfl,by cases y.item.again<;>rfl⟩
  have HWD:=zh hwd;clear hwd
  cases hag:y.item.again
  all_goals
   simp only[hag,if_true,if_false,Bool.false_eq_true] at hB;rw[hag] at x6;go_upto_region 7 with fail
   rw[hB];clear hB x6 x1 x5;refine Lj HK7 (by kernel_rfl) (fun hHeld=> ?_);have hb:Below W4.heap.size W4 W4.drew:=(zb _ _).drew
   refine zH 0 ?_;refine zH 1 ?_;refine zH 2 ?_;refine zH 5 ?_;refine zH 6 ?_;refine zH 7 ?_;refine zH 8 ?_
   refine zR 3 fun K hK=> ?_
   go_simp
   obtain⟨v7x,hv7⟩:=zo ((W4.alloc (.cells #[.int .i64 n,.int .i64 y.bg] 3)).drew);have hk7:Bk v7x W4.heap.size 3 #[.int .i64 n,.int .i64 y.bg]:=by rw[←hv7];exact Bk.new W4 _ _
   replace hb:Below W4.heap.size W4 v7x:=by rw[←hv7];exact((zb _ _).alloc (zn _) _).drew
   rw[hv7];clear hv7;refine zk hK (by exact HK7.out _ hb) (fun hHeld=> ?_);clear hK K
   refine zR 4 fun K hK=> ?_
   go_simp
   go_at_call 48
   refine(Nl [n,y.bg] _ 2 0 v7x (Ri hw (HT4.out.1.keep hb)).1 ⟨by simp,fun z hz=>by simp at hz;rcases hz with rfl|rfl<;>assumption⟩ (by simp) (Sl.of_bk hk7 (Nat.zero_le _) hk7.lt rfl)).mono ?_;rintro e w8 ⟨rfl,hb8⟩
   replace hb:=hb.trans (hb8.mono hb.size)
   refine hK.out _ _ (by exact HK7.out _ hb) (fun hHeld=> ?_);clear hK K hb8 hk7
   try simp only[Act.put,zA,zB,zC,zD,zE,zF]
   have hll:=Ow [n,y.bg] (fun z hz=>by simp at hz;rcases hz with rfl|rfl<;>assumption);simp only[List.length_cons,List.length_nil] at hll;generalize Dr [n,y.bg]=ll at *;refine zR 9 fun K hK=> ?_
   go_simp
   obtain⟨v9x,hv9⟩:=zo (w8.alloc (.cells #[.string (bs ll),.string B,.string y.item.body] 9));have hk9:Bk v9x w8.heap.size 9 #[.string (bs ll),.string B,.string y.item.body]:=by rw[←hv9];exact Bk.new w8 _ _
   replace hb:Below W4.heap.size W4 v9x:=by rw[←hv9];exact hb.alloc hb.size _
   rw[hv9];clear hv9;refine zk hK (by exact HK7.out _ hb) (fun hHeld=> ?_);clear hK K
   refine zR 10 fun K hK=> ?_
   go_simp
   go_at_call 83
   have E:Lib.join ([bs ll,B,y.item.body].map (·.data.toList)) (⟨#[32]⟩:zN).data.toList=o:=by
    rw[HO.out,←HWD.out];simp[Lib.join,List.intercalate,List.intersperse,bs]
   have hBl:B.data.toList.length≤5:=by rw[HWD.out];split<;>simp
   have hol:o.length≤140737488355328:=by
    rw[HO.out,←HWD.out];simp only[ze,List.length_cons];have h9:y.item.body.data.toList.length≤1048576:=hbd;omega
   have hj:=Tryz.strings_Join w8.heap.size 0 3 [bs ll,B,y.item.body] ⟨#[32]⟩ v9x (fun j x hj=>by
    rcases j with _|_|_|j
    ·cases hj;exact hk9.cell 0
    ·cases hj;exact hk9.cell 1
    ·cases hj;exact hk9.cell 2
    ·cases hj) hk9.lt (by simp) (by simp) (by rw[E];exact hol)
   rw[E] at hj;refine hj.mono ?_;rintro e w10 ⟨rfl,hb10⟩
   replace hb:=hb.trans (hb10.mono hb.size)
   refine zk hK (by exact HK7.out _ hb) (fun hHeld=> ?_);clear hK K
   refine zH 11 ?_
   refine zx ?_;go_wp2_with fail
   go_ret
   exact I2 HX3.out (HT4.out.1.keep hb) (Ci HT4.out.2 (Bs hb _))
def Afu(T B:Value)(op:List UInt8):Value:=
 if op=Xt then .func (.func 99) #[] #[B] else if op=Rw then .func (.func 97) #[] #[B] else if op=Adw then .func (.func 95) #[] #[B]
 else if op=Po then .func (.func 92) #[] #[B] else if op=O1 then .func (.func 91) #[T] #[] else if op=U7 then .func (.func 86) #[] #[B]
 else if op=O2 then .func (.func 85) #[T] #[] else .nilFunc
def Anb(v:Value):Option (DataW Value×List MemPlace):=some (.held v,[])
def Ahk(T B:Value):DataW Value:=
 (((((((DataW.map []).put (.string O2) (.held (.func (.func 85) #[T] #[]))).put (.string U7) (.held (.func (.func 86) #[] #[B]))).put (.string O1) (.held (.func (.func 91) #[T] #[]))).put
  (.string Po) (.held (.func (.func 92) #[] #[B]))).put (.string Adw) (.held (.func (.func 95) #[] #[B]))).put (.string Rw) (.held (.func (.func 97) #[] #[B]))).put
  (.string Xt) (.held (.func (.func 99) #[] #[B]))
open Go.Maps in
theorem Au2(T B:Value)(op:List UInt8):(Ahk T B).atKey (.string op) (.held .nilFunc)= .held (Afu T B op):=by
 have h0:IsMap (DataW.map []:DataW Value):=⟨_,rfl⟩;have kl:∀l,WideAt.IsKeyLit (.string l):=fun _=>trivial;have ne:∀ {a b:List UInt8},a≠b→Lit.string a≠Lit.string b:=fun h e=>h (by simpa using e);unfold Ahk Afu;by_cases h7:op=Xt
 ·subst h7;rw[atKey_put_same ((((((h0.put _ _).put _ _).put _ _).put _ _).put _ _).put _ _) (kl _),zp rfl]
 rw[atKey_put_other (ne h7),zq h7];by_cases h6:op=Rw
 ·subst h6;rw[atKey_put_same (((((h0.put _ _).put _ _).put _ _).put _ _).put _ _) (kl _),zp rfl]
 rw[atKey_put_other (ne h6),zq h6];by_cases h5:op=Adw
 ·subst h5;rw[atKey_put_same ((((h0.put _ _).put _ _).put _ _).put _ _) (kl _),zp rfl]
 rw[atKey_put_other (ne h5),zq h5];by_cases h4:op=Po
 ·subst h4;rw[atKey_put_same (((h0.put _ _).put _ _).put _ _) (kl _),zp rfl]
 rw[atKey_put_other (ne h4),zq h4];by_cases h3:op=O1
 ·subst h3;rw[atKey_put_same ((h0.put _ _).put _ _) (kl _),zp rfl]
 rw[atKey_put_other (ne h3),zq h3];by_cases h2:op=U7
 ·subst h2;rw[atKey_put_same (h0.put _ _) (kl _),zp rfl]
 rw[atKey_put_other (ne h2),zq h2];by_cases h1:op=O2
 ·subst h1;rw[atKey_put_same h0 (kl _),zp rfl]
 rw[atKey_put_other (ne h1),zq h1];rfl
open Go.Maps in
theorem Aqu(tb:Nat)(W:zW):
  Calls Tryz.prog 50 #[zt tb] W fun e W'=>∃bx M,e= .returned (.map (some M))∧Bk W' bx 35 #[zt tb]∧W'.ownsMap Tryz.prog 9 Anb M 7 (Ahk (zt tb) (zt bx))∧Below W.heap.size W W':=by
 have hmf:∀(fn:Fn)(first cap:Array Value)(w:zW),(Instr.makeFunc fn first cap).run Tryz.prog w= .ok (.func fn first cap) w:=fun _ _ _ _=>rfl;have hmm:= @run_makeMap Tryz.prog;obtain⟨W1,hW1⟩:=zo (W.alloc (.cells #[zt tb] 35));obtain⟨V0,hV0⟩:=zo (W1.alloc (.map #[] 0));have hs1:W1.heap.size=W.heap.size+1:=by rw[←hW1];simp
 have hk1:=zw hW1
 have hk:Bk V0 W.heap.size 35 #[zt tb]:=by rw[←hV0];exact hk1.alloc _
 have hb:Below W.heap.size W V0:=by rw[←hV0,←hW1];exact((zb _ _).alloc (zn _) _).alloc (by simp) _
 have o0:V0.ownsMap Tryz.prog 9 Anb W1.heap.size 0 (.map []):=by rw[←hV0];exact World.ownsMap_made W1 _ _ _
 rw[hs1] at o0;have KS:Keyed Tryz.prog 9:=string_keyed Tryz.underlying9;have hm7:(7:Nat) < maxLen:=by unfold maxLen;omega
 have kk:∀l:List UInt8,(⟨l.toArray⟩:zN).size≤maxLen→keyOf Tryz.prog 9 (.string ⟨l.toArray⟩)=some (.string l):=fun l h=>Go.WideMaps.keyOf_string_mk Tryz.underlying9 h;have ke:∀ {V V':zW} {M:Nat},V.grownBy V' (some M)→M≠W.heap.size→Bk V W.heap.size 35 #[zt tb]→Bk V' W.heap.size 35 #[zt tb]:=fun hg hne h=>h.grown hg (fun e=>hne (Option.some.inj e).symm);have be:∀ {V V':zW},V.grownBy V' (some (W.heap.size+1))→Below W.heap.size W V→Below W.heap.size W V':=fun hg h=>h.grown hg h.size (fun k e=>by cases e;omega);obtain⟨V1,r1,o1,g1⟩:=o0.update KS Tryz.underlying98 (by unfold maxLen;omega) (key:= .string ⟨#[115,101,110,100]⟩) (val:= .func (.func 85) #[zt tb] #[]) (kk O2 (by decide)) rfl;obtain⟨V2,r2,o2,g2⟩:=o1.update KS Tryz.underlying98 (by unfold maxLen;omega) (key:= .string ⟨#[106,111,105,110]⟩) (val:= .func (.func 86) #[] #[zt W.heap.size]) (kk U7 (by decide)) rfl;obtain⟨V3,r3,o3,g3⟩:=o2.update KS Tryz.underlying98 (by unfold maxLen;omega) (key:= .string ⟨#[110,101,120,116]⟩) (val:= .func (.func 91) #[zt tb] #[]) (kk O1 (by decide)) rfl;obtain⟨V4,r4,o4,g4⟩:=o3.update KS Tryz.underlying98 (by unfold maxLen;omega) (key:= .string ⟨#[108,101,97,118,101]⟩) (val:= .func (.func 92) #[] #[zt W.heap.size]) (kk Po (by decide)) rfl;obtain⟨V5,r5,o5,g5⟩:=o4.update KS Tryz.underlying98 (by unfold maxLen;omega) (key:= .string ⟨#[97,99,107]⟩) (val:= .func (.func 95) #[] #[zt W.heap.size]) (kk Adw (by decide)) rfl;obtain⟨V6,r6,o6,g6⟩:=o5.update KS Tryz.underlying98 (by unfold maxLen;omega) (key:= .string ⟨#[98,97,99,107]⟩) (val:= .func (.func 97) #[] #[zt W.heap.size]) (kk Rw (by decide)) rfl;obtain⟨V7,r7,o7,g7⟩:=o6.update KS Tryz.underlying98 (by unfold maxLen;omega) (key:= .string ⟨#[100,114,111,112]⟩) (val:= .func (.func 99) #[] #[zt W.heap.size]) (kk Xt (by decide)) rfl;have k2:=ke g2 (by omega) (ke g1 (by omega) hk);have k7:=ke g7 (by omega) (ke g6 (by omega) (ke g5 (by omega) (ke g4 (by omega) (ke g3 (by omega) k2))));have b7:=be g7 (be g6 (be g5 (be g4 (be g3 (be g2 (be g1 hb))))));have c0:V0.cell? ⟨W.heap.size,0,none⟩=some (zt tb):=hk.cell 0;have c2:V2.cell? ⟨W.heap.size,0,none⟩=some (zt tb):=k2.cell 0;have HF:=zh (show _ from zi k7 (zi o7 b7));clear hk1 hk hb o0 o1 o2 o3 o4 o5 o6 o7 g1 g2 g3 g4 g5 g6 g7 k2 k7 b7 KS ke be kk hm7;go_enter Tryz.func50,Tryz.ntmps50
 go_wp2_with fail
 go_ret
 exact⟨_,_,rfl,HF.out.1,HF.out.2.1,HF.out.2.2⟩
structure Ayu (W0 W:zW) (p:Ab) (p1 p2 p3:zZ) (q1 q2 q3:Nat) (s:Aa) (rest:zN) (op:List UInt8) (g:Nat) (lf lb:Array Value):Prop where
 enters:∀args w,(callFunc g args).run Tryz.prog w= .ok (.enter g args) w
 calls:Calls Tryz.prog g (lf++ #[.string rest]++lb) W (O5 W0 W p p1 p2 p3 q1 q2 q3 (opL p s op rest.toList))
theorem Aqt{W0 W:zW}{p:Ab}{p1 p2 p3:zZ}{q1 q2 q3:Nat}{s:Aa}(hw:DkW W0 p p1 p2 p3)(hr:Bw p s)(h:TbS W0 W p p1 p2 p3 q1 q2 q3 s){bx:Nat}(hbx:Bk W bx 35 #[zt W0.heap.size])(rest:zN)(hs:rest.size≤1048576)(op:List UInt8):
  (Afu (zt W0.heap.size) (zt bx) op= .nilFunc∧opL p s op rest.toList=(s,[],1))∨∃g lf lb,Afu (zt W0.heap.size) (zt bx) op= .func (.func g) lf lb∧Ayu W0 W p p1 p2 p3 q1 q2 q3 s rest op g lf lb:=by
 unfold Afu;by_cases h7:op=Xt
 ·refine .inr ⟨99,_,_,zp h7,enters_of Tryz.func99 (by kernel_rfl) rfl,?_⟩
  subst h7;exact Aq7 hw hr h hbx rest hs
 by_cases h6:op=Rw
 ·refine .inr ⟨97,_,_,by rw[zq h7,zp h6],enters_of Tryz.func97 (by kernel_rfl) rfl,?_⟩
  subst h6;exact Aq6 hw hr h hbx rest hs
 by_cases h5:op=Adw
 ·refine .inr ⟨95,_,_,by rw[zq h7,zq h6,zp h5],enters_of Tryz.func95 (by kernel_rfl) rfl,?_⟩
  subst h5;exact Avv hw hr h hbx rest hs
 by_cases h4:op=Po
 ·refine .inr ⟨92,_,_,by rw[zq h7,zq h6,zq h5,zp h4],enters_of Tryz.func92 (by kernel_rfl) rfl,?_⟩
  subst h4;exact Anl hw hr h hbx rest hs
 by_cases h3:op=O1
 ·refine .inr ⟨91,_,_,by rw[zq h7,zq h6,zq h5,zq h4,zp h3],enters_of Tryz.func91 (by kernel_rfl) rfl,?_⟩
  subst h3;exact Ant hw hr h rest hs
 by_cases h2:op=U7
 ·refine .inr ⟨86,_,_,by rw[zq h7,zq h6,zq h5,zq h4,zq h3,zp h2],enters_of Tryz.func86 (by kernel_rfl) rfl,?_⟩
  subst h2;exact Aq8 hw hr h hbx rest hs
 by_cases h1:op=O2
 ·refine .inr ⟨85,_,_,by rw[zq h7,zq h6,zq h5,zq h4,zq h3,zq h2,zp h1],enters_of Tryz.func85 (by kernel_rfl) rfl,?_⟩
  subst h1;exact Aog hw hr h rest hs
 refine .inl ⟨by rw[zq h7,zq h6,zq h5,zq h4,zq h3,zq h2,zq h1],?_⟩;unfold opL;rw[zq h1,zq h2,zq h3,zq (by rintro(h|h|h|h)<;>contradiction)]
theorem Aqs{W:zW}{M:Nat}{T B:Value}(h:W.ownsMap Tryz.prog 9 Anb M 7 (Ahk T B))(op:zN)(ho:op.size≤1048576):
  (Instr.lookup 98 (.map (some M)) (.string op) false).run Tryz.prog W= .ok (Afu T B op.toList) W:=by
 obtain⟨v,ps,h1,h2⟩:=h.lookup (Go.Maps.string_keyed Tryz.underlying9) Tryz.underlying98 (z:= .nilFunc) (by rfl) (zd:= .held .nilFunc) (zp:=[]) rfl (key:= .string op) (kl:= .string op.toList) (by rw[ByteArray.toList_eq];exact Go.WideMaps.keyOf_string_mk Tryz.underlying9 (by unfold maxLen;omega));rw[Au2] at h2;simp only[Anb,Option.some.injEq,Prod.mk.injEq,DataW.held.injEq] at h2;rw[h1,h2.1]
def Sm(e:Int):Prop:=0≤e∧e≤20
theorem G7{c:Prop}[Decidable c]{a b:Int}(ha:Sm a)(hb:Sm b):Sm (if c then a else b):=by
 split
 ·exact ha
 ·exact hb
theorem sm0:Sm 0:=⟨by decide,by decide⟩
theorem sm1:Sm 1:=⟨by decide,by decide⟩
theorem sm2:Sm 2:=⟨by decide,by decide⟩
theorem sm3:Sm 3:=⟨by decide,by decide⟩
theorem sm5:Sm 5:=⟨by decide,by decide⟩
theorem sm8:Sm 8:=⟨by decide,by decide⟩
theorem sm9:Sm 9:=⟨by decide,by decide⟩
theorem Uk{s n:Aa}{o:List UInt8}{e:Int}(h:Sm e):Sm (Ew s n o e).2.2:=by
 unfold Ew
 split
 ·exact sm0
 ·exact h
theorem Agv{p:Ab}{s:Aa}(hr:Bw p s)(l:List UInt8):Sm (Ee p s l).2.2:=by
 have hS:Sm (Am p s):=by rw[Cv.2 hr];exact sm0
 have hC:Sm (Bc p):=by rw[hr.bz];exact sm0
 have hR:∀x k,Sm (Bn p x k):=fun x k=>by unfold Bn Be;exact G7 hC (G7 sm5 (G7 sm2 (G7 sm0 sm1)))
 have hP:∀x k b,Sm (Bg p s x k b):=fun x k b=>by unfold Bg Bh;exact G7 hS (G7 (hR _ _) (G7 sm1 (G7 hS (G7 sm2 (G7 sm5 (G7 sm1 (G7 sm2 sm0)))))))
 have hA:∀q,Sm (Cg p s q):=fun q=>by unfold Cg;exact G7 hS (G7 sm5 sm0)
 have hJ:∀q m,Sm (Ce p s q m):=fun q m=>by unfold Ce;exact G7 (hA q) (G7 sm3 (G7 sm2 sm0))
 have hN:∀q,Sm (Cz p s q):=fun q=>by unfold Cz;exact G7 (hA q) (G7 sm8 (G7 sm9 sm0))
 have hD:∀q,Sm (Bj p s q):=fun q=>by unfold Bj;exact G7 (hN q) (G7 sm2 sm0)
 have hK:∀t,Sm (Df p s t):=fun t=>by unfold Df;exact G7 hS (G7 sm5 sm0)
 have hX:∀t,Sm (Az p s t):=fun t=>by unfold Az;exact G7 hS (G7 sm5 (G7 sm2 sm0))
 have hL:∀(t:Int)(os:List D8)(c:Aa),Bw p c→Sm (Ib p t os c).2:=fun t os=>by
  induction os with
  |nil=>intro c _;exact sm0
  |cons x os ih=>
   intro c hc;unfold Ib
   split
   ·split
    ·rename_i h0
     exact ih _ (reject_done' h0).right
    ·show Sm (Az p c x.tag)
     have:Sm (Am p c):=by rw[Cv.2 hc];exact sm0
     unfold Az;exact G7 this (G7 sm5 (G7 sm2 sm0))
   ·exact ih c hc
 have hV:∀t,Sm (Bv p s t):=fun t=>by unfold Bv;exact G7 hS (G7 sm5 (hL t s.outs s hr))
 unfold Ee
 split
 ·exact sm0
 split
 ·exact sm0
 split
 ·exact sm1
 unfold opL
 split
 ·unfold Lw
  split
  ·exact sm1
  split
  ·exact sm1
  split
  ·exact sm5
  ·exact Uk (hP _ _ _)
 split
 ·unfold Ld
  split
  ·exact sm1
  split
  ·exact sm1
  split
  ·exact sm5
  ·exact Uk (hJ _ _)
 split
 ·unfold Jd
  split
  ·exact sm1
  split
  ·exact sm5
  ·exact Uk (hD _)
 split
 ·split
  ·exact sm1
  split
  ·exact Uk (hV _)
  split
  ·exact Uk (hK _)
  ·exact Uk (hX _)
 ·exact sm1
def Anp(R:Nat):List Deferred:=[{ target:= .fn (.func 45) #[zt R],args:= #[] }]
theorem Ati(R:Nat)(w:zW)(v0:Value)(n:Int)(hn:0≤n∧n≤20)(hR:Bk w R 9 #[v0])(hE:Qg w):
  CallsD Tryz.prog 45 #[zt R] (.panicking [dkE n]) w fun en u' w'=>en= .returned (.tuple #[])∧u'= .panicking [{ dkE n with recovered:=true }]∧Bk w' R 9 #[.string (bs (Rj++Lib.itoa n))]∧w.grownBy w' (some R):=by
 obtain⟨W1,hW1⟩:=zo (w.alloc (.cells #[.int .i64 n] 90));have hb1:=zu hW1
 have hk1:=zw hW1
 have HI:=zh (Ux n (by omega) W1 (hE.below hb1));have n0:W1.cell? ⟨w.heap.size,0,none⟩=some (.int .i64 n):=hk1.cell 0;have HB:=zh hb1;have HR:=zh (hR.below hb1 hR.lt);have hls:(bs (Lib.itoa n)).size≤1000000000000:=Ab3 (by omega);have hta:∀W:zW,(Instr.typeAssert (.iface 90 (.agg #[.int .i64 n])) 20 90 true).run Tryz.prog W= .ok (.tuple #[.agg #[.int .i64 n],.bool true]) W:=fun W=>by simp[Instr.typeAssert,run_underlying Tryz.underlying90]
 clear hk1 hb1 hR hE;unfold dkE;refine callsD_of_wpS Tryz.func45 rfl fun c₀ cs hu=> ?_
 apply wpS_seq
 apply wpS_region
 simp[wpOpsS,go_sem,recoverD,hu,Tryz.ntmps45,Exit.thenS];refine wpS_of_wp ?_
 change Code.wp _ _ _ (⟨#[zt R,.iface 90 (.agg #[.int .i64 n]),undef,undef,.iface 90 (.agg #[.int .i64 n]),undef,undef,undef,undef,undef,undef,undef,undef,undef,undef,undef,undef,undef],[]⟩:Act) _
 go_wp2_with fail
 refine HI.out.mono ?_;rintro e w2 ⟨rfl,hb2⟩;have hR2:=HR.out.below hb2 HR.out.lt;have HR2:=zh hR2;have HG:=zh (Ci (Bs HB.out (some R)) (Bs hb2 (some R)));obtain⟨r0,rf,rl⟩:zM w2 R 0 v0∧w2.frozen? ⟨R,0,none⟩=false∧R < w2.heap.size:=⟨hR2.cell 0,hR2.frozen 0,hR2.lt⟩;clear hR2 hb2 n0;go_wp2_with fail
 refine⟨rfl,_,rfl,_,results_none rfl _ _ _,rfl,rfl,?_,Ci HG.out (Jg _ _ _ _)⟩;have:=HR2.out.ck 0 (.string (bs Rj++bs (Lib.itoa n)));rw[←Gn]
 show Bk (w2.setCell ⟨R,0,none⟩ (.string (bs Rj++bs (Lib.itoa n)))) R _ _
 simpa using this
theorem Awr(R:Nat)(w:zW):
  CallsD Tryz.prog 45 #[zt R] .returning w fun en u' w'=>en= .returned (.tuple #[])∧u'= .returning∧Below w.heap.size w w':=by
 have hta:∀W:zW,(Instr.typeAssert .nilIface 20 90 true).run Tryz.prog W= .ok (.tuple #[.agg #[.int .i64 0],.bool false]) W:=fun W=>by
  have hz:(zeroValue 90).run Tryz.prog W= .ok (.agg #[.int .i64 0]) W:=by kernel_rfl
  simp[Instr.typeAssert,run_underlying Tryz.underlying90,hz]
 refine callsD_of_wpS Tryz.func45 rfl fun c₀ cs hu=> ?_
 apply wpS_seq
 apply wpS_region
 simp[wpOpsS,go_sem,recoverD,hu,Tryz.ntmps45,Exit.thenS];refine wpS_of_wp ?_
 change Code.wp _ _ _ (⟨#[zt R,.nilIface,undef,undef,.nilIface,undef,undef,undef,undef,undef,undef,undef,undef,undef,undef,undef,undef,undef],[]⟩:Act) _
 go_wp2_with fail
 have hb:Below w.heap.size w (w.alloc (.cells #[.int .i64 0] 90)):=(zb _ _).alloc (zn _) _;refine⟨rfl,.returning,?_,_,results_none rfl _ _ _,rfl,rfl,hb⟩
 cases c₀
 simp_all
def R8(W0 W:zW)(p:Ab)(p1 p2 p3:zZ)(q1 q2 q3:Nat)(x:Told)(e:Ending)(W':zW):Prop:=
 W.grownBy W' (some W0.heap.size)∧TbS W0 W' p p1 p2 p3 q1 q2 q3 x.1∧e= .returned (.string (bs (if x.2.2=0 then x.2.1 else Rj++Lib.itoa x.2.2)))
theorem Agj{W V V':zW}{row:Option Nat}{R:Nat}(h:W.grownBy V row)(h':V.grownBy V' (some R))(hR:W.heap.size≤R):W.grownBy V' row:=
 ⟨h'.os.trans h.os,h'.tape.trans h.tape,h'.output.trans h.output,zr h.size h'.size,fun k hk hne=>(h'.block k (Nat.lt_of_lt_of_le hk h.size) (fun e=>by cases e;omega)).trans (h.block k hk hne)⟩
theorem TbS.below{W0 W:zW}{p:Ab}{p1 p2 p3:zZ}{q1 q2 q3:Nat}{s:Aa}(h:TbS W0 W p p1 p2 p3 q1 q2 q3 s):Below W0.heap.size W0 W:=by
 obtain⟨_,_,_,_,_,_,_,h⟩:=h;exact h.below
theorem TbS.newRow{W0 W:zW}{p:Ab}{p1 p2 p3:zZ}{q1 q2 q3:Nat}{s:Aa}{V:zW}{R:Nat}{cs:Array Value}(h:TbS W0 W p p1 p2 p3 q1 q2 q3 s)(hR:Bk W R 9 cs)(hl:W0.heap.size≤R)(hg:W.grownBy V (some R)):TbS W0 V p p1 p2 p3 q1 q2 q3 s:=
 h.typed (Apv hR hg) (h.below.grown hg h.below.size (fun k e=>by cases e;exact hl))
theorem Agy{W0 W V:zW}{p:Ab}{p1 p2 p3:zZ}{q1 q2 q3:Nat}{x:Told}{a:Act}{R:Nat}{v0:Value}{n:Int}(hw:DkW W0 p p1 p2 p3)(hd:a.defers=Anp R)(ht:a.tmps[4]? =some (zt R))(hR:Bk V R 9 #[v0])(hl:W0.heap.size≤R)(hl2:W.heap.size≤R)(hT:TbS W0 V p p1 p2 p3 q1 q2 q3 x.1)(hg:W.grownBy V (some W0.heap.size))(hx:x.2.2=n)(h0:n≠0)(hs:Sm x.2.2):
  bodyPostD Tryz.prog Tryz.f13 (R8 W0 W p p1 p2 p3 q1 q2 q3 x) (.panic [dkE n]) a V:=by
 subst hx
 show Leaves Tryz.prog Tryz.f13 a.tmps (R8 W0 W p p1 p2 p3 q1 q2 q3 x) a.defers (.panicking [dkE x.2.2]) V
 rw[hd];refine leaves_cons (f:=45) (args:= #[zt R]) (by simp) (by simp[go_sem]) ?_;refine(Ati R V v0 x.2.2 hs hR (Ri hw hT).1).mono ?_;rintro e u' w'' ⟨rfl,rfl,hR2,hg2⟩;have c0:=hR2.cell 0;simp only[zI,zJ] at c0
 show Leaves Tryz.prog Tryz.f13 a.tmps (R8 W0 W p p1 p2 p3 q1 q2 q3 x) [] .returning _
 refine⟨.string (bs (Rj++Lib.itoa x.2.2)),?_,Agj hg hg2 hl2,hT.newRow hR hl hg2,by rw[zq h0]⟩;simp[results,Tryz.results13,ht,go_sem,c0]
theorem Agz{W0 W V:zW}{p:Ab}{p1 p2 p3:zZ}{q1 q2 q3:Nat}{x:Told}{a:Act}{R:Nat}{o:List UInt8}(hd:a.defers=Anp R)(ht:a.tmps[4]? =some (zt R))(hR:Bk V R 9 #[.string (bs o)])(hT:TbS W0 V p p1 p2 p3 q1 q2 q3 x.1)(hg:W.grownBy V (some W0.heap.size))(hx:x.2.2=0)(ho:x.2.1=o):
  bodyPostD Tryz.prog Tryz.f13 (R8 W0 W p p1 p2 p3 q1 q2 q3 x) .ret a V:=by
 subst ho
 show Leaves Tryz.prog Tryz.f13 a.tmps (R8 W0 W p p1 p2 p3 q1 q2 q3 x) a.defers .returning V
 rw[hd];refine leaves_cons (f:=45) (args:= #[zt R]) (by simp) (by simp[go_sem]) ?_;refine(Awr R V).mono ?_;rintro e u' w'' ⟨rfl,rfl,hb2⟩;have c0:=(hR.below hb2 hR.lt).cell 0;simp only[zI,zJ] at c0
 show Leaves Tryz.prog Tryz.f13 a.tmps (R8 W0 W p p1 p2 p3 q1 q2 q3 x) [] .returning _
 refine⟨.string (bs x.2.1),?_,Ci hg (Bs hb2 _),hT.keep hb2,by rw[zp hx]⟩;simp[results,Tryz.results13,ht,go_sem,c0]
theorem Jq{P:Program}{ops:Array Oper}{Q:Exit→Act→zW→Prop}{S:zW→Prop}{w:zW}{row:Option Nat}(hk:Hid (∀W,w.grownBy W row→S W)){id:Nat}{a:Act}(hm:P.follows .mixedOrders=true)
  (h:S w.drew→wpAnyH P .any ops (NoPanic Q) S ops.size (Array.replicate ops.size false) a w.drew):(Code.region id ops true).wp P Q a w:=wp_region_noPanic (wp_region_held_drew hm (hk.out _ (Bs (zb _ _).drew _)) h)
theorem Ab6{p:Ab}{s:Aa}(hr:Bw p s):Abl (Ka s)∧(Ka s).length≤100:=by
 have hq:=(Cp hr.bz).ag;have hl:=hr.len;have hs:=hr.small;have e:(Ka s).length=s.ready.length:=by unfold Ka;rw[List.length_map]
 refine⟨⟨by omega,fun x hx=> ?_⟩,by omega⟩;unfold Ka at hx;obtain⟨r,hr1,rfl⟩:=List.mem_map.1 hx;have:=(hs.row r hr1).len;omega
theorem Acz{p:Ab}{s:Aa}(hr:Bw p s):Abl [s.aw,s.ar,s.dropped]:=by
 have h1:=Gz hr.aw;have h2:=Gz hr.ar;have h3:=Gz hr.dropped;refine⟨by simp,fun x hx=> ?_⟩;simp only[List.mem_cons,List.not_mem_nil,or_false] at hx;rcases hx with rfl|rfl|rfl<;>omega
theorem Ath{W0 W:zW}{p:Ab}{p1 p2 p3:zZ}{q1 q2 q3:Nat}{s:Aa}(hw:DkW W0 p p1 p2 p3)(hr:Bw p s)(h:TbS W0 W p p1 p2 p3 q1 q2 q3 s)(l:zN)(hl:l.size≤1048576):
  Calls Tryz.prog 13 #[zt W0.heap.size,.string l] W (R8 W0 W p p1 p2 p3 q1 q2 q3 (Ee p s l.toList)):=by
 have hmf:∀(fn:Fn)(first cap:Array Value)(w:zW),(Instr.makeFunc fn first cap).run Tryz.prog w= .ok (.func fn first cap) w:=fun _ _ _ _=>rfl;obtain⟨x,hx⟩:∃x:Told,x=Ee p s l.toList:=⟨_,rfl⟩;have HSM:Hid (Sm x.2.2):=zh (by rw[hx];exact Agv hr _);rw[←hx];have HX:=zh hx;obtain⟨W1,hW1⟩:=zo (W.alloc (.cells #[.string ⟨#[]⟩] 9));have hb1:=zu hW1
 have hR:=zw hW1
 have HLR:Hid (W0.heap.size≤W.heap.size):=zh h.below.size;have HT1:=zh (h.keep hb1);have HB1:=zh hb1;have HR:=zh hR;clear hx h hb1 hR
 go_enter_defers Tryz.func13,Tryz.ntmps13
 by_cases hly:l.toList=Tk
 ·have hb:(l.toList == [108,121,105,110,103])=true:=by rw[hly];rfl
  have HXL:Hid (x=(s,Dr (Ka s),0)):=zh (by rw[HX.out];unfold Ee;rw[zp hly]);clear hly;obtain⟨a1,a2,a3,c1,c2,c3,rows,hT⟩:=HT1.out;have HK:Hid (∀V,W1.grownBy V (none:Option Nat)→zM V W0.heap.size 0 (.slice p1 p.aj.length q1)∧zM V W0.heap.size 1 (.slice p2 p.ag.length q2)∧zM V W0.heap.size 2 (.slice p3 p.binds.length q3)∧zM V W0.heap.size 3 (.slice a1 s.ready.length c1)∧zM V W0.heap.size 4 (.slice a2 s.outs.length c2)∧zM V W0.heap.size 5 (.slice a3 s.ae.length c3)∧zM V W0.heap.size 6 (.int .i64 s.ah)∧zM V W0.heap.size 7 (.int .i64 s.af)∧zM V W0.heap.size 8 (.int .i64 s.aw)∧zM V W0.heap.size 9 (.int .i64 s.ar)∧zM V W0.heap.size 10 (.int .i64 s.dropped)):=zh fun V hV=>by
   have hk:=hT.bk.grown hV (by simp);exact⟨hk.cell 0,hk.cell 1,hk.cell 2,hk.cell 3,hk.cell 4,hk.cell 5,hk.cell 6,hk.cell 7,hk.cell 8,hk.cell 9,hk.cell 10⟩
  have hq:=hT.bu hw;have HPL:=zh hq;have hlt:=hT.bk.lt;have HLY:Hid (∀V,Below W1.heap.size W1 V→_):=zh fun V hV=>Vr p s p1 p2 p3 a1 a2 a3 q1 q2 q3 c1 c2 c3 rows V (Ba hV hq.2.2.1) ((hq.1.below hV (zn _)).wider (zn _) hV.size) hw.small ((hq.2.2.2.below hV (zn _)).wider (zn _) hV.size) hr.small hr.ints;rw[Cv.2 hr,show K6 s=Ka s from rfl] at HLY;unfold Ad Ay Ag at HLY;clear hT hq;go_wp2_with fail
  refine Jq HK (by kernel_rfl) (fun hHeld=> ?_);refine zH 0 ?_;refine zH 1 ?_;refine zH 2 ?_;refine zH 3 ?_;refine zH 4 ?_;refine zH 5 ?_;refine zH 6 ?_;refine zH 7 ?_
  refine zR 8 fun K hK=> ?_
  go_simp
  go_at_call 47
  refine(HLY.out _ (zb _ _).drew).mono ?_;rintro e w2 ⟨al,nl,cl,rfl,hnl,hsl,hb2⟩;have hb2':=(zb W1.heap.size W1).drew.trans hb2;refine zk hK (by exact HK.out _ (Bs hb2' _)) (fun hHeld=> ?_);clear hK K
  refine zH 9 ?_;refine zH 10 ?_;refine zH 11 ?_;refine zH 12 ?_;refine zH 13 ?_
  refine zx (NoPanic.normal ?_);have HL2:=zh (Ab6 hr);have HSL:Hid (Sl w2 0 w2.heap.size al ((Ka s).map (Value.int .i64))):=zh (by simp only[if_true] at hsl;exact hsl.wider (Nat.zero_le _) (zn _));have hnl2:nl=(Ka s).length:=by simp only[if_true] at hnl;exact hnl
  subst hnl2;have HT2:=zh (HT1.out.keep hb2');have HB2:=zh (HB1.out.trans (hb2'.mono HB1.out.size));have HR2:=zh (HR.out.below hb2' HR.out.lt);clear hnl hsl hb2 hb2' hHeld;generalize Ka s=ll at *;go_wp2_with fail
  refine(Nl ll al cl 0 w2 (Ri hw HT2.out).1 HL2.out.1 HL2.out.2 HSL.out).mono ?_;rintro e w3 ⟨rfl,hb3⟩;have hR3:=HR2.out.below hb3 HR2.out.lt;have HR3:=zh hR3;have HT3:=zh (HT2.out.keep hb3);have HB3:=zm HB2 hb3;obtain⟨r0,rf,rl⟩:zM w3 W.heap.size 0 (.string ⟨#[]⟩)∧w3.frozen? ⟨W.heap.size,0,none⟩=false∧W.heap.size < w3.heap.size:=⟨hR3.cell 0,hR3.frozen 0,hR3.lt⟩;clear hb3 hR3;go_wp2_with fail
  have hgs:=Jg w3 W.heap.size 0 (.string (bs (Dr ll)));refine Agz rfl rfl (o:=Dr ll) (by simpa using HR3.out.ck 0 (.string (bs (Dr ll)))) (by rw[HXL.out];exact HT3.out.newRow HR3.out HLR.out hgs) (Agj (Bs HB3.out _) hgs (zn _)) (by rw[HXL.out]) (by rw[HXL.out])
 have hb:(l.toList == [108,121,105,110,103])=false:=by simpa [Tk] using hly
 by_cases hsu:l.toList=Aac
 ·have hb2:(l.toList == [115,117,109,115])=true:=by rw[hsu];rfl
  have HXL:Hid (x=(s,Dr [s.aw,s.ar,s.dropped],0)):=zh (by rw[HX.out];unfold Ee;rw[zq hly,zp hsu]);clear hly hsu;obtain⟨a1,a2,a3,c1,c2,c3,rows,hT⟩:=HT1.out;have hne:W0.heap.size≠W.heap.size:=fun e=>by
   have h1:=hT.bk;rw[e] at h1;exact absurd (h1.ty HR.out) (by decide)
  have HK:Hid (∀V,W1.grownBy V (some W.heap.size)→zM V W0.heap.size 8 (.int .i64 s.aw)∧zM V W0.heap.size 9 (.int .i64 s.ar)∧zM V W0.heap.size 10 (.int .i64 s.dropped)):=zh fun V hV=>by
   have hk:=hT.bk.grown hV (fun e=>hne (Option.some.inj e));exact⟨hk.cell 8,hk.cell 9,hk.cell 10⟩
  have hlt:=hT.bk.lt;have HS3:=zh (Acz hr);clear hT hne;go_wp2_with fail
  refine Jq HK (by kernel_rfl) (fun hHeld=> ?_);refine zH 0 ?_;refine zH 1 ?_;refine zH 2 ?_;refine zH 3 ?_;refine zH 4 ?_;refine zH 5 ?_;refine zH 6 ?_;refine zH 7 ?_;refine zH 8 ?_;refine zH 9 ?_;refine zH 10 ?_;refine zH 11 ?_;refine zH 12 ?_;refine zH 13 ?_;refine zH 14 ?_
  refine zR 15 fun K hK=> ?_
  go_simp
  obtain⟨w2,hw2⟩:=zo ((W1.alloc (.cells #[.int .i64 s.aw,.int .i64 s.ar,.int .i64 s.dropped] 3)).drew);have hk2:Bk w2 W1.heap.size 3 #[.int .i64 s.aw,.int .i64 s.ar,.int .i64 s.dropped]:=by rw[←hw2];exact Bk.new W1 _ _
  have hb2':Below W1.heap.size W1 w2:=by rw[←hw2];exact((zb _ _).alloc (zn _) _).drew
  rw[hw2];clear hw2;refine zk hK (by exact HK.out _ (Bs hb2' _)) (fun hHeld=> ?_);clear hK K
  refine zR 16 fun K hK=> ?_
  go_simp
  go_at_call 48
  refine(Nl [s.aw,s.ar,s.dropped] _ 3 0 w2 (Ri hw (HT1.out.keep hb2')).1 HS3.out (by simp) (Sl.of_bk hk2 (Nat.zero_le _) hk2.lt rfl)).mono ?_;rintro e w3 ⟨rfl,hb3⟩
  replace hb3:=hb2'.trans (hb3.mono hb2'.size)
  refine zk hK (by exact HK.out _ (Bs hb3 _)) (fun hHeld=> ?_);clear hK K
  have hR3:=HR.out.below hb3 HR.out.lt;have HR3:=zh hR3;have HT3:=zh (HT1.out.keep hb3);have HB3:=zm HB1 hb3;have HB3':=zh hb3;obtain⟨r0,rf,rl⟩:zM w3 W.heap.size 0 (.string ⟨#[]⟩)∧w3.frozen? ⟨W.heap.size,0,none⟩=false∧W.heap.size < w3.heap.size:=⟨hR3.cell 0,hR3.frozen 0,hR3.lt⟩;clear hb3 hR3 hk2 hb2';generalize Dr [s.aw,s.ar,s.dropped]=ll at *;have hgs:=Jg w3 W.heap.size 0 (.string (bs ll));refine zR 17 fun K hK=> ?_
  go_simp
  refine zk hK (by exact HK.out _ (Ci (Bs HB3'.out _) hgs)) (fun hHeld=> ?_);clear hK K
  refine zx (NoPanic.normal ?_);go_wp2_with fail
  refine Agz rfl rfl (o:=ll) (by simpa using HR3.out.ck 0 (.string (bs ll))) (by rw[HXL.out];exact HT3.out.newRow HR3.out HLR.out hgs) (Agj (Bs HB3.out _) hgs (zn _)) (by rw[HXL.out]) (by rw[HXL.out])
 have hb2:(l.toList == [115,117,109,115])=false:=by simpa [Aac] using hsu
 have HXL:Hid (x=match Gt l.toList with|none=>(s,[],1)|some (op,rest)=>opL p s op rest):=zh (by rw[HX.out];unfold Ee;rw[zq hly,zq hsu];rfl);clear hly hsu;have hEnv:Env W1:=(Ri hw HT1.out).1.1;have HEV:=zh hEnv;clear hEnv;go_wp2_with fail
 refine(Aay l hl W1 HEV.out).mono ?_;rintro e w2 ⟨hb2',⟨hc,rfl⟩|⟨op,rest,hc,hop,hre,rfl⟩⟩
 ·have HX2:Hid (x=(s,[],1)):=zh (by rw[HXL.out,hc])
  have HB2:=zh hb2';clear hc hb2';go_wp2_with fail
  exact Agy hw rfl rfl (HR.out.below HB2.out HR.out.lt) HLR.out (zn _) (by rw[HX2.out];exact HT1.out.keep HB2.out) (Bs (HB1.out.trans (HB2.out.mono HB1.out.size)) _) (by rw[HX2.out]) (by decide) HSM.out
 have HX2:Hid (x=opL p s op rest):=zh (by rw[HXL.out,hc]);have HT2:=zh (HT1.out.keep hb2');have HB2:=zh (HB1.out.trans (hb2'.mono HB1.out.size));have HR2:=zh (HR.out.below hb2' HR.out.lt);clear hc hb2' HXL HT1 HB1 HR HX;go_wp2_with fail
 refine(Aqu W0.heap.size w2).mono ?_;rintro e w3 ⟨bx,M,rfl,hbx,hmap,hb3⟩;have hlk:=Aqs hmap (bs op) hop;rw[Di] at hlk;have HT3:=zh (HT2.out.keep hb3);have HB3:=zm HB2 hb3;have HR3:=zh (HR2.out.below hb3 HR2.out.lt);have hwd:=Aqt hw hr HT3.out hbx (bs rest) hre op;rw[Di] at hwd;clear hbx hmap hb3 HT2 HB2 HR2;rcases hwd with⟨e1,e2⟩|⟨g,lf,lb,e1,hW⟩
 ·rw[e1] at hlk
  have HX3:Hid (x=(s,[],1)):=zh (by rw[HX2.out,e2]);have hnf:∀V:zW,(binOp .neq 56 .nilFunc .nilFunc).run Tryz.prog V= .ok (.bool false) V:=fun V=>by rfl
  clear e1 e2;go_wp2_with fail
  refine(Hu 1 _).mono ?_;rintro e w4 ⟨rfl,rfl⟩;go_wp2_with fail
  exact Agy hw rfl rfl HR3.out HLR.out (zn _) (by rw[HX3.out];exact HT3.out) (Bs HB3.out _) (by rw[HX3.out]) (by decide) HSM.out
 rw[e1] at hlk;have eg:=hW.enters;have HW:=zh hW.calls;rw[Di] at HW;have hnf:∀V:zW,(binOp .neq 56 (.func (.func g) lf lb) .nilFunc).run Tryz.prog V= .ok (.bool true) V:=fun V=>by rfl
 clear e1 hW;go_wp2_with fail
 refine(Kj 1 _).mono ?_;rintro e w4 ⟨rfl,rfl⟩;go_wp2_with fail
 refine HW.out.mono ?_;rw[←HX2.out];rintro e w5 ⟨hg5,ht5,h5,h6⟩;have hg:=Ci (Bs HB3.out (some W0.heap.size)) hg5;have hne:W0.heap.size≠W.heap.size:=fun e=>by
  obtain⟨_,_,_,_,_,_,_,hT⟩:=HT3.out;have h1:=hT.bk;rw[e] at h1;exact absurd (h1.ty HR3.out) (by decide)
 have hR5:=HR3.out.grown hg5 (fun e=>hne (Option.some.inj e).symm);by_cases h0:x.2.2=0
 ·obtain rfl:=h5 h0
  have H5:=zh (zi hg (zi ht5 hR5));have H0:=zh h0;obtain⟨r0,rf,rl⟩:zM w5 W.heap.size 0 (.string ⟨#[]⟩)∧w5.frozen? ⟨W.heap.size,0,none⟩=false∧W.heap.size < w5.heap.size:=⟨hR5.cell 0,hR5.frozen 0,hR5.lt⟩;clear hg5 ht5 h5 h6 hg hne hR5 h0;generalize hxo:x.2.1=o at *;have HXO:=zh hxo;clear hxo;go_wp2_with fail
  have hgs:=Jg w5 W.heap.size 0 (.string (bs o));exact Agz rfl rfl (o:=o) (by simpa using H5.out.2.2.ck 0 (.string (bs o))) (H5.out.2.1.newRow H5.out.2.2 HLR.out hgs) (Agj H5.out.1 hgs (zn _)) H0.out HXO.out
 ·obtain rfl:=h6 h0
  have H5:=zh (zi hg (zi ht5 hR5));have H0:=zh h0;clear hg5 ht5 h5 h6 hg hne hR5 h0;go_wp2_with fail
  exact Agy hw rfl rfl H5.out.2.2 HLR.out (zn _) H5.out.2.1 H5.out.1 rfl H0.out HSM.out
theorem Abp{p:Ab}{w:zW}{lo g:Nat}(hg:lo≤g)(hq:p.ag.length≤1048576)(h:Bk w g 132 (List.replicate p.ag.length (.slice none 0 0)).toArray):
  Ca w lo (.slice (some ⟨g,0,none⟩) (B5 p).ready.length p.ag.length) (.slice none (B5 p).outs.length 0) (.slice none (B5 p).ae.length 0) (Jr p) (B5 p) where
 same:=by simp[Jr,B5]
 ready:=by
  rw[Sd];have hl:(B5 p).ready.length=p.ag.length:=by simp[B5]
  refine⟨by rw[hl];simp,.inr ⟨g,p.ag.length,_,by rw[hl],hg,h,by rw[hl];exact zn _,by unfold maxLen;omega,by simp,?_⟩⟩;rw[hl];simp
 row:=by
  intro r hr;rw[List.eq_of_mem_replicate hr];exact⟨SlT.nil _ _ _ _,zn _⟩
 outs:=World.ownsRow_nil _ _ _ _
 ae:=World.ownsRow_nil _ _ _ _
end Go.Proofs.YtpkneogjdfolaaaGreatDoor
