/- Lemmas. -/
import Derived.Test.YtpkneogjdfolaaaGreatDoorBookP
set_option maxHeartbeats 20000000
set_option maxRecDepth 100000
set_option linter.unusedSimpArgs false
set_option linter.unusedVariables false
namespace Go.Proofs.YtpkneogjdfolaaaGreatDoor
open Go Go.RowKit
def K6(s:Aa):List Int:=s.ready.map fun l=>(l.length:Int)
theorem I0(s:Aa):(K6 s).length=s.ready.length:=List.length_map _
theorem Aes{s:Aa}{k:Nat}(h:k < s.ready.length):(K6 s).take (k+1)=(K6 s).take k++[(s.ready[k].length:Int)]:=by
 rw[zj (by rw[I0];exact h)];simp[K6]
def A0f(s:Aa)(W0:zW)(v i:Value)(wr:zW):Prop:=∃k:Nat,k≤s.ready.length∧i= .int .i64 k∧Qj W0 ((K6 s).take k) v wr
theorem Zc(s:Aa)(a1 a2 a3:zZ)(c1 c2 c3:Nat)(rows:List Bm)(w:zW)(hs:Av w 0 w.heap.size a1 a2 a3 rows s)(hss:Ap s):
  Calls Tryz.prog 58 #[Ad s a1 a2 a3 c1 c2 c3] w fun e w'=>∃v,e= .returned v∧w'.ownsRow (w.heap.size+1) 3 1 v s.ready.length (M6 (K6 s))∧Below w.heap.size w w':=by
 obtain⟨W0,hW0⟩:=zo (w.alloc (.cells (Ag s a1 a2 a3 c1 c2 c3) 40));have hsz:w.heap.size+1=W0.heap.size:=by rw[←hW0];simp
 have HBX:=zh (Db (x:=s) c1 c2 c3 hs (zb w.heap.size w) hW0);have HSS:=zh hss;unfold Ag at hW0;unfold Ad Ag;clear hs hss;go_enter Tryz.func58,Tryz.ntmps58
 go_wp2_with fail
 clear hW0;have HSZ:=zh hsz;clear hsz
 go_loopw [3,4] (fun v i wr=>A0f s W0 v i wr) (fun _ i _=>s.ready.length - (intOf i).toNat)
 case atStart=>exact⟨0,by omega,rfl,World.ownsRow_nil _ _ _ _,zb _ _⟩
 case round=>
  obtain⟨k,hk,rfl,hown,hB⟩:=hrel;have HB:=zh hB;have HO:=zh hown;have hrd:=HSS.out.ready;obtain⟨n0,_⟩:=(HBX.out _ hB).1.cells;have hsat:=(HBX.out _ hB).1.at_
  have hrl:rows.length=s.ready.length:=by rw[←hsat.same,List.length_map]
  clear hown;by_cases hlt:k < s.ready.length
  ·obtain⟨b,o,ha,_,hb,hc⟩:=Bf El (by decide) hsat.ready (show k < rows.length by omega)
   have e0:wr.cell? ⟨b,o+k,none⟩=some (.slice (rows[k]'(by omega)).at_ (rows[k]'(by omega)).items.length (rows[k]'(by omega)).cap):=by have:=hc 0 _ rfl;simpa using this
   have hit:s.ready[k]=(rows[k]'(by omega)).items:=by simp[←hsat.same]
   have hst:=Aes hlt;rw[hit] at hst;have HSTEP:=zh hst;have hL:((K6 s).take k).length < 4294967296:=by rw[List.length_take,I0];omega
   have hbase:=hB.size;clear hc hsat hit hst hB;generalize rows[k]'(by omega)=r at *;generalize hLL:(K6 s).take k=L at *;subst ha;go_wp2_with (at_builtin;refine Em rfl _ _ 92 rfl W0.heap.size 3 Js Tryz.underlying92 rfl (by decide) (by decide) wr _ _ _ rfl HO.out [.int .i64 r.items.length] rfl rfl rfl (by simp[Value.oneCell']) hL hbase ?_;intro v2 w2 hown' hgrow;have HO2:=zh hown';have HB2:=zh (Br HO.out hgrow HB.out);clear hown' hgrow)
   refine⟨⟨k+1,by omega,rfl,?_⟩,by simp[intOf];omega⟩;rw[HSTEP.out];refine⟨?_,HB2.out (zn _) hbase⟩;have:=HO2.out;rw[Qt,ze];exact this
  ·obtain rfl:k=s.ready.length:=by omega
   go_wp2_with fail
   go_ret
   refine⟨_,rfl,?_,(HBX.out _ HB.out).2⟩;have h:=HO.out;rw[List.take_of_length_le (by rw[I0];exact zn _),I0,←HSZ.out] at h;exact h
def Aal(s:Aa)(k:Nat):List Int:=(K6 s).take k++List.replicate (s.ready.length - k) 0
theorem Atq(s:Aa):Aal s 0=List.replicate s.ready.length 0:=by simp[Aal]
theorem Awu(s:Aa):Aal s s.ready.length=K6 s:=by simp[Aal,List.take_of_length_le,I0]
theorem Awv{s:Aa}{k:Nat}(h:k≤s.ready.length):(Aal s k).length=s.ready.length:=by
 unfold Aal;rw[ze,List.length_take,I0,List.length_replicate];omega
theorem Atp{s:Aa}{k:Nat}(h:k < s.ready.length):(Aal s k).set k (s.ready[k].length:Int)=Aal s (k+1):=by
 have hl:((K6 s).take k).length=k:=by rw[List.length_take,I0];omega
 unfold Aal;rw[List.set_append_right _ _ (by omega),hl,Nat.sub_self,Aes h,show s.ready.length - k=(s.ready.length - (k+1))+1 by omega,List.replicate_succ,zB,List.append_assoc];rfl
def A0d(s:Aa)(W0:zW)(g:Nat)(i:Value)(wr:zW):Prop:=∃k:Nat,k≤s.ready.length∧i= .int .i64 k∧Bk wr g 3 (M6 (Aal s k)).toArray∧Below W0.heap.size W0 wr
theorem Vr(p:Ab)(s:Aa)(p1 p2 p3 a1 a2 a3:zZ)(q1 q2 q3 c1 c2 c3:Nat)(rows:List Bm)(w:zW)(hE:Env w)(hp:Au w 0 w.heap.size p1 p2 p3 p)(hps:Ai p)(hs:Av w 0 w.heap.size a1 a2 a3 rows s)(hss:Ap s)(hsi:A9 s):
  Calls Tryz.prog 47 #[Ay p p1 p2 p3 q1 q2 q3,Ad s a1 a2 a3 c1 c2 c3] w fun e w'=>∃a n c,e= .returned (.tuple #[.slice a n c,.int .i64 (Am p s)])∧n=(if Am p s=0 then K6 s else []).length∧Sl w' w.heap.size w'.heap.size a (M6 (if Am p s=0 then K6 s else []))∧Below w.heap.size w w':=by
 have hbx:=Cj q1 q2 q3 c1 c2 c3 hE hp hs 26 40;unfold Ag at hbx;unfold Ad Ay Ag;have HBX:=zh hbx;have HPS:=zh hps;have HSS:=zh hss;have HSI:=zh hsi;clear hbx hE hp hs hps hss hsi;go_enter Tryz.func47,Tryz.ntmps47
 obtain⟨⟨m0,m1,m2⟩,⟨n0,n1,n2,n3,n4,n5,n6,n7⟩,_,_,_,_⟩:=HBX.out _ (zb _ _);go_wp2_with fail
 clear m0 m1 m2 n0 n1 n2 n3 n4 n5 n6 n7;generalize ((w.alloc (.cells (zP p p1 p2 p3 q1 q2 q3) 26)).alloc (.cells (zV s a1 a2 a3 c1 c2 c3) 40))=W0 at *;refine(Fx p s p1 p2 p3 a1 a2 a3 q1 q2 q3 c1 c2 c3 rows W0 (HBX.out _ (zb _ _)).env (HBX.out _ (zb _ _)).bu HPS.out (HBX.out _ (zb _ _)).bc HSS.out HSI.out).mono ?_;rintro e w1 ⟨rfl,hb1⟩;obtain⟨_,⟨n0,n1,n2,n3,n4,n5,n6,n7⟩,_,_,_,hsat⟩:=HBX.out _ hb1;have HB1:=zh hb1;have hbw:=(HBX.out _ hb1).below;have HBW:=zh hbw;clear hbw;by_cases he:Am p s=0
 ·rw[he]
  have HE0:=zh he;clear he hb1;have hrd:=HSS.out.ready;obtain⟨W2,hmk,hbk,hB2⟩:∃W2,(Instr.makeSlice 92 (.int .i64 (s.ready.length:Int)) (.int .i64 (s.ready.length:Int))).run Tryz.prog w1= .ok (.slice (some ⟨w1.heap.size,0,none⟩) s.ready.length s.ready.length) W2∧Bk W2 w1.heap.size 3 (M6 (Aal s 0)).toArray∧Below W0.heap.size W0 W2:=
   ⟨_,P9 (P:=Tryz.prog) Tryz.underlying92 Js rfl s.ready.length _ rfl (by decide) (by omega) w1,by rw[Atq];unfold M6;rw[List.map_replicate];exact Bk.new _ _ _,HB1.out.alloc HB1.out.size _⟩
  have HB2:=zh hB2;have HK:=zh hbk;have HG:=zh HB1.out.size;clear hbk;go_upto_region 5 with fail
  clear hmk n0 n1 n2 n3 n4 n5 n6 n7 hsat;obtain⟨_,⟨n0,n1,n2,n3,n4,n5,n6,n7⟩,_,_,_,hsat⟩:=HBX.out _ hB2;clear hB2;go_wp2_with fail
  clear n0 n1 n2 n3 n4 n5 n6 n7 hsat
  go_loopw [8,9,23] (fun x y i wr=>A0d s W0 w1.heap.size i wr) (fun _ _ i _=>s.ready.length - (intOf i).toNat)
  case atStart=>exact⟨0,by omega,rfl,HK.out,HB2.out⟩
  case round=>
   obtain⟨k,hk,rfl,hbk,hB⟩:=hrel;have HB:=zh hB;have HBK:=zh hbk;have hrd:=HSS.out.ready;have hsat:=(HBX.out _ hB).bc;have hrl:rows.length=s.ready.length:=by rw[←hsat.same,List.length_map]
   by_cases hlt:k < s.ready.length
   ·obtain⟨b,o,ha,_,hb,hc⟩:=Bf El (by decide) hsat.ready (show k < rows.length by omega)
    have e0:wr.cell? ⟨b,o+k,none⟩=some (.slice (rows[k]'(by omega)).at_ (rows[k]'(by omega)).items.length (rows[k]'(by omega)).cap):=by have:=hc 0 _ rfl;simpa using this
    have hit:s.ready[k]=(rows[k]'(by omega)).items:=by simp[←hsat.same]
    have hst:=Atp hlt;rw[hit] at hst;have HSTEP:=zh hst;have d0:=hbk.cell k;have d1:=hbk.frozen k;have d2:=hbk.lt;have hkl:k < (M6 (Aal s k)).length:=by rw[Ye,Awv hk];exact hlt
    rw[zI,zG hkl] at d0;clear hc hsat hit hst hB hbk;generalize rows[k]'(by omega)=r at *;subst ha;go_wp2_with fail
    refine⟨⟨k+1,by omega,rfl,?_,HB.out.setCell HG.out _⟩,by simp[intOf];omega⟩;have h:=HBK.out.ck k (.int .i64 r.items.length);rw[zA] at h;rw[←HSTEP.out];unfold M6 at h⊢;rw[List.map_set];exact h
   ·obtain rfl:k=s.ready.length:=by omega
    clear hsat;go_wp2_with fail
    refine bodyPost_ret (v:= .tuple #[.slice (some ⟨w1.heap.size,0,none⟩) s.ready.length s.ready.length,.int .i64 0]) (by simp[results,Tryz.results47,go_sem]) rfl ?_;have hl:w.heap.size≤w1.heap.size:=HBW.out.size;rw[Awu] at HBK;refine⟨_,_,⟨_,by first|rfl|rw[HE0.out]⟩,(I0 s).symm,?_,(HBX.out _ HB.out).below⟩;exact .inr ⟨_,_,rfl,hl,HBK.out.lt,fun j u hu=>by
     have h:=HBK.out.cell (0+j);rw[zI,Nat.zero_add,hu] at h;rw[Nat.zero_add];exact h⟩
 ·have hb:(Am p s != 0)=true:=by simp[he]
  go_wp2_with fail
  refine bodyPost_ret (v:= .tuple #[.slice none 0 0,.int .i64 (Am p s)]) (by simp[results,Tryz.results47,go_sem]) rfl ?_;exact⟨_,_,⟨_,rfl⟩,rfl,Sl.nil _ _ _ _,HBW.out⟩
open Go.RowKit
theorem Ahn(p:Ab)(p1 p2 p3:zZ)(q1 q2 q3:Nat)(w:zW)(hE:Env w)(hp:Au w 0 w.heap.size p1 p2 p3 p)(hps:Ai p):
  Calls Tryz.prog 10 #[Ay p p1 p2 p3 q1 q2 q3] w fun e w'=>∃a c rows,e= .returned (.tuple #[Ad (Hh p) a none none c 0 0,.int .i64 (Bc p)])∧Av w' w.heap.size w'.heap.size a none none rows (Hh p)∧Below w.heap.size w w'∧(Bc p=0→∃g,a=some ⟨g,0,none⟩∧w.heap.size≤g∧c=p.ag.length∧Bk w' g 132 (List.replicate p.ag.length (.slice none 0 0)).toArray):=by
 have hql:=hps.ag;have HS:=zh hps;clear hps
 have hbx:∀W,Below ((w.alloc (.cells (zP p p1 p2 p3 q1 q2 q3) 26)).alloc (.cells zeroCells 40)).heap.size ((w.alloc (.cells (zP p p1 p2 p3 q1 q2 q3) 26)).alloc (.cells zeroCells 40)) W→
   Au W 0 W.heap.size p1 p2 p3 p∧(zM W w.heap.size 0 (.slice p1 p.aj.length q1)∧zM W w.heap.size 1 (.slice p2 p.ag.length q2)∧zM W w.heap.size 2 (.slice p3 p.binds.length q3))∧Bk W (w.heap.size+1) 40 zeroCells∧Below w.heap.size w W:=fun W hW=>by
  have h:=Gm hp q1 q2 q3 26 W (((zb _ _).alloc (zn _) _).trans (hW.mono (by simp)));exact⟨h.1.wider (zn _) (by have:=hW.size;simp at this⊢;omega),h.2.1,(Bk.cg _ _ _ (by simp)).below hW (by simp),h.2.2⟩
 unfold zeroCells at hbx;unfold Ay;have HV:=zh hE;clear hE hp
 go_enter Tryz.func10,Tryz.ntmps10
 obtain⟨_,⟨m20,m21,m22⟩,_,_⟩:=hbx _ (zb _ _);have HBX:=zh hbx;clear hbx
 go_wp2_with fail
 generalize ((w.alloc (.cells (zP p p1 p2 p3 q1 q2 q3) 26)).alloc (.cells zO 40))=W0 at *;refine(J6 p p1 p2 p3 q1 q2 q3 0 W0 (Ba (HBX.out W0 (zb _ _)).2.2.2 HV.out) ((HBX.out W0 (zb _ _)).1) HS.out).mono ?_;rintro e W1 ⟨rfl,hB1⟩;have HB1:=zh hB1;clear hB1 m20 m21 m22
 obtain⟨_,⟨m20,m21,m22⟩,hbk,hbelow⟩:=HBX.out _ HB1.out;by_cases hc:Bc p=0
 ·have b1:(Bc p != 0)=false:=by simp[hc]
  have HC:Hid (Bc p=0):=hc;have HR:Hid (Hh p=B5 p):=(by simp[Hh,hc]:Hh p=B5 p);have hmk:=Aev p.ag.length (by omega);clear hc;obtain⟨k0,k1,k2,k3,k4,k5,k6,k7,f0,f1,f2,f3,f4,f5,f6,f7,hlt⟩:=Af hbk;go_wp2_with fail
  refine bodyPost_ret (v:= .tuple #[Ad (B5 p) (some ⟨W1.heap.size,0,none⟩) none none p.ag.length 0 0,.int .i64 0]) (by simp[results,Tryz.results10,go_sem,Ad,Ag,B5,k0,k1,k2,k3,k4,k5,k6,k7,hlt]) rfl
   ⟨some ⟨W1.heap.size,0,none⟩,p.ag.length,Jr p,by rw[HR.out,HC.out],?_,?_,fun _=>⟨W1.heap.size,rfl,hbelow.size,rfl,?_⟩⟩
  ·rw[HR.out]
   refine Ah2 (Sl.of_bk (cs:=(List.replicate p.ag.length (Value.slice none 0 0)).toArray) (t:=132) ?_ hbelow.size (by simp[World.setCell]) (by simp));rw[List.toArray_replicate];exact Bk.cg _ _ _ (by simp[World.setCell])
  ·exact(Al hbelow (by omega) _ _ _ _ _ _ _ _).alloc (by simpa [World.setCell] using hbelow.size) _
  ·rw[List.toArray_replicate]
   exact Bk.cg _ _ _ (by simp[World.setCell])
 ·have b1:(Bc p != 0)=true:=by simp[hc]
  have HR:Hid (Hh p=Bd):=(by simp[Hh,hc]:Hh p=Bd);have HNC:Hid (Bc p≠0):=hc;obtain⟨k0,k1,k2,k3,k4,k5,k6,k7,f0,f1,f2,f3,f4,f5,f6,f7,hlt⟩:=Af hbk;clear hc;go_wp2_with fail
  refine bodyPost_ret (v:= .tuple #[Ad Bd none none none 0 0 0,.int .i64 (Bc p)]) (by simp[results,Tryz.results10,go_sem,Ad,Ag,Bd,k0,k1,k2,k3,k4,k5,k6,k7,hlt]) rfl
   ⟨none,0,[],by rw[HR.out],by rw[HR.out];exact Ul _ _ _,Al hbelow (by omega) _ _ _ _ _ _ _ _,fun h=>absurd h HNC.out⟩
theorem Abf(p:Ab)(p1 p2 p3:zZ)(q1 q2 q3:Nat)(w:zW)(hp:Au w 0 w.heap.size p1 p2 p3 p)(hps:Ai p):
  Calls Tryz.prog 17 #[Ay p p1 p2 p3 q1 q2 q3] w fun e w'=>∃a c rows,e= .returned (Ad (B5 p) a none none c 0 0)∧Av w' w.heap.size w'.heap.size a none none rows (B5 p)∧Below w.heap.size w w'∧∃g,a=some ⟨g,0,none⟩∧w.heap.size≤g∧c=p.ag.length∧Bk w' g 132 (List.replicate p.ag.length (.slice none 0 0)).toArray:=by
 have hql:=hps.ag;have hbx:=Gm hp q1 q2 q3 26;have hmk:=Aev p.ag.length (by omega);unfold Ay;clear hp hps;go_enter Tryz.func17,Tryz.ntmps17
 obtain⟨m20,m21,m22⟩:=(hbx _ (zb _ _)).2.1;have HBX:=zh hbx;clear hbx
 go_wp2_with fail
 have hb2:=(HBX.out _ (zb _ _)).2.2;refine bodyPost_ret (v:=Ad (B5 p) (some ⟨w.heap.size+1+1,0,none⟩) none none p.ag.length 0 0) (by simp[results,Tryz.results17,go_sem,Ad,Ag,B5]) rfl
  ⟨some ⟨w.heap.size+1+1,0,none⟩,p.ag.length,Jr p,rfl,?_,?_,w.heap.size+1+1,rfl,by omega,rfl,?_⟩
 ·refine Ah2 (Sl.of_bk (cs:=(List.replicate p.ag.length (Value.slice none 0 0)).toArray) (t:=132) ?_ (by omega) (by simp) (by simp))
  have:=Bk.cg ((w.alloc (.cells (zP p p1 p2 p3 q1 q2 q3) 26)).alloc (.cells #[.slice (some ⟨w.heap.size+1+1,0,none⟩) p.ag.length p.ag.length,.slice none 0 0,.slice none 0 0,.int .i64 0,.int .i64 0,.int .i64 0,.int .i64 0,.int .i64 0] 40)) 132 (List.replicate p.ag.length (Value.slice none 0 0)).toArray (g:=w.heap.size+1+1) (by simp);simpa using this
 ·exact(hb2.alloc hb2.size _).alloc (by simp;omega) _
 ·have:=Bk.cg ((w.alloc (.cells (zP p p1 p2 p3 q1 q2 q3) 26)).alloc (.cells #[.slice (some ⟨w.heap.size+1+1,0,none⟩) p.ag.length p.ag.length,.slice none 0 0,.slice none 0 0,.int .i64 0,.int .i64 0,.int .i64 0,.int .i64 0,.int .i64 0] 40)) 132 (List.replicate p.ag.length (Value.slice none 0 0)).toArray (g:=w.heap.size+1+1) (by simp)
  simpa using this
end Go.Proofs.YtpkneogjdfolaaaGreatDoor
