/-
  Walk of the reference's LyingOf: how many letters lie in each queue.
-/
import Derived.Test.YtaanpcjkflhomaaGreatDoorStateE
import Derived.Test.YtaanpcjkflhomaaGreatDoorBunJ
import Derived.Test.YtaanpcjkflhomaaGreatDoorBunDA
set_option maxHeartbeats 20000000
set_option maxRecDepth 100000
set_option linter.unusedSimpArgs false
set_option linter.unusedVariables false
namespace Go.Proofs.YtaanpcjkflhomaaGreatDoor
open Go Go.RowKit
def I0 (s:Aa):List Int:=s.ready.map fun l=>(l.length:Int)
theorem Gq (s:Aa):(I0 s).length=s.ready.length:=List.length_map _
theorem Acl {s:Aa} {k:Nat} (h:k < s.ready.length):(I0 s).take (k+1)=(I0 s).take k++[(s.ready[k].length:Int)]:=by
 rw[zj (by rw[Gq];exact h)];simp[I0]
def Ax9 (s:Aa) (W0:World) (v i:Value) (wr:World):Prop:=∃k:Nat,k≤s.ready.length∧i= .int .i64 k∧Pu W0 ((I0 s).take k) v wr
theorem Afm (s:Aa) (a1 a2 a3:Option Addr) (c1 c2 c3:Nat) (rows:List Bq) (w:World) (hs:Ax w 0 w.heap.size a1 a2 a3 rows s) (hss:Am s):
  Calls Tryz.prog 26 #[Ac s a1 a2 a3 c1 c2 c3] w fun e w'=>∃v,e= .returned v∧w'.ownsRow (w.heap.size+1) 3 1 v s.ready.length (Ld (I0 s))∧Below w.heap.size w w':=by
 obtain⟨W0,hW0⟩:∃W0,w.alloc (.cells (Ag s a1 a2 a3 c1 c2 c3) 31)=W0:=⟨_,rfl⟩;have hsz:w.heap.size+1=W0.heap.size:=by rw[←hW0];simp
 have HBX:=zh (Cb (x:=s) c1 c2 c3 hs (zb w.heap.size w) hW0);have HSS:=zh hss;unfold Ag at hW0;unfold Ac Ag;clear hs hss;go_enter Tryz.func26,Tryz.ntmps26
 go_wp2_with fail
 clear hW0;have HSZ:=zh hsz;clear hsz
 go_loopw [3,4] (fun v i wr=>Ax9 s W0 v i wr) (fun _ i _=>s.ready.length - (intOf i).toNat)
 case atStart=>exact⟨0,by omega,rfl,World.ownsRow_nil _ _ _ _,zb _ _⟩
 case round=>
  obtain⟨k,hk,rfl,hown,hB⟩:=hrel;have HB:=zh hB;have HO:=zh hown;have hrd:=HSS.out.ready;obtain⟨n0,_⟩:=(HBX.out _ hB).1.cells;have hsat:=(HBX.out _ hB).1.at_
  have hrl:rows.length=s.ready.length:=by rw[←hsat.same,List.length_map]
  clear hown;by_cases hlt:k < s.ready.length
  ·obtain⟨b,o,ha,_,hb,hc⟩:=Bd Dv (by decide) hsat.ready (show k < rows.length by omega)
   have e0:wr.cell? ⟨b,o+k,none⟩=some (.slice (rows[k]'(by omega)).at_ (rows[k]'(by omega)).items.length (rows[k]'(by omega)).cap):=by have:=hc 0 _ rfl;simpa using this
   have hit:s.ready[k]=(rows[k]'(by omega)).items:=by simp[←hsat.same]
   have hst:=Acl hlt;rw[hit] at hst;have HSTEP:=zh hst;have hL:((I0 s).take k).length < 4294967296:=by rw[List.length_take,Gq];omega
   have hbase:=hB.size;clear hc hsat hit hst hB;generalize rows[k]'(by omega)=r at *;generalize hLL:(I0 s).take k=L at *;subst ha;go_wp2_with (at_builtin;refine D6 rfl _ _ 40 rfl W0.heap.size 3 Ja Tryz.underlying40 rfl (by decide) (by decide) wr _ _ _ rfl HO.out [.int .i64 r.items.length] rfl rfl rfl (by simp[Value.oneCell']) hL hbase ?_;intro v2 w2 hown' hgrow;have HO2:=zh hown';have HB2:=zh (Bl HO.out hgrow HB.out);clear hown' hgrow)
   refine⟨⟨k+1,by omega,rfl,?_⟩,by simp[intOf];omega⟩;rw[HSTEP.out];refine⟨?_,HB2.out (zn _) hbase⟩;have:=HO2.out;rw[P9,ze];exact this
  ·obtain rfl:k=s.ready.length:=by omega
   go_wp2_with fail
   go_ret
   refine⟨_,rfl,?_,(HBX.out _ HB.out).2⟩;have h:=HO.out;rw[List.take_of_length_le (by rw[Gq];exact zn _),Gq,←HSZ.out] at h;exact h
open Go Go.RowKit
def Yd (s:Aa) (k:Nat):List Int:=(I0 s).take k++List.replicate (s.ready.length - k) 0
theorem Ar9 (s:Aa):Yd s 0=List.replicate s.ready.length 0:=by simp[Yd]
theorem Au4 (s:Aa):Yd s s.ready.length=I0 s:=by simp[Yd,List.take_of_length_le,Gq]
theorem Au5 {s:Aa} {k:Nat} (h:k≤s.ready.length):(Yd s k).length=s.ready.length:=by
 unfold Yd;rw[ze,List.length_take,Gq,List.length_replicate];omega
theorem Ar8 {s:Aa} {k:Nat} (h:k < s.ready.length):(Yd s k).set k (s.ready[k].length:Int)=Yd s (k+1):=by
 have hl:((I0 s).take k).length=k:=by rw[List.length_take,Gq];omega
 unfold Yd;rw[List.set_append_right _ _ (by omega),hl,Nat.sub_self,Acl h,show s.ready.length - k=(s.ready.length - (k+1))+1 by omega,List.replicate_succ,zB,List.append_assoc];rfl
def Ax7 (s:Aa) (W0:World) (g:Nat) (i:Value) (wr:World):Prop:=∃k:Nat,k≤s.ready.length∧i= .int .i64 k∧Bk wr g 3 (Ld (Yd s k)).toArray∧Below W0.heap.size W0 wr
theorem Sc (p:Ab) (s:Aa) (p1 p2 p3 a1 a2 a3:Option Addr) (q1 q2 q3 c1 c2 c3:Nat) (rows:List Bq) (w:World) (hE:Env w) (hp:Az w 0 w.heap.size p1 p2 p3 p) (hps:Ai p) (hs:Ax w 0 w.heap.size a1 a2 a3 rows s) (hss:Am s) (hsi:Ba s):
  Calls Tryz.prog 23 #[Bc p p1 p2 p3 q1 q2 q3,Ac s a1 a2 a3 c1 c2 c3] w fun e w'=>∃a n c,e= .returned (.tuple #[.slice a n c,.int .i64 (Ao p s)])∧n=(if Ao p s=0 then I0 s else []).length∧Sl w' w.heap.size w'.heap.size a (Ld (if Ao p s=0 then I0 s else []))∧Below w.heap.size w w':=by
 have hbx:=B9 q1 q2 q3 c1 c2 c3 hE hp hs 26 31;unfold Ag at hbx;unfold Ac Bc Ag;have HBX:=zh hbx;have HPS:=zh hps;have HSS:=zh hss;have HSI:=zh hsi;clear hbx hE hp hs hps hss hsi;go_enter Tryz.func23,Tryz.ntmps23
 obtain⟨⟨m0,m1,m2⟩,⟨n0,n1,n2,n3,n4,n5,n6,n7⟩,_,_,_,_⟩:=HBX.out _ (zb _ _);go_wp2_with fail
 clear m0 m1 m2 n0 n1 n2 n3 n4 n5 n6 n7;generalize ((w.alloc (.cells (zP p p1 p2 p3 q1 q2 q3) 26)).alloc (.cells (zV s a1 a2 a3 c1 c2 c3) 31))=W0 at *;refine(Fb p s p1 p2 p3 a1 a2 a3 q1 q2 q3 c1 c2 c3 rows W0 (HBX.out _ (zb _ _)).env (HBX.out _ (zb _ _)).bu HPS.out (HBX.out _ (zb _ _)).bc HSS.out HSI.out).mono ?_;rintro e w1 ⟨rfl,hb1⟩;obtain⟨_,⟨n0,n1,n2,n3,n4,n5,n6,n7⟩,_,_,_,hsat⟩:=HBX.out _ hb1;have HB1:=zh hb1;have hbw:=(HBX.out _ hb1).below;have HBW:=zh hbw;clear hbw;by_cases he:Ao p s=0
 ·rw[he]
  have HE0:=zh he;clear he hb1;have hrd:=HSS.out.ready;obtain⟨W2,hmk,hbk,hB2⟩:∃W2,(Instr.makeSlice 40 (.int .i64 (s.ready.length:Int)) (.int .i64 (s.ready.length:Int))).run Tryz.prog w1= .ok (.slice (some ⟨w1.heap.size,0,none⟩) s.ready.length s.ready.length) W2∧Bk W2 w1.heap.size 3 (Ld (Yd s 0)).toArray∧Below W0.heap.size W0 W2:=
   ⟨_,Pm (P:=Tryz.prog) Tryz.underlying40 Ja rfl s.ready.length _ rfl (by decide) (by omega) w1,by rw[Ar9];unfold Ld;rw[List.map_replicate];exact Bk.new _ _ _,HB1.out.alloc HB1.out.size _⟩
  have HB2:=zh hB2;have HK:=zh hbk;have HG:=zh HB1.out.size;clear hbk;go_upto_region 5 with fail
  clear hmk n0 n1 n2 n3 n4 n5 n6 n7 hsat;obtain⟨_,⟨n0,n1,n2,n3,n4,n5,n6,n7⟩,_,_,_,hsat⟩:=HBX.out _ hB2;clear hB2;go_wp2_with fail
  clear n0 n1 n2 n3 n4 n5 n6 n7 hsat
  go_loopw [8,9,23] (fun x y i wr=>Ax7 s W0 w1.heap.size i wr) (fun _ _ i _=>s.ready.length - (intOf i).toNat)
  case atStart=>exact⟨0,by omega,rfl,HK.out,HB2.out⟩
  case round=>
   obtain⟨k,hk,rfl,hbk,hB⟩:=hrel;have HB:=zh hB;have HBK:=zh hbk;have hrd:=HSS.out.ready;have hsat:=(HBX.out _ hB).bc;have hrl:rows.length=s.ready.length:=by rw[←hsat.same,List.length_map]
   by_cases hlt:k < s.ready.length
   ·obtain⟨b,o,ha,_,hb,hc⟩:=Bd Dv (by decide) hsat.ready (show k < rows.length by omega)
    have e0:wr.cell? ⟨b,o+k,none⟩=some (.slice (rows[k]'(by omega)).at_ (rows[k]'(by omega)).items.length (rows[k]'(by omega)).cap):=by have:=hc 0 _ rfl;simpa using this
    have hit:s.ready[k]=(rows[k]'(by omega)).items:=by simp[←hsat.same]
    have hst:=Ar8 hlt;rw[hit] at hst;have HSTEP:=zh hst;have d0:=hbk.cell k;have d1:=hbk.frozen k;have d2:=hbk.lt;have hkl:k < (Ld (Yd s k)).length:=by rw[Sx,Au5 hk];exact hlt
    rw[zI,zG hkl] at d0;clear hc hsat hit hst hB hbk;generalize rows[k]'(by omega)=r at *;subst ha;go_wp2_with fail
    refine⟨⟨k+1,by omega,rfl,?_,HB.out.setCell HG.out _⟩,by simp[intOf];omega⟩;have h:=HBK.out.ck k (.int .i64 r.items.length);rw[zA] at h;rw[←HSTEP.out];unfold Ld at h⊢;rw[List.map_set];exact h
   ·obtain rfl:k=s.ready.length:=by omega
    clear hsat;go_wp2_with fail
    refine bodyPost_ret (v:= .tuple #[.slice (some ⟨w1.heap.size,0,none⟩) s.ready.length s.ready.length,.int .i64 0]) (by simp[results,Tryz.results23,go_sem]) rfl ?_;have hl:w.heap.size≤w1.heap.size:=HBW.out.size;rw[Au4] at HBK;refine⟨_,_,⟨_,by first|rfl|rw[HE0.out]⟩,(Gq s).symm,?_,(HBX.out _ HB.out).below⟩;exact .inr ⟨_,_,rfl,hl,HBK.out.lt,fun j u hu=>by
     have h:=HBK.out.cell (0+j);rw[zI,Nat.zero_add,hu] at h;rw[Nat.zero_add];exact h⟩
 ·have hb:(Ao p s != 0)=true:=by simp[he]
  go_wp2_with fail
  refine bodyPost_ret (v:= .tuple #[.slice none 0 0,.int .i64 (Ao p s)]) (by simp[results,Tryz.results23,go_sem]) rfl ?_;exact⟨_,_,⟨_,rfl⟩,rfl,Sl.nil _ _ _ _,HBW.out⟩
end Go.Proofs.YtaanpcjkflhomaaGreatDoor
