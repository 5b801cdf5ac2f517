/-
  The law LogKept answers true.
-/
import Derived.Test.YtaanpcjkflhomaaGreatDoorBunA
import Derived.Test.YtaanpcjkflhomaaGreatDoorBunLB
import Derived.Test.YtaanpcjkflhomaaGreatDoorBunLE
import Derived.Test.YtaanpcjkflhomaaGreatDoorLogJ
import Derived.Test.YtaanpcjkflhomaaGreatDoorBunG
import Derived.Test.YtaanpcjkflhomaaGreatDoorChoose
import Derived.Deep.CutBlock
set_option maxHeartbeats 20000000
set_option maxRecDepth 100000
set_option linter.unusedSimpArgs false
set_option linter.unusedVariables false
namespace Go.Proofs.YtaanpcjkflhomaaGreatDoor
open Go Go.RowKit
def Jm (l:List Cn) (j:Nat):List Value:=(List.range j).map fun i=>Value.int .i64 (Ab4 l (i+1))
def Kc (l:List Cn) (W0:World) (s ends k:Value) (wr:World):Prop:=
 ∃j:Nat,j≤l.length∧k= .int .i64 j∧s= .string (bs (Jh (l.take j)))∧(∀x∈l.take j,Df x=true)∧wr.ownsRow W0.heap.size 3 1 ends j (Jm l j)∧Below W0.heap.size W0 wr
theorem Kh {l:List Cn} {k:Nat} (h:k < l.length):Jh (l.take (k+1))=Jh (l.take k)++Jg l[k]∧Jm l (k+1)=Jm l k++[Value.int .i64 (Ab4 l (k+1))]∧l.take (k+1)=l.take k++[l[k]]:=by
 have e:=zj h;refine⟨?_,?_,e⟩
 ·rw[e]
  unfold Jh;rw[List.flatMap_append];simp
 ·unfold Jm
  rw[List.range_succ,List.map_append];rfl
theorem Kx:∀ {l:List Cn},(∀x∈l,Df x=true)→(Jh l).length≤515 * l.length
 | [],_=>zn _
 |x::l,h=>by
  have ih:=Kx (l:=l) fun y hy=>h y (List.mem_cons_of_mem _ hy);have hx:=h x (List.mem_cons_self ..);have h1:(Jg x).length≤515:=by
   unfold Df at hx;simp only[zc,zd] at hx;rw[Abs];omega
  have e:Jh (x::l)=Jg x++Jh l:=rfl;rw[e,ze,List.length_cons];omega
theorem Mb {p:Ab} (hp:Bf p=0):Cs p (Cx p):=
 { Ad9 p with
  bm:=by
   intro i l q h1 h2;have h3:l=[]:=List.eq_of_mem_replicate (List.mem_of_getElem? h1);have h4:=((Ct hp).queue q (List.mem_of_getElem? h2)).1;rw[h3];simp only[List.length_nil];omega
  held:=by intro i t h;simp[Cx] at h
  bz:=hp
  many:=by simp[Cx]
  sum:=by
   have h:Er (Cx p)=0:=by
    unfold Er Cx;simp
   rw[h];rfl
  same:=rfl }
theorem Md {p:Ab} (hp:Bf p=0) (l:List Cn):Cs p (Ju p l):=by
 have hk:∀(l:List Cn) (s:Aa),Cs p s→Cs p (l.foldl (Lb p) s):=by
  intro l
  induction l with
  |nil=>intro s h;exact h
  |cons x l ih=>
   intro s h;refine ih _ ?_;unfold Lb
   split
   ·rename_i h0
    exact(Q8 h0).right
   ·exact h
 exact hk l _ (Mb hp)
theorem My {w:World} {lo hi:Nat} {a:Option Addr} {l:List Cn} (h:Sl w lo hi a (l.flatMap Ez)) (j:Nat):Sl w lo hi a ((l.take j).flatMap Ez):=by
 rcases h with h|⟨b,o,rfl,h1,h2,hc⟩
 ·left
  cases l with
  |nil=>simp
  |cons x l=>simp[Ez] at h
 ·refine .inr ⟨b,o,rfl,h1,h2,fun i u hu=>hc i u ?_⟩
  rw[←List.take_append_drop j l,List.flatMap_append,List.getElem?_append_left (List.getElem?_eq_some_iff.1 hu).1];exact hu
def Nb (X:Aa) (n:Nat) (w:World) (e:Ending) (w':World):Prop:=
 ∃a1 a2 a3 c1 c2 c3 rows,e= .returned (.tuple #[Ac X a1 a2 a3 c1 c2 c3,.int .i64 n,.int .i64 0])∧Ax w' w.heap.size w'.heap.size a1 a2 a3 rows X∧Below w.heap.size w w'
def Nd (X:Aa) (n:Nat) (WR:World) (b m e:Value) (wx:World):Prop:=
 ∃g y1 y2 y3 e1 e2 e3 ry,b= .pointer (some ⟨g,0,none⟩)∧m= .int .i64 n∧e= .int .i64 0∧WR.heap.size≤g∧Bk wx g 31 (Ag X y1 y2 y3 e1 e2 e3)∧Ax wx 0 wx.heap.size y1 y2 y3 ry X∧Below WR.heap.size WR wx
theorem Ne {wd WR:World} {lo n:Nat} {Y:Aa} {y1 y2 y3:Option Addr} {e1 e2 e3:Nat} {ry:List Bq} (hs:Ax wd lo wd.heap.size y1 y2 y3 ry Y) (hb:Below WR.heap.size WR wd):
  Nd Y n WR (.pointer (some ⟨wd.heap.size,0,none⟩)) (.int .i64 n) (.int .i64 0) (wd.alloc (.cells (Ag Y y1 y2 y3 e1 e2 e3) 31)):=
 ⟨_,y1,y2,y3,e1,e2,e3,ry,rfl,rfl,rfl,hb.size,Bk.new _ _ _,(hs.below ((zb _ _).alloc (zn _) _) (zn _)).wider (Nat.zero_le _) (by simp),hb.alloc hb.size _⟩
theorem Nl {wd WR:World} {lo g n:Nat} {Y:Aa} {y1 y2 y3:Option Addr} {e1 e2 e3:Nat} {ry:List Bq} {o0 o1 o2 o3 o4 o5 o6 o7:Value} (hs:Ax wd lo wd.heap.size y1 y2 y3 ry Y) (l0:g < lo) (hk:Bk wd g 31 #[o0,o1,o2,o3,o4,o5,o6,o7]) (hg:WR.heap.size≤g) (hb:Below WR.heap.size WR wd):
  Nd Y n WR (.pointer (some ⟨g,0,none⟩)) (.int .i64 n) (.int .i64 0) ((((((((wd.setCell ⟨g,0,none⟩ (.slice y1 Y.ready.length e1)).setCell ⟨g,1,none⟩ (.slice y2 Y.outs.length e2)).setCell ⟨g,2,none⟩ (.slice y3 Y.ae.length e3)).setCell ⟨g,3,none⟩ (.int .i64 Y.ah)).setCell ⟨g,4,none⟩ (.int .i64 Y.af)).setCell ⟨g,5,none⟩ (.int .i64 Y.aw)).setCell ⟨g,6,none⟩ (.int .i64 Y.ar)).setCell ⟨g,7,none⟩ (.int .i64 Y.dropped)):=
 ⟨_,y1,y2,y3,e1,e2,e3,ry,rfl,rfl,rfl,hg,Yf hk _ _ _ _ _ _ _ _,(Mp hs l0 _ _ _ _ _ _ _ _).wider (Nat.zero_le _) (by simp[World.setCell]),Ak hb hg _ _ _ _ _ _ _ _⟩
theorem Of (p:Ab) (p1 p2 p3:Option Addr) (q1 q2 q3:Nat) (al:Option Addr) (cl:Nat) (l:List Cn) (cut:Int) (w:World) (hp:Az w 0 w.heap.size p1 p2 p3 p) (hps:Ai p) (_:E1 p)
  (hl:Sl w 0 w.heap.size al (l.flatMap Ez)) (j1:∀x∈l,Eb x) (l4:l.length≤cl) (hll:l.length≤1048576) (hcut: -9223372036854775808≤cut∧cut≤9223372036854775807) (hE:Env w):
  Calls Tryz.prog 11 #[Bc p p1 p2 p3 q1 q2 q3,.slice al l.length cl,.int .i64 cut] w fun e w'=>e= .returned (.bool true)∧Below w.heap.size w w':=by
 have l5:∀W,Below (w.alloc (.cells (zP p p1 p2 p3 q1 q2 q3) 26)).heap.size (w.alloc (.cells (zP p p1 p2 p3 q1 q2 q3) 26)) W→
   Az W 0 W.heap.size p1 p2 p3 p∧(W.cell? ⟨w.heap.size,0,none⟩=some (.slice p1 p.aj.length q1)∧W.cell? ⟨w.heap.size,1,none⟩=some (.slice p2 p.ag.length q2)∧W.cell? ⟨w.heap.size,2,none⟩=some (.slice p3 p.binds.length q3))∧Below w.heap.size w W:=fun W hW=>by
  have h:=G6 hp q1 q2 q3 26 W hW;exact⟨h.1.wider (zn _) (by have:=hW.size;simp at this⊢;omega),h.2.1,h.2.2⟩
 unfold Bc;have j9:=zh hps;have HV:=zh hE;have HSM:=zh j1;have k0:=zh hl;clear hp hps hE j1 hl;go_enter Tryz.func11,Tryz.ntmps11
 go_upto_region 1 with fail
 obtain⟨W0,l6⟩:∃W0,w.alloc (.cells (zP p p1 p2 p3 q1 q2 q3) 26)=W0:=⟨_,rfl⟩;rw[l6] at l5;rw[l6];have i1:=zh l5;clear l5 l6;by_cases l7:24 < l.length
 ·have hi:(24:Int) < (l.length:Int):=by omega
  clear l7 hll l4;go_wp2_with fail
  refine(Dl _ (Av (i1.out _ (zb W0.heap.size W0)).2.2 HV.out)).mono ?_;rintro e wf ⟨rfl,i4⟩;have j2:=zh ((zb W0.heap.size W0).trans (i4.mono (zb W0.heap.size W0).size));clear i4;go_wp2_with fail
  go_ret
  exact⟨rfl,(i1.out _ j2.out).2.2⟩
 ·have hi:¬ (24:Int) < (l.length:Int):=by omega
  have k1:=zh l7;have HLC:=zh l4;clear l7 hll l4;obtain⟨_,⟨m0,m1,m2⟩,_⟩:=i1.out _ (zb _ _);go_wp2_with fail
  clear m0 m1 m2;refine(Gt p p1 p2 p3 q1 q2 q3 0 W0 (i1.out _ (zb _ _)).1 j9.out).mono ?_;rintro e w1 ⟨rfl,hb1⟩;have j3:=zh hb1;clear hb1;by_cases hc:Bf p=0
  ·have HC:=zh hc
   rw[hc];clear hc;go_wp2_with fail
   have HSL:=zh ((k0.out.below (i1.out _ j3.out).2.2 (zn _)).wider (zn _) (i1.out _ j3.out).2.2.size)
   go_loopw [7,8,9] (fun s ends k wr=>Kc l w1 s ends k wr) (fun _ _ k _=>l.length - (intOf k).toNat)
   case atStart=>exact⟨0,Nat.zero_le _,rfl,rfl,(by simp),World.ownsRow_nil _ _ _ _,zb _ _⟩
   case round=>
    obtain⟨k,hk,rfl,rfl,j4,k2,hB⟩:=hrel;have HB:=zh hB;have HO:=zh k2;have k3:=zh j4;have i0:=zh (j3.out.trans (hB.mono j3.out.size));clear k2 j4;by_cases i7:k < l.length
    ·obtain⟨g,o,ha,_,hb,i2⟩:=Bd Qz (by decide) HSL.out i7
     subst ha;obtain⟨e0,e1,e2,e3,e4⟩:=Ol (wr:=wr) (b:=g) (o:=o) (k:=k) (x:=l[k]) fun j u hu=>(hB.cell (p:=⟨g,_,none⟩) hb).trans (i2 j u hu);have l1:=zh (Kh i7);have HXS:=zh (HSM.out _ (zg i7));have HLN:=zh (Kx (l:=l.take k) k3.out);have hkI:(k:Int) < (l.length:Int):=Int.ofNat_lt.2 i7;have HKL:=zh i7;have HIN:=zh (zg i7);have hk24:k < 24:=by have:=k1.out;omega
     clear i2 hB hb hk;generalize l[k]=x at *;go_wp2_with fail
     clear e0 e1 e2 e3 e4;refine(Jv x HXS.out wr).mono ?_;rintro e w2 ⟨rfl,i3⟩;have l8:=zh (HB.out.trans (i3.mono HB.out.size));have j5:=zh (i0.out.trans (i3.mono i0.out.size));have l9:=zh (own_below HO.out i3);clear i3;by_cases hw:F0 x=0
     ·obtain⟨hr,m3⟩:=Am7 hw
      rw[hw,m3];have HR:=zh hr;have i6:(bs (Jh (l.take k))).size≤515 * k:=by
       have:=HLN.out;rw[List.length_take] at this;rw[Me];omega
      have hsx:(bs (Jg x)).size≤515:=by
       have:=Aa6 x;rwa [m3] at this
      have m4:(bs (Jh (l.take k))++bs (Jg x)).size=Ab4 l (k+1):=by rw[Sj,Me,←l1.out.1];rfl
      have HEQ:Hid (bs (Jh (l.take k))++bs (Jg x)=bs (Jh (l.take (k+1)))):=zh (by rw[Sj,←l1.out.1]);have HSZ:=zh (zi i6 hsx);clear hr m3 hw i7;generalize bs (Jh (l.take k))=s0 at *;generalize bs (Jg x)=s1 at *;have k4:w1.heap.size≤w2.heap.size:=l8.out.size;have hL:k < 4294967296:=by omega
      have hsi:(s0.size:Int)+(s1.size:Int)≤20000:=by omega
      clear i6 hsx;obtain⟨ea,ec,rfl,_⟩:=Ad l9.out;go_upto_region 12 with fail
      obtain⟨s2,m5⟩:∃s2,s0++s1=s2:=⟨_,rfl⟩;rw[m5] at m4 HEQ⊢;have hn2:s2.size≤20000:=by rw[←m5,ByteArray.size_append];omega
      have HSN:=zh m4;clear m5 m4 hsi;go_wp2_with (at_builtin;refine D6 rfl _ _ 40 rfl w1.heap.size 3 Ja Tryz.underlying40 rfl (by decide) (by decide) w2 _ _ _ rfl l9.out [.int .i64 s2.size] rfl rfl rfl (by simp[Value.oneCell']) hL k4 ?_;intro v2 w3 hown' j0;have HO3:=zh (zi hown' j0);clear hown' j0)
      refine⟨⟨k+1,HKL.out,by go_num,by rw[HEQ.out],?_,?_,Bl l9.out HO3.out.2 l8.out (zn _) l8.out.size⟩,by simp[intOf];omega⟩
      ·rw[l1.out.2.2]
       intro y hy;rcases List.mem_append.1 hy with h|h
       ·exact k3.out y h
       ·rw[List.mem_singleton.1 h];exact HR.out
      ·rw[l1.out.2.1]
       have:=HO3.out.1;rw[HSN.out] at this;exact this
     ·have be:(F0 x != 0)=true:=by simp[hw]
      clear hw i7;go_wp2_with fail
      refine(Dl _ (Av (i1.out _ j5.out).2.2 HV.out)).mono ?_;rintro e wf ⟨rfl,i4⟩;have j2:=zh (j5.out.trans (i4.mono j5.out.size));clear i4;go_wp2_with fail
      refine bodyPost_ret (v:= .bool true) (by simp[results,Tryz.results11,go_sem]) rfl ?_;exact⟨rfl,(i1.out _ j2.out).2.2⟩
    ·obtain rfl:k=l.length:=by omega
     rw[List.take_length];have j4:=k3.out;rw[List.take_length] at j4;have k3:=zh j4;have hO:=HO.out;have HWN:=zh (Kx j4);have hlen24:l.length≤24:=by have:=k1.out;omega
     have hss:(bs (Jh l)).size=(Jh l).length:=Me _;have m6:(bs (Jh l)).size≤20000:=by have:=HWN.out;omega
     obtain⟨ea,ec,rfl,_⟩:=Ad hO;have HSS:=zh hss;clear j4 hO hB hk i7 hss;by_cases h4:4096 < (bs (Jh l)).size
     ·have hi4:(4096:Int) < ((bs (Jh l)).size:Int):=by omega
      clear h4;go_wp2_with fail
      refine(Dl _ (Av (i1.out _ i0.out).2.2 HV.out)).mono ?_;rintro e wf ⟨rfl,i4⟩;have j2:=zh (i0.out.trans (i4.mono i0.out.size));clear i4;go_wp2_with fail
      refine bodyPost_ret (v:= .bool true) (by simp[results,Tryz.results11,go_sem]) rfl ?_;exact⟨rfl,(i1.out _ j2.out).2.2⟩
     ·have hi4:¬ (4096:Int) < ((bs (Jh l)).size:Int):=by omega
      have HS4:=zh h4;obtain⟨sz,i6⟩:∃sz,(bs (Jh l)).size=sz:=⟨_,rfl⟩;rw[i6] at h4 hi4 m6 HSS HS4;obtain⟨s,hs⟩:∃s,bs (Jh l)=s:=⟨_,rfl⟩;rw[hs] at i6⊢;have HSE:=zh hs;have HSZ:=zh i6;have hszI:(s.size:Int)=(sz:Int):=by rw[i6]
      have hw1:wrap64 ((sz:Int)+1)=(sz:Int)+1:=by unfold wrap64;omega
      clear h4 hs i6;go_wp2_with fail
      refine(Oq cut ((sz:Int)+1) wr hcut.1 hcut.2 (by omega) (by omega)).mono ?_;rintro e w3 ⟨r,hr,rfl,rfl⟩;have HR:=zh hr;have HWI:=zh (Aiv l r);have HWL:=zh (Aiu l r);have HCU:=zh (Axr (k:=r) (by omega:l.length≤60) k3.out (by have:=HSS.out;have:=HS4.out;omega));generalize hwn:Pn l r=n at *;clear hr hwn
      go_upto_block 2 with fail
      go_cut [13] from 60 to 74 (fun i wx=>i= .int .i64 n∧wr=wx)
      case first=>
       go_wp2_with fail
       go_loopw [13] (fun i wx=>wx=wr∧∃j:Nat,j≤n∧i= .int .i64 j) (fun i _=>n - (intOf i).toNat)
       case atStart=>exact⟨rfl,0,Nat.zero_le _,rfl⟩
       case round=>
        obtain⟨rfl,j,hj,rfl⟩:=hrel;by_cases i5:j < l.length
        ·obtain⟨eb,eo,ha,_,_,i2⟩:=(Sl.cu HO.out).at_ (k:=j) (by simpa [Jm] using i5)
         subst ha;have e0:wr.cell? ⟨eb,eo+j,none⟩=some (.int .i64 (Ab4 l (j+1))):=i2 _ _ (by simp[Jm,i5]);have hjI:(j:Int) < (l.length:Int):=by omega
         clear i2;by_cases k5:j < n
         ·have m7:=(HWI.out j i5).2 k5
          have m8:(Ab4 l (j+1):Int)≤(r:Int):=by omega
          have HJ:=zh k5;clear m7 k5 i5 hj;generalize Ab4 l (j+1)=en at *;go_wp2_with fail
          exact⟨⟨(by first|trivial|rfl),j+1,HJ.out,by go_num⟩,by have:=HJ.out;simp[intOf];omega⟩
         ·obtain rfl:j=n:=by omega
          have m7:¬ Ab4 l (j+1)≤r:=fun h=>k5 ((HWI.out j i5).1 h);have m8:¬ (Ab4 l (j+1):Int)≤(r:Int):=by omega
          clear m7 k5 hj i5;generalize Ab4 l (j+1)=en at *;go_wp2_with fail
          go_meet
          exact⟨rfl,rfl⟩
        ·obtain rfl:j=n:=by have:=HWL.out;omega
         have hjI:¬ (j:Int) < (l.length:Int):=by omega
         clear i5 hj;go_wp2_with fail
         go_meet
         exact⟨rfl,rfl⟩
      case rest=>
       obtain⟨rfl,rfl⟩:=hcut;have i5:n≤l.length:=HWL.out;go_upto_region 19 with fail
       have hrn:r≤sz:=by have:=HR.out;omega
       have k6:=zh i5;have m9:Hid (∀W,Below wr.heap.size wr W→Calls Tryz.prog 42 #[.agg (zP p p1 p2 p3 q1 q2 q3),.string (s.extract 0 r)] W (Nb (Ju p (l.take n)) n W)):=zh fun W hW=>by
        have j6:=i1.out _ (i0.out.trans (hW.mono i0.out.size));have he:s.extract 0 r=bs ((Jh l).take r):=by rw[←HSE.out,J6];rfl
        have i6:(s.extract 0 r).size≤1048576:=by rw[ByteArray.size_extract];have:=HSZ.out;omega
        have h:=Ly p (s.extract 0 r) p1 p2 p3 q1 q2 q3 W (Av j6.2.2 HV.out) j6.1 j9.out i6;obtain⟨c1,c2⟩:=HCU.out;rw[←he] at c1 c2;obtain⟨g1,g2,g3⟩:=Qn HC.out c1;unfold Ajd at h;rw[g1,g2,g3,c2,List.length_take,Nat.min_eq_left k6.out] at h;exact h
       have HX:=zh (Md (p:=p) HC.out (l.take n));have HSX:=zh (Nr j9.out (l.take n));have n8:Hid (∀W,Below wr.heap.size wr W→Calls Tryz.prog 44 #[.agg (zP p p1 p2 p3 q1 q2 q3),.slice al n cl] W fun e w'=>∃a1 a2 a3 c1 c2 c3 rows,e= .returned (Ac (Ju p (l.take n)) a1 a2 a3 c1 c2 c3)∧Ax w' W.heap.size w'.heap.size a1 a2 a3 rows (Ju p (l.take n))∧Below W.heap.size W w'):=zh fun W hW=>by
        have j6:=i1.out _ (i0.out.trans (hW.mono i0.out.size));have hsl:Sl W 0 W.heap.size al ((l.take n).flatMap Ez):=My (((k0.out.below j6.2.2 (zn _)).wider (zn _) j6.2.2.size)) n;have h:=Za p (l.take n) p1 p2 p3 al q1 q2 q3 cl W (Av j6.2.2 HV.out) j6.1 j9.out hsl (by rw[List.length_take];have:=k6.out;omega) (fun x hx=>HSM.out x (List.mem_of_mem_take hx));rw[List.length_take,Nat.min_eq_left k6.out] at h;exact h
       generalize Ju p (l.take n)=X at *;have HK:Hid (∀W,Below wr.heap.size wr W→(W.cell? ⟨w.heap.size,0,none⟩=some (.slice p1 p.aj.length q1)∧W.cell? ⟨w.heap.size,1,none⟩=some (.slice p2 p.ag.length q2)∧W.cell? ⟨w.heap.size,2,none⟩=some (.slice p3 p.binds.length q3))):=zh fun W hW=>(i1.out _ (i0.out.trans (hW.mono i0.out.size))).2.1;have i8:Below wr.heap.size wr wr.drew:=(zb _ _).drew;clear i5
       go_cut [14,15,16] from 74 to 83 (fun b m e wx=>Nd X n wr b m e wx)
       case first=>
        refine wp_region_held_drew (S:=(fun W=>(W.cell? ⟨w.heap.size,0,none⟩=some (.slice p1 p.aj.length q1)∧W.cell? ⟨w.heap.size,1,none⟩=some (.slice p2 p.ag.length q2)∧W.cell? ⟨w.heap.size,2,none⟩=some (.slice p3 p.binds.length q3)))) (by kernel_rfl) (by exact HK.out _ i8) (fun hHeld=> ?_)
        (refine zH 0 ?_)
        (refine zH 1 ?_)
        (refine zH 2 ?_)
        (refine zH 3 ?_)
        refine zR2 4 9 (fun K hK=> ?_) (fun K hK=> ?_)
        ·go_simp
         go_at_call 42;refine(m9.out _ i8).mono ?_;rintro e wd ⟨y1,y2,y3,e1,e2,e3,ry,rfl,n9,l2⟩;unfold Ac Ag;have i3:=i8.trans (l2.mono i8.size)
         refine hK.out _ _ (by exact HK.out _ i3) (fun hHeld=> ?_);clear hK K
         try simp only[Act.put,zA,zB,zC,zD,zE,zF]
         (refine zH 5 ?_)
         (refine zH 6 ?_)
         (refine zH 7 ?_)
         (refine zH 8 ?_)
         refine zR 9 fun K hK=> ?_
         go_simp
         have j7:=Bk.new wd 31 zO;have l3:Below wr.heap.size wr (wd.alloc (.cells zO 31)):=i3.alloc i3.size _;refine hK.out _ _ (by exact HK.out _ l3) (fun hHeld=> ?_);clear hK K
         try simp only[Act.put,zA,zB,zC,zD,zE,zF]
         refine zR 10 fun K hK=> ?_;obtain⟨c0,c1,c2,c3,c4,c5,c6,c7,f0,f1,f2,f3,f4,f5,f6,f7,hlg⟩:=Af j7;have o8:=HK.out _ (i3.alloc i3.size (.cells (zV X y1 y2 y3 e1 e2 e3) 31))
         go_simp
         refine hK.out _ _ (by exact o8) (fun hHeld=> ?_);clear hK K
         try simp only[Act.put,zA,zB,zC,zD,zE,zF]
         (refine zH 11 ?_)
         (refine zH 12 ?_)
         refine wpAnyH_done (by kernel_rfl) ?_ _;go_wp2_with fail
         go_meet
         exact Ne n9 i3
        ·go_simp
         have j7:Bk (wr.alloc (.cells zO 31)).drew wr.heap.size 31 zO:=Bk.new wr _ _;have l0:wr.heap.size < ((wr.alloc (.cells zO 31)).drew).heap.size:=by simp
         have l3:Below wr.heap.size wr ((wr.alloc (.cells zO 31)).drew):=((zb _ _).alloc (zn _) _).drew;generalize (wr.alloc (.cells zO 31)).drew=Wz at *;refine hK.out _ _ (by exact HK.out _ l3) (fun hHeld=> ?_);clear hK K
         try simp only[Act.put,zA,zB,zC,zD,zE,zF]
         refine zR 4 fun K hK=> ?_
         go_simp
         have i8:=l3;go_at_call 42;refine(m9.out _ i8).mono ?_;rintro e wd ⟨y1,y2,y3,e1,e2,e3,ry,rfl,n9,l2⟩;unfold Ac Ag;have i3:=i8.trans (l2.mono i8.size)
         refine hK.out _ _ (by exact HK.out _ i3) (fun hHeld=> ?_);clear hK K
         try simp only[Act.put,zA,zB,zC,zD,zE,zF]
         (refine zH 5 ?_)
         (refine zH 6 ?_)
         (refine zH 7 ?_)
         (refine zH 8 ?_)
         refine zR 10 fun K hK=> ?_;have k7:=j7.below l2 l0;obtain⟨c0,c1,c2,c3,c4,c5,c6,c7,f0,f1,f2,f3,f4,f5,f6,f7,hlg⟩:=Af k7;have o8:=HK.out _ (Ak i3 (zn _) (.slice y1 X.ready.length e1) (.slice y2 X.outs.length e2) (.slice y3 X.ae.length e3) (.int .i64 X.ah) (.int .i64 X.af) (.int .i64 X.aw) (.int .i64 X.ar) (.int .i64 X.dropped))
         go_simp
         refine hK.out _ _ (by exact o8) (fun hHeld=> ?_);clear hK K
         try simp only[Act.put,zA,zB,zC,zD,zE,zF]
         (refine zH 11 ?_)
         (refine zH 12 ?_)
         refine wpAnyH_done (by kernel_rfl) ?_ _;go_wp2_with fail
         go_meet
         exact Nl n9 l0 k7 (zn _) i3
       case rest=>
        obtain⟨g,y1,y2,y3,e1,e2,e3,ry,rfl,rfl,rfl,hg,j7,hsy,i9⟩:=hcut;clear HK i8 m9 hrn;have HJC:Hid ((n:Int)≤(cl:Int)∧(n:Int)≤(l.length:Int)):=zh ⟨by have:=k6.out;have:=HLC.out;omega,by have:=k6.out;omega⟩;have j8:Hid (∀W,Below wc.heap.size wc W→Below w.heap.size w W∧Bk W g 31 (Ag X y1 y2 y3 e1 e2 e3)∧Ax W 0 W.heap.size y1 y2 y3 ry X):=zh fun W hW=>
         ⟨(i1.out _ ((i0.out.trans (i9.mono i0.out.size)).trans (hW.mono (i0.out.trans (i9.mono i0.out.size)).size))).2.2,j7.below hW j7.lt,(hsy.below hW (zn _)).wider (Nat.zero_le _) hW.size⟩
        have HPW:Hid (∀W,Below wc.heap.size wc W→Az W 0 W.heap.size p1 p2 p3 p∧Below wr.heap.size wr W):=zh fun W hW=>
         ⟨(i1.out _ ((i0.out.trans (i9.mono i0.out.size)).trans (hW.mono (i0.out.trans (i9.mono i0.out.size)).size))).1,i9.trans (hW.mono i9.size)⟩
        have k8:Hid (∀W,Below wc.heap.size wc W→(W.cell? ⟨w.heap.size,0,none⟩=some (.slice p1 p.aj.length q1)∧W.cell? ⟨w.heap.size,1,none⟩=some (.slice p2 p.ag.length q2)∧W.cell? ⟨w.heap.size,2,none⟩=some (.slice p3 p.binds.length q3)∧W.cell? ⟨g,0,none⟩=some (.slice y1 X.ready.length e1)∧W.cell? ⟨g,1,none⟩=some (.slice y2 X.outs.length e2)∧W.cell? ⟨g,2,none⟩=some (.slice y3 X.ae.length e3)∧W.cell? ⟨g,3,none⟩=some (.int .i64 X.ah)∧W.cell? ⟨g,4,none⟩=some (.int .i64 X.af)∧W.cell? ⟨g,5,none⟩=some (.int .i64 X.aw)∧W.cell? ⟨g,6,none⟩=some (.int .i64 X.ar)∧W.cell? ⟨g,7,none⟩=some (.int .i64 X.dropped))):=zh fun W hW=>by
         obtain⟨_,⟨m0,m1,m2⟩,_⟩:=i1.out _ ((i0.out.trans (i9.mono i0.out.size)).trans (hW.mono (i0.out.trans (i9.mono i0.out.size)).size));obtain⟨n0,n1,n2,n3,n4,n5,n6,n7⟩:=Jl (j8.out W hW).2.1;exact⟨m0,m1,m2,n0,n1,n2,n3,n4,n5,n6,n7⟩
        have o9:Hid (∀W,Below wc.heap.size wc W→Calls Tryz.prog 32 #[.agg (zP p p1 p2 p3 q1 q2 q3),.agg (zV X y1 y2 y3 e1 e2 e3)] W fun e w'=>e= .returned (.int .i64 0)∧Below W.heap.size W w'):=zh fun W hW=>by
         have h:=Fb p X p1 p2 p3 y1 y2 y3 q1 q2 q3 e1 e2 e3 ry W (Av (j8.out W hW).1 HV.out) (HPW.out W hW).1 j9.out (j8.out W hW).2.2 HX.out.small HX.out.ints;unfold Lv at h;rw[Da.2 HX.out] at h;exact h
        have n8:Hid (∀W,Below wc.heap.size wc W→Calls Tryz.prog 44 #[.agg (zP p p1 p2 p3 q1 q2 q3),.slice al n cl] W fun e w'=>∃a1 a2 a3 c1 c2 c3 rows,e= .returned (Ac X a1 a2 a3 c1 c2 c3)∧Ax w' W.heap.size w'.heap.size a1 a2 a3 rows X∧Below W.heap.size W w'):=zh fun W hW=>n8.out W (HPW.out W hW).2;have hN:Below wc.heap.size wc wc.drew:=(zb _ _).drew;obtain⟨hjc,i5⟩:=HJC.out;clear hg j7 hsy i9;go_upto_region 20 with fail
        refine Yr (S:=(fun W=>(W.cell? ⟨w.heap.size,0,none⟩=some (.slice p1 p.aj.length q1)∧W.cell? ⟨w.heap.size,1,none⟩=some (.slice p2 p.ag.length q2)∧W.cell? ⟨w.heap.size,2,none⟩=some (.slice p3 p.binds.length q3)∧W.cell? ⟨g,0,none⟩=some (.slice y1 X.ready.length e1)∧W.cell? ⟨g,1,none⟩=some (.slice y2 X.outs.length e2)∧W.cell? ⟨g,2,none⟩=some (.slice y3 X.ae.length e3)∧W.cell? ⟨g,3,none⟩=some (.int .i64 X.ah)∧W.cell? ⟨g,4,none⟩=some (.int .i64 X.af)∧W.cell? ⟨g,5,none⟩=some (.int .i64 X.aw)∧W.cell? ⟨g,6,none⟩=some (.int .i64 X.ar)∧W.cell? ⟨g,7,none⟩=some (.int .i64 X.dropped)))) (D:=(List.range' 83 25).map some++[some 6]) [(0,true),(1,false),(2,false),(3,false),(4,false),(5,false),(6,false),(7,false),(8,false),(9,false),(10,false),(11,false),(12,false),(13,true),(14,false),(15,false),(16,false),(17,false),(18,false),(19,false),(20,false),(21,false),(22,true),(23,true),(24,false),(25,false)] (by kernel_rfl) (by kernel_rfl) (by exact k8.out _ hN) List.toList_toArray (by kernel_rfl) (fun hHeld=> ?_)
        (refine NWF.call (by kernel_rfl) (fun K hK=> ?_);go_simp;(go_at_call 36;((with_reducible refine(Dl _ (Av (j8.out _ hN).1 HV.out)).mono ?_));rintro e w5 ⟨rfl,hb5⟩;have hN:=hN.trans (hb5.mono hN.size);clear hb5);refine hK.out _ _ (by exact k8.out _ hN) (fun hHeld=> ?_);clear hK K)
        try simp only[Act.put,zA,zB,zC]
        iterate 12 (refine NWF.take (v:= ?_) (a':= ?_) (fun _ _ _ h=>h) (by kernel_rfl) ?_ ?_ ?_;rotate_left 2;(focus(intro w k9;(try dsimp only at k9);go_simp;(all_goals with_reducible rfl);done));(focus(simp only[Act.put,zA,zB,zC];with_reducible rfl)))
        (refine NWF.call (by kernel_rfl) (fun K hK=> ?_);go_simp;(go_at_call 32;((with_reducible refine(o9.out _ hN).mono ?_));rintro e w6 ⟨rfl,hb6⟩;have hN:=hN.trans (hb6.mono hN.size);clear hb6);refine hK.out _ _ (by exact k8.out _ hN) (fun hHeld=> ?_);clear hK K)
        try simp only[Act.put,zA,zB,zC]
        iterate 8 (refine NWF.take (v:= ?_) (a':= ?_) (fun _ _ _ h=>h) (by kernel_rfl) ?_ ?_ ?_;rotate_left 2;(focus(intro w k9;(try dsimp only at k9);go_simp;(all_goals with_reducible rfl);done));(focus(simp only[Act.put,zA,zB,zC];with_reducible rfl)))
        (refine NWF.call (by kernel_rfl) (fun K hK=> ?_);go_simp;(go_at_call 44;((with_reducible refine(n8.out _ hN).mono ?_));rintro e w7 ⟨u1,u2,u3,d1,d2,d3,ru,rfl,hs7,hb7⟩;unfold Ac Ag;have HS7:=zh (zi hs7 hN);have hN:=hN.trans (hb7.mono hN.size);clear hs7 hb7);refine hK.out _ _ (by exact k8.out _ hN) (fun hHeld=> ?_);clear hK K)
        try simp only[Act.put,zA,zB,zC]
        (refine NWF.call (by kernel_rfl) (fun K hK=> ?_);go_simp;(go_at_call 20;have j1:=Di X X y1 y2 y3 u1 u2 u3 e1 e2 e3 d1 d2 d3 ry ru _ (j8.out _ hN).2.2 HSX.out.1 (HS7.out.1.wider (Nat.zero_le _) (zn _)) HSX.out.1;rw[Ea] at j1;unfold Ac Ag at j1;((with_reducible refine j1.mono ?_));clear j1;rintro e w8 ⟨rfl,hb8⟩;have hN:=hN.trans (hb8.mono hN.size);clear hb8);refine hK.out _ _ (by exact k8.out _ hN) (fun hHeld=> ?_);clear hK K)
        try simp only[Act.put,zA,zB,zC]
        iterate 2 (refine NWF.take (v:= ?_) (a':= ?_) (fun _ _ _ h=>h) (by kernel_rfl) ?_ ?_ ?_;rotate_left 2;(focus(intro w k9;(try dsimp only at k9);go_simp;(all_goals with_reducible rfl);done));(focus(simp only[Act.put,zA,zB,zC];with_reducible rfl)))
        refine NWF.done ?_;go_wp2_with fail
        refine bodyPost_ret (v:= .bool true) (by simp[results,Tryz.results11,go_sem]) rfl ?_;exact⟨rfl,(j8.out _ hN).1⟩
  ·have be:(Bf p != 0)=true:=by simp[hc]
   clear hc;go_wp2_with fail
   refine(Dl _ (Av (i1.out _ j3.out).2.2 HV.out)).mono ?_;rintro e wf ⟨rfl,i4⟩;have j2:=zh (j3.out.trans (i4.mono j3.out.size));clear i4;go_wp2_with fail
   go_ret
   exact⟨rfl,(i1.out _ j2.out).2.2⟩
end Go.Proofs.YtaanpcjkflhomaaGreatDoor
