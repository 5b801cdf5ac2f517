/-
  bookBegun answers true: what must be in any case of the book.
-/
import Derived.Test.YtaanpcjkflhomaaGreatDoorBunA
import Derived.Test.YtaanpcjkflhomaaGreatDoorBunDA
import Derived.Test.YtaanpcjkflhomaaGreatDoorBunDB
import Derived.Test.YtaanpcjkflhomaaGreatDoorBunO
import Derived.Deep.RegionHeld3
import Derived.Test.YtaanpcjkflhomaaGreatDoorBunCC
import Derived.Test.YtaanpcjkflhomaaGreatDoorBunE
import Derived.Test.YtaanpcjkflhomaaGreatDoorBunB
import Derived.Test.YtaanpcjkflhomaaGreatDoorBunS
import Derived.Test.YtaanpcjkflhomaaGreatDoorBunR
import Derived.Test.YtaanpcjkflhomaaGreatDoorBunJ
import Derived.Test.YtaanpcjkflhomaaGreatDoorBunG
set_option maxHeartbeats 20000000
set_option maxRecDepth 100000
set_option linter.unusedSimpArgs false
set_option linter.unusedVariables false
namespace Go.Proofs.YtaanpcjkflhomaaGreatDoor
open Go Go.RowKit
theorem Ic {w:World} {lo hi rb ro k:Nat} {a2 a3:Option Addr} {rows:List Bq} {s:Aa} {l:List Ap} (h:Ax w lo hi (some ⟨rb,ro,none⟩) a2 a3 rows s) (hk:s.ready[k]? =some l):
  ∃ra rc,w.cell? ⟨rb,ro+k,none⟩=some (.slice ra l.length rc)∧Sl w lo hi ra (l.flatMap A9)∧l.length≤rc:=by
 rw[←h.same,List.getElem?_map,Option.map_eq_some_iff] at hk;obtain⟨r,hr,rfl⟩:=hk;have hkl:k < rows.length:=(List.getElem?_eq_some_iff.1 hr).1;obtain⟨b,o,e,_,_,hc⟩:=Bd Dv (by decide) h.ready hkl;simp only[Option.some.injEq,Addr.mk.injEq,and_true] at e;obtain⟨rfl,rfl⟩:=e;have e2:rows[k]=r:=by rw[zG hkl] at hr;exact Option.some.inj hr
 rw[e2] at hc;have h1:=hc 0 _ rfl;rw[Nat.mul_one] at h1;exact⟨r.at_,r.cap,h1,(h.row r (List.mem_of_getElem? hr)).1,(h.row r (List.mem_of_getElem? hr)).2⟩
theorem Ayw:onL Ae 2 kXY=[(4,⟨2,false,2,⟨#[120,46,121]⟩⟩)]:=by
 have h0:byP Ae ⟨2,false,2,⟨#[120,46,121]⟩⟩ kXY=true:=by rw[Mr];decide
 have e:Ae.binds=[⟨0,false,0,⟨#[120,46,35]⟩⟩,⟨0,true,1,⟨#[42,46,121]⟩⟩,⟨1,false,1,⟨#[35]⟩⟩,⟨1,true,0,⟨#[35]⟩⟩,⟨2,false,2,⟨#[120,46,121]⟩⟩]:=rfl;unfold onL;simp[Iy,e,h0]
theorem Ayz:outs Ae 2 kXY=[2]:=by
 have e:Ae.aj.length=3:=rfl;unfold outs;rw[e];simp[outAt,Ayw,cw,J0]
theorem Ayv:ofL Ae 2 kXY=[2]:=by
 unfold ofL;rw[Ayz,Kd (by decide:([2]:List Int).Pairwise (· < ·))];have:Ft Ae kXY [2] ([2]:List Int).length=[2]:=by simp[Ft,Ayw,Fs,Il]
 rw[this,Kd (by decide),N2 (by decide)]
theorem Ant {b:ByteArray} {n:Int} :E9 Ae 0 (Bj n b)=[⟨2,kXY,b,1⟩]:=by
 unfold E9;have hc:¬ ((Bu Ae 0).dead < 0∨2≤(Bj n b).au):=(show ¬ ((2:Int) < 0∨2≤(0:Int)) from by decide);rw[zq hc,show(Bu Ae 0).dead=((2:Nat):Int) from rfl,show(Bj n b).key=kXY from rfl];have:=Ayv;rw[show ofL Ae ((2:Nat):Int) kXY=[2] from Ayv];rfl
open Go.RowKit
def Ap6 (xs ys:List ByteArray) (B:Nat) (w:World) (i:Value) (wr:World):Prop:=
 ∃k:Nat,k≤xs.length∧i= .int .i64 k∧Below B w wr∧xs.take k=ys.take k
theorem Ao7 {α:Type} {xs ys:List α} {k:Nat} (h:xs.take k=ys.take k) (h1:k < xs.length) (h2:k < ys.length) (he:xs[k]=ys[k]):xs.take (k+1)=ys.take (k+1):=by
 rw[List.take_add_one,List.take_add_one,h,zG h1,zG h2,he]
theorem Lo (a b:Option Addr) (c d:Nat) (xs ys:List ByteArray) (w:World) (lo:Nat) (hx:Sl w lo w.heap.size a (xs.map Value.string)) (hy:Sl w lo w.heap.size b (ys.map Value.string))
  (h1:xs.length≤4294967296) (h2:ys.length≤4294967296):
  Calls Tryz.prog 30 #[.slice a xs.length c,.slice b ys.length d] w fun e w'=>e= .returned (.bool (decide (xs=ys)))∧Below w.heap.size w w':=by
 have HX:=zh hx;clear hx
 have HY:=zh hy;clear hy
 by_cases hl:xs.length=ys.length
 ·have hl':((xs.length:Int) != (ys.length:Int))=false:=by simp[hl]
  have HL:=zh hl;clear hl
  go_enter Tryz.func30,Tryz.ntmps30
  go_wp2
  go_loopw [5] (fun i wr=>Ap6 xs ys w.heap.size w i wr) (fun i _=>xs.length - (intOf i).toNat)
  case atStart=>exact⟨0,by omega,rfl,zb _ _,rfl⟩
  case round=>
   obtain⟨k,hk,rfl,hB,hall⟩:=hrel;have HA:=zh hall;clear hall
   by_cases hlt:k < xs.length
   ·have hlt2:k < ys.length:=by have:=HL.out;omega
    obtain⟨b1,o1,rfl,hb1,hc1⟩:=Ll HX.out hlt;obtain⟨b2,o2,rfl,hb2,hc2⟩:=Ll HY.out hlt2;have hc1':=(hB.cell (p:=⟨b1,o1+k,none⟩) hb1).trans hc1;have hc2':=(hB.cell (p:=⟨b2,o2+k,none⟩) hb2).trans hc2;clear hc1 hc2 hb1 hb2
    go_wp2
    go_quiet (fail)
    all_goals go_wp2
    ·have hne:¬ xs=ys:=by
      rintro rfl
      simp_all
     go_ret
     exact⟨by rw[decide_eq_false hne];rfl,below_draws hB _⟩
    ·have he:xs[k]=ys[k]:=toList_inj (by simp_all)
     exact⟨⟨k+1,by omega,by go_num,below_draws hB _,Ao7 HA.out hlt hlt2 he⟩,by simp[intOf];omega⟩
   ·go_wp2
    go_ret
    refine⟨?_,hB⟩;have:xs=ys:=by
     have:=HA.out;rwa [List.take_of_length_le (by omega),List.take_of_length_le (by have:=HL.out;omega)] at this
    rw[decide_eq_true this];rfl
 ·have hl':((xs.length:Int) != (ys.length:Int))=true:=by simp;omega
  have hne:¬ xs=ys:=fun e=>hl (by rw[e]);have HN:=zh hne;clear hne hl
  go_enter Tryz.func30,Tryz.ntmps30
  go_wp2
  go_ret
  exact⟨by rw[decide_eq_false HN.out];rfl,zb _ _⟩
open Go Go.RowKit
def R3:Aa:= { Bn with outs:=[],dropped:=1 }
def Uj:Aa:= { Bn with ready:=[[Bj 2 Gu,Bj 3 Fi],[],[⟨4,kXY,I3,false,1⟩]],outs:=[],ah:=5,aw:=5,dropped:=1 }
def Q7:Aa:= { Uj with ae:=[⟨-1,1⟩,⟨-1,2⟩] }
theorem O8:Ka Bn 5=some 0:=by decide
theorem Ara {x:Ap} (hk:x.key=kXY) (hd:x.au=0):E9 Ae 0 x=[⟨2,kXY,x.body,1⟩]:=by
 have h:=Ant (b:=x.body) (n:=x.seq);rw[←h];unfold E9;rw[hk,hd];rfl
theorem Aah:D5 Ae R3 [⟨2,kXY,I3,1⟩]=Uj:=by
 refine M6 (n:=1) ?_ (by decide);have hp:Bs (Ah (F7 R3) 2) (Cj R3 ⟨2,kXY,I3,1⟩)=[⟨4,kXY,I3,false,1⟩]:=rfl;have hl:Ek Ae (F7 R3) 2 (Cj R3 ⟨2,kXY,I3,1⟩)=(Uj,[]):=by
  unfold Ek;rw[hp,zp (by decide)];rfl
 show((Ek Ae (F7 R3) 2 (Cj R3 ⟨2,kXY,I3,1⟩)).1,_++(Ek Ae (F7 R3) 2 (Cj R3 ⟨2,kXY,I3,1⟩)).2)=_
 rw[hl];rfl
theorem Vf:Bg Ae Bn 5=0:=by unfold Bg;rw[zq (by rw[Eo];decide),O8,zq (by simp),zq (by decide)]
theorem Axl:D1 Ae Bn 0 ⟨5,1,0,Bj 1 I3⟩ true=(R3,[⟨2,kXY,I3,1⟩]):=by
 have hp:Bs (Ah (Au Bn 0) 0) (Fc (Bj 1 I3))=[Fc (Bj 1 I3),Bj 2 Gu,Bj 3 Fi]:=rfl;unfold D1;rw[zp rfl]
 show Ek Ae (Au Bn 0) 0 (Fc (Bj 1 I3))=_
 unfold Ek;rw[hp,zq (by decide),show Vl [Fc (Bj 1 I3),Bj 2 Gu,Bj 3 Fi]=Fc (Bj 1 I3) from rfl,Ara rfl rfl];rfl
theorem Xu:Bg Ae Bn 5=0∧Cf Ae Bn 5 true=Uj:=by
 refine⟨Vf,?_⟩;unfold Cf J3;rw[zp Vf,O8]
 show D5 Ae (D1 Ae Bn 0 ⟨5,1,0,Bj 1 I3⟩ true).1 (D1 Ae Bn 0 ⟨5,1,0,Bj 1 I3⟩ true).2=_
 rw[Axl,Aah]
theorem Ahg:Hr Ae 1 Bn.outs Bn=(Uj,0):=by
 show(if (1:Int)=1 then (if Bg Ae Bn 5=0 then Hr Ae 1 [] (Cf Ae Bn 5 true) else (Ay,Bg Ae Bn 5)) else Hr Ae 1 [] Bn)=_
 rw[zp rfl,zp Vf,Xu.2];rfl
theorem Qc:Bv Ae Bn 1=0∧Dn Ae Bn 1=Q7:=by
 have h:Bv Ae Bn 1=0:=by unfold Bv;rw[zq (by rw[Eo];decide),zq (by decide),Ahg]
 refine⟨h,?_⟩;unfold Dn;rw[zp h,Ahg];rfl
theorem Ajs (t0:Int) (X:Aa) (e:Int) (h:Bv Ae Bn t0=e∧Dn Ae Bn t0=X) (_: -9≤t0) (b1 b2 b3 lo g0 g1 g2 g3:Nat) (w:World) (hE:Env w) (ho:Eu w b1 b2 b3) (hs:Kj w lo g0 g1 g2 g3):
  Calls Tryz.prog 21 #[E8 b1 b2 b3,O6 g1 g2 g3,.int .i64 t0] w (Jk X e w):=by
 have:=Vq Ae Bn t0 _ _ _ _ _ _ 3 3 5 3 1 2 (Gp g0) w hE ho.bz C9 hs.state Fw Gr;rw[h.1,h.2] at this;exact this
open Go Go.RowKit
def drX:Aa:= { Q7 with ready:=[[],[],[⟨4,kXY,I3,false,1⟩]],af:=8,ar:=3 }
theorem Ue:Cs Ae Q7:=by
 have:=(Uf Qc.1).right;rwa [Qc.2] at this
theorem T9:Ck Ae Q7 0=0∧Gl Ae Q7 0=drX∧Ih Ae Q7 0=[Gu,Fi]:=by
 have hj:=Uq (q:=0) (m:=1) (k:=0) (Fv.2 ⟨Ue,by decide,by decide⟩:B5 Ae Q7 0=0) (by decide) rfl;have h:Ck Ae Q7 0=0:=Pf.2 ⟨hj.1,rfl,by decide⟩;refine⟨h,?_,?_⟩
 ·unfold Gl;rw[zp h];rfl
 ·unfold Ih;rw[zp h];rfl
theorem Af0:B5 Ae Bn 0=0:=Fv.2 ⟨Da.1 Eo,by decide,by decide⟩
theorem Ags:Ck Ae Bn 0=9:=by
 have ht:Nq Bn 0=true:=rfl;unfold Ck;rw[zq (by rw[Af0];decide),zp ht]
theorem Agt:Ck Ae Bn 3=5:=by
 have h:B5 Ae Bn 3=5:=by unfold B5;rw[zq (by rw[Eo];decide),zp (by decide)]
 unfold Ck;rw[zp (by rw[h];decide),h]
theorem Alk (q e:Int) (h:Ck Ae Bn q=e) (h0:e≠0) (b1 b2 b3 lo g0 g1 g2 g3:Nat) (w:World) (hE:Env w) (ho:Eu w b1 b2 b3) (hs:Kj w lo g0 g1 g2 g3):
  Calls Tryz.prog 24 #[E8 b1 b2 b3,O6 g1 g2 g3,.int .i64 q] w (Pq Ay [] e w):=by
 have:=Sa Ae Bn q _ _ _ _ _ _ 3 3 5 3 1 2 (Gp g0) w hE ho.bz C9 hs.state Fw Gr;obtain⟨h1,h2,h3⟩:=Ab2 h h0;rw[h1,h2,h3] at this;exact this
theorem Aww (b1 b2 b3:Nat) (a1 a2 a3:Option Addr) (c1 c2 c3:Nat) (rows:List Bq) (w:World) (hE:Env w) (ho:Eu w b1 b2 b3) (hs:Ax w 0 w.heap.size a1 a2 a3 rows Q7):
  Calls Tryz.prog 24 #[E8 b1 b2 b3,Ac Q7 a1 a2 a3 c1 c2 c3,.int .i64 0] w (Pq drX [Gu,Fi] 0 w):=by
 have:=Sa Ae Q7 0 _ _ _ a1 a2 a3 3 3 5 c1 c2 c3 rows w hE ho.bz C9 hs Ue.small Ue.ints;rw[T9.1,T9.2.1,T9.2.2] at this;exact this
theorem Awy (b1 b2 b3 lo g0 g1 g2 g3:Nat) (w:World) (hE:Env w) (ho:Eu w b1 b2 b3) (hs:Kj w lo g0 g1 g2 g3):
  Calls Tryz.prog 23 #[E8 b1 b2 b3,O6 g1 g2 g3] w fun e w'=>∃a c,e= .returned (.tuple #[.slice a 3 c,.int .i64 0])∧Sl w' w.heap.size w'.heap.size a ([2,0,0].map (Value.int .i64))∧Below w.heap.size w w':=by
 refine(Sc Ae Bn _ _ _ _ _ _ 3 3 5 3 1 2 (Gp g0) w hE ho.bz C9 hs.state Fw Gr).mono ?_;rintro e w' ⟨a,n,c,rfl,hn,hsl,hb⟩;rw[zp Eo] at hn hsl;subst hn;refine⟨a,c,?_,hsl,hb⟩;rw[Eo];rfl
def Apt (x:Aa) (l:List ByteArray) (WA:World) (b t e:Value) (wx:World):Prop:=
 ∃g y1 y2 y3 e1 e2 e3 ry al cl,b= .pointer (some ⟨g,0,none⟩)∧t= .slice al l.length cl∧e= .int .i64 0∧N0 wx g x y1 y2 y3 e1 e2 e3 ry∧Sl wx 0 wx.heap.size al (l.map Value.string)∧Below WA.heap.size WA wx
theorem Aqr {wd W WA:World} {g lo cl:Nat} {x:Aa} {l:List ByteArray} {al:Option Addr} {a1 a2 a3:Option Addr} {c1 c2 c3:Nat} {rows:List Bq} {o0 o1 o2 o3 o4 o5 o6 o7:Value} (hs:Ax wd lo wd.heap.size a1 a2 a3 rows x) (hl:Sl wd lo wd.heap.size al (l.map Value.string)) (hW:Below wd.heap.size wd W) (hk:Bk W g 31 #[o0,o1,o2,o3,o4,o5,o6,o7]) (hg:g < lo∨wd.heap.size≤g)
  (hb:Below WA.heap.size WA W) (hg2:WA.heap.size≤g):
  Apt x l WA (.pointer (some ⟨g,0,none⟩)) (.slice al l.length cl) (.int .i64 0) ((((((((W.setCell ⟨g,0,none⟩ (.slice a1 x.ready.length c1)).setCell ⟨g,1,none⟩ (.slice a2 x.outs.length c2)).setCell ⟨g,2,none⟩ (.slice a3 x.ae.length c3)).setCell ⟨g,3,none⟩ (.int .i64 x.ah)).setCell ⟨g,4,none⟩ (.int .i64 x.af)).setCell ⟨g,5,none⟩ (.int .i64 x.aw)).setCell ⟨g,6,none⟩ (.int .i64 x.ar)).setCell ⟨g,7,none⟩ (.int .i64 x.dropped)):=
 ⟨g,a1,a2,a3,c1,c2,c3,rows,al,cl,rfl,rfl,rfl,Af5 hs hW hk hg,((((((((((hl.below hW (zn _)).df (p:=⟨g,0,none⟩) hg _).df (p:=⟨g,1,none⟩) hg _).df (p:=⟨g,2,none⟩) hg _).df (p:=⟨g,3,none⟩) hg _).df (p:=⟨g,4,none⟩) hg _).df (p:=⟨g,5,none⟩) hg _).df (p:=⟨g,6,none⟩) hg _).df (p:=⟨g,7,none⟩) hg _).wider (Nat.zero_le _) (by have:=hW.size;simpa [World.setCell] using this)),Ak hb hg2 _ _ _ _ _ _ _ _⟩
theorem Ajr {wd WA:World} {lo cl:Nat} {x:Aa} {l:List ByteArray} {al:Option Addr} {a1 a2 a3:Option Addr} {rows:List Bq} (c1 c2 c3:Nat) (hs:Ax wd lo wd.heap.size a1 a2 a3 rows x) (hl:Sl wd lo wd.heap.size al (l.map Value.string)) (hb:Below WA.heap.size WA wd):
  Apt x l WA (.pointer (some ⟨wd.heap.size,0,none⟩)) (.slice al l.length cl) (.int .i64 0) (wd.alloc (.cells (Ag x a1 a2 a3 c1 c2 c3) 31)):=
 ⟨_,a1,a2,a3,c1,c2,c3,rows,al,cl,rfl,rfl,rfl,N0.new (hs.wider (Nat.zero_le _) (zn _)) c1 c2 c3,(hl.below ((zb _ _).alloc (zn _) _) (zn _)).wider (Nat.zero_le _) (by simp),hb.alloc hb.size _⟩
theorem Aoy (xs:List ByteArray) (a:Option Addr) (c:Nat) (w W:World) (h:Sl w 0 w.heap.size a (xs.map Value.string)) (hb:Below w.heap.size w W) (hl:xs.length≤1000) (n:Nat) (hn:n=xs.length) (cs:Array Value) (hc:cs=(xs.map Value.string).toArray):
  Calls Tryz.prog 30 #[.slice a n c,.slice (some ⟨W.heap.size,0,none⟩) n n] (W.alloc (.cells cs 9)) fun e w'=>e= .returned (.bool true)∧Below W.heap.size W w':=by
 subst hn hc;have h1:Sl (W.alloc (.cells (xs.map Value.string).toArray 9)) 0 (W.alloc (.cells (xs.map Value.string).toArray 9)).heap.size a (xs.map Value.string):=
  ((h.below hb (zn _)).below ((zb _ _).alloc (by have:=hb.size;omega) _) (zn _)).wider (zn _) (by have:=hb.size;simp;omega)
 have h2:Sl (W.alloc (.cells (xs.map Value.string).toArray 9)) 0 (W.alloc (.cells (xs.map Value.string).toArray 9)).heap.size (some ⟨W.heap.size,0,none⟩) (xs.map Value.string):=
  (Sl.new W (xs.map Value.string) 9 (W.heap.size+1) (by omega)).wider (Nat.zero_le _) (by simp)
 refine(Lo a (some ⟨W.heap.size,0,none⟩) c xs.length xs xs _ 0 h1 h2 (by omega) (by omega)).mono ?_;rintro e w' ⟨rfl,hb'⟩;exact⟨by simp,((zb _ _).alloc (zn _) _).trans (hb'.mono (by simp))⟩
theorem Hh (w:World) (hE:Env w):Calls Tryz.prog 28 #[] w fun e w'=>e= .returned (.bool true)∧Below w.heap.size w w':=by
 have HE:=zh hE;clear hE
 go_enter Tryz.func28,Tryz.ntmps28
 go_wp2_with fail
 refine(Dh _).mono ?_;rintro e w1 ⟨p1,p2,p3,rfl,ho1,hb1⟩;go_wp2_with fail
 refine(Fe _).mono ?_;rintro e w2 ⟨g0,g1,g2,g3,rfl,hy2,hb2⟩;have hb2':=hb1.trans (hb2.mono hb1.size);have ho2:=ho1.below hb2;go_wp2_with fail
 refine(Awy p1 p2 p3 _ g0 g1 g2 g3 w2 (Av hb2' HE.out) ho2 hy2).mono ?_;rintro e w3 ⟨la,lc,rfl,hl3,hb3⟩;have HB3:=zh (hb2'.trans (hb3.mono hb2'.size));have HL3:=zh (hl3.wider (Nat.zero_le _) (zn _));clear hb1 hb2 hb2' hb3 ho1 ho2 hy2 hl3;go_wp2_with fail
 refine(Dh _).mono ?_;rintro e w4 ⟨p1,p2,p3,rfl,ho4,hb4⟩;go_wp2_with fail
 refine(Fe _).mono ?_;rintro e w5 ⟨g0,g1,g2,g3,rfl,hy5,hb5⟩;have hb5':=HB3.out.trans ((hb4.trans (hb5.mono hb4.size)).mono HB3.out.size);have hc5:=hb4.trans (hb5.mono hb4.size);have ho5:=ho4.below hb5;go_wp2_with fail
 refine(Alk 0 9 Ags (by decide) p1 p2 p3 _ g0 g1 g2 g3 w5 (Av hb5' HE.out) ho5 hy5).mono ?_;rintro e w6 ⟨z1,z2,z3,f1,f2,f3,rz,ta,tc,rfl,_,_,hb6⟩;rw[show Ac Ay z1 z2 z3 f1 f2 f3= .agg #[.slice z1 0 f1,.slice z2 0 f2,.slice z3 0 f3,.int .i64 0,.int .i64 0,.int .i64 0,.int .i64 0,.int .i64 0] from rfl,show([]:List ByteArray).length=0 from rfl];have hc6:=hc5.trans (hb6.mono hc5.size);have HC6:=zh (hc6.alloc hc6.size (.cells #[.slice z1 0 f1,.slice z2 0 f2,.slice z3 0 f3,.int .i64 0,.int .i64 0,.int .i64 0,.int .i64 0,.int .i64 0] 31));clear hb4 hb5 hb5' hc5 hc6 hb6 ho4 ho5 hy5;go_upto_region 3 with fail
 obtain⟨wz,hwz⟩:∃wz,w6.alloc (.cells #[.slice z1 0 f1,.slice z2 0 f2,.slice z3 0 f3,.int .i64 0,.int .i64 0,.int .i64 0,.int .i64 0,.int .i64 0] 31)=wz:=⟨_,rfl⟩;rw[hwz] at HC6;rw[hwz];clear hwz;go_wp2_with fail
 refine(Dh _).mono ?_;rintro e wa ⟨p1,p2,p3,rfl,hoa,hba⟩;go_wp2_with fail
 refine(Fe _).mono ?_;rintro e w7 ⟨g0,g1,g2,g3,rfl,hy7,hb7⟩;have hc7:=HC6.out.trans ((hba.trans (hb7.mono hba.size)).mono HC6.out.size);have hb7':=HB3.out.trans (hc7.mono HB3.out.size);have ho7:=hoa.below hb7;go_wp2_with fail
 refine(Ajs 1 Q7 0 Qc (by decide) p1 p2 p3 _ g0 g1 g2 g3 w7 (Av hb7' HE.out) ho7 hy7).mono ?_;rintro e w8 ⟨x1,x2,x3,d1,d2,d3,rx,rfl,hs8,hb8⟩;have HC8:=zh (hc7.trans (hb8.mono hc7.size));have HS8:=zh hs8;clear hba hb7 hc7 hb7' hoa ho7 hy7 hb8 hs8 HC6;rw[show Ac Q7 x1 x2 x3 d1 d2 d3= .agg #[.slice x1 3 d1,.slice x2 0 d2,.slice x3 2 d3,.int .i64 5,.int .i64 6,.int .i64 5,.int .i64 1,.int .i64 1] from rfl];go_upto_region 4 with fail
 obtain⟨WA,hWA⟩:∃WA,w8.alloc (.cells #[.slice x1 3 d1,.slice x2 0 d2,.slice x3 2 d3,.int .i64 5,.int .i64 6,.int .i64 5,.int .i64 1,.int .i64 1] 31)=WA:=⟨_,rfl⟩;have HA:=zh (Cb (x:=Q7) d1 d2 d3 HS8.out HC8.out hWA);rw[hWA];clear hWA;have HK:Hid (∀W,Below WA.heap.size WA W→(W.cell? ⟨w8.heap.size,0,none⟩=some (.slice x1 3 d1)∧W.cell? ⟨w8.heap.size,1,none⟩=some (.slice x2 0 d2)∧W.cell? ⟨w8.heap.size,2,none⟩=some (.slice x3 2 d3)∧W.cell? ⟨w8.heap.size,3,none⟩=some (.int .i64 5)∧W.cell? ⟨w8.heap.size,4,none⟩=some (.int .i64 6)∧W.cell? ⟨w8.heap.size,5,none⟩=some (.int .i64 5)∧W.cell? ⟨w8.heap.size,6,none⟩=some (.int .i64 1)∧W.cell? ⟨w8.heap.size,7,none⟩=some (.int .i64 1))∧Below WA.heap.size WA W):=fun W hW=>⟨(HA.out W hW).1.cells,hW⟩;have HD:Hid (∀W b1 b2 b3,Below WA.heap.size WA W→Eu W b1 b2 b3→Calls Tryz.prog 24 #[E8 b1 b2 b3,.agg #[.slice x1 3 d1,.slice x2 0 d2,.slice x3 2 d3,.int .i64 5,.int .i64 6,.int .i64 5,.int .i64 1,.int .i64 1],.int .i64 0] W (Pq drX [Gu,Fi] 0 W)):=fun W b1 b2 b3 hW ho=>
  Aww b1 b2 b3 x1 x2 x3 d1 d2 d3 rx W (Av (HB3.out.trans ((HA.out W hW).2.mono HB3.out.size)) HE.out) ho (HA.out W hW).1.at_
 have HBN:=zh (zb WA.heap.size WA)
 go_cut [8,9,10] from 33 to 39 (fun b t e wx=>Apt drX [Gu,Fi] WA b t e wx)
 case first=>
  refine wp_region_held_drew (S:=(fun W=>(W.cell? ⟨w8.heap.size,0,none⟩=some (.slice x1 3 d1)∧W.cell? ⟨w8.heap.size,1,none⟩=some (.slice x2 0 d2)∧W.cell? ⟨w8.heap.size,2,none⟩=some (.slice x3 2 d3)∧W.cell? ⟨w8.heap.size,3,none⟩=some (.int .i64 5)∧W.cell? ⟨w8.heap.size,4,none⟩=some (.int .i64 6)∧W.cell? ⟨w8.heap.size,5,none⟩=some (.int .i64 5)∧W.cell? ⟨w8.heap.size,6,none⟩=some (.int .i64 1)∧W.cell? ⟨w8.heap.size,7,none⟩=some (.int .i64 1))∧Below WA.heap.size WA W)) (by kernel_rfl) (by exact HK.out _ HBN.out.drew) (fun hHeld=> ?_)
  (refine zH 1 ?_)
  try simp only[Act.put,zA,zB,zC,zD,zE]
  refine wpAnyH_ready (rs:=[0,7]) (by kernel_rfl) (by simp) ?_;refine AllReadyH.cons rfl (fun K hK=> ?_) (AllReadyH.cons rfl (fun K hK=> ?_) AllReadyH.nil)
  ·go_simp
   go_at_call 57;with_reducible refine(Dh _).mono ?_;rintro e wo ⟨b1,b2,b3,rfl,ho,hbo⟩;have hbo2:=Bp (by assumption) hbo
   refine hK.out _ _ (by exact HK.out _ hbo2) (fun hHeld=> ?_);clear hK K
   try simp only[Act.put,zA,zB,zC,zD,zE,zF]
   refine wpAnyH_ready (rs:=[2,7]) (by kernel_rfl) (by simp) ?_;refine AllReadyH.cons rfl (fun K hK=> ?_) (AllReadyH.cons rfl (fun K hK=> ?_) AllReadyH.nil)
   ·go_simp
    go_at_call 24;refine(HD.out _ _ _ _ hbo2 ho).mono ?_;rintro e wd ⟨y1,y2,y3,e1,e2,e3,ry,tl,tc,rfl,hsd,hsl,hbd⟩;rw[show Ac drX y1 y2 y3 e1 e2 e3= .agg #[.slice y1 3 e1,.slice y2 0 e2,.slice y3 2 e3,.int .i64 5,.int .i64 8,.int .i64 5,.int .i64 3,.int .i64 1] from rfl,show [Gu,Fi].length=2 from rfl];have hbo3:=hbo2.trans (hbd.mono hbo2.size)
    refine hK.out _ _ (by exact HK.out _ hbo3) (fun hHeld=> ?_);clear hK K
    try simp only[Act.put,zA,zB,zC,zD,zE,zF]
    (refine zH 3 ?_)
    try simp only[Act.put,zA,zB,zC,zD,zE,zF]
    (refine zH 4 ?_)
    try simp only[Act.put,zA,zB,zC,zD,zE,zF]
    (refine zH 5 ?_)
    try simp only[Act.put,zA,zB,zC,zD,zE,zF]
    (refine zH 6 ?_)
    try simp only[Act.put,zA,zB,zC,zD,zE,zF]
    refine wpAnyH_ready (rs:=[7]) (by kernel_rfl) (by simp) ?_;refine AllReadyH.cons rfl (fun K hK=> ?_) AllReadyH.nil
    go_simp
    have hbk:=Bk.new wd 31 zO;refine hK.out _ _ (by exact HK.out _ (Br (zi trivial hbo3) _)) (fun hHeld=> ?_);clear hK K
    try simp only[Act.put,zA,zB,zC,zD,zE,zF]
    refine wpAnyH_ready (rs:=[8]) (by kernel_rfl) (by simp) ?_;refine AllReadyH.cons rfl (fun K hK=> ?_) AllReadyH.nil;obtain⟨c0,c1,c2,c3,c4,c5,c6,c7,f0,f1,f2,f3,f4,f5,f6,f7,hlg⟩:=Af hbk;have hS8:=HK.out _ (hbo3.alloc hbo3.size (.cells #[.slice y1 3 e1,.slice y2 0 e2,.slice y3 2 e3,.int .i64 5,.int .i64 8,.int .i64 5,.int .i64 3,.int .i64 1] 31))
    go_simp
    refine hK.out _ _ (by exact hS8) (fun hHeld=> ?_);clear hK K
    try simp only[Act.put,zA,zB,zC,zD,zE,zF]
    (refine zH 9 ?_)
    try simp only[Act.put,zA,zB,zC,zD,zE,zF]
    (refine zH 10 ?_)
    try simp only[Act.put,zA,zB,zC,zD,zE,zF]
    refine wpAnyH_done (by kernel_rfl) ?_ _;go_wp2_with fail
    go_meet
    exact Ajr e1 e2 e3 hsd hsl hbo3
   ·go_simp
    have hbk:=Bk.new wo 31 zO;have hbo2a:=hbo2;have hg8:WA.heap.size≤wo.heap.size:=hbo2.size;have hgl:wo.heap.size < (wo.alloc (.cells zO 31)).heap.size:=hbk.lt;have ho:=ho.below ((zb wo.heap.size wo).alloc (zn _) (.cells zO 31));have hbo2:=hbo2.alloc hbo2.size (.cells zO 31)
    refine hK.out _ _ (by exact HK.out _ (Br (zi trivial hbo2a) _)) (fun hHeld=> ?_);clear hK K
    try simp only[Act.put,zA,zB,zC,zD,zE,zF]
    refine wpAnyH_ready (rs:=[2]) (by kernel_rfl) (by simp) ?_;refine AllReadyH.cons rfl (fun K hK=> ?_) AllReadyH.nil
    go_simp
    go_at_call 24;refine(HD.out _ _ _ _ hbo2 ho).mono ?_;rintro e wd ⟨y1,y2,y3,e1,e2,e3,ry,tl,tc,rfl,hsd,hsl,hbd⟩;rw[show Ac drX y1 y2 y3 e1 e2 e3= .agg #[.slice y1 3 e1,.slice y2 0 e2,.slice y3 2 e3,.int .i64 5,.int .i64 8,.int .i64 5,.int .i64 3,.int .i64 1] from rfl,show [Gu,Fi].length=2 from rfl];have hbo3:=hbo2.trans (hbd.mono hbo2.size);have hbk:=Bk.below hbk hbd hbk.lt
    refine hK.out _ _ (by exact HK.out _ hbo3) (fun hHeld=> ?_);clear hK K
    try simp only[Act.put,zA,zB,zC,zD,zE,zF]
    (refine zH 3 ?_)
    try simp only[Act.put,zA,zB,zC,zD,zE,zF]
    (refine zH 4 ?_)
    try simp only[Act.put,zA,zB,zC,zD,zE,zF]
    (refine zH 5 ?_)
    try simp only[Act.put,zA,zB,zC,zD,zE,zF]
    (refine zH 6 ?_)
    try simp only[Act.put,zA,zB,zC,zD,zE,zF]
    refine wpAnyH_ready (rs:=[8]) (by kernel_rfl) (by simp) ?_;refine AllReadyH.cons rfl (fun K hK=> ?_) AllReadyH.nil;obtain⟨c0,c1,c2,c3,c4,c5,c6,c7,f0,f1,f2,f3,f4,f5,f6,f7,hlg⟩:=Af hbk;have hS8:=HK.out _ (Ak hbo3 hg8 (.slice y1 3 e1) (.slice y2 0 e2) (.slice y3 2 e3) (.int .i64 5) (.int .i64 8) (.int .i64 5) (.int .i64 3) (.int .i64 1))
    go_simp
    refine hK.out _ _ (by exact hS8) (fun hHeld=> ?_);clear hK K
    try simp only[Act.put,zA,zB,zC,zD,zE,zF]
    (refine zH 9 ?_)
    try simp only[Act.put,zA,zB,zC,zD,zE,zF]
    (refine zH 10 ?_)
    try simp only[Act.put,zA,zB,zC,zD,zE,zF]
    refine wpAnyH_done (by kernel_rfl) ?_ _;go_wp2_with fail
    go_meet
    exact Aqr (lo:=_) hsd hsl (zb _ _) hbk (Or.inl hgl) hbo3 hg8
  ·go_simp
   have hbk:Bk (WA.drew.alloc (.cells zO 31)) WA.heap.size 31 zO:=Bk.new WA.drew _ _;have hg8:WA.heap.size≤WA.heap.size:=zn _;have hgl0:WA.heap.size < (WA.drew.alloc (.cells zO 31)).heap.size:=hbk.lt
   refine hK.out _ _ (by exact HK.out _ (Br (zi trivial HBN.out.drew) _)) (fun hHeld=> ?_);clear hK K
   try simp only[Act.put,zA,zB,zC,zD,zE,zF]
   refine wpAnyH_ready (rs:=[0]) (by kernel_rfl) (by simp) ?_;refine AllReadyH.cons rfl (fun K hK=> ?_) AllReadyH.nil
   go_simp
   go_at_call 57;with_reducible refine(Dh _).mono ?_;rintro e wo ⟨b1,b2,b3,rfl,ho,hbo⟩;have hbo2:=Bp (by assumption) hbo;have hgl:=Nat.lt_of_lt_of_le hgl0 hbo.size;have hbk:=Bk.below hbk hbo hbk.lt
   refine hK.out _ _ (by exact HK.out _ hbo2) (fun hHeld=> ?_);clear hK K
   try simp only[Act.put,zA,zB,zC,zD,zE,zF]
   refine wpAnyH_ready (rs:=[2]) (by kernel_rfl) (by simp) ?_;refine AllReadyH.cons rfl (fun K hK=> ?_) AllReadyH.nil
   go_simp
   go_at_call 24;refine(HD.out _ _ _ _ hbo2 ho).mono ?_;rintro e wd ⟨y1,y2,y3,e1,e2,e3,ry,tl,tc,rfl,hsd,hsl,hbd⟩;rw[show Ac drX y1 y2 y3 e1 e2 e3= .agg #[.slice y1 3 e1,.slice y2 0 e2,.slice y3 2 e3,.int .i64 5,.int .i64 8,.int .i64 5,.int .i64 3,.int .i64 1] from rfl,show [Gu,Fi].length=2 from rfl];have hbo3:=hbo2.trans (hbd.mono hbo2.size);have hbk:=Bk.below hbk hbd hbk.lt
   refine hK.out _ _ (by exact HK.out _ hbo3) (fun hHeld=> ?_);clear hK K
   try simp only[Act.put,zA,zB,zC,zD,zE,zF]
   (refine zH 3 ?_)
   try simp only[Act.put,zA,zB,zC,zD,zE,zF]
   (refine zH 4 ?_)
   try simp only[Act.put,zA,zB,zC,zD,zE,zF]
   (refine zH 5 ?_)
   try simp only[Act.put,zA,zB,zC,zD,zE,zF]
   (refine zH 6 ?_)
   try simp only[Act.put,zA,zB,zC,zD,zE,zF]
   refine wpAnyH_ready (rs:=[8]) (by kernel_rfl) (by simp) ?_;refine AllReadyH.cons rfl (fun K hK=> ?_) AllReadyH.nil;obtain⟨c0,c1,c2,c3,c4,c5,c6,c7,f0,f1,f2,f3,f4,f5,f6,f7,hlg⟩:=Af hbk;have hS8:=HK.out _ (Ak hbo3 hg8 (.slice y1 3 e1) (.slice y2 0 e2) (.slice y3 2 e3) (.int .i64 5) (.int .i64 8) (.int .i64 5) (.int .i64 3) (.int .i64 1))
   go_simp
   refine hK.out _ _ (by exact hS8) (fun hHeld=> ?_);clear hK K
   try simp only[Act.put,zA,zB,zC,zD,zE,zF]
   (refine zH 9 ?_)
   try simp only[Act.put,zA,zB,zC,zD,zE,zF]
   (refine zH 10 ?_)
   try simp only[Act.put,zA,zB,zC,zD,zE,zF]
   refine wpAnyH_done (by kernel_rfl) ?_ _;go_wp2_with fail
   go_meet
   exact Aqr (lo:=wo.heap.size) hsd hsl (zb _ _) hbk (Or.inl hgl) hbo3 hg8
 case rest=>
  obtain⟨g,y1,y2,y3,e1,e2,e3,ry,ta,tc,rfl,rfl,rfl,hbB,hsB,hbW⟩:=hcut;have HB:Hid (∀W,Below wc.heap.size wc W→N0 W g drX y1 y2 y3 e1 e2 e3 ry∧Sl W 0 W.heap.size ta ([Gu,Fi].map Value.string)∧Below w3.heap.size w3 W):=fun W hW=>⟨hbB.below hW,(hsB.below hW (zn _)).wider (zn _) hW.size,(HA.out W (hbW.trans (hW.mono hbW.size))).2⟩;clear hbB hsB hbW HBN HD HK HA;go_wp2_with fail
  refine(Dh _).mono ?_;rintro e w5 ⟨p1,p2,p3,rfl,ho5,hb5⟩;go_wp2_with fail
  refine(Fe _).mono ?_;rintro e w6 ⟨g0,g1,g2,g3,rfl,hy6,hb6⟩;have hb6':=hb5.trans (hb6.mono hb5.size);have ho6:=ho5.below hb6;go_wp2_with fail
  refine(Alk 3 5 Agt (by decide) p1 p2 p3 _ g0 g1 g2 g3 w6 (Av (HB3.out.trans ((HB.out _ hb6').2.2.mono HB3.out.size)) HE.out) ho6 hy6).mono ?_;rintro e w7 ⟨z1,z2,z3,f1,f2,f3,rz,ua,uc,rfl,_,_,hb7⟩;rw[show Ac Ay z1 z2 z3 f1 f2 f3= .agg #[.slice z1 0 f1,.slice z2 0 f2,.slice z3 0 f3,.int .i64 0,.int .i64 0,.int .i64 0,.int .i64 0,.int .i64 0] from rfl,show([]:List ByteArray).length=0 from rfl];have hb7':=hb6'.trans (hb7.mono hb6'.size);have HC7:=zh (hb7'.alloc hb7'.size (.cells #[.slice z1 0 f1,.slice z2 0 f2,.slice z3 0 f3,.int .i64 0,.int .i64 0,.int .i64 0,.int .i64 0,.int .i64 0] 31));clear hb5 hb6 hb6' hb7 hb7' ho5 ho6 hy6;go_upto_region 6 with fail
  obtain⟨wz2,hwz⟩:∃wz2,w7.alloc (.cells #[.slice z1 0 f1,.slice z2 0 f2,.slice z3 0 f3,.int .i64 0,.int .i64 0,.int .i64 0,.int .i64 0,.int .i64 0] 31)=wz2:=⟨_,rfl⟩;rw[hwz] at HC7;rw[hwz];clear hwz;obtain⟨hBX,hSX,hBW⟩:=HB.out _ HC7.out;have HSI:=zh (fun W hW=>Aan [2,0,0] la lc w3 W HL3.out hW (by decide) 3 rfl #[.int .i64 2,.int .i64 0,.int .i64 0] rfl);have HST:=zh (fun W (hW:Below wz2.heap.size wz2 W)=>Aoy [Gu,Fi] ta tc wz2 W hSX hW (by decide) 2 rfl #[.string ⟨#[116,119,111]⟩,.string ⟨#[116,104,114,101,101]⟩] rfl);have HBW:=zh hBW;have HBX:=zh hBX;clear hBX hSX hBW;go_wp2_with fail
  refine(HSI.out wz2 HBW.out).mono ?_;rintro e w8 ⟨rfl,hb8⟩;have HB8:=zh hb8;clear hb8;go_wp2_with fail
  refine(HST.out w8 HB8.out).mono ?_;rintro e w9 ⟨rfl,hb9⟩;have HB9:=zh (HB8.out.trans (hb9.mono HB8.out.size));clear hb9;have hx:=HBX.out.below HB9.out;have n0:w9.cell? ⟨g,0,none⟩=some (.slice y1 3 e1):=hx.cells.1;have n6:w9.cell? ⟨g,6,none⟩=some (.int .i64 3):=hx.cells.2.2.2.2.2.2.1;have hrl:ry.length=3:=by have:=congrArg List.length hx.at_.same;simpa [drX] using this
  obtain⟨rb,ro,rfl,_,_,_⟩:=Bd Dv (by decide) hx.at_.ready (k:=0) (by omega);obtain⟨r0,rc0,q0,_,_⟩:=Ic (k:=0) hx.at_ rfl;have q1:w9.cell? ⟨rb,ro,none⟩=some (.slice r0 0 rc0):=q0;clear hx q0;go_wp2_with fail
  go_ret
  exact⟨rfl,HB3.out.trans ((HBW.out.trans (HB9.out.mono HBW.out.size)).mono HB3.out.size)⟩
end Go.Proofs.YtaanpcjkflhomaaGreatDoor
