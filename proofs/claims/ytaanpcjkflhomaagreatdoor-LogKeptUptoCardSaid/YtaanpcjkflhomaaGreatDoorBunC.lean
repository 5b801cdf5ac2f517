/-
  Walks of package bz: names.
-/
import Derived.Test.YtaanpcjkflhomaaGreatDoorBunA
import Derived.Test.YtaanpcjkflhomaaGreatDoorBunB
import Derived.Maps.OwnSet
import Derived.Maps.OwnOps
set_option maxHeartbeats 20000000
set_option maxRecDepth 100000
set_option linter.unusedSimpArgs false
set_option linter.unusedVariables false
namespace Go.Proofs.YtaanpcjkflhomaaGreatDoor
open Go.RowKit
def Ut (names:List ByteArray) (B:Nat) (w:World) (v i:Value) (wr:World):Prop:=
 ∃k:Nat,k≤names.length∧i= .int .i64 k∧wr.ownsRow B 9 1 v k ((names.take k).map Value.string)∧Below B w wr
theorem Akp (g:Nat) (eg:∀args w,(callFunc g args).run Tryz.prog w= .ok (.enter g args) w)
  (hof:∀(x:J5) W,Calls Tryz.prog g #[.agg (Jt x).toArray] W fun e W'=>e= .returned (.string x.name)∧Below W.heap.size W W')
  (a:Option Addr) (c:Nat) (xs:List J5) (lo:Nat) (w:World) (hx:Sl w lo w.heap.size a (xs.flatMap Jt)) (hl:xs.length≤1048576):
  Calls Tryz.prog 107 #[.slice a xs.length c,.func (.func g) #[] #[]] w fun e w'=>
   ∃v,e= .returned v∧w'.ownsRow w.heap.size 9 1 v xs.length ((xs.map (·.name)).map Value.string)∧Below w.heap.size w w':=by
 have HX:=zh hx;clear hx
 have HOF:=zh hof;clear hof
 go_enter Tryz.func107,Tryz.ntmps107
 go_wp2
 go_loopw [5,10] (fun v i wr=>Ut (xs.map (·.name)) w.heap.size w v i wr) (fun _ i _=>xs.length - (intOf i).toNat)
 case atStart=>exact⟨0,by omega,rfl,World.ownsRow_nil _ _ _ _,zb _ _⟩
 case round=>
  obtain⟨k,hk,rfl,hown,hB⟩:=hrel;rw[List.length_map] at hk;by_cases hlt:k < xs.length
  ·obtain⟨b,o,rfl,_,hb,hc⟩:=Bd Jz (by decide) HX.out hlt
   have e0:wr.cell? ⟨b,o+k * 2,none⟩=some (.string xs[k].name):=(hB.cell (p:=⟨b,_,none⟩) hb).trans (hc 0 _ rfl);have e1:wr.cell? ⟨b,o+k * 2+1,none⟩=some (.int .i64 xs[k].kind):=(hB.cell (p:=⟨b,_,none⟩) hb).trans (hc 1 _ rfl);clear hc;have hown2:=fun W (h:Below wr.heap.size wr W)=>own_below hown h;have HO:=zh hown2;clear hown2 hown
   have HB:=zh hB;have hlk:k < 4294967296:=by omega
   go_wp2_with fail
   refine(HOF.out xs[k] _).mono ?_;rintro e w1 ⟨rfl,hb1⟩;have hw1:Below wr.heap.size wr w1:=((zb _ wr).alloc (zn _) _).trans (hb1.mono (by simp));have hown1:=HO.out w1 hw1;have HW1:=zh hw1;clear hw1 hb1
   have hbase:w.heap.size≤w1.heap.size:=zr HB.out.size HW1.out.size;go_wp2_with (at_builtin;refine D6 rfl _ _ 43 rfl w.heap.size 9 Jb Tryz.underlying43 rfl (by decide) (by decide) w1 _ _ _ rfl hown1 _ rfl rfl rfl (by simp[Value.oneCell']) hlk hbase ?_;intro v' w2 hown' hgrow)
   refine⟨⟨k+1,by simp;omega,by go_num,?_,Bl hown1 hgrow (HB.out.trans (HW1.out.mono HB.out.size)) (zn _) hbase⟩,by simp[intOf];omega⟩;rw[List.take_add_one,List.getElem?_map,zG hlt];simpa using hown'
  ·obtain rfl:k=xs.length:=by omega
   go_wp2
   go_ret
   refine⟨_,rfl,?_,hB⟩;rw[List.take_of_length_le (by simp)] at hown;exact hown
theorem Ahp (g:Nat) (eg:∀args w,(callFunc g args).run Tryz.prog w= .ok (.enter g args) w)
  (hof:∀(x:Ge) W,Calls Tryz.prog g #[.agg (Hc x).toArray] W fun e W'=>e= .returned (.string x.name)∧Below W.heap.size W W')
  (a:Option Addr) (c:Nat) (xs:List Ge) (lo:Nat) (w:World) (hx:Sl w lo w.heap.size a (xs.flatMap Hc)) (hl:xs.length≤1048576):
  Calls Tryz.prog 109 #[.slice a xs.length c,.func (.func g) #[] #[]] w fun e w'=>
   ∃v,e= .returned v∧w'.ownsRow w.heap.size 9 1 v xs.length ((xs.map (·.name)).map Value.string)∧Below w.heap.size w w':=by
 have HX:=zh hx;clear hx
 have HOF:=zh hof;clear hof
 go_enter Tryz.func109,Tryz.ntmps109
 go_wp2
 go_loopw [5,10] (fun v i wr=>Ut (xs.map (·.name)) w.heap.size w v i wr) (fun _ i _=>xs.length - (intOf i).toNat)
 case atStart=>exact⟨0,by omega,rfl,World.ownsRow_nil _ _ _ _,zb _ _⟩
 case round=>
  obtain⟨k,hk,rfl,hown,hB⟩:=hrel;rw[List.length_map] at hk;by_cases hlt:k < xs.length
  ·obtain⟨b,o,rfl,_,hb,hc⟩:=Bd G3 (by decide) HX.out hlt
   have e0:wr.cell? ⟨b,o+k * 3,none⟩=some (.string xs[k].name):=(hB.cell (p:=⟨b,_,none⟩) hb).trans (hc 0 _ rfl);have e1:wr.cell? ⟨b,o+k * 3+1,none⟩=some (.int .i64 xs[k].bm):=(hB.cell (p:=⟨b,_,none⟩) hb).trans (hc 1 _ rfl);have e2:wr.cell? ⟨b,o+k * 3+2,none⟩=some (.int .i64 xs[k].dead):=(hB.cell (p:=⟨b,_,none⟩) hb).trans (hc 2 _ rfl);clear hc;have hown2:=fun W (h:Below wr.heap.size wr W)=>own_below hown h;have HO:=zh hown2;clear hown2 hown
   have HB:=zh hB;have hlk:k < 4294967296:=by omega
   go_wp2_with fail
   refine(HOF.out xs[k] _).mono ?_;rintro e w1 ⟨rfl,hb1⟩;have hw1:Below wr.heap.size wr w1:=((zb _ wr).alloc (zn _) _).trans (hb1.mono (by simp));have hown1:=HO.out w1 hw1;have HW1:=zh hw1;clear hw1 hb1
   have hbase:w.heap.size≤w1.heap.size:=zr HB.out.size HW1.out.size;go_wp2_with (at_builtin;refine D6 rfl _ _ 43 rfl w.heap.size 9 Jb Tryz.underlying43 rfl (by decide) (by decide) w1 _ _ _ rfl hown1 _ rfl rfl rfl (by simp[Value.oneCell']) hlk hbase ?_;intro v' w2 hown' hgrow)
   refine⟨⟨k+1,by simp;omega,by go_num,?_,Bl hown1 hgrow (HB.out.trans (HW1.out.mono HB.out.size)) (zn _) hbase⟩,by simp[intOf];omega⟩;rw[List.take_add_one,List.getElem?_map,zG hlt];simpa using hown'
  ·obtain rfl:k=xs.length:=by omega
   go_wp2
   go_ret
   refine⟨_,rfl,?_,hB⟩;rw[List.take_of_length_le (by simp)] at hown;exact hown
open Go.RowKit
def idxOf {α:Type} (p:α→Bool):List α→Int
 | []=> -1
 |x::xs=>if p x then 0 else if idxOf p xs < 0 then -1 else idxOf p xs+1
theorem Arp {α:Type} (p:α→Bool):∀xs:List α,-1≤idxOf p xs
 | []=>by simp[idxOf]
 |x::xs=>by
  have:=Arp p xs;unfold idxOf
  split
  ·omega
  ·split<;>omega
theorem M5 {α:Type} (p:α→Bool):∀xs:List α,decide (0≤idxOf p xs)=xs.any p
 | []=>rfl
 |x::xs=>by
  have:=M5 p xs;unfold idxOf;rw[List.any_cons,←this];by_cases h:p x=true
  ·simp[h]
  ·have h':p x=false:=by simpa using h
   rw[zq h,h',Bool.false_or,Bool.eq_iff_iff]
   split<;>simp<;>omega
theorem idxOf_hit {α:Type} {p:α→Bool} :∀ {xs:List α} {k:Nat},(∀j x,j < k→xs[j]? =some x→p x=false)→(h:k < xs.length)→p xs[k]=true→idxOf p xs=k
 |x::xs,0,_,_,hp=>by simp only[zE] at hp;simp[idxOf,hp]
 |x::xs,k+1,hall,h,hp=>by
  have h0:p x=false:=hall 0 x (by omega) rfl;have ih:=idxOf_hit (p:=p) (xs:=xs) (k:=k) (fun j y hj hy=>hall (j+1) y (by omega) hy) (by simpa using h) (by simpa using hp);unfold idxOf;rw[h0,ih];simp only[Bool.false_eq_true,if_false];rw[zq (by omega)];omega
theorem idxOf_miss {α:Type} {p:α→Bool} :∀ {xs:List α} {k:Nat},(∀j x,j < k→xs[j]? =some x→p x=false)→xs.length≤k→idxOf p xs= -1
 | [],_,_,_=>rfl
 |x::xs,k,hall,h=>by
  rw[List.length_cons] at h;have h0:p x=false:=hall 0 x (by omega) rfl;have ih:=idxOf_miss (p:=p) (xs:=xs) (k:=k - 1) (fun j y hj hy=>hall (j+1) y (by omega) hy) (by omega);unfold idxOf;rw[h0,ih];rfl
def Lx {α:Type} (p:α→Bool) (xs:List α) (B:Nat) (w:World) (i:Value) (wr:World):Prop:=
 ∃k:Nat,k≤xs.length∧i= .int .i64 k∧Below B w wr∧∀j x,j < k→xs[j]? =some x→p x=false
theorem Fj {α:Type} {p:α→Bool} {xs:List α} {B:Nat} {w:World} {k:Nat} {w1:World} (hall:∀j x,j < k→xs[j]? =some x→p x=false) (h:k < xs.length) (hp:p xs[k]=false) (hb:Below B w w1):
  Lx p xs B w (.int .i64 ((k:Int)+1)) w1:=
 ⟨k+1,h,by go_num,hb,fun j x hj hx=>by
  rcases Nat.lt_or_ge j k with h1|h1
  ·exact hall j x h1 hx
  ·obtain rfl:j=k:=by omega
   rw[zG h] at hx
   cases hx
   exact hp⟩
end Go.Proofs.YtaanpcjkflhomaaGreatDoor
namespace Go.Proofs.YtaanpcjkflhomaaGreatDoor
open Go.RowKit
theorem Abc (g:Nat) (lb:Array Value) (eg:∀args w,(callFunc g args).run Tryz.prog w= .ok (.enter g args) w) (p:ByteArray→Bool) (xs:List ByteArray) (a:Option Addr) (c lo:Nat) (w:World)
  (hp:∀x∈xs,∀W,Below w.heap.size w W→Calls Tryz.prog g (#[.string x]++lb) W fun e W'=>e= .returned (.bool (p x))∧Below W.heap.size W W')
  (hx:Sl w lo w.heap.size a (xs.flatMap (fun x:ByteArray=>[Value.string x]))) (hl:xs.length≤4294967296):
  Calls Tryz.prog 143 #[.slice a xs.length c,.func (.func g) #[] lb] w fun e w'=>e= .returned (.int .i64 (idxOf p xs))∧Below w.heap.size w w':=by
 have HX:=zh hx;clear hx
 have HP:=zh hp;clear hp
 go_enter Tryz.func143,Tryz.ntmps143
 go_wp2_with fail
 go_loopw [8] (fun i wr=>Lx p xs w.heap.size w i wr) (fun i _=>xs.length - (intOf i).toNat)
 case atStart=>exact⟨0,by omega,rfl,zb _ _,fun j x hj=>absurd hj (by omega)⟩
 case round=>
  obtain⟨k,hk,rfl,hB,hall⟩:=hrel;have HA:=zh hall;clear hall
  by_cases hlt:k < xs.length
  ·obtain⟨b,o,rfl,_,hb,hc⟩:=Bd (enc:=fun x:ByteArray=>[Value.string x]) (size:=1) (fun _=>rfl) (by decide) HX.out hlt
   have e0:wr.cell? ⟨b,o+k,none⟩=some (.string xs[k]):=by
    have:=(hB.cell (p:=⟨b,_,none⟩) hb).trans (hc 0 _ rfl);simpa using this
   have HPk:=zh (HP.out xs[k] (zg hlt) wr hB);have HB:=zh hB;clear hc hB
   cases hq:p xs[k]
   ·have HQ:=zh hq;clear hq
    go_wp2_with fail
    refine HPk.out.mono ?_;rw[HQ.out];rintro e w1 ⟨rfl,hb1⟩;have H1:=zh (HB.out.trans (hb1.mono HB.out.size));clear hb1
    go_wp2_with fail
    exact⟨Fj HA.out hlt HQ.out H1.out,by simp[intOf];omega⟩
   ·have HQ:=zh (idxOf_hit HA.out hlt hq)
    have HQ2:=zh hq;clear hq
    go_wp2_with fail
    refine HPk.out.mono ?_;rw[HQ2.out];rintro e w1 ⟨rfl,hb1⟩;have H1:=zh (HB.out.trans (hb1.mono HB.out.size));clear hb1
    go_wp2_with fail
    go_ret
    exact⟨by rw[HQ.out];rfl,H1.out⟩
  ·have HQ:=zh (idxOf_miss HA.out (by omega))
   go_wp2_with fail
   go_ret
   exact⟨by rw[HQ.out];rfl,hB⟩
theorem containsFunc_Str (g:Nat) (lb:Array Value) (eg:∀args w,(callFunc g args).run Tryz.prog w= .ok (.enter g args) w) (p:ByteArray→Bool) (xs:List ByteArray) (a:Option Addr) (c lo:Nat) (w:World)
  (hp:∀x∈xs,∀W,Below w.heap.size w W→Calls Tryz.prog g (#[.string x]++lb) W fun e W'=>e= .returned (.bool (p x))∧Below W.heap.size W W')
  (hx:Sl w lo w.heap.size a (xs.flatMap (fun x:ByteArray=>[Value.string x]))) (hl:xs.length≤4294967296):
  Calls Tryz.prog 111 #[.slice a xs.length c,.func (.func g) #[] lb] w fun e w'=>e= .returned (.bool (xs.any p))∧Below w.heap.size w w':=by
 have HI:=zh (Abc g lb eg p xs a c lo w hp hx hl);clear hp hx
 have hany:=M5 p xs;have HY:=zh hany;clear hany
 generalize hI:idxOf p xs=I at HI HY;clear hI;go_enter Tryz.func111,Tryz.ntmps111
 go_wp2_with fail
 refine HI.out.mono ?_;rintro e w1 ⟨rfl,hb1⟩;go_wp2_with fail
 go_ret
 exact⟨by rw[HY.out];rfl,hb1⟩
theorem Zy (g:Nat) (lb:Array Value) (eg:∀args w,(callFunc g args).run Tryz.prog w= .ok (.enter g args) w) (p:J5→Bool) (xs:List J5) (a:Option Addr) (c lo:Nat) (w:World)
  (hp:∀x∈xs,∀W,Below w.heap.size w W→Calls Tryz.prog g (#[.agg (Jt x).toArray]++lb) W fun e W'=>e= .returned (.bool (p x))∧Below W.heap.size W W')
  (hx:Sl w lo w.heap.size a (xs.flatMap (Jt))) (hl:xs.length≤4294967296):
  Calls Tryz.prog 147 #[.slice a xs.length c,.func (.func g) #[] lb] w fun e w'=>e= .returned (.int .i64 (idxOf p xs))∧Below w.heap.size w w':=by
 have HX:=zh hx;clear hx
 have HP:=zh hp;clear hp
 go_enter Tryz.func147,Tryz.ntmps147
 go_wp2_with fail
 go_loopw [8] (fun i wr=>Lx p xs w.heap.size w i wr) (fun i _=>xs.length - (intOf i).toNat)
 case atStart=>exact⟨0,by omega,rfl,zb _ _,fun j x hj=>absurd hj (by omega)⟩
 case round=>
  obtain⟨k,hk,rfl,hB,hall⟩:=hrel;have HA:=zh hall;clear hall
  by_cases hlt:k < xs.length
  ·obtain⟨b,o,rfl,_,hb,hc⟩:=Bd (enc:=Jt) (size:=2) (fun _=>rfl) (by decide) HX.out hlt
   have e0:wr.cell? ⟨b,o+k * 2,none⟩=some (.string xs[k].name):=by
    have:=(hB.cell (p:=⟨b,_,none⟩) hb).trans (hc 0 _ rfl);simpa using this
   have e1:wr.cell? ⟨b,o+k * 2+1,none⟩=some (.int .i64 xs[k].kind):=by
    have:=(hB.cell (p:=⟨b,_,none⟩) hb).trans (hc 1 _ rfl);simpa using this
   have HPk:=zh (HP.out xs[k] (zg hlt) wr hB);have HB:=zh hB;clear hc hB
   cases hq:p xs[k]
   ·have HQ:=zh hq;clear hq
    go_wp2_with fail
    refine HPk.out.mono ?_;rw[HQ.out];rintro e w1 ⟨rfl,hb1⟩;have H1:=zh (HB.out.trans (hb1.mono HB.out.size));clear hb1
    go_wp2_with fail
    exact⟨Fj HA.out hlt HQ.out H1.out,by simp[intOf];omega⟩
   ·have HQ:=zh (idxOf_hit HA.out hlt hq)
    have HQ2:=zh hq;clear hq
    go_wp2_with fail
    refine HPk.out.mono ?_;rw[HQ2.out];rintro e w1 ⟨rfl,hb1⟩;have H1:=zh (HB.out.trans (hb1.mono HB.out.size));clear hb1
    go_wp2_with fail
    go_ret
    exact⟨by rw[HQ.out];rfl,H1.out⟩
  ·have HQ:=zh (idxOf_miss HA.out (by omega))
   go_wp2_with fail
   go_ret
   exact⟨by rw[HQ.out];rfl,hB⟩
theorem containsFunc_Post (g:Nat) (lb:Array Value) (eg:∀args w,(callFunc g args).run Tryz.prog w= .ok (.enter g args) w) (p:J5→Bool) (xs:List J5) (a:Option Addr) (c lo:Nat) (w:World)
  (hp:∀x∈xs,∀W,Below w.heap.size w W→Calls Tryz.prog g (#[.agg (Jt x).toArray]++lb) W fun e W'=>e= .returned (.bool (p x))∧Below W.heap.size W W')
  (hx:Sl w lo w.heap.size a (xs.flatMap (Jt))) (hl:xs.length≤4294967296):
  Calls Tryz.prog 116 #[.slice a xs.length c,.func (.func g) #[] lb] w fun e w'=>e= .returned (.bool (xs.any p))∧Below w.heap.size w w':=by
 have HI:=zh (Zy g lb eg p xs a c lo w hp hx hl);clear hp hx
 have hany:=M5 p xs;have HY:=zh hany;clear hany
 generalize hI:idxOf p xs=I at HI HY;clear hI;go_enter Tryz.func116,Tryz.ntmps116
 go_wp2_with fail
 refine HI.out.mono ?_;rintro e w1 ⟨rfl,hb1⟩;go_wp2_with fail
 go_ret
 exact⟨by rw[HY.out];rfl,hb1⟩
theorem Yb (g:Nat) (lb:Array Value) (eg:∀args w,(callFunc g args).run Tryz.prog w= .ok (.enter g args) w) (p:Ge→Bool) (xs:List Ge) (a:Option Addr) (c lo:Nat) (w:World)
  (hp:∀x∈xs,∀W,Below w.heap.size w W→Calls Tryz.prog g (#[.agg (Hc x).toArray]++lb) W fun e W'=>e= .returned (.bool (p x))∧Below W.heap.size W W')
  (hx:Sl w lo w.heap.size a (xs.flatMap (Hc))) (hl:xs.length≤4294967296):
  Calls Tryz.prog 148 #[.slice a xs.length c,.func (.func g) #[] lb] w fun e w'=>e= .returned (.int .i64 (idxOf p xs))∧Below w.heap.size w w':=by
 have HX:=zh hx;clear hx
 have HP:=zh hp;clear hp
 go_enter Tryz.func148,Tryz.ntmps148
 go_wp2_with fail
 go_loopw [8] (fun i wr=>Lx p xs w.heap.size w i wr) (fun i _=>xs.length - (intOf i).toNat)
 case atStart=>exact⟨0,by omega,rfl,zb _ _,fun j x hj=>absurd hj (by omega)⟩
 case round=>
  obtain⟨k,hk,rfl,hB,hall⟩:=hrel;have HA:=zh hall;clear hall
  by_cases hlt:k < xs.length
  ·obtain⟨b,o,rfl,_,hb,hc⟩:=Bd (enc:=Hc) (size:=3) (fun _=>rfl) (by decide) HX.out hlt
   have e0:wr.cell? ⟨b,o+k * 3,none⟩=some (.string xs[k].name):=by
    have:=(hB.cell (p:=⟨b,_,none⟩) hb).trans (hc 0 _ rfl);simpa using this
   have e1:wr.cell? ⟨b,o+k * 3+1,none⟩=some (.int .i64 xs[k].bm):=by
    have:=(hB.cell (p:=⟨b,_,none⟩) hb).trans (hc 1 _ rfl);simpa using this
   have e2:wr.cell? ⟨b,o+k * 3+2,none⟩=some (.int .i64 xs[k].dead):=by
    have:=(hB.cell (p:=⟨b,_,none⟩) hb).trans (hc 2 _ rfl);simpa using this
   have HPk:=zh (HP.out xs[k] (zg hlt) wr hB);have HB:=zh hB;clear hc hB
   cases hq:p xs[k]
   ·have HQ:=zh hq;clear hq
    go_wp2_with fail
    refine HPk.out.mono ?_;rw[HQ.out];rintro e w1 ⟨rfl,hb1⟩;have H1:=zh (HB.out.trans (hb1.mono HB.out.size));clear hb1
    go_wp2_with fail
    exact⟨Fj HA.out hlt HQ.out H1.out,by simp[intOf];omega⟩
   ·have HQ:=zh (idxOf_hit HA.out hlt hq)
    have HQ2:=zh hq;clear hq
    go_wp2_with fail
    refine HPk.out.mono ?_;rw[HQ2.out];rintro e w1 ⟨rfl,hb1⟩;have H1:=zh (HB.out.trans (hb1.mono HB.out.size));clear hb1
    go_wp2_with fail
    go_ret
    exact⟨by rw[HQ.out];rfl,H1.out⟩
  ·have HQ:=zh (idxOf_miss HA.out (by omega))
   go_wp2_with fail
   go_ret
   exact⟨by rw[HQ.out];rfl,hB⟩
theorem containsFunc_Queue (g:Nat) (lb:Array Value) (eg:∀args w,(callFunc g args).run Tryz.prog w= .ok (.enter g args) w) (p:Ge→Bool) (xs:List Ge) (a:Option Addr) (c lo:Nat) (w:World)
  (hp:∀x∈xs,∀W,Below w.heap.size w W→Calls Tryz.prog g (#[.agg (Hc x).toArray]++lb) W fun e W'=>e= .returned (.bool (p x))∧Below W.heap.size W W')
  (hx:Sl w lo w.heap.size a (xs.flatMap (Hc))) (hl:xs.length≤4294967296):
  Calls Tryz.prog 118 #[.slice a xs.length c,.func (.func g) #[] lb] w fun e w'=>e= .returned (.bool (xs.any p))∧Below w.heap.size w w':=by
 have HI:=zh (Yb g lb eg p xs a c lo w hp hx hl);clear hp hx
 have hany:=M5 p xs;have HY:=zh hany;clear hany
 generalize hI:idxOf p xs=I at HI HY;clear hI;go_enter Tryz.func118,Tryz.ntmps118
 go_wp2_with fail
 refine HI.out.mono ?_;rintro e w1 ⟨rfl,hb1⟩;go_wp2_with fail
 go_ret
 exact⟨by rw[HY.out];rfl,hb1⟩
theorem Zx (g:Nat) (lb:Array Value) (eg:∀args w,(callFunc g args).run Tryz.prog w= .ok (.enter g args) w) (p:B4→Bool) (xs:List B4) (a:Option Addr) (c lo:Nat) (w:World)
  (hp:∀x∈xs,∀W,Below w.heap.size w W→Calls Tryz.prog g (#[.agg (D4 x).toArray]++lb) W fun e W'=>e= .returned (.bool (p x))∧Below W.heap.size W W')
  (hx:Sl w lo w.heap.size a (xs.flatMap (D4))) (hl:xs.length≤4294967296):
  Calls Tryz.prog 149 #[.slice a xs.length c,.func (.func g) #[] lb] w fun e w'=>e= .returned (.int .i64 (idxOf p xs))∧Below w.heap.size w w':=by
 have HX:=zh hx;clear hx
 have HP:=zh hp;clear hp
 go_enter Tryz.func149,Tryz.ntmps149
 go_wp2_with fail
 go_loopw [8] (fun i wr=>Lx p xs w.heap.size w i wr) (fun i _=>xs.length - (intOf i).toNat)
 case atStart=>exact⟨0,by omega,rfl,zb _ _,fun j x hj=>absurd hj (by omega)⟩
 case round=>
  obtain⟨k,hk,rfl,hB,hall⟩:=hrel;have HA:=zh hall;clear hall
  by_cases hlt:k < xs.length
  ·obtain⟨b,o,rfl,_,hb,hc⟩:=Bd (enc:=D4) (size:=4) (fun _=>rfl) (by decide) HX.out hlt
   have e0:wr.cell? ⟨b,o+k * 4,none⟩=some (.int .i64 xs[k].src):=by
    have:=(hB.cell (p:=⟨b,_,none⟩) hb).trans (hc 0 _ rfl);simpa using this
   have e1:wr.cell? ⟨b,o+k * 4+1,none⟩=some (.bool xs[k].cd):=by
    have:=(hB.cell (p:=⟨b,_,none⟩) hb).trans (hc 1 _ rfl);simpa using this
   have e2:wr.cell? ⟨b,o+k * 4+2,none⟩=some (.int .i64 xs[k].to):=by
    have:=(hB.cell (p:=⟨b,_,none⟩) hb).trans (hc 2 _ rfl);simpa using this
   have e3:wr.cell? ⟨b,o+k * 4+3,none⟩=some (.string xs[k].pattern):=by
    have:=(hB.cell (p:=⟨b,_,none⟩) hb).trans (hc 3 _ rfl);simpa using this
   have HPk:=zh (HP.out xs[k] (zg hlt) wr hB);have HB:=zh hB;clear hc hB
   cases hq:p xs[k]
   ·have HQ:=zh hq;clear hq
    go_wp2_with fail
    refine HPk.out.mono ?_;rw[HQ.out];rintro e w1 ⟨rfl,hb1⟩;have H1:=zh (HB.out.trans (hb1.mono HB.out.size));clear hb1
    go_wp2_with fail
    exact⟨Fj HA.out hlt HQ.out H1.out,by simp[intOf];omega⟩
   ·have HQ:=zh (idxOf_hit HA.out hlt hq)
    have HQ2:=zh hq;clear hq
    go_wp2_with fail
    refine HPk.out.mono ?_;rw[HQ2.out];rintro e w1 ⟨rfl,hb1⟩;have H1:=zh (HB.out.trans (hb1.mono HB.out.size));clear hb1
    go_wp2_with fail
    go_ret
    exact⟨by rw[HQ.out];rfl,H1.out⟩
  ·have HQ:=zh (idxOf_miss HA.out (by omega))
   go_wp2_with fail
   go_ret
   exact⟨by rw[HQ.out];rfl,hB⟩
theorem containsFunc_Bind (g:Nat) (lb:Array Value) (eg:∀args w,(callFunc g args).run Tryz.prog w= .ok (.enter g args) w) (p:B4→Bool) (xs:List B4) (a:Option Addr) (c lo:Nat) (w:World)
  (hp:∀x∈xs,∀W,Below w.heap.size w W→Calls Tryz.prog g (#[.agg (D4 x).toArray]++lb) W fun e W'=>e= .returned (.bool (p x))∧Below W.heap.size W W')
  (hx:Sl w lo w.heap.size a (xs.flatMap (D4))) (hl:xs.length≤4294967296):
  Calls Tryz.prog 120 #[.slice a xs.length c,.func (.func g) #[] lb] w fun e w'=>e= .returned (.bool (xs.any p))∧Below w.heap.size w w':=by
 have HI:=zh (Zx g lb eg p xs a c lo w hp hx hl);clear hp hx
 have hany:=M5 p xs;have HY:=zh hany;clear hany
 generalize hI:idxOf p xs=I at HI HY;clear hI;go_enter Tryz.func120,Tryz.ntmps120
 go_wp2_with fail
 refine HI.out.mono ?_;rintro e w1 ⟨rfl,hb1⟩;go_wp2_with fail
 go_ret
 exact⟨by rw[HY.out];rfl,hb1⟩
open Go.RowKit
theorem Aop (r:Int) (w:World):
  Calls Tryz.prog 146 #[.int .i32 r] w fun e w'=>e= .returned (.bool (far r))∧w=w':=by
 go_enter Tryz.func146,Tryz.ntmps146
 go_wp2
 all_goals go_ret
 all_goals refine⟨?_,rfl⟩
 all_goals(refine congrArg (fun b=>Ending.returned (Value.bool b)) ?_;rw[Bool.eq_iff_iff];simp[far]<;>omega)
theorem Arf:∀args w,(callFunc 146 args).run Tryz.prog w= .ok (.enter 146 args) w:=enters_of Tryz.func146 (by kernel_rfl) rfl
theorem Aeh (s:ByteArray) (w:World):
  Calls Tryz.prog 145 #[.string s,.func (.func 146) #[] #[]] w fun e w'=>e= .returned (.bool (s.toList.any fun c=>far (c.toNat:Int)))∧Below w.heap.size w w':=
 (Tryz.strings_ContainsFunc_grows _ #[] Arf (fun n=>far (n:Int)) s w (fun W x _ _=>(Aop x W).mono (by rintro e w' ⟨rfl,rfl⟩;exact⟨rfl,zb _ _⟩))).mono (by rintro e w' ⟨rfl,hb⟩;exact⟨by rw[Aut],hb⟩)
theorem Abo (s:ByteArray) (w:World):
  Calls Tryz.prog 114 #[.string s] w fun e w'=>e= .returned (.bool (Nm s))∧Below w.heap.size w w':=by
 go_enter Tryz.func114,Tryz.ntmps114
 go_wp2_with (go_at_call 145;refine(Aeh _ _).mono ?_;rintro e w1 ⟨rfl,hb⟩)
 all_goals go_ret
 all_goals refine⟨?_,by first|exact zb _ _|assumption⟩
 all_goals(refine congrArg (fun b=>Ending.returned (Value.bool b)) ?_;unfold Nm;first|(simp[*];done)|(simp[*];omega))
theorem B8 (n lo hi:Int) (w:World):
  Calls Tryz.prog 61 #[.int .i64 n,.int .i64 lo,.int .i64 hi] w fun e w'=>e= .returned (.bool (decide (lo≤n) && decide (n≤hi)))∧w=w':=by
 go_enter Tryz.func61,Tryz.ntmps61
 go_wp2
 all_goals go_ret
 all_goals refine⟨?_,rfl⟩
 all_goals(refine congrArg (fun b=>Ending.returned (Value.bool b)) ?_;rw[Bool.eq_iff_iff];simp<;>omega)
def At5 (s:ByteArray) (w:World) (i:Value) (wr:World):Prop:=
 ∃k:Nat,k≤s.size∧i= .int .i64 k∧w=wr∧∀j (h:j < s.size),j < k→far (s[j].toNat:Int)=false
theorem Aho {s:ByteArray} (h:∀j (h:j < s.size),far (s[j].toNat:Int)=false):(s.toList.any fun c=>far (c.toNat:Int))=false:=by
 rw[List.any_eq_false];intro c hc;obtain⟨j,hj,rfl⟩:=List.mem_iff_getElem.1 hc;have hs:j < s.size:=by simpa [ByteArray.toList_eq] using hj
 have:=h j hs;rw[Bool.not_eq_true,←this];simp only[ByteArray.toList_eq];rfl
theorem Vp (s:ByteArray) (hs:s.size < 4294967281) (w:World):
  Calls Tryz.prog 86 #[.string s] w fun e w'=>e= .returned (.bool (Nm s))∧w=w':=by
 go_enter Tryz.func86,Tryz.ntmps86
 go_wp2_with fail
 go_loopw [3] (fun i wr=>At5 s w i wr) (fun i _=>s.size - (intOf i).toNat)
 case atStart=>exact⟨0,by omega,rfl,rfl,fun j _ hj=>absurd hj (by omega)⟩
 case round=>
  obtain⟨k,hk,rfl,rfl,hall⟩:=hrel;have HA:=zh hall;clear hall
  by_cases hlt:k < s.size
  ·by_cases hq:far (s[k].toNat:Int)=true
   ·have HN:Hid (Nm s=false):=by
     have:(s.toList.any fun c=>far (c.toNat:Int))=true:=by
      refine List.any_eq_true.2 ⟨s[k],?_,hq⟩;rw[ByteArray.toList_eq];exact List.mem_iff_getElem.2 ⟨k,by simpa using hlt,rfl⟩
     exact(by simp[Nm,this]:Nm s=false)
    have hq':s[k].toNat < 97∨122 < s[k].toNat:=by
     simp[far] at hq;omega
    clear hq;go_wp2_with fail
    all_goals first
     |(go_ret;exact⟨by rw[HN.out];rfl,rfl⟩)
     |omega
   ·have hq':97≤s[k].toNat∧s[k].toNat≤122:=by
     simp[far] at hq;omega
    have HQ:Hid (far (s[k].toNat:Int)=false):=(by simpa using hq:far (s[k].toNat:Int)=false);clear hq;go_wp2_with fail
    exact⟨⟨k+1,hlt,by go_num,rfl,fun j h hj=>by
     rcases Nat.lt_or_ge j k with h1|h1
     ·exact HA.out j h h1
     ·obtain rfl:j=k:=by omega
      exact HQ.out⟩,by simp[intOf];omega⟩
  ·obtain rfl:k=s.size:=by omega
   have HN:Hid (Nm s=(decide (1≤(s.size:Int)) && decide ((s.size:Int)≤8))):=by
    have:=Aho (s:=s) fun j h=>HA.out j h h;refine(?_:Nm s=_);unfold Nm;rw[this,Bool.not_false,Bool.and_true,Bool.eq_iff_iff];simp;omega
   go_wp2_with fail
   refine(B8 _ _ _ _).mono ?_;rintro e w1 ⟨rfl,rfl⟩;go_wp2_with fail
   go_ret
   exact⟨by rw[HN.out];rfl,rfl⟩
open Go.RowKit
open Go.Maps Go.WideMaps in
def Apq (l:List ByteArray) (w:World) (i:Value) (wr:World):Prop:=
 ∃(k:Nat) (D:DataW Unit),k≤l.length∧i= .int .i64 k∧wr.ownsMap Tryz.prog 9 (plainElem Tryz.prog 3) w.heap.size k D∧Tidy D∧(∀s:ByteArray,has D (.string s.data.toList)=true↔s∈l.take k)∧
  (decide (size D < k)=dup (l.take k))∧size D≤k∧Below w.heap.size w wr
theorem Atc (s:ByteArray):WideAt.IsKeyLit (.string s.data.toList):=trivial
theorem Yg {s t:ByteArray} (h:Lit.string s.data.toList=Lit.string t.data.toList):s=t:=by
 simp only[Lit.string.injEq] at h;exact toList_inj (by rw[ByteArray.toList_eq,ByteArray.toList_eq];exact h)
open Go.Maps in
theorem Ajj {l:List ByteArray} {k:Nat} {D:DataW Unit} (hk:k < l.length) (ht:Tidy D) (hh:∀s:ByteArray,has D (.string s.data.toList)=true↔s∈l.take k) (hd:decide (size D < k)=dup (l.take k)) (hs:size D≤k) (d:DataW Unit):
  Tidy (D.put (.string l[k].data.toList) d)∧(∀s:ByteArray,has (D.put (.string l[k].data.toList) d) (.string s.data.toList)=true↔s∈l.take (k+1))∧
   (decide (size (D.put (.string l[k].data.toList) d) < k+1)=dup (l.take (k+1)))∧size (D.put (.string l[k].data.toList) d)≤k+1:=by
 refine⟨ht.put (Atc _) d,fun s=> ?_,?_,?_⟩
 ·have ea:l.take (k+1)=l.take k++[l[k]]:=zj hk
  by_cases e:s=l[k]
  ·subst e
   rw[has_put_same ht.isMap (Atc _),ea];exact⟨fun _=>List.mem_append_right _ (List.mem_cons_self ..),fun _=>rfl⟩
  ·rw[has_put_other (fun h=>e (Yg h)),hh s,ea,List.mem_append]
   exact⟨.inl,fun h=>h.elim id fun h=>absurd (List.mem_singleton.1 h) e⟩
 ·rw[size_put ht]
  have hhk:=hh l[k];unfold dup at hd⊢;have hn:=Aab hk;by_cases hm:l[k]∈l.take k
  ·have:¬ (l.take (k+1)).Nodup:=fun h=>(hn.1 h).2 hm
   rw[hhk.2 hm];simp[this];omega
  ·have hf:has D (.string l[k].data.toList)=false:=by
    rw[←Bool.not_eq_true];exact fun h=>hm (hhk.1 h)
   rw[hf];by_cases hnd:(l.take k).Nodup
   ·have h2:=hn.2 ⟨hnd,hm⟩
    simp[hnd] at hd;simp[h2];omega
   ·have h2:¬ (l.take (k+1)).Nodup:=fun h=>hnd (hn.1 h).1
    simp[hnd] at hd;simp[h2];omega
 ·rw[size_put ht]
  split<;>omega
open Go.Maps Go.WideMaps in
theorem Abu (a:Option Addr) (c:Nat) (l:List ByteArray) (lo:Nat) (w:World) (hx:Sl w lo w.heap.size a (l.map Value.string)) (hl:l.length≤1048576) (hsz:∀s∈l,s.size≤maxLen):
  Calls Tryz.prog 115 #[.slice a l.length c] w fun e w'=>e= .returned (.bool (dup l))∧Below w.heap.size w w':=by
 have hmm:= @run_makeMap Tryz.prog;have HX:=zh hx;clear hx
 have HZ:=zh hsz;clear hsz
 go_enter Tryz.func115,Tryz.ntmps115
 go_wp2_with fail
 go_loopw [9] (fun i wr=>Apq l w i wr) (fun i _=>l.length - (intOf i).toNat)
 case atStart=>
  exact⟨0,.map [],by omega,rfl,World.ownsMap_made _ _ _ _,tidy_empty,fun s=>by simp[has],by simp[size,dup],by simp[size],(zb _ _).alloc (zn _) _⟩
 case round=>
  obtain⟨k,D,hk,rfl,hown,ht,hh,hd,hs,hB⟩:=hrel;have HF:=zh (zi ht (zi hh (zi hd hs)));clear ht hh hd hs
  have HO:=zh hown;clear hown
  by_cases hlt:k < l.length
  ·obtain⟨b,o,rfl,_,hb,hc⟩:=HX.out.at_ (k:=k) (by simpa using hlt)
   have e0:wr.cell? ⟨b,o+k,none⟩=some (.string l[k]):=(hB.cell (p:=⟨b,_,none⟩) hb).trans (hc k _ (by simp[hlt]));have hkey:keyOf Tryz.prog 9 (.string l[k])=some (.string l[k].data.toList):=keyOf_string_mk Tryz.underlying9 (HZ.out _ (zg hlt));have HS:=zh (fun d=>Ajj hlt HF.out.1 HF.out.2.1 HF.out.2.2.1 HF.out.2.2.2 d);clear HF
   have HK:=zh hkey;clear hkey
   have HB:=zh hB;clear hB hc
   generalize hsk:l[k]=sk at *;go_wp2_with (first
    |(at_lookup;refine wpList_lookup_own_int _ rfl _ _ 184 rfl 9 3 .i64 (string_keyed Tryz.underlying9) Tryz.underlying184 Tryz.underlying3 (by kernel_rfl) _ _ D rfl HO.out _ _ rfl HK.out ?_;intro cnt hat hwc;have HW:=zh hat;clear hat hwc)
    |(at_mapUpdate;refine wpList_mapUpdate_own _ rfl _ _ _ 184 rfl 9 3 (string_keyed Tryz.underlying9) Tryz.underlying184 _ _ k D rfl HO.out (by unfold maxLen;omega) _ _ _ rfl rfl HK.out _ [] (plainElem_int Tryz.underlying3 (wrap64_wf _)) ?_;intro w1 hown1 hgrow1))
   obtain⟨s1,s2,s3,s4⟩:=HS.out _;exact⟨⟨k+1,_,hlt,by go_num,hown1,s1,s2,s3,s4,HB.out.grown hgrow1 HB.out.size (fun j hj=>by cases hj;exact zn _)⟩,by simp[intOf];omega⟩
  ·obtain rfl:k=l.length:=by omega
   have hd:=HF.out.2.2.1;rw[List.take_of_length_le (zn _)] at hd;have HD:=zh hd;clear hd
   go_wp2_with (at_len;refine wpList_len_own _ rfl _ 184 rfl 9 3 Tryz.underlying184 _ _ _ D rfl HO.out ?_)
   go_ret
   refine⟨?_,hB⟩;rw[←HD.out];refine congrArg (fun b=>Ending.returned (Value.bool b)) ?_;simp
open Go.RowKit
theorem Apv (n:Nat) (hn:n≤4194304) (w:World):
  Calls Tryz.prog 144 #[.slice none 0 0,.int .i64 n] w fun e w'=>∃v,e= .returned v∧w'.ownsRow w.heap.size 9 1 v 0 []∧Below w.heap.size w w':=by
 by_cases h0:n=0
 ·subst h0
  go_enter Tryz.func144,Tryz.ntmps144
  go_wp2_with fail
  go_ret
  exact⟨_,rfl,World.ownsRow_nil _ _ _ _,zb _ _⟩
 ·obtain⟨i,hi,hz0,hz1,hz2⟩:=info_parts (P:=Tryz.prog) Jb
  have hrz:∀ty,∃v w',(Builtin.append_ #[43,3] ty #[.slice none 0 0,.int .i64 (n:Int)]).run Tryz.prog w= .ok v w'∧∃cap,v= .slice (some ⟨w.heap.size,0,none⟩) n cap∧n≤cap∧cap≤9223372036854775807∧(w'.ownsRow w.heap.size 9 1 (.slice (some ⟨w.heap.size,0,none⟩) 0 cap) 0 [])∧Below w.heap.size w w':=fun ty=>by
   have hfit:Builtin.nextslicecap (0+n) 0 * i.bytes≤281474976710656:=by
    refine growslice_fits (by omega) ?_;rw[hz2];omega
   have h:=Lib.run_append_grow_zeros w 43 3 ty 9 i _ .i64 .i64 Tryz.underlying43 Tryz.underlying3 hi hz0 none 0 0 [] (run_firstCells_none w.drew i.size 0 0 0) n (by omega) (by rw[hz1];decide) (by omega) (by omega) (by rw[hz2];omega) hfit;rw[Nat.zero_add] at h;have hG:=grownCap_ge w n 0 9;have hG2:=grownCap_le_maxLen w n 0 9 (by unfold maxLen;omega);refine⟨_,_,h,_,rfl,hG,by unfold maxLen at hG2;omega,?_,(zb _ w).drew.alloc (zn _) _⟩;refine⟨rfl,.inr ⟨w.heap.size,_,_,rfl,zn _,heap_alloc_new w.drew _,by omega,hG2,?_,rfl⟩⟩;simp only[Array.size_append,size_zeroCells,List.size_toArray,List.length_nil];simp only[Value.cells,Array.size_singleton];omega
  go_enter Tryz.func144,Tryz.ntmps144
  obtain⟨v,w1,hr,cap,rfl,hc1,hc2,hown,hB⟩:=hrz 43;have HO:=zh hown;clear hown hrz
  go_wp2_with (at_builtin;refine Lib.wpList_append_run _ rfl _ _ _ _ rfl _ _ rfl rfl _ _ hr ?_)
  all_goals go_ret
  all_goals exact⟨_,rfl,HO.out,hB⟩
def Atx (L:List (List ByteArray)) (w:World) (sz i:Value) (wr:World):Prop:=
 ∃k:Nat,k≤L.length∧i= .int .i64 k∧sz= .int .i64 ((L.take k).flatten.length:Nat)∧w=wr
def Aty (L:List (List ByteArray)) (w:World) (v i:Value) (wr:World):Prop:=
 ∃k:Nat,k≤L.length∧i= .int .i64 k∧wr.ownsRow w.heap.size 9 1 v (L.take k).flatten.length ((L.take k).flatten.map Value.string)∧Below w.heap.size w wr
theorem Ab7 {α:Type} {L:List (List α)} {k:Nat} (h:k < L.length):(L.take (k+1)).flatten=(L.take k).flatten++L[k]:=by
 rw[zj h,List.flatten_append];simp
theorem Aek {α:Type} (L:List (List α)) (k:Nat):(L.take k).flatten.length≤L.flatten.length:=by
 have h:L.flatten=(L.take k).flatten++(L.drop k).flatten:=by rw[←List.flatten_append,List.take_append_drop]
 rw[h,ze];omega
theorem Ai4 (L:List (List ByteArray)) (A:List (Option Addr×Nat)) (hA:A.length=L.length) (b o c:Nat) (w:World) (hL:L.length≤4194304) (hn:L.flatten.length≤4194304) (hb:b < w.heap.size)
  (hcells:∀k (h:k < L.length),w.cell? ⟨b,o+k,none⟩=some (.slice (A[k]'(by omega)).1 L[k].length (A[k]'(by omega)).2))
  (hsl:∀k (h:k < L.length),Sl w 0 w.heap.size (A[k]'(by omega)).1 (L[k].map Value.string)):
  Calls Tryz.prog 112 #[.slice (some ⟨b,o,none⟩) L.length c] w fun e w'=>∃v,e= .returned v∧w'.ownsRow w.heap.size 9 1 v L.flatten.length (L.flatten.map Value.string)∧Below w.heap.size w w':=by
 have HC:=zh hcells;clear hcells
 have HL:=zh hsl;clear hsl
 go_enter Tryz.func112,Tryz.ntmps112
 go_wp2_with fail
 go_loopw [3,11] (fun s i wr=>Atx L w s i wr) (fun _ i _=>L.length - (intOf i).toNat)
 case atStart=>exact⟨0,by omega,rfl,rfl,rfl⟩
 case round=>
  obtain⟨k,hk,rfl,rfl,rfl⟩:=hrel;have hle:=Aek L k;by_cases hlt:k < L.length
  ·have e0:=HC.out k hlt
   have hfl:=Ab7 hlt;have hle2:=Aek L (k+1);rw[hfl,ze] at hle2;have HF:Hid ((L.take (k+1)).flatten.length=(L.take k).flatten.length+L[k].length):=(by rw[hfl,ze]:(L.take (k+1)).flatten.length=(L.take k).flatten.length+L[k].length);clear hfl;generalize hS:(L.take k).flatten.length=S at *;generalize hx:L[k].length=X at *;generalize hAk:(A[k]'(by omega))=ak at *;clear hAk hS hx;go_wp2_with fail
   exact⟨⟨k+1,hlt,by go_num,by rw[HF.out];go_num,rfl⟩,by simp[intOf];omega⟩
  ·obtain rfl:k=L.length:=by omega
   have HT:Hid (L.take L.length=L):=List.take_length;rw[HT.out] at hle;rw[HT.out];obtain⟨T,hT⟩:∃T,L.flatten.length=T:=⟨_,rfl⟩;have HTT:=zh hT;rw[hT] at hn hle⊢;clear hT;go_wp2_with fail
   refine(Apv _ hn _).mono ?_;rintro e w1 ⟨v,rfl,hown,hB⟩;go_wp2_with fail
   go_loopw [6,27] (fun v i wr=>Aty L w v i wr) (fun _ i _=>L.length - (intOf i).toNat)
   case atStart=>exact⟨0,by omega,rfl,hown,hB⟩
   case round=>
    obtain⟨k,hk,rfl,hown,hB⟩:=hrel;by_cases hlt:k < L.length
    ·have e0:=(hB.cell (p:=⟨b,o+k,none⟩) hb).trans (HC.out k hlt)
     have hs:=(HL.out k hlt).below hB (zn _);have hle:=HTT.out▸Aek L (k+1);have hfl:=Ab7 hlt;rw[hfl,ze] at hle;have HFL:=zh hfl;clear hfl
     have HO:=zh hown;clear hown
     have HS:=zh hs;clear hs
     have hsum:(L.take k).flatten.length+L[k].length≤4294967296:=by omega
     have hbase:=hB.size;go_wp2_with (at_builtin;refine Yo rfl _ _ 43 rfl w.heap.size 9 Jb Tryz.underlying43 rfl (by decide) (by decide) _ _ _ rfl HO.out _ _ _ rfl 0 w.heap.size (L[k].map Value.string) (by simp) HS.out (by simp[Value.oneCell']) hsum hbase ?_;intro v' w2 hown' hgrow)
     refine⟨⟨k+1,hlt,by go_num,?_,Bl HO.out hgrow hB (zn _) hbase⟩,by simp[intOf];omega⟩;rw[HFL.out,ze,List.map_append];exact hown'
    ·obtain rfl:k=L.length:=by omega
     rw[List.take_length] at hown;have HO:=zh hown;clear hown
     go_wp2_with fail
     go_ret
     exact⟨_,rfl,by rw[←HTT.out];exact HO.out,hB⟩
open Go.RowKit
def Ng (x:J5):Bool:=decide (x.kind < 1) || decide (3 < x.kind)
def Jq (n:Nat) (x:Ge):Bool:=decide (x.bm < 1) || decide (6 < x.bm) || decide (x.dead < -1) || decide ((n:Int)≤x.dead)
def Uy (aj ag:Nat) (b:B4):Bool:=decide (0≤b.src) && decide (b.src < (aj:Int)) && decide (0≤b.to) && decide (b.to < (if b.cd then (aj:Int) else (ag:Int)))
theorem Ajv (x:J5) (w:World):Calls Tryz.prog 108 #[.agg (Jt x).toArray] w fun e W'=>e= .returned (.string x.name)∧Below w.heap.size w W':=by
 unfold Jt;go_enter Tryz.func108,Tryz.ntmps108
 go_wp2
 go_ret
 exact⟨rfl,(zb _ _).alloc (zn _) _⟩
theorem Ajw (x:Ge) (w:World):Calls Tryz.prog 110 #[.agg (Hc x).toArray] w fun e W'=>e= .returned (.string x.name)∧Below w.heap.size w W':=by
 unfold Hc;go_enter Tryz.func110,Tryz.ntmps110
 go_wp2
 go_ret
 exact⟨rfl,(zb _ _).alloc (zn _) _⟩
theorem Ajx (s:ByteArray) (w:World):Calls Tryz.prog 113 #[.string s] w fun e W'=>e= .returned (.bool (!Nm s))∧Below w.heap.size w W':=by
 go_enter Tryz.func113,Tryz.ntmps113
 go_wp2_with fail
 refine(Abo s _).mono ?_;rintro e w1 ⟨rfl,hb⟩;go_wp2_with fail
 go_ret
 exact⟨rfl,hb⟩
theorem Ajy (x:J5) (w:World):Calls Tryz.prog 117 #[.agg (Jt x).toArray] w fun e W'=>e= .returned (.bool (Ng x))∧Below w.heap.size w W':=by
 unfold Jt;go_enter Tryz.func117,Tryz.ntmps117
 go_wp2
 all_goals go_ret
 all_goals refine⟨?_,(zb _ _).alloc (zn _) _⟩
 all_goals(refine congrArg (fun b=>Ending.returned (Value.bool b)) ?_;rw[Bool.eq_iff_iff];simp[Ng]<;>omega)
theorem Ajz (x:Ge) (g:Nat) (a:Option Addr) (n c:Nat) (w:World) (_hn:n≤4194304) (hg:w.cell? ⟨g,0,none⟩=some (.slice a n c)):
  Calls Tryz.prog 119 #[.agg (Hc x).toArray,.pointer (some ⟨g,0,none⟩)] w fun e W'=>e= .returned (.bool (Jq n x))∧Below w.heap.size w W':=by
 have hlt:=lt_of_cell hg;have hg':∀o,(w.alloc o).cell? ⟨g,0,none⟩=some (.slice a n c):=fun o=>(((zb w.heap.size w).alloc (zn _) o).cell (p:=⟨g,0,none⟩) hlt).trans hg;unfold Hc;go_enter Tryz.func119,Tryz.ntmps119
 go_wp2
 all_goals go_ret
 all_goals refine⟨?_,(zb _ _).alloc (zn _) _⟩
 all_goals(refine congrArg (fun b=>Ending.returned (Value.bool b)) ?_;simp[Jq]<;>omega)
theorem Aqp (x:B4) (a1 a2 a3:Option Addr) (n1 n2 n3 c1 c2 c3:Nat) (w:World) (_hn:n1≤4194304) (_hn2:n2≤4194304):
  Calls Tryz.prog 122 #[.agg #[.slice a1 n1 c1,.slice a2 n2 c2,.slice a3 n3 c3],.agg (D4 x).toArray] w fun e W'=>e= .returned (.bool (Uy n1 n2 x))∧Below w.heap.size w W':=by
 obtain⟨src,tp,dst,pat⟩:=x;unfold D4;go_enter Tryz.func122,Tryz.ntmps122
 cases tp
 all_goals go_wp2
 all_goals go_ret
 all_goals refine⟨?_,((zb _ _).alloc (zn _) _).alloc (by simp) _⟩
 all_goals(refine congrArg (fun b=>Ending.returned (Value.bool b)) ?_;simp[Uy]<;>omega)
theorem Aj0 (x:B4) (g:Nat) (a1 a2 a3:Option Addr) (n1 n2 n3 c1 c2 c3:Nat) (w:World) (hn:n1≤4194304) (hn2:n2≤4194304)
  (h0:w.cell? ⟨g,0,none⟩=some (.slice a1 n1 c1)) (h1:w.cell? ⟨g,1,none⟩=some (.slice a2 n2 c2)) (h2:w.cell? ⟨g,2,none⟩=some (.slice a3 n3 c3)):
  Calls Tryz.prog 121 #[.agg (D4 x).toArray,.pointer (some ⟨g,0,none⟩)] w fun e W'=>e= .returned (.bool (!Uy n1 n2 x))∧Below w.heap.size w W':=by
 have hlt:=lt_of_cell h0;have hal:∀o j,(w.alloc o).cell? ⟨g,j,none⟩=w.cell? ⟨g,j,none⟩:=fun o j=>((zb w.heap.size w).alloc (zn _) o).cell (p:=⟨g,j,none⟩) hlt;have h0':∀o,(w.alloc o).cell? ⟨g,0,none⟩=some (.slice a1 n1 c1):=fun o=>(hal o 0).trans h0;have h1':∀o,(w.alloc o).cell? ⟨g,1,none⟩=some (.slice a2 n2 c2):=fun o=>(hal o 1).trans h1;have h2':∀o,(w.alloc o).cell? ⟨g,2,none⟩=some (.slice a3 n3 c3):=fun o=>(hal o 2).trans h2;clear hal h0 h1 h2;have HB:=fun W=>zh (Aqp x a1 a2 a3 n1 n2 n3 c1 c2 c3 W hn hn2);generalize hb:Uy n1 n2 x=bp at *;obtain⟨src,tp,dst,pat⟩:=x;unfold D4 at *;clear hb;go_enter Tryz.func121,Tryz.ntmps121
 go_wp2_with fail
 refine(HB _).out.mono ?_;rintro e w1 ⟨rfl,hb⟩;go_wp2_with fail
 go_ret
 exact⟨rfl,((zb _ _).alloc (zn _) _).trans (hb.mono (by simp))⟩
open Go.RowKit
def Ht:List B4→Int
 | []=>0
 |b::r=>if Be E3 b.pattern=0 then Ht r else Be E3 b.pattern
def Ce (p:Ab):List ByteArray:=p.aj.map (·.name)
def B7 (p:Ab):List ByteArray:=p.ag.map (·.name)
def Bf (p:Ab):Int:=
 if 4 < p.aj.length∨4 < p.ag.length∨10 < p.binds.length then 2
 else if (Ce p++B7 p).any (fun s=> !Nm s) then 4
 else if dup (Ce p) || dup (B7 p) then 6
 else if p.aj.any Ng then 7
 else if p.ag.any (Jq p.aj.length) then 3
 else if p.binds.any (fun b=> !Uy p.aj.length p.ag.length b) then 3
 else Ht p.binds
theorem Anu:∀args w,(callFunc 108 args).run Tryz.prog w= .ok (.enter 108 args) w:=enters_of Tryz.func108 (by kernel_rfl) rfl
theorem Anv:∀args w,(callFunc 110 args).run Tryz.prog w= .ok (.enter 110 args) w:=enters_of Tryz.func110 (by kernel_rfl) rfl
theorem Anw:∀args w,(callFunc 113 args).run Tryz.prog w= .ok (.enter 113 args) w:=enters_of Tryz.func113 (by kernel_rfl) rfl
theorem Anx:∀args w,(callFunc 117 args).run Tryz.prog w= .ok (.enter 117 args) w:=enters_of Tryz.func117 (by kernel_rfl) rfl
theorem Anz:∀args w,(callFunc 119 args).run Tryz.prog w= .ok (.enter 119 args) w:=enters_of Tryz.func119 (by kernel_rfl) rfl
theorem An0:∀args w,(callFunc 121 args).run Tryz.prog w= .ok (.enter 121 args) w:=enters_of Tryz.func121 (by kernel_rfl) rfl
def Ap1 (bs:List B4) (B:Nat) (w:World) (i:Value) (wr:World):Prop:=
 ∃k:Nat,k≤bs.length∧i= .int .i64 k∧Ht (bs.drop k)=Ht bs∧Below B w wr
theorem Xr {bs:List B4} {k:Nat} (h:k < bs.length):Ht (bs.drop k)=if Be E3 bs[k].pattern=0 then Ht (bs.drop (k+1)) else Be E3 bs[k].pattern:=by
 rw[List.drop_eq_getElem_cons h];rfl
theorem An6 (xs:List ByteArray):xs.flatMap (fun x=>[Value.string x])=xs.map Value.string:=by
 induction xs with
 |nil=>rfl
 |cons x r ih=>rw[List.flatMap_cons,List.map_cons,ih];rfl
theorem Ai5 (xs ys:List ByteArray) (na qa:Option Addr) (nc qc b c:Nat) (w:World) (hn:xs.length+ys.length≤4194304) (h0:w.cell? ⟨b,0,none⟩=some (.slice na xs.length nc)) (h1:w.cell? ⟨b,1,none⟩=some (.slice qa ys.length qc))
  (hx:Sl w 0 w.heap.size na (xs.map Value.string)) (hy:Sl w 0 w.heap.size qa (ys.map Value.string)):
  Calls Tryz.prog 112 #[.slice (some ⟨b,0,none⟩) 2 c] w fun e w'=>∃a c,e= .returned (.slice a (xs++ys).length c)∧Sl w' w.heap.size w'.heap.size a ((xs++ys).map Value.string)∧Below w.heap.size w w':=by
 have hfl:[xs,ys].flatten=xs++ys:=by simp
 refine(Ai4 [xs,ys] [(na,nc),(qa,qc)] rfl b 0 c w (by simp) (by rw[hfl,ze];exact hn) (lt_of_cell h0) (fun k h=> ?_) (fun k h=> ?_)).mono ?_
 ·match k,h with
  |0,_=>exact h0
  |1,_=>exact h1
  |k+2,h=>exact absurd h (by show ¬ (k+2 < 2);omega)
 ·match k,h with
  |0,_=>exact hx
  |1,_=>exact hy
  |k+2,h=>exact absurd h (by show ¬ (k+2 < 2);omega)
 ·rintro e w' ⟨v,rfl,hown,hB⟩
  rw[hfl] at hown;obtain⟨a,c,rfl,_⟩:=Ad hown;exact⟨a,c,rfl,Sl.cu hown,hB⟩
theorem Ku (p:Ab) (a1 a2 a3:Option Addr) (c1 c2 c3 lo:Nat) (w:World) (hv:Env w) (hp:Az w lo w.heap.size a1 a2 a3 p) (hs:Ai p):
  Calls Tryz.prog 73 #[Bc p a1 a2 a3 c1 c2 c3] w fun e w'=>e= .returned (.int .i64 (Bf p))∧Below w.heap.size w w':=by
 have HP:=zh hp;clear hp
 have HS:=zh hs;clear hs
 have HV:=zh hv;clear hv
 have l1:=HS.out.aj;have l2:=HS.out.ag;have l3:=HS.out.binds;unfold Bc;go_enter Tryz.func73,Tryz.ntmps73
 have hw0:Below w.heap.size w (w.alloc (.cells (zP p a1 a2 a3 c1 c2 c3) 26)):=(zb _ _).alloc (zn _) _;have hc0:=Bk.new w 26 (zP p a1 a2 a3 c1 c2 c3);have hz0:(w.alloc (.cells (zP p a1 a2 a3 c1 c2 c3) 26)).heap.size=w.heap.size+1:=by simp
 go_wp2_with fail
 generalize w.alloc (.cells (zP p a1 a2 a3 c1 c2 c3) 26)=W0 at *;have HC0:=zh hc0;clear hc0
 have HP0:=zh ((HP.out.below hw0 (zn _)).wider (lo':=0) (hi':=W0.heap.size) (Nat.zero_le _) (by omega));refine(Akp _ Anu Ajv a1 c1 p.aj 0 W0 HP0.out.aj l1).mono ?_;rintro e W1 ⟨v1,rfl,hown1,hB1⟩;obtain⟨na,nc,rfl,_⟩:=Ad hown1;have hz1:=hB1.size;have HC1:=zh (HC0.out.below hB1 (by omega)); 
 have HP1:=zh (HP0.out.below hB1 (zn _));have HN1:=zh (Sl.cu hown1);clear hown1
 have HB1:=zh hB1;clear hB1
 have e1:∀o,(W1.alloc o).cell? ⟨w.heap.size,1,none⟩=some (.slice a2 p.ag.length c2):=fun o=>by have:=(HC1.out.alloc o).cell 1;simpa using this
 go_wp2_with fail
 clear e1;have hC2:=HC1.out.alloc (.cells #[Value.slice na p.aj.length nc] 43);have hM2:=Bk.new W1 43 #[Value.slice na p.aj.length nc];have hB2:Below W0.heap.size W0 (W1.alloc (.cells #[Value.slice na p.aj.length nc] 43)):=HB1.out.alloc hz1 _;have hB2':Below W1.heap.size W1 (W1.alloc (.cells #[Value.slice na p.aj.length nc] 43)):=(zb _ _).alloc (zn _) _;have hz2:(W1.alloc (.cells #[Value.slice na p.aj.length nc] 43)).heap.size=W1.heap.size+1:=by simp
 generalize W1.alloc (.cells #[Value.slice na p.aj.length nc] 43)=W2 at *;have HP2:=zh ((HP1.out.below hB2' (by omega)).wider (lo':=0) (hi':=W2.heap.size) (Nat.zero_le _) (by omega));have HN2:=zh ((HN1.out.below hB2' (zn _)).wider (lo':=0) (hi':=W2.heap.size) (Nat.zero_le _) (by omega));have HC2:=zh hC2;have HM2:=zh hM2;have HB2:=zh hB2
 clear hC2 hM2 hB2 hB2' HC1 HP1 HN1 HB1;refine(Ahp _ Anv Ajw a2 c2 p.ag 0 W2 HP2.out.ag l2).mono ?_;rintro e W3 ⟨v2,rfl,hown2,hB3⟩;obtain⟨qa,qc,rfl,_⟩:=Ad hown2;have hz3:=hB3.size
 -- all that stays, in each later world
 have hall:∀W,Below W3.heap.size W3 W→Az W 0 W3.heap.size a1 a2 a3 p∧Sl W 0 W3.heap.size na ((Ce p).map Value.string)∧Sl W 0 W3.heap.size qa ((B7 p).map Value.string)∧
   (W.cell? ⟨w.heap.size,0,none⟩=some (.slice a1 p.aj.length c1)∧W.cell? ⟨w.heap.size,1,none⟩=some (.slice a2 p.ag.length c2)∧W.cell? ⟨w.heap.size,2,none⟩=some (.slice a3 p.binds.length c3))∧W.cell? ⟨W1.heap.size,0,none⟩=some (.slice na p.aj.length nc)∧Below w.heap.size w W:=fun W hW=>by
  have hbk:=(HC2.out.below hB3 (by omega)).below hW (by omega);refine⟨(HP2.out.below hB3 (zn _)).wider (zn _) hz3 |>.below hW (zn _),((HN2.out.below hB3 (zn _)).wider (zn _) hz3).below hW (zn _),
   ((Sl.cu hown2).wider (Nat.zero_le _) (zn _)).below hW (zn _),⟨?_,?_,?_⟩,?_,hw0.trans ((HB2.out.trans ((hB3.trans (hW.mono (by omega))).mono (by omega))).mono (by omega))⟩
  ·have:=hbk.cell 0;simpa using this
  ·have:=hbk.cell 1;simpa using this
  ·have:=hbk.cell 2;simpa using this
  ·have:=((HM2.out.below hB3 (by omega)).below hW (by omega)).cell 0;simpa using this
 have HALL:=zh hall;clear hall hown2 hB3 HC2 HM2 HB2 HP2 HN2 HP0
 generalize hg:W1.heap.size=g at *;clear hz1 hg hz2 hw0;have m1:=(HALL.out W3 (zb _ _)).2.2.2.2.1;have m2:=(HALL.out W3 (zb _ _)).2.2.2.1;obtain⟨m20,m21,m22⟩:=m2;by_cases hmany:4 < p.aj.length∨4 < p.ag.length∨10 < p.binds.length
 ·have hr:Bf p=2:=by unfold Bf;rw[zp hmany]
  have HR:=zh hr;clear hr
  go_wp2_with fail
  all_goals go_ret
  all_goals exact⟨by rw[HR.out];rfl,(HALL.out W3 (zb _ _)).2.2.2.2.2⟩
 ·have q1:p.aj.length≤4:=by omega
  have q2:p.ag.length≤4:=by omega
  have q3:p.binds.length≤10:=by omega
  have HMANY:=zh hmany;clear hmany
  go_wp2_with fail
  have hbl:Below W3.heap.size W3 (W3.alloc (.cells #[Value.slice na p.aj.length nc,Value.slice qa p.ag.length qc] 43)):=(zb _ _).alloc (zn _) _;have hbk:=Bk.new W3 43 #[Value.slice na p.aj.length nc,Value.slice qa p.ag.length qc];have hz4:(W3.alloc (.cells #[Value.slice na p.aj.length nc,Value.slice qa p.ag.length qc] 43)).heap.size=W3.heap.size+1:=by simp
  generalize W3.alloc (.cells #[Value.slice na p.aj.length nc,Value.slice qa p.ag.length qc] 43)=W4 at *;have hlp:p.aj.length=(Ce p).length:=by simp[Ce]
  have hlq:p.ag.length=(B7 p).length:=by simp[B7]
  have F4:=HALL.out W4 hbl;have k0:W4.cell? ⟨W3.heap.size,0,none⟩=some (.slice na (Ce p).length nc):=by have:=hbk.cell 0;rw[←hlp];exact this
  have k1:W4.cell? ⟨W3.heap.size,1,none⟩=some (.slice qa (B7 p).length qc):=by have:=hbk.cell 1;rw[←hlq];exact this
  refine(Ai5 (Ce p) (B7 p) na qa nc qc _ _ W4 (by omega) k0 k1 (F4.2.1.wider (zn _) (by omega)) (F4.2.2.1.wider (zn _) (by omega))).mono ?_;rintro e W5 ⟨ca,cc,rfl,hcs,hB5⟩;have hB5':Below W3.heap.size W3 W5:=hbl.trans (hB5.mono (by omega));clear F4 k0 k1 hbk hbl hB5;have hcl:(Ce p++B7 p).length≤8:=by rw[ze];omega
  rw[←An6] at hcs;have HCS:=zh (hcs.wider (Nat.zero_le _) (zn _));clear hcs
  have HB5:=zh hB5';clear hB5'
  have HLP:=zh (zi hlp hlq);clear hlp hlq
  clear m1 m20 m21 m22 hz4;generalize hall:Ce p++B7 p=all at *;have HA:=zh hall;clear hall
  go_wp2_with fail
  refine(containsFunc_Str _ #[] Anw (fun s=> !Nm s) all ca cc 0 W5 (fun x _ W _=>by simpa using Ajx x W) HCS.out (by omega)).mono ?_;rintro e W6 ⟨rfl,hB6⟩;have HB6:=zh (HB5.out.trans (hB6.mono HB5.out.size));clear hB6 HB5 HCS
  cases hbad:all.any (fun s=> !Nm s)
  ·have HBAD:=zh hbad;clear hbad
   have F6:=HALL.out W6 HB6.out;have m1:=F6.2.2.2.2.1;obtain⟨m20,m21,m22⟩:=F6.2.2.2.1;have HF6:=zh F6;clear F6
   have hsz1:∀s∈Ce p,s.size≤maxLen:=fun s hs=>by
    obtain⟨x,hx,rfl⟩:=List.mem_map.1 hs;have:=HS.out.post x hx;unfold maxLen;omega
   have hsz2:∀s∈B7 p,s.size≤maxLen:=fun s hs=>by
    obtain⟨x,hx,rfl⟩:=List.mem_map.1 hs;have:=HS.out.queue x hx;unfold maxLen;omega
   have HZ:=zh (zi hsz1 hsz2);clear hsz1 hsz2
   go_wp2_with fail
   have hal1:=Abu na nc (Ce p) 0 W6 (HF6.out.2.1.wider (zn _) HB6.out.size) (by rw[←HLP.out.1];omega) HZ.out.1;rw[←HLP.out.1] at hal1;refine hal1.mono ?_;clear hal1;rintro e W7 ⟨rfl,hB7⟩;have HB7:=zh (HB6.out.trans (hB7.mono HB6.out.size));clear hB7 HB6 HF6 m1 m20 m21 m22
   cases hd1:dup (Ce p)
   ·have HD1:=zh hd1;clear hd1
    go_wp2_with fail
    have hal2:=Abu qa qc (B7 p) 0 W7 ((HALL.out W7 HB7.out).2.2.1.wider (zn _) HB7.out.size) (by rw[←HLP.out.2];omega) HZ.out.2;rw[←HLP.out.2] at hal2;refine hal2.mono ?_;clear hal2;rintro e W8 ⟨rfl,hB8⟩;have HB8:=zh (HB7.out.trans (hB8.mono HB7.out.size));clear hB8 HB7
    cases hd2:dup (B7 p)
    ·have hr0:Bf p=if p.aj.any Ng then 7
       else if p.ag.any (Jq p.aj.length) then 3
       else if p.binds.any (fun b=> !Uy p.aj.length p.ag.length b) then 3
       else Ht p.binds:=by
      unfold Bf;rw[zq HMANY.out,HA.out,HBAD.out,HD1.out,hd2];rfl
     have HR0:=zh hr0;clear hr0
     have HD2:=zh hd2;clear hd2
     have F8:=HALL.out W8 HB8.out;have m1:=F8.2.2.2.2.1;obtain⟨m20,m21,m22⟩:=F8.2.2.2.1;have HF8:=zh F8;clear F8
     go_wp2_with fail
     refine(containsFunc_Post _ #[] Anx Ng p.aj a1 c1 0 W8 (fun x _ W _=>by simpa using Ajy x W) (HF8.out.1.aj.wider (zn _) HB8.out.size) (by omega)).mono ?_;rintro e W9 ⟨rfl,hB9⟩;have HB9:=zh (HB8.out.trans (hB9.mono HB8.out.size));clear hB9 HB8 HF8 m1 m20 m21 m22
     cases hk:p.aj.any Ng
     ·have HK:=zh hk;clear hk
      have F9:=HALL.out W9 HB9.out;have m1:=F9.2.2.2.2.1;obtain⟨m20,m21,m22⟩:=F9.2.2.2.1;have HF9:=zh F9;clear F9
      go_wp2_with fail
      refine(containsFunc_Queue _ #[.pointer (some ⟨g,0,none⟩)] Anz (Jq p.aj.length) p.ag a2 c2 0 W9 (fun x _ W hW=>by
       have:=Ajz x g na p.aj.length nc W (by omega) (HALL.out W (HB9.out.trans (hW.mono HB9.out.size))).2.2.2.2.1;simpa using this) (HF9.out.1.ag.wider (zn _) HB9.out.size) (by omega)).mono ?_
      rintro e W10 ⟨rfl,hB10⟩;have HB10:=zh (HB9.out.trans (hB10.mono HB9.out.size));clear hB10 HB9 HF9 m1 m20 m21 m22
      cases hq:p.ag.any (Jq p.aj.length)
      ·have HQ:=zh hq;clear hq
       have F10:=HALL.out W10 HB10.out;obtain⟨m20,m21,m22⟩:=F10.2.2.2.1;have HF10:=zh F10;clear F10
       go_wp2_with fail
       refine(containsFunc_Bind _ #[.pointer (some ⟨w.heap.size,0,none⟩)] An0 (fun b=> !Uy p.aj.length p.ag.length b) p.binds a3 c3 0 W10 (fun x _ W hW=>by
        have F:=HALL.out W (HB10.out.trans (hW.mono HB10.out.size));have:=Aj0 x w.heap.size a1 a2 a3 p.aj.length p.ag.length p.binds.length c1 c2 c3 W (by omega) (by omega) F.2.2.2.1.1 F.2.2.2.1.2.1 F.2.2.2.1.2.2;simpa using this) (HF10.out.1.binds.wider (zn _) HB10.out.size) (by omega)).mono ?_
       rintro e W11 ⟨rfl,hB11⟩;have HB11:=zh (HB10.out.trans (hB11.mono HB10.out.size));clear hB11 HB10 HF10 m20 m21 m22
       cases hb:p.binds.any (fun b=> !Uy p.aj.length p.ag.length b)
       ·have hr1:Bf p=Ht p.binds:=by rw[HR0.out,HK.out,HQ.out,hb];rfl
        have HR1:=zh hr1;clear hr1
        have HBB:=zh hb;clear hb
        have F11:=HALL.out W11 HB11.out;obtain⟨m20,m21,m22⟩:=F11.2.2.2.1;clear F11;go_wp2_with fail
        go_loopw [53] (fun i wr=>Ap1 p.binds W3.heap.size W3 i wr) (fun i _=>p.binds.length - (intOf i).toNat)
        case atStart=>exact⟨0,by omega,rfl,rfl,HB11.out⟩
        case round=>
         obtain⟨k,hk,rfl,hpe,hBr⟩:=hrel;have HBr:=zh hBr;have HPE:=zh hpe;clear hpe
         by_cases hlt:k < p.binds.length
         ·obtain⟨b,o,rfl,_,hb,hc⟩:=Bd (size:=4) Ho (by decide) (HALL.out wr hBr).1.binds hlt
          have e0:wr.cell? ⟨b,o+k * 4,none⟩=some (.int .i64 p.binds[k].src):=hc 0 _ rfl;have e1:wr.cell? ⟨b,o+k * 4+1,none⟩=some (.bool p.binds[k].cd):=hc 1 _ rfl;have e2:wr.cell? ⟨b,o+k * 4+2,none⟩=some (.int .i64 p.binds[k].to):=hc 2 _ rfl;have e3:wr.cell? ⟨b,o+k * 4+3,none⟩=some (.string p.binds[k].pattern):=hc 3 _ rfl;have hpd:=Xr hlt;have hps:=HS.out.bind _ (zg hlt);have henv:Env wr:=Av (HALL.out wr hBr).2.2.2.2.2 HV.out;have HEN:=zh henv;have HPD:=zh hpd;have HPS:=zh hps;clear hc hpd hps henv hBr m20 m21 m22;generalize hx:p.binds[k]=x at *;clear hx;obtain⟨src,tp,dst,pat⟩:=x;go_wp2_with fail
          refine(Ws _ _ (Nat.lt_of_le_of_lt HPS.out (by omega)) (Av ((zb _ _).alloc (zn _) _) HEN.out)).mono ?_;rintro e W12 ⟨rfl,hB12⟩;have hB12':Below wr.heap.size wr W12:=((zb _ _).alloc (zn _) _).trans (hB12.mono (by simp));have HB12:=zh (HBr.out.trans (hB12'.mono HBr.out.size));clear hB12 hB12' e0 e1 e2 e3
          have HPD2:Hid (Ht (p.binds.drop k)=if Be E3 pat=0 then Ht (p.binds.drop (k+1)) else Be E3 pat):=HPD.out;clear HPD;generalize Be E3 pat=se at *;by_cases hse:se=0
          ·subst hse
           have HN:Hid (Ht (p.binds.drop (k+1))=Ht p.binds):=by
            have:=HPD2.out;rw[zp rfl,HPE.out] at this;exact this.symm
           go_wp2_with fail
           exact⟨⟨k+1,hlt,by go_num,HN.out,HB12.out⟩,by simp[intOf];omega⟩
          ·have HN:Hid (Bf p=se):=by
            have:=HPD2.out;rw[zq hse,HPE.out] at this;exact HR1.out.trans this
           have hse':(se != 0)=true:=by simp[hse]
           go_wp2_with fail
           all_goals go_ret
           all_goals exact⟨by rw[HN.out];rfl,(HALL.out W12 HB12.out).2.2.2.2.2⟩
         ·obtain rfl:k=p.binds.length:=by omega
          have HN:Hid (Bf p=0):=by
           have:=HPE.out;rw[List.drop_length] at this;exact HR1.out.trans this.symm
          go_wp2_with fail
          go_ret
          exact⟨by rw[HN.out];rfl,(HALL.out _ HBr.out).2.2.2.2.2⟩
       ·have hr:Bf p=3:=by rw[HR0.out,HK.out,HQ.out,hb];rfl
        have HR:=zh hr;clear hr hb
        go_wp2_with fail
        go_ret
        exact⟨by rw[HR.out];rfl,(HALL.out W11 HB11.out).2.2.2.2.2⟩
      ·have hr:Bf p=3:=by rw[HR0.out,HK.out,hq];rfl
       have HR:=zh hr;clear hr hq
       go_wp2_with fail
       go_ret
       exact⟨by rw[HR.out];rfl,(HALL.out W10 HB10.out).2.2.2.2.2⟩
     ·have hr:Bf p=7:=by rw[HR0.out,hk];rfl
      have HR:=zh hr;clear hr hk
      go_wp2_with fail
      go_ret
      exact⟨by rw[HR.out];rfl,(HALL.out W9 HB9.out).2.2.2.2.2⟩
    ·have hr:Bf p=6:=by
      unfold Bf;rw[zq HMANY.out,HA.out,HBAD.out,HD1.out,hd2];rfl
     have HR:=zh hr;clear hr hd2
     go_wp2_with fail
     go_ret
     exact⟨by rw[HR.out];rfl,(HALL.out W8 HB8.out).2.2.2.2.2⟩
   ·have hr:Bf p=6:=by
     unfold Bf;rw[zq HMANY.out,HA.out,HBAD.out,hd1];rfl
    have HR:=zh hr;clear hr hd1
    go_wp2_with fail
    go_ret
    exact⟨by rw[HR.out];rfl,(HALL.out W7 HB7.out).2.2.2.2.2⟩
  ·have hr:Bf p=4:=by
    unfold Bf;rw[zq HMANY.out,HA.out,zp hbad]
   have HR:=zh hr;clear hr hbad
   go_wp2_with fail
   go_ret
   exact⟨by rw[HR.out];rfl,(HALL.out W6 HB6.out).2.2.2.2.2⟩
end Go.Proofs.YtaanpcjkflhomaaGreatDoor
