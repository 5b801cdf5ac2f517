/- Lemmas. -/
import Derived.Test.YtpkneogjdfolaaaGreatDoorBunB
import Derived.Maps.OwnSet
import Derived.Maps.OwnOps
set_option maxHeartbeats 20000000
set_option maxRecDepth 100000
set_option linter.unusedSimpArgs false
set_option linter.unusedVariables false
namespace Go.Proofs.YtpkneogjdfolaaaGreatDoor
open Go.RowKit
def V8(names:List zN)(B:Nat)(w:zW)(v i:Value)(wr:zW):Prop:=
 ∃k:Nat,k≤names.length∧i= .int .i64 k∧wr.ownsRow B 9 1 v k ((names.take k).map Value.string)∧Below B w wr
theorem Alv(g:Nat)(eg:∀args w,(callFunc g args).run Tryz.prog w= .ok (.enter g args) w)
  (hof:∀(x:I5) W,Calls Tryz.prog g #[.agg (I7 x).toArray] W fun e W'=>e= .returned (.string x.name)∧Below W.heap.size W W')
  (a:zZ) (c:Nat) (xs:List I5) (lo:Nat) (w:zW) (hx:Sl w lo w.heap.size a (xs.flatMap I7)) (hl:xs.length≤1048576):
  Calls Tryz.prog 21 #[.slice a xs.length c,.func (.func g) #[] #[]] w fun e w'=>
   ∃v,e= .returned v∧w'.ownsRow w.heap.size 9 1 v xs.length ((xs.map (·.name)).map Value.string)∧Below w.heap.size w w':=by
 have HX:=zh hx;clear hx
 have HOF:=zh hof;clear hof
 go_enter Tryz.func21,Tryz.ntmps21
 go_wp2
 go_loopw [5,10] (fun v i wr=>V8 (xs.map (·.name)) w.heap.size w v i wr) (fun _ i _=>xs.length - (intOf i).toNat)
 case atStart=>exact⟨0,by omega,rfl,World.ownsRow_nil _ _ _ _,zb _ _⟩
 case round=>
  obtain⟨k,hk,rfl,hown,hB⟩:=hrel;rw[List.length_map] at hk;by_cases hlt:k < xs.length
  ·obtain⟨b,o,rfl,_,hb,hc⟩:=Bf J9 (by decide) HX.out hlt
   have e0:wr.cell? ⟨b,o+k * 2,none⟩=some (.string xs[k].name):=(hB.cell (p:=⟨b,_,none⟩) hb).trans (hc 0 _ rfl);have e1:wr.cell? ⟨b,o+k * 2+1,none⟩=some (.int .i64 xs[k].kind):=(hB.cell (p:=⟨b,_,none⟩) hb).trans (hc 1 _ rfl);clear hc;have hown2:=fun W (h:Below wr.heap.size wr W)=>own_below hown h;have HO:=zh hown2;clear hown2 hown
   have HB:=zh hB;have hlk:k < 4294967296:=by omega
   go_wp2_with fail
   refine(HOF.out xs[k] _).mono ?_;rintro e w1 ⟨rfl,hb1⟩;have hw1:Below wr.heap.size wr w1:=((zb _ wr).alloc (zn _) _).trans (hb1.mono (by simp));have hown1:=HO.out w1 hw1;have HW1:=zh hw1;clear hw1 hb1
   have hbase:w.heap.size≤w1.heap.size:=zr HB.out.size HW1.out.size;go_wp2_with (at_builtin;refine Em rfl _ _ 64 rfl w.heap.size 9 Jt Tryz.underlying64 rfl (by decide) (by decide) w1 _ _ _ rfl hown1 _ rfl rfl rfl (by simp[Value.oneCell']) hlk hbase ?_;intro v' w2 hown' hgrow)
   refine⟨⟨k+1,by simp;omega,by go_num,?_,Br hown1 hgrow (HB.out.trans (HW1.out.mono HB.out.size)) (zn _) hbase⟩,by simp[intOf];omega⟩;rw[List.take_add_one,List.getElem?_map,zG hlt];simpa using hown'
  ·obtain rfl:k=xs.length:=by omega
   go_wp2
   go_ret
   refine⟨_,rfl,?_,hB⟩;rw[List.take_of_length_le (by simp)] at hown;exact hown
theorem Aja(g:Nat)(eg:∀args w,(callFunc g args).run Tryz.prog w= .ok (.enter g args) w)
  (hof:∀(x:F7) W,Calls Tryz.prog g #[.agg (Gw x).toArray] W fun e W'=>e= .returned (.string x.name)∧Below W.heap.size W W')
  (a:zZ) (c:Nat) (xs:List F7) (lo:Nat) (w:zW) (hx:Sl w lo w.heap.size a (xs.flatMap Gw)) (hl:xs.length≤1048576):
  Calls Tryz.prog 23 #[.slice a xs.length c,.func (.func g) #[] #[]] w fun e w'=>
   ∃v,e= .returned v∧w'.ownsRow w.heap.size 9 1 v xs.length ((xs.map (·.name)).map Value.string)∧Below w.heap.size w w':=by
 have HX:=zh hx;clear hx
 have HOF:=zh hof;clear hof
 go_enter Tryz.func23,Tryz.ntmps23
 go_wp2
 go_loopw [5,10] (fun v i wr=>V8 (xs.map (·.name)) w.heap.size w v i wr) (fun _ i _=>xs.length - (intOf i).toNat)
 case atStart=>exact⟨0,by omega,rfl,World.ownsRow_nil _ _ _ _,zb _ _⟩
 case round=>
  obtain⟨k,hk,rfl,hown,hB⟩:=hrel;rw[List.length_map] at hk;by_cases hlt:k < xs.length
  ·obtain⟨b,o,rfl,_,hb,hc⟩:=Bf Hg (by decide) HX.out hlt
   have e0:wr.cell? ⟨b,o+k * 3,none⟩=some (.string xs[k].name):=(hB.cell (p:=⟨b,_,none⟩) hb).trans (hc 0 _ rfl);have e1:wr.cell? ⟨b,o+k * 3+1,none⟩=some (.int .i64 xs[k].bm):=(hB.cell (p:=⟨b,_,none⟩) hb).trans (hc 1 _ rfl);have e2:wr.cell? ⟨b,o+k * 3+2,none⟩=some (.int .i64 xs[k].dead):=(hB.cell (p:=⟨b,_,none⟩) hb).trans (hc 2 _ rfl);clear hc;have hown2:=fun W (h:Below wr.heap.size wr W)=>own_below hown h;have HO:=zh hown2;clear hown2 hown
   have HB:=zh hB;have hlk:k < 4294967296:=by omega
   go_wp2_with fail
   refine(HOF.out xs[k] _).mono ?_;rintro e w1 ⟨rfl,hb1⟩;have hw1:Below wr.heap.size wr w1:=((zb _ wr).alloc (zn _) _).trans (hb1.mono (by simp));have hown1:=HO.out w1 hw1;have HW1:=zh hw1;clear hw1 hb1
   have hbase:w.heap.size≤w1.heap.size:=zr HB.out.size HW1.out.size;go_wp2_with (at_builtin;refine Em rfl _ _ 64 rfl w.heap.size 9 Jt Tryz.underlying64 rfl (by decide) (by decide) w1 _ _ _ rfl hown1 _ rfl rfl rfl (by simp[Value.oneCell']) hlk hbase ?_;intro v' w2 hown' hgrow)
   refine⟨⟨k+1,by simp;omega,by go_num,?_,Br hown1 hgrow (HB.out.trans (HW1.out.mono HB.out.size)) (zn _) hbase⟩,by simp[intOf];omega⟩;rw[List.take_add_one,List.getElem?_map,zG hlt];simpa using hown'
  ·obtain rfl:k=xs.length:=by omega
   go_wp2
   go_ret
   refine⟨_,rfl,?_,hB⟩;rw[List.take_of_length_le (by simp)] at hown;exact hown
open Go.RowKit
def idxOf{α:Type}(p:α→Bool):List α→Int
 | []=> -1
 |x::xs=>if p x then 0 else if idxOf p xs < 0 then -1 else idxOf p xs+1
theorem Ais{α:Type}(p:α→Bool):∀xs:List α,-1≤idxOf p xs
 | []=>by simp[idxOf]
 |x::xs=>by
  have:=Ais p xs;unfold idxOf
  split
  ·omega
  ·split<;>omega
theorem Ait{α:Type}(p:α→Bool):∀xs:List α,idxOf p xs < xs.length
 | []=>by simp[idxOf]
 |x::xs=>by
  have:=Ait p xs;unfold idxOf;rw[List.length_cons]
  split
  ·omega
  ·split<;>omega
theorem Nn{α:Type}(p:α→Bool):∀xs:List α,decide (0≤idxOf p xs)=xs.any p
 | []=>rfl
 |x::xs=>by
  have:=Nn p xs;unfold idxOf;rw[List.any_cons,←this];by_cases h:p x=true
  ·simp[h]
  ·have h':p x=false:=by simpa using h
   rw[zq h,h',Bool.false_or,Bool.eq_iff_iff]
   split<;>simp<;>omega
theorem idxOf_hit{α:Type}{p:α→Bool} :∀ {xs:List α} {k:Nat},(∀j x,j < k→xs[j]? =some x→p x=false)→(h:k < xs.length)→p xs[k]=true→idxOf p xs=k
 |x::xs,0,_,_,hp=>by simp only[zE] at hp;simp[idxOf,hp]
 |x::xs,k+1,hall,h,hp=>by
  have h0:p x=false:=hall 0 x (by omega) rfl;have ih:=idxOf_hit (p:=p) (xs:=xs) (k:=k) (fun j y hj hy=>hall (j+1) y (by omega) hy) (by simpa using h) (by simpa using hp);unfold idxOf;rw[h0,ih];simp only[Bool.false_eq_true,if_false];rw[zq (by omega)];omega
theorem idxOf_miss{α:Type}{p:α→Bool} :∀ {xs:List α} {k:Nat},(∀j x,j < k→xs[j]? =some x→p x=false)→xs.length≤k→idxOf p xs= -1
 | [],_,_,_=>rfl
 |x::xs,k,hall,h=>by
  rw[List.length_cons] at h;have h0:p x=false:=hall 0 x (by omega) rfl;have ih:=idxOf_miss (p:=p) (xs:=xs) (k:=k - 1) (fun j y hj hy=>hall (j+1) y (by omega) hy) (by omega);unfold idxOf;rw[h0,ih];rfl
def Ky{α:Type}(p:α→Bool)(xs:List α)(B:Nat)(w:zW)(i:Value)(wr:zW):Prop:=
 ∃k:Nat,k≤xs.length∧i= .int .i64 k∧Below B w wr∧∀j x,j < k→xs[j]? =some x→p x=false
theorem E0{α:Type}{p:α→Bool}{xs:List α}{B:Nat}{w:zW}{k:Nat}{w1:zW}(hall:∀j x,j < k→xs[j]? =some x→p x=false)(h:k < xs.length)(hp:p xs[k]=false)(hb:Below B w w1):
  Ky p xs B w (.int .i64 ((k:Int)+1)) w1:=
 ⟨k+1,h,by go_num,hb,fun j x hj hx=>by
  rcases Nat.lt_or_ge j k with h1|h1
  ·exact hall j x h1 hx
  ·obtain rfl:j=k:=by omega
   rw[zG h] at hx
   cases hx
   exact hp⟩
end Go.Proofs.YtpkneogjdfolaaaGreatDoor
namespace Go.Proofs.YtpkneogjdfolaaaGreatDoor
open Go.RowKit
theorem Ado(g:Nat)(lb:Array Value)(eg:∀args w,(callFunc g args).run Tryz.prog w= .ok (.enter g args) w)(p:zN→Bool)(xs:List zN)(a:zZ)(c lo:Nat)(w:zW)
  (hp:∀x∈xs,∀W,Below w.heap.size w W→Calls Tryz.prog g (#[.string x]++lb) W fun e W'=>e= .returned (.bool (p x))∧Below W.heap.size W W')
  (hx:Sl w lo w.heap.size a (xs.flatMap (fun x:zN=>[Value.string x]))) (hl:xs.length≤4294967296):
  Calls Tryz.prog 69 #[.slice a xs.length c,.func (.func g) #[] lb] w fun e w'=>e= .returned (.int .i64 (idxOf p xs))∧Below w.heap.size w w':=by
 have HX:=zh hx;clear hx
 have HP:=zh hp;clear hp
 go_enter Tryz.func69,Tryz.ntmps69
 go_wp2_with fail
 go_loopw [8] (fun i wr=>Ky p xs w.heap.size w i wr) (fun i _=>xs.length - (intOf i).toNat)
 case atStart=>exact⟨0,by omega,rfl,zb _ _,fun j x hj=>absurd hj (by omega)⟩
 case round=>
  obtain⟨k,hk,rfl,hB,hall⟩:=hrel;have HA:=zh hall;clear hall
  by_cases hlt:k < xs.length
  ·obtain⟨b,o,rfl,_,hb,hc⟩:=Bf (enc:=fun x:zN=>[Value.string x]) (size:=1) (fun _=>rfl) (by decide) HX.out hlt
   have e0:wr.cell? ⟨b,o+k,none⟩=some (.string xs[k]):=by
    have:=(hB.cell (p:=⟨b,_,none⟩) hb).trans (hc 0 _ rfl);simpa using this
   have HPk:=zh (HP.out xs[k] (zg hlt) wr hB);have HB:=zh hB;clear hc hB
   cases hq:p xs[k]
   ·have HQ:=zh hq;clear hq
    go_wp2_with fail
    refine HPk.out.mono ?_;rw[HQ.out];rintro e w1 ⟨rfl,hb1⟩;have H1:=zm HB hb1;clear hb1
    go_wp2_with fail
    exact⟨E0 HA.out hlt HQ.out H1.out,by simp[intOf];omega⟩
   ·have HQ:=zh (idxOf_hit HA.out hlt hq)
    have HQ2:=zh hq;clear hq
    go_wp2_with fail
    refine HPk.out.mono ?_;rw[HQ2.out];rintro e w1 ⟨rfl,hb1⟩;have H1:=zm HB hb1;clear hb1
    go_wp2_with fail
    go_ret
    exact⟨by rw[HQ.out];rfl,H1.out⟩
  ·have HQ:=zh (idxOf_miss HA.out (by omega))
   go_wp2_with fail
   go_ret
   exact⟨by rw[HQ.out];rfl,hB⟩
theorem containsFunc_Str(g:Nat)(lb:Array Value)(eg:∀args w,(callFunc g args).run Tryz.prog w= .ok (.enter g args) w)(p:zN→Bool)(xs:List zN)(a:zZ)(c lo:Nat)(w:zW)
  (hp:∀x∈xs,∀W,Below w.heap.size w W→Calls Tryz.prog g (#[.string x]++lb) W fun e W'=>e= .returned (.bool (p x))∧Below W.heap.size W W')
  (hx:Sl w lo w.heap.size a (xs.flatMap (fun x:zN=>[Value.string x]))) (hl:xs.length≤4294967296):
  Calls Tryz.prog 25 #[.slice a xs.length c,.func (.func g) #[] lb] w fun e w'=>e= .returned (.bool (xs.any p))∧Below w.heap.size w w':=by
 have HI:=zh (Ado g lb eg p xs a c lo w hp hx hl);clear hp hx
 have hany:=Nn p xs;have HY:=zh hany;clear hany
 generalize hI:idxOf p xs=I at HI HY;clear hI;go_enter Tryz.func25,Tryz.ntmps25
 go_wp2_with fail
 refine HI.out.mono ?_;rintro e w1 ⟨rfl,hb1⟩;go_wp2_with fail
 go_ret
 exact⟨by rw[HY.out];rfl,hb1⟩
theorem Ss(g:Nat)(lb:Array Value)(eg:∀args w,(callFunc g args).run Tryz.prog w= .ok (.enter g args) w)(p:I5→Bool)(xs:List I5)(a:zZ)(c lo:Nat)(w:zW)
  (hp:∀x∈xs,∀W,Below w.heap.size w W→Calls Tryz.prog g (#[.agg (I7 x).toArray]++lb) W fun e W'=>e= .returned (.bool (p x))∧Below W.heap.size W W')
  (hx:Sl w lo w.heap.size a (xs.flatMap (I7))) (hl:xs.length≤4294967296):
  Calls Tryz.prog 73 #[.slice a xs.length c,.func (.func g) #[] lb] w fun e w'=>e= .returned (.int .i64 (idxOf p xs))∧Below w.heap.size w w':=by
 have HX:=zh hx;clear hx
 have HP:=zh hp;clear hp
 go_enter Tryz.func73,Tryz.ntmps73
 go_wp2_with fail
 go_loopw [8] (fun i wr=>Ky p xs w.heap.size w i wr) (fun i _=>xs.length - (intOf i).toNat)
 case atStart=>exact⟨0,by omega,rfl,zb _ _,fun j x hj=>absurd hj (by omega)⟩
 case round=>
  obtain⟨k,hk,rfl,hB,hall⟩:=hrel;have HA:=zh hall;clear hall
  by_cases hlt:k < xs.length
  ·obtain⟨b,o,rfl,_,hb,hc⟩:=Bf (enc:=I7) (size:=2) (fun _=>rfl) (by decide) HX.out hlt
   have e0:wr.cell? ⟨b,o+k * 2,none⟩=some (.string xs[k].name):=by
    have:=(hB.cell (p:=⟨b,_,none⟩) hb).trans (hc 0 _ rfl);simpa using this
   have e1:wr.cell? ⟨b,o+k * 2+1,none⟩=some (.int .i64 xs[k].kind):=by
    have:=(hB.cell (p:=⟨b,_,none⟩) hb).trans (hc 1 _ rfl);simpa using this
   have HPk:=zh (HP.out xs[k] (zg hlt) wr hB);have HB:=zh hB;clear hc hB
   cases hq:p xs[k]
   ·have HQ:=zh hq;clear hq
    go_wp2_with fail
    refine HPk.out.mono ?_;rw[HQ.out];rintro e w1 ⟨rfl,hb1⟩;have H1:=zm HB hb1;clear hb1
    go_wp2_with fail
    exact⟨E0 HA.out hlt HQ.out H1.out,by simp[intOf];omega⟩
   ·have HQ:=zh (idxOf_hit HA.out hlt hq)
    have HQ2:=zh hq;clear hq
    go_wp2_with fail
    refine HPk.out.mono ?_;rw[HQ2.out];rintro e w1 ⟨rfl,hb1⟩;have H1:=zm HB hb1;clear hb1
    go_wp2_with fail
    go_ret
    exact⟨by rw[HQ.out];rfl,H1.out⟩
  ·have HQ:=zh (idxOf_miss HA.out (by omega))
   go_wp2_with fail
   go_ret
   exact⟨by rw[HQ.out];rfl,hB⟩
theorem containsFunc_Post(g:Nat)(lb:Array Value)(eg:∀args w,(callFunc g args).run Tryz.prog w= .ok (.enter g args) w)(p:I5→Bool)(xs:List I5)(a:zZ)(c lo:Nat)(w:zW)
  (hp:∀x∈xs,∀W,Below w.heap.size w W→Calls Tryz.prog g (#[.agg (I7 x).toArray]++lb) W fun e W'=>e= .returned (.bool (p x))∧Below W.heap.size W W')
  (hx:Sl w lo w.heap.size a (xs.flatMap (I7))) (hl:xs.length≤4294967296):
  Calls Tryz.prog 30 #[.slice a xs.length c,.func (.func g) #[] lb] w fun e w'=>e= .returned (.bool (xs.any p))∧Below w.heap.size w w':=by
 have HI:=zh (Ss g lb eg p xs a c lo w hp hx hl);clear hp hx
 have hany:=Nn p xs;have HY:=zh hany;clear hany
 generalize hI:idxOf p xs=I at HI HY;clear hI;go_enter Tryz.func30,Tryz.ntmps30
 go_wp2_with fail
 refine HI.out.mono ?_;rintro e w1 ⟨rfl,hb1⟩;go_wp2_with fail
 go_ret
 exact⟨by rw[HY.out];rfl,hb1⟩
theorem Rq(g:Nat)(lb:Array Value)(eg:∀args w,(callFunc g args).run Tryz.prog w= .ok (.enter g args) w)(p:F7→Bool)(xs:List F7)(a:zZ)(c lo:Nat)(w:zW)
  (hp:∀x∈xs,∀W,Below w.heap.size w W→Calls Tryz.prog g (#[.agg (Gw x).toArray]++lb) W fun e W'=>e= .returned (.bool (p x))∧Below W.heap.size W W')
  (hx:Sl w lo w.heap.size a (xs.flatMap (Gw))) (hl:xs.length≤4294967296):
  Calls Tryz.prog 74 #[.slice a xs.length c,.func (.func g) #[] lb] w fun e w'=>e= .returned (.int .i64 (idxOf p xs))∧Below w.heap.size w w':=by
 have HX:=zh hx;clear hx
 have HP:=zh hp;clear hp
 go_enter Tryz.func74,Tryz.ntmps74
 go_wp2_with fail
 go_loopw [8] (fun i wr=>Ky p xs w.heap.size w i wr) (fun i _=>xs.length - (intOf i).toNat)
 case atStart=>exact⟨0,by omega,rfl,zb _ _,fun j x hj=>absurd hj (by omega)⟩
 case round=>
  obtain⟨k,hk,rfl,hB,hall⟩:=hrel;have HA:=zh hall;clear hall
  by_cases hlt:k < xs.length
  ·obtain⟨b,o,rfl,_,hb,hc⟩:=Bf (enc:=Gw) (size:=3) (fun _=>rfl) (by decide) HX.out hlt
   have e0:wr.cell? ⟨b,o+k * 3,none⟩=some (.string xs[k].name):=by
    have:=(hB.cell (p:=⟨b,_,none⟩) hb).trans (hc 0 _ rfl);simpa using this
   have e1:wr.cell? ⟨b,o+k * 3+1,none⟩=some (.int .i64 xs[k].bm):=by
    have:=(hB.cell (p:=⟨b,_,none⟩) hb).trans (hc 1 _ rfl);simpa using this
   have e2:wr.cell? ⟨b,o+k * 3+2,none⟩=some (.int .i64 xs[k].dead):=by
    have:=(hB.cell (p:=⟨b,_,none⟩) hb).trans (hc 2 _ rfl);simpa using this
   have HPk:=zh (HP.out xs[k] (zg hlt) wr hB);have HB:=zh hB;clear hc hB
   cases hq:p xs[k]
   ·have HQ:=zh hq;clear hq
    go_wp2_with fail
    refine HPk.out.mono ?_;rw[HQ.out];rintro e w1 ⟨rfl,hb1⟩;have H1:=zm HB hb1;clear hb1
    go_wp2_with fail
    exact⟨E0 HA.out hlt HQ.out H1.out,by simp[intOf];omega⟩
   ·have HQ:=zh (idxOf_hit HA.out hlt hq)
    have HQ2:=zh hq;clear hq
    go_wp2_with fail
    refine HPk.out.mono ?_;rw[HQ2.out];rintro e w1 ⟨rfl,hb1⟩;have H1:=zm HB hb1;clear hb1
    go_wp2_with fail
    go_ret
    exact⟨by rw[HQ.out];rfl,H1.out⟩
  ·have HQ:=zh (idxOf_miss HA.out (by omega))
   go_wp2_with fail
   go_ret
   exact⟨by rw[HQ.out];rfl,hB⟩
theorem containsFunc_Queue(g:Nat)(lb:Array Value)(eg:∀args w,(callFunc g args).run Tryz.prog w= .ok (.enter g args) w)(p:F7→Bool)(xs:List F7)(a:zZ)(c lo:Nat)(w:zW)
  (hp:∀x∈xs,∀W,Below w.heap.size w W→Calls Tryz.prog g (#[.agg (Gw x).toArray]++lb) W fun e W'=>e= .returned (.bool (p x))∧Below W.heap.size W W')
  (hx:Sl w lo w.heap.size a (xs.flatMap (Gw))) (hl:xs.length≤4294967296):
  Calls Tryz.prog 32 #[.slice a xs.length c,.func (.func g) #[] lb] w fun e w'=>e= .returned (.bool (xs.any p))∧Below w.heap.size w w':=by
 have HI:=zh (Rq g lb eg p xs a c lo w hp hx hl);clear hp hx
 have hany:=Nn p xs;have HY:=zh hany;clear hany
 generalize hI:idxOf p xs=I at HI HY;clear hI;go_enter Tryz.func32,Tryz.ntmps32
 go_wp2_with fail
 refine HI.out.mono ?_;rintro e w1 ⟨rfl,hb1⟩;go_wp2_with fail
 go_ret
 exact⟨by rw[HY.out];rfl,hb1⟩
theorem Ab1(g:Nat)(lb:Array Value)(eg:∀args w,(callFunc g args).run Tryz.prog w= .ok (.enter g args) w)(p:B9→Bool)(xs:List B9)(a:zZ)(c lo:Nat)(w:zW)
  (hp:∀x∈xs,∀W,Below w.heap.size w W→Calls Tryz.prog g (#[.agg (D5 x).toArray]++lb) W fun e W'=>e= .returned (.bool (p x))∧Below W.heap.size W W')
  (hx:Sl w lo w.heap.size a (xs.flatMap (D5))) (hl:xs.length≤4294967296):
  Calls Tryz.prog 75 #[.slice a xs.length c,.func (.func g) #[] lb] w fun e w'=>e= .returned (.int .i64 (idxOf p xs))∧Below w.heap.size w w':=by
 have HX:=zh hx;clear hx
 have HP:=zh hp;clear hp
 go_enter Tryz.func75,Tryz.ntmps75
 go_wp2_with fail
 go_loopw [8] (fun i wr=>Ky p xs w.heap.size w i wr) (fun i _=>xs.length - (intOf i).toNat)
 case atStart=>exact⟨0,by omega,rfl,zb _ _,fun j x hj=>absurd hj (by omega)⟩
 case round=>
  obtain⟨k,hk,rfl,hB,hall⟩:=hrel;have HA:=zh hall;clear hall
  by_cases hlt:k < xs.length
  ·obtain⟨b,o,rfl,_,hb,hc⟩:=Bf (enc:=D5) (size:=4) (fun _=>rfl) (by decide) HX.out hlt
   have e0:wr.cell? ⟨b,o+k * 4,none⟩=some (.int .i64 xs[k].src):=by
    have:=(hB.cell (p:=⟨b,_,none⟩) hb).trans (hc 0 _ rfl);simpa using this
   have e1:wr.cell? ⟨b,o+k * 4+1,none⟩=some (.bool xs[k].cd):=by
    have:=(hB.cell (p:=⟨b,_,none⟩) hb).trans (hc 1 _ rfl);simpa using this
   have e2:wr.cell? ⟨b,o+k * 4+2,none⟩=some (.int .i64 xs[k].to):=by
    have:=(hB.cell (p:=⟨b,_,none⟩) hb).trans (hc 2 _ rfl);simpa using this
   have e3:wr.cell? ⟨b,o+k * 4+3,none⟩=some (.string xs[k].pattern):=by
    have:=(hB.cell (p:=⟨b,_,none⟩) hb).trans (hc 3 _ rfl);simpa using this
   have HPk:=zh (HP.out xs[k] (zg hlt) wr hB);have HB:=zh hB;clear hc hB
   cases hq:p xs[k]
   ·have HQ:=zh hq;clear hq
    go_wp2_with fail
    refine HPk.out.mono ?_;rw[HQ.out];rintro e w1 ⟨rfl,hb1⟩;have H1:=zm HB hb1;clear hb1
    go_wp2_with fail
    exact⟨E0 HA.out hlt HQ.out H1.out,by simp[intOf];omega⟩
   ·have HQ:=zh (idxOf_hit HA.out hlt hq)
    have HQ2:=zh hq;clear hq
    go_wp2_with fail
    refine HPk.out.mono ?_;rw[HQ2.out];rintro e w1 ⟨rfl,hb1⟩;have H1:=zm HB hb1;clear hb1
    go_wp2_with fail
    go_ret
    exact⟨by rw[HQ.out];rfl,H1.out⟩
  ·have HQ:=zh (idxOf_miss HA.out (by omega))
   go_wp2_with fail
   go_ret
   exact⟨by rw[HQ.out];rfl,hB⟩
theorem containsFunc_Bind(g:Nat)(lb:Array Value)(eg:∀args w,(callFunc g args).run Tryz.prog w= .ok (.enter g args) w)(p:B9→Bool)(xs:List B9)(a:zZ)(c lo:Nat)(w:zW)
  (hp:∀x∈xs,∀W,Below w.heap.size w W→Calls Tryz.prog g (#[.agg (D5 x).toArray]++lb) W fun e W'=>e= .returned (.bool (p x))∧Below W.heap.size W W')
  (hx:Sl w lo w.heap.size a (xs.flatMap (D5))) (hl:xs.length≤4294967296):
  Calls Tryz.prog 34 #[.slice a xs.length c,.func (.func g) #[] lb] w fun e w'=>e= .returned (.bool (xs.any p))∧Below w.heap.size w w':=by
 have HI:=zh (Ab1 g lb eg p xs a c lo w hp hx hl);clear hp hx
 have hany:=Nn p xs;have HY:=zh hany;clear hany
 generalize hI:idxOf p xs=I at HI HY;clear hI;go_enter Tryz.func34,Tryz.ntmps34
 go_wp2_with fail
 refine HI.out.mono ?_;rintro e w1 ⟨rfl,hb1⟩;go_wp2_with fail
 go_ret
 exact⟨by rw[HY.out];rfl,hb1⟩
open Go.RowKit
theorem Ap3(r:Int)(w:zW):
  Calls Tryz.prog 72 #[.int .i32 r] w fun e w'=>e= .returned (.bool (far r))∧w=w':=by
 go_enter Tryz.func72,Tryz.ntmps72
 go_wp2
 all_goals go_ret
 all_goals refine⟨?_,rfl⟩
 all_goals(refine congrArg (fun b=>Ending.returned (Value.bool b)) ?_;rw[Bool.eq_iff_iff];simp[far]<;>omega)
theorem As5:∀args w,(callFunc 72 args).run Tryz.prog w= .ok (.enter 72 args) w:=enters_of Tryz.func72 (by kernel_rfl) rfl
theorem Agc(s:zN)(w:zW):
  Calls Tryz.prog 71 #[.string s,.func (.func 72) #[] #[]] w fun e w'=>e= .returned (.bool (s.toList.any fun c=>far (c.toNat:Int)))∧Below w.heap.size w w':=
 (Tryz.strings_ContainsFunc_grows _ #[] As5 (fun n=>far (n:Int)) s w (fun W x _ _=>(Ap3 x W).mono (by rintro e w' ⟨rfl,rfl⟩;exact⟨rfl,zb _ _⟩))).mono (by rintro e w' ⟨rfl,hb⟩;exact⟨by rw[Awl],hb⟩)
theorem Ad0(s:zN)(w:zW):
  Calls Tryz.prog 28 #[.string s] w fun e w'=>e= .returned (.bool (N4 s))∧Below w.heap.size w w':=by
 go_enter Tryz.func28,Tryz.ntmps28
 go_wp2_with (go_at_call 71;refine(Agc _ _).mono ?_;rintro e w1 ⟨rfl,hb⟩)
 all_goals go_ret
 all_goals refine⟨?_,by first|exact zb _ _|assumption⟩
 all_goals(refine congrArg (fun b=>Ending.returned (Value.bool b)) ?_;unfold N4;first|(simp[*];done)|(simp[*];omega))
theorem Cc(n lo hi:Int)(w:zW):
  Calls Tryz.prog 55 #[.int .i64 n,.int .i64 lo,.int .i64 hi] w fun e w'=>e= .returned (.bool (decide (lo≤n) && decide (n≤hi)))∧w=w':=by
 go_enter Tryz.func55,Tryz.ntmps55
 go_wp2
 all_goals go_ret
 all_goals refine⟨?_,rfl⟩
 all_goals(refine congrArg (fun b=>Ending.returned (Value.bool b)) ?_;rw[Bool.eq_iff_iff];simp<;>omega)
def Avq(s:zN)(w:zW)(i:Value)(wr:zW):Prop:=
 ∃k:Nat,k≤s.size∧i= .int .i64 k∧w=wr∧∀j (h:j < s.size),j < k→far (s[j].toNat:Int)=false
theorem Ai9{s:zN}(h:∀j (h:j < s.size),far (s[j].toNat:Int)=false):(s.toList.any fun c=>far (c.toNat:Int))=false:=by
 rw[List.any_eq_false];intro c hc;obtain⟨j,hj,rfl⟩:=List.mem_iff_getElem.1 hc;have hs:j < s.size:=by simpa [ByteArray.toList_eq] using hj
 have:=h j hs;rw[Bool.not_eq_true,←this];simp only[ByteArray.toList_eq];rfl
theorem Xz(s:zN)(hs:s.size < 4294967281)(w:zW):
  Calls Tryz.prog 53 #[.string s] w fun e w'=>e= .returned (.bool (N4 s))∧w=w':=by
 go_enter Tryz.func53,Tryz.ntmps53
 go_wp2_with fail
 go_loopw [3] (fun i wr=>Avq s w i wr) (fun i _=>s.size - (intOf i).toNat)
 case atStart=>exact⟨0,by omega,rfl,rfl,fun j _ hj=>absurd hj (by omega)⟩
 case round=>
  obtain⟨k,hk,rfl,rfl,hall⟩:=hrel;have HA:=zh hall;clear hall
  by_cases hlt:k < s.size
  ·by_cases hq:far (s[k].toNat:Int)=true
   ·have HN:Hid (N4 s=false):=by
     have:(s.toList.any fun c=>far (c.toNat:Int))=true:=by
      refine List.any_eq_true.2 ⟨s[k],?_,hq⟩;rw[ByteArray.toList_eq];exact List.mem_iff_getElem.2 ⟨k,by simpa using hlt,rfl⟩
     exact(by simp[N4,this]:N4 s=false)
    have hq':s[k].toNat < 97∨122 < s[k].toNat:=by
     simp[far] at hq;omega
    clear hq;go_wp2_with fail
    all_goals first
     |(go_ret;exact⟨by rw[HN.out];rfl,rfl⟩)
     |omega
   ·have hq':97≤s[k].toNat∧s[k].toNat≤122:=by
     simp[far] at hq;omega
    have HQ:Hid (far (s[k].toNat:Int)=false):=(by simpa using hq:far (s[k].toNat:Int)=false);clear hq;go_wp2_with fail
    exact⟨⟨k+1,hlt,by go_num,rfl,fun j h hj=>by
     rcases Nat.lt_or_ge j k with h1|h1
     ·exact HA.out j h h1
     ·obtain rfl:j=k:=by omega
      exact HQ.out⟩,by simp[intOf];omega⟩
  ·obtain rfl:k=s.size:=by omega
   have HN:Hid (N4 s=(decide (1≤(s.size:Int)) && decide ((s.size:Int)≤8))):=by
    have:=Ai9 (s:=s) fun j h=>HA.out j h h;refine(?_:N4 s=_);unfold N4;rw[this,Bool.not_false,Bool.and_true,Bool.eq_iff_iff];simp;omega
   go_wp2_with fail
   refine(Cc _ _ _ _).mono ?_;rintro e w1 ⟨rfl,rfl⟩;go_wp2_with fail
   go_ret
   exact⟨by rw[HN.out];rfl,rfl⟩
open Go.Maps Go.WideMaps in
def Arh(l:List zN)(w:zW)(i:Value)(wr:zW):Prop:=
 ∃(k:Nat)(D:DataW Unit),k≤l.length∧i= .int .i64 k∧wr.ownsMap Tryz.prog 9 (plainElem Tryz.prog 3) w.heap.size k D∧Tidy D∧(∀s:zN,has D (.string s.data.toList)=true↔s∈l.take k)∧
  (decide (size D < k)=dup (l.take k))∧size D≤k∧Below w.heap.size w wr
theorem Aus(s:zN):WideAt.IsKeyLit (.string s.data.toList):=trivial
theorem Aan{s t:zN}(h:Lit.string s.data.toList=Lit.string t.data.toList):s=t:=by
 simp only[Lit.string.injEq] at h;exact toList_inj (by rw[ByteArray.toList_eq,ByteArray.toList_eq];exact h)
open Go.Maps in
theorem Akz{l:List zN}{k:Nat}{D:DataW Unit}(hk:k < l.length)(ht:Tidy D)(hh:∀s:zN,has D (.string s.data.toList)=true↔s∈l.take k)(hd:decide (size D < k)=dup (l.take k))(hs:size D≤k)(d:DataW Unit):
  Tidy (D.put (.string l[k].data.toList) d)∧(∀s:zN,has (D.put (.string l[k].data.toList) d) (.string s.data.toList)=true↔s∈l.take (k+1))∧
   (decide (size (D.put (.string l[k].data.toList) d) < k+1)=dup (l.take (k+1)))∧size (D.put (.string l[k].data.toList) d)≤k+1:=by
 refine⟨ht.put (Aus _) d,fun s=> ?_,?_,?_⟩
 ·have ea:l.take (k+1)=l.take k++[l[k]]:=zj hk
  by_cases e:s=l[k]
  ·subst e
   rw[has_put_same ht.isMap (Aus _),ea];exact⟨fun _=>List.mem_append_right _ (List.mem_cons_self ..),fun _=>rfl⟩
  ·rw[has_put_other (fun h=>e (Aan h)),hh s,ea,List.mem_append]
   exact⟨.inl,fun h=>h.elim id fun h=>absurd (List.mem_singleton.1 h) e⟩
 ·rw[size_put ht]
  have hhk:=hh l[k];unfold dup at hd⊢;have hn:=Ace hk;by_cases hm:l[k]∈l.take k
  ·have:¬ (l.take (k+1)).Nodup:=fun h=>(hn.1 h).2 hm
   rw[hhk.2 hm];simp[this];omega
  ·have hf:has D (.string l[k].data.toList)=false:=by
    rw[←Bool.not_eq_true];exact fun h=>hm (hhk.1 h)
   rw[hf];by_cases hnd:(l.take k).Nodup
   ·have h2:=hn.2 ⟨hnd,hm⟩
    simp[hnd] at hd;simp[h2];omega
   ·have h2:¬ (l.take (k+1)).Nodup:=fun h=>hnd (hn.1 h).1
    simp[hnd] at hd;simp[h2];omega
 ·rw[size_put ht]
  split<;>omega
open Go.Maps Go.WideMaps in
theorem Ad4(a:zZ)(c:Nat)(l:List zN)(lo:Nat)(w:zW)(hx:Sl w lo w.heap.size a (l.map Value.string))(hl:l.length≤1048576)(hsz:∀s∈l,s.size≤maxLen):
  Calls Tryz.prog 29 #[.slice a l.length c] w fun e w'=>e= .returned (.bool (dup l))∧Below w.heap.size w w':=by
 have hmm:= @run_makeMap Tryz.prog;have HX:=zh hx;clear hx
 have HZ:=zh hsz;clear hsz
 go_enter Tryz.func29,Tryz.ntmps29
 go_wp2_with fail
 go_loopw [9] (fun i wr=>Arh l w i wr) (fun i _=>l.length - (intOf i).toNat)
 case atStart=>
  exact⟨0,.map [],by omega,rfl,World.ownsMap_made _ _ _ _,tidy_empty,fun s=>by simp[has],by simp[size,dup],by simp[size],(zb _ _).alloc (zn _) _⟩
 case round=>
  obtain⟨k,D,hk,rfl,hown,ht,hh,hd,hs,hB⟩:=hrel;have HF:=zh (zi ht (zi hh (zi hd hs)));clear ht hh hd hs
  have HO:=zh hown;clear hown
  by_cases hlt:k < l.length
  ·obtain⟨b,o,rfl,_,hb,hc⟩:=HX.out.at_ (k:=k) (by simpa using hlt)
   have e0:wr.cell? ⟨b,o+k,none⟩=some (.string l[k]):=(hB.cell (p:=⟨b,_,none⟩) hb).trans (hc k _ (by simp[hlt]));have hkey:keyOf Tryz.prog 9 (.string l[k])=some (.string l[k].data.toList):=keyOf_string_mk Tryz.underlying9 (HZ.out _ (zg hlt));have HS:=zh (fun d=>Akz hlt HF.out.1 HF.out.2.1 HF.out.2.2.1 HF.out.2.2.2 d);clear HF
   have HK:=zh hkey;clear hkey
   have HB:=zh hB;clear hB hc
   generalize hsk:l[k]=sk at *;go_wp2_with (first
    |(at_lookup;refine wpList_lookup_own_int _ rfl _ _ 123 rfl 9 3 .i64 (string_keyed Tryz.underlying9) Tryz.underlying123 Tryz.underlying3 (by kernel_rfl) _ _ D rfl HO.out _ _ rfl HK.out ?_;intro cnt hat hwc;have HW:=zh hat;clear hat hwc)
    |(at_mapUpdate;refine wpList_mapUpdate_own _ rfl _ _ _ 123 rfl 9 3 (string_keyed Tryz.underlying9) Tryz.underlying123 _ _ k D rfl HO.out (by unfold maxLen;omega) _ _ _ rfl rfl HK.out _ [] (plainElem_int Tryz.underlying3 (wrap64_wf _)) ?_;intro w1 hown1 hgrow1))
   obtain⟨s1,s2,s3,s4⟩:=HS.out _;exact⟨⟨k+1,_,hlt,by go_num,hown1,s1,s2,s3,s4,HB.out.grown hgrow1 HB.out.size (fun j hj=>by cases hj;exact zn _)⟩,by simp[intOf];omega⟩
  ·obtain rfl:k=l.length:=by omega
   have hd:=HF.out.2.2.1;rw[List.take_of_length_le (zn _)] at hd;have HD:=zh hd;clear hd
   go_wp2_with (at_len;refine wpList_len_own _ rfl _ 123 rfl 9 3 Tryz.underlying123 _ _ _ D rfl HO.out ?_)
   go_ret
   refine⟨?_,hB⟩;rw[←HD.out];refine congrArg (fun b=>Ending.returned (Value.bool b)) ?_;simp
theorem Ark(n:Nat)(hn:n≤4194304)(w:zW):
  Calls Tryz.prog 70 #[.slice none 0 0,.int .i64 n] w fun e w'=>∃v,e= .returned v∧w'.ownsRow w.heap.size 9 1 v 0 []∧Below w.heap.size w w':=by
 by_cases h0:n=0
 ·subst h0
  go_enter Tryz.func70,Tryz.ntmps70
  go_wp2_with fail
  go_ret
  exact⟨_,rfl,World.ownsRow_nil _ _ _ _,zb _ _⟩
 ·obtain⟨i,hi,hz0,hz1,hz2⟩:=info_parts (P:=Tryz.prog) Jt
  have hrz:∀ty,∃v w',(Builtin.append_ #[64,3] ty #[.slice none 0 0,.int .i64 (n:Int)]).run Tryz.prog w= .ok v w'∧∃cap,v= .slice (some ⟨w.heap.size,0,none⟩) n cap∧n≤cap∧cap≤9223372036854775807∧(w'.ownsRow w.heap.size 9 1 (.slice (some ⟨w.heap.size,0,none⟩) 0 cap) 0 [])∧Below w.heap.size w w':=fun ty=>by
   have hfit:Builtin.nextslicecap (0+n) 0 * i.bytes≤281474976710656:=by
    refine growslice_fits (by omega) ?_;rw[hz2];omega
   have h:=Lib.run_append_grow_zeros w 64 3 ty 9 i _ .i64 .i64 Tryz.underlying64 Tryz.underlying3 hi hz0 none 0 0 [] (run_firstCells_none w.drew i.size 0 0 0) n (by omega) (by rw[hz1];decide) (by omega) (by omega) (by rw[hz2];omega) hfit;rw[Nat.zero_add] at h;have hG:=grownCap_ge w n 0 9;have hG2:=grownCap_le_maxLen w n 0 9 (by unfold maxLen;omega);refine⟨_,_,h,_,rfl,hG,by unfold maxLen at hG2;omega,?_,(zb _ w).drew.alloc (zn _) _⟩;refine⟨rfl,.inr ⟨w.heap.size,_,_,rfl,zn _,heap_alloc_new w.drew _,by omega,hG2,?_,rfl⟩⟩;simp only[Array.size_append,size_zeroCells,List.size_toArray,List.length_nil];simp only[Value.cells,Array.size_singleton];omega
  go_enter Tryz.func70,Tryz.ntmps70
  obtain⟨v,w1,hr,cap,rfl,hc1,hc2,hown,hB⟩:=hrz 64;have HO:=zh hown;clear hown hrz
  go_wp2_with (at_builtin;refine Lib.wpList_append_run _ rfl _ _ _ _ rfl _ _ rfl rfl _ _ hr ?_)
  all_goals go_ret
  all_goals exact⟨_,rfl,HO.out,hB⟩
def Avh(L:List (List zN))(w:zW)(sz i:Value)(wr:zW):Prop:=
 ∃k:Nat,k≤L.length∧i= .int .i64 k∧sz= .int .i64 ((L.take k).flatten.length:Nat)∧w=wr
def Avi(L:List (List zN))(w:zW)(v i:Value)(wr:zW):Prop:=
 ∃k:Nat,k≤L.length∧i= .int .i64 k∧wr.ownsRow w.heap.size 9 1 v (L.take k).flatten.length ((L.take k).flatten.map Value.string)∧Below w.heap.size w wr
theorem Aek{α:Type}{L:List (List α)}{k:Nat}(h:k < L.length):(L.take (k+1)).flatten=(L.take k).flatten++L[k]:=by
 rw[zj h,List.flatten_append];simp
theorem Agi{α:Type}(L:List (List α))(k:Nat):(L.take k).flatten.length≤L.flatten.length:=by
 have h:L.flatten=(L.take k).flatten++(L.drop k).flatten:=by rw[←List.flatten_append,List.take_append_drop]
 rw[h,ze];omega
theorem Akr(L:List (List zN))(A:List (zZ×Nat))(hA:A.length=L.length)(b o c:Nat)(w:zW)(hL:L.length≤4194304)(hn:L.flatten.length≤4194304)(hb:b < w.heap.size)
  (hcells:∀k (h:k < L.length),w.cell? ⟨b,o+k,none⟩=some (.slice (A[k]'(by omega)).1 L[k].length (A[k]'(by omega)).2))
  (hsl:∀k (h:k < L.length),Sl w 0 w.heap.size (A[k]'(by omega)).1 (L[k].map Value.string)):
  Calls Tryz.prog 26 #[.slice (some ⟨b,o,none⟩) L.length c] w fun e w'=>∃v,e= .returned v∧w'.ownsRow w.heap.size 9 1 v L.flatten.length (L.flatten.map Value.string)∧Below w.heap.size w w':=by
 have HC:=zh hcells;clear hcells
 have HL:=zh hsl;clear hsl
 go_enter Tryz.func26,Tryz.ntmps26
 go_wp2_with fail
 go_loopw [3,11] (fun s i wr=>Avh L w s i wr) (fun _ i _=>L.length - (intOf i).toNat)
 case atStart=>exact⟨0,by omega,rfl,rfl,rfl⟩
 case round=>
  obtain⟨k,hk,rfl,rfl,rfl⟩:=hrel;have hle:=Agi L k;by_cases hlt:k < L.length
  ·have e0:=HC.out k hlt
   have hfl:=Aek hlt;have hle2:=Agi L (k+1);rw[hfl,ze] at hle2;have HF:Hid ((L.take (k+1)).flatten.length=(L.take k).flatten.length+L[k].length):=(by rw[hfl,ze]:(L.take (k+1)).flatten.length=(L.take k).flatten.length+L[k].length);clear hfl;generalize hS:(L.take k).flatten.length=S at *;generalize hx:L[k].length=X at *;generalize hAk:(A[k]'(by omega))=ak at *;clear hAk hS hx;go_wp2_with fail
   exact⟨⟨k+1,hlt,by go_num,by rw[HF.out];go_num,rfl⟩,by simp[intOf];omega⟩
  ·obtain rfl:k=L.length:=by omega
   have HT:Hid (L.take L.length=L):=List.take_length;rw[HT.out] at hle;rw[HT.out];obtain⟨T,hT⟩:=zo L.flatten.length;have HTT:=zh hT;rw[hT] at hn hle⊢;clear hT;go_wp2_with fail
   refine(Ark _ hn _).mono ?_;rintro e w1 ⟨v,rfl,hown,hB⟩;go_wp2_with fail
   go_loopw [6,27] (fun v i wr=>Avi L w v i wr) (fun _ i _=>L.length - (intOf i).toNat)
   case atStart=>exact⟨0,by omega,rfl,hown,hB⟩
   case round=>
    obtain⟨k,hk,rfl,hown,hB⟩:=hrel;by_cases hlt:k < L.length
    ·have e0:=(hB.cell (p:=⟨b,o+k,none⟩) hb).trans (HC.out k hlt)
     have hs:=(HL.out k hlt).below hB (zn _);have hle:=HTT.out▸Agi L (k+1);have hfl:=Aek hlt;rw[hfl,ze] at hle;have HFL:=zh hfl;clear hfl
     have HO:=zh hown;clear hown
     have HS:=zh hs;clear hs
     have hsum:(L.take k).flatten.length+L[k].length≤4294967296:=by omega
     have hbase:=hB.size;go_wp2_with (at_builtin;refine Aaw rfl _ _ 64 rfl w.heap.size 9 Jt Tryz.underlying64 rfl (by decide) (by decide) _ _ _ rfl HO.out _ _ _ rfl 0 w.heap.size (L[k].map Value.string) (by simp) HS.out (by simp[Value.oneCell']) hsum hbase ?_;intro v' w2 hown' hgrow)
     refine⟨⟨k+1,hlt,by go_num,?_,Br HO.out hgrow hB (zn _) hbase⟩,by simp[intOf];omega⟩;rw[HFL.out,ze,List.map_append];exact hown'
    ·obtain rfl:k=L.length:=by omega
     rw[List.take_length] at hown;have HO:=zh hown;clear hown
     go_wp2_with fail
     go_ret
     exact⟨_,rfl,by rw[←HTT.out];exact HO.out,hB⟩
def Ny(x:I5):Bool:=decide (x.kind < 1) || decide (3 < x.kind)
def J4(n:Nat)(x:F7):Bool:=decide (x.bm < 1) || decide (6 < x.bm) || decide (x.dead < -1) || decide ((n:Int)≤x.dead)
def Wh(aj ag:Nat)(b:B9):Bool:=decide (0≤b.src) && decide (b.src < (aj:Int)) && decide (0≤b.to) && decide (b.to < (if b.cd then (aj:Int) else (ag:Int)))
theorem Ak5(x:I5)(w:zW):Calls Tryz.prog 22 #[.agg (I7 x).toArray] w fun e W'=>e= .returned (.string x.name)∧Below w.heap.size w W':=by
 unfold I7;go_enter Tryz.func22,Tryz.ntmps22
 go_wp2
 go_ret
 exact⟨rfl,(zb _ _).alloc (zn _) _⟩
theorem Ak6(x:F7)(w:zW):Calls Tryz.prog 24 #[.agg (Gw x).toArray] w fun e W'=>e= .returned (.string x.name)∧Below w.heap.size w W':=by
 unfold Gw;go_enter Tryz.func24,Tryz.ntmps24
 go_wp2
 go_ret
 exact⟨rfl,(zb _ _).alloc (zn _) _⟩
theorem Ak7(s:zN)(w:zW):Calls Tryz.prog 27 #[.string s] w fun e W'=>e= .returned (.bool (!N4 s))∧Below w.heap.size w W':=by
 go_enter Tryz.func27,Tryz.ntmps27
 go_wp2_with fail
 refine(Ad0 s _).mono ?_;rintro e w1 ⟨rfl,hb⟩;go_wp2_with fail
 go_ret
 exact⟨rfl,hb⟩
theorem Ak8(x:I5)(w:zW):Calls Tryz.prog 31 #[.agg (I7 x).toArray] w fun e W'=>e= .returned (.bool (Ny x))∧Below w.heap.size w W':=by
 unfold I7;go_enter Tryz.func31,Tryz.ntmps31
 go_wp2
 all_goals go_ret
 all_goals refine⟨?_,(zb _ _).alloc (zn _) _⟩
 all_goals(refine congrArg (fun b=>Ending.returned (Value.bool b)) ?_;rw[Bool.eq_iff_iff];simp[Ny]<;>omega)
theorem Ak9(x:F7)(g:Nat)(a:zZ)(n c:Nat)(w:zW)(_hn:n≤4194304)(hg:w.cell? ⟨g,0,none⟩=some (.slice a n c)):
  Calls Tryz.prog 33 #[.agg (Gw x).toArray,zt g] w fun e W'=>e= .returned (.bool (J4 n x))∧Below w.heap.size w W':=by
 have hlt:=lt_of_cell hg;have hg':∀o,(w.alloc o).cell? ⟨g,0,none⟩=some (.slice a n c):=fun o=>(((zb w.heap.size w).alloc (zn _) o).cell (p:=⟨g,0,none⟩) hlt).trans hg;unfold Gw;go_enter Tryz.func33,Tryz.ntmps33
 go_wp2
 all_goals go_ret
 all_goals refine⟨?_,(zb _ _).alloc (zn _) _⟩
 all_goals(refine congrArg (fun b=>Ending.returned (Value.bool b)) ?_;simp[J4]<;>omega)
theorem Asb(x:B9)(a1 a2 a3:zZ)(n1 n2 n3 c1 c2 c3:Nat)(w:zW)(_hn:n1≤4194304)(_hn2:n2≤4194304):
  Calls Tryz.prog 36 #[.agg #[.slice a1 n1 c1,.slice a2 n2 c2,.slice a3 n3 c3],.agg (D5 x).toArray] w fun e W'=>e= .returned (.bool (Wh n1 n2 x))∧Below w.heap.size w W':=by
 obtain⟨src,tp,dst,pat⟩:=x;unfold D5;go_enter Tryz.func36,Tryz.ntmps36
 cases tp
 all_goals go_wp2
 all_goals go_ret
 all_goals refine⟨?_,((zb _ _).alloc (zn _) _).alloc (by simp) _⟩
 all_goals(refine congrArg (fun b=>Ending.returned (Value.bool b)) ?_;simp[Wh]<;>omega)
theorem Ala(x:B9)(g:Nat)(a1 a2 a3:zZ)(n1 n2 n3 c1 c2 c3:Nat)(w:zW)(hn:n1≤4194304)(hn2:n2≤4194304)
  (h0:w.cell? ⟨g,0,none⟩=some (.slice a1 n1 c1)) (h1:w.cell? ⟨g,1,none⟩=some (.slice a2 n2 c2)) (h2:w.cell? ⟨g,2,none⟩=some (.slice a3 n3 c3)):
  Calls Tryz.prog 35 #[.agg (D5 x).toArray,zt g] w fun e W'=>e= .returned (.bool (!Wh n1 n2 x))∧Below w.heap.size w W':=by
 have hlt:=lt_of_cell h0;have hal:∀o j,(w.alloc o).cell? ⟨g,j,none⟩=w.cell? ⟨g,j,none⟩:=fun o j=>((zb w.heap.size w).alloc (zn _) o).cell (p:=⟨g,j,none⟩) hlt;have h0':∀o,(w.alloc o).cell? ⟨g,0,none⟩=some (.slice a1 n1 c1):=fun o=>(hal o 0).trans h0;have h1':∀o,(w.alloc o).cell? ⟨g,1,none⟩=some (.slice a2 n2 c2):=fun o=>(hal o 1).trans h1;have h2':∀o,(w.alloc o).cell? ⟨g,2,none⟩=some (.slice a3 n3 c3):=fun o=>(hal o 2).trans h2;clear hal h0 h1 h2;have HB:=fun W=>zh (Asb x a1 a2 a3 n1 n2 n3 c1 c2 c3 W hn hn2);generalize hb:Wh n1 n2 x=bp at *;obtain⟨src,tp,dst,pat⟩:=x;unfold D5 at *;clear hb;go_enter Tryz.func35,Tryz.ntmps35
 go_wp2_with fail
 refine(HB _).out.mono ?_;rintro e w1 ⟨rfl,hb⟩;go_wp2_with fail
 go_ret
 exact⟨rfl,((zb _ _).alloc (zn _) _).trans (hb.mono (by simp))⟩
def Ih:List B9→Int
 | []=>0
 |b::r=>if Be E1 b.pattern=0 then Ih r else Be E1 b.pattern
def Cm(p:Ab):List zN:=p.aj.map (·.name)
def Cd(p:Ab):List zN:=p.ag.map (·.name)
def Bc(p:Ab):Int:=
 if 4 < p.aj.length∨4 < p.ag.length∨10 < p.binds.length then 2
 else if (Cm p++Cd p).any (fun s=> !N4 s) then 4
 else if dup (Cm p) || dup (Cd p) then 6
 else if p.aj.any Ny then 7
 else if p.ag.any (J4 p.aj.length) then 3
 else if p.binds.any (fun b=> !Wh p.aj.length p.ag.length b) then 3
 else Ih p.binds
theorem Apf:∀args w,(callFunc 22 args).run Tryz.prog w= .ok (.enter 22 args) w:=enters_of Tryz.func22 (by kernel_rfl) rfl
theorem Apg:∀args w,(callFunc 24 args).run Tryz.prog w= .ok (.enter 24 args) w:=enters_of Tryz.func24 (by kernel_rfl) rfl
theorem Aph:∀args w,(callFunc 27 args).run Tryz.prog w= .ok (.enter 27 args) w:=enters_of Tryz.func27 (by kernel_rfl) rfl
theorem Api:∀args w,(callFunc 31 args).run Tryz.prog w= .ok (.enter 31 args) w:=enters_of Tryz.func31 (by kernel_rfl) rfl
theorem Apj:∀args w,(callFunc 33 args).run Tryz.prog w= .ok (.enter 33 args) w:=enters_of Tryz.func33 (by kernel_rfl) rfl
theorem Apk:∀args w,(callFunc 35 args).run Tryz.prog w= .ok (.enter 35 args) w:=enters_of Tryz.func35 (by kernel_rfl) rfl
def Arq(bs:List B9)(B:Nat)(w:zW)(i:Value)(wr:zW):Prop:=
 ∃k:Nat,k≤bs.length∧i= .int .i64 k∧Ih (bs.drop k)=Ih bs∧Below B w wr
theorem Z0{bs:List B9}{k:Nat}(h:k < bs.length):Ih (bs.drop k)=if Be E1 bs[k].pattern=0 then Ih (bs.drop (k+1)) else Be E1 bs[k].pattern:=by
 rw[List.drop_eq_getElem_cons h];rfl
theorem App(xs:List zN):xs.flatMap (fun x=>[Value.string x])=xs.map Value.string:=by
 induction xs with
 |nil=>rfl
 |cons x r ih=>rw[List.flatMap_cons,List.map_cons,ih];rfl
theorem Aks(xs ys:List zN)(na qa:zZ)(nc qc b c:Nat)(w:zW)(hn:xs.length+ys.length≤4194304)(h0:w.cell? ⟨b,0,none⟩=some (.slice na xs.length nc))(h1:w.cell? ⟨b,1,none⟩=some (.slice qa ys.length qc))
  (hx:Sl w 0 w.heap.size na (xs.map Value.string)) (hy:Sl w 0 w.heap.size qa (ys.map Value.string)):
  Calls Tryz.prog 26 #[.slice (some ⟨b,0,none⟩) 2 c] w fun e w'=>∃a c,e= .returned (.slice a (xs++ys).length c)∧Sl w' w.heap.size w'.heap.size a ((xs++ys).map Value.string)∧Below w.heap.size w w':=by
 have hfl:[xs,ys].flatten=xs++ys:=by simp
 refine(Akr [xs,ys] [(na,nc),(qa,qc)] rfl b 0 c w (by simp) (by rw[hfl,ze];exact hn) (lt_of_cell h0) (fun k h=> ?_) (fun k h=> ?_)).mono ?_
 ·match k,h with
  |0,_=>exact h0
  |1,_=>exact h1
  |k+2,h=>exact absurd h (by show ¬ (k+2 < 2);omega)
 ·match k,h with
  |0,_=>exact hx
  |1,_=>exact hy
  |k+2,h=>exact absurd h (by show ¬ (k+2 < 2);omega)
 ·rintro e w' ⟨v,rfl,hown,hB⟩
  rw[hfl] at hown;obtain⟨a,c,rfl,_⟩:=Ae hown;exact⟨a,c,rfl,Sl.cu hown,hB⟩
theorem J6(p:Ab)(a1 a2 a3:zZ)(c1 c2 c3 lo:Nat)(w:zW)(hv:Env w)(hp:Au w lo w.heap.size a1 a2 a3 p)(hs:Ai p):
  Calls Tryz.prog 7 #[Ay p a1 a2 a3 c1 c2 c3] w fun e w'=>e= .returned (.int .i64 (Bc p))∧Below w.heap.size w w':=by
 have HP:=zh hp;clear hp
 have HS:=zh hs;clear hs
 have HV:=zh hv;clear hv
 have l1:=HS.out.aj;have l2:=HS.out.ag;have l3:=HS.out.binds;unfold Ay;go_enter Tryz.func7,Tryz.ntmps7
 have hw0:Below w.heap.size w (w.alloc (.cells (zP p a1 a2 a3 c1 c2 c3) 26)):=(zb _ _).alloc (zn _) _;have hc0:=Bk.new w 26 (zP p a1 a2 a3 c1 c2 c3);have hz0:(w.alloc (.cells (zP p a1 a2 a3 c1 c2 c3) 26)).heap.size=w.heap.size+1:=by simp
 go_wp2_with fail
 generalize w.alloc (.cells (zP p a1 a2 a3 c1 c2 c3) 26)=W0 at *;have HC0:=zh hc0;clear hc0
 have HP0:=zh ((HP.out.below hw0 (zn _)).wider (lo':=0) (hi':=W0.heap.size) (Nat.zero_le _) (by omega));refine(Alv _ Apf Ak5 a1 c1 p.aj 0 W0 HP0.out.aj l1).mono ?_;rintro e W1 ⟨v1,rfl,hown1,hB1⟩;obtain⟨na,nc,rfl,_⟩:=Ae hown1;have hz1:=hB1.size;have HC1:=zh (HC0.out.below hB1 (by omega)); 
 have HP1:=zh (HP0.out.below hB1 (zn _));have HN1:=zh (Sl.cu hown1);clear hown1
 have HB1:=zh hB1;clear hB1
 have e1:∀o,(W1.alloc o).cell? ⟨w.heap.size,1,none⟩=some (.slice a2 p.ag.length c2):=fun o=>by have:=(HC1.out.alloc o).cell 1;simpa using this
 go_wp2_with fail
 clear e1;have hC2:=HC1.out.alloc (.cells #[Value.slice na p.aj.length nc] 64);have hM2:=Bk.new W1 64 #[Value.slice na p.aj.length nc];have hB2:Below W0.heap.size W0 (W1.alloc (.cells #[Value.slice na p.aj.length nc] 64)):=HB1.out.alloc hz1 _;have hB2':Below W1.heap.size W1 (W1.alloc (.cells #[Value.slice na p.aj.length nc] 64)):=(zb _ _).alloc (zn _) _;have hz2:(W1.alloc (.cells #[Value.slice na p.aj.length nc] 64)).heap.size=W1.heap.size+1:=by simp
 generalize W1.alloc (.cells #[Value.slice na p.aj.length nc] 64)=W2 at *;have HP2:=zh ((HP1.out.below hB2' (by omega)).wider (lo':=0) (hi':=W2.heap.size) (Nat.zero_le _) (by omega));have HN2:=zh ((HN1.out.below hB2' (zn _)).wider (lo':=0) (hi':=W2.heap.size) (Nat.zero_le _) (by omega));have HC2:=zh hC2;have HM2:=zh hM2;have HB2:=zh hB2
 clear hC2 hM2 hB2 hB2' HC1 HP1 HN1 HB1;refine(Aja _ Apg Ak6 a2 c2 p.ag 0 W2 HP2.out.ag l2).mono ?_;rintro e W3 ⟨v2,rfl,hown2,hB3⟩;obtain⟨qa,qc,rfl,_⟩:=Ae hown2;have hz3:=hB3.size
 -- all that stays, in each later world
 have hall:∀W,Below W3.heap.size W3 W→Au W 0 W3.heap.size a1 a2 a3 p∧Sl W 0 W3.heap.size na ((Cm p).map Value.string)∧Sl W 0 W3.heap.size qa ((Cd p).map Value.string)∧
   (W.cell? ⟨w.heap.size,0,none⟩=some (.slice a1 p.aj.length c1)∧W.cell? ⟨w.heap.size,1,none⟩=some (.slice a2 p.ag.length c2)∧W.cell? ⟨w.heap.size,2,none⟩=some (.slice a3 p.binds.length c3))∧W.cell? ⟨W1.heap.size,0,none⟩=some (.slice na p.aj.length nc)∧Below w.heap.size w W:=fun W hW=>by
  have hbk:=(HC2.out.below hB3 (by omega)).below hW (by omega);refine⟨(HP2.out.below hB3 (zn _)).wider (zn _) hz3 |>.below hW (zn _),((HN2.out.below hB3 (zn _)).wider (zn _) hz3).below hW (zn _),
   ((Sl.cu hown2).wider (Nat.zero_le _) (zn _)).below hW (zn _),⟨?_,?_,?_⟩,?_,hw0.trans ((HB2.out.trans ((hB3.trans (hW.mono (by omega))).mono (by omega))).mono (by omega))⟩
  ·have:=hbk.cell 0;simpa using this
  ·have:=hbk.cell 1;simpa using this
  ·have:=hbk.cell 2;simpa using this
  ·have:=((HM2.out.below hB3 (by omega)).below hW (by omega)).cell 0;simpa using this
 have HALL:=zh hall;clear hall hown2 hB3 HC2 HM2 HB2 HP2 HN2 HP0
 generalize hg:W1.heap.size=g at *;clear hz1 hg hz2 hw0;have m1:=(HALL.out W3 (zb _ _)).2.2.2.2.1;have m2:=(HALL.out W3 (zb _ _)).2.2.2.1;obtain⟨m20,m21,m22⟩:=m2;by_cases hmany:4 < p.aj.length∨4 < p.ag.length∨10 < p.binds.length
 ·have hr:Bc p=2:=by unfold Bc;rw[zp hmany]
  have HR:=zh hr;clear hr
  go_wp2_with fail
  all_goals go_ret
  all_goals exact⟨by rw[HR.out];rfl,(HALL.out W3 (zb _ _)).2.2.2.2.2⟩
 ·have q1:p.aj.length≤4:=by omega
  have q2:p.ag.length≤4:=by omega
  have q3:p.binds.length≤10:=by omega
  have HMANY:=zh hmany;clear hmany
  go_wp2_with fail
  have hbl:Below W3.heap.size W3 (W3.alloc (.cells #[Value.slice na p.aj.length nc,Value.slice qa p.ag.length qc] 64)):=(zb _ _).alloc (zn _) _;have hbk:=Bk.new W3 64 #[Value.slice na p.aj.length nc,Value.slice qa p.ag.length qc];have hz4:(W3.alloc (.cells #[Value.slice na p.aj.length nc,Value.slice qa p.ag.length qc] 64)).heap.size=W3.heap.size+1:=by simp
  generalize W3.alloc (.cells #[Value.slice na p.aj.length nc,Value.slice qa p.ag.length qc] 64)=W4 at *;have hlp:p.aj.length=(Cm p).length:=by simp[Cm]
  have hlq:p.ag.length=(Cd p).length:=by simp[Cd]
  have F4:=HALL.out W4 hbl;have k0:W4.cell? ⟨W3.heap.size,0,none⟩=some (.slice na (Cm p).length nc):=by have:=hbk.cell 0;rw[←hlp];exact this
  have k1:W4.cell? ⟨W3.heap.size,1,none⟩=some (.slice qa (Cd p).length qc):=by have:=hbk.cell 1;rw[←hlq];exact this
  refine(Aks (Cm p) (Cd p) na qa nc qc _ _ W4 (by omega) k0 k1 (F4.2.1.wider (zn _) (by omega)) (F4.2.2.1.wider (zn _) (by omega))).mono ?_;rintro e W5 ⟨ca,cc,rfl,hcs,hB5⟩;have hB5':Below W3.heap.size W3 W5:=hbl.trans (hB5.mono (by omega));clear F4 k0 k1 hbk hbl hB5;have hcl:(Cm p++Cd p).length≤8:=by rw[ze];omega
  rw[←App] at hcs;have HCS:=zh (hcs.wider (Nat.zero_le _) (zn _));clear hcs
  have HB5:=zh hB5';clear hB5'
  have HLP:=zh (zi hlp hlq);clear hlp hlq
  clear m1 m20 m21 m22 hz4;generalize hall:Cm p++Cd p=all at *;have HA:=zh hall;clear hall
  go_wp2_with fail
  refine(containsFunc_Str _ #[] Aph (fun s=> !N4 s) all ca cc 0 W5 (fun x _ W _=>by simpa using Ak7 x W) HCS.out (by omega)).mono ?_;rintro e W6 ⟨rfl,hB6⟩;have HB6:=zm HB5 hB6;clear hB6 HB5 HCS
  cases hbad:all.any (fun s=> !N4 s)
  ·have HBAD:=zh hbad;clear hbad
   have F6:=HALL.out W6 HB6.out;have m1:=F6.2.2.2.2.1;obtain⟨m20,m21,m22⟩:=F6.2.2.2.1;have HF6:=zh F6;clear F6
   have hsz1:∀s∈Cm p,s.size≤maxLen:=fun s hs=>by
    obtain⟨x,hx,rfl⟩:=List.mem_map.1 hs;have:=HS.out.post x hx;unfold maxLen;omega
   have hsz2:∀s∈Cd p,s.size≤maxLen:=fun s hs=>by
    obtain⟨x,hx,rfl⟩:=List.mem_map.1 hs;have:=HS.out.queue x hx;unfold maxLen;omega
   have HZ:=zh (zi hsz1 hsz2);clear hsz1 hsz2
   go_wp2_with fail
   have hal1:=Ad4 na nc (Cm p) 0 W6 (HF6.out.2.1.wider (zn _) HB6.out.size) (by rw[←HLP.out.1];omega) HZ.out.1;rw[←HLP.out.1] at hal1;refine hal1.mono ?_;clear hal1;rintro e W7 ⟨rfl,hB7⟩;have HB7:=zm HB6 hB7;clear hB7 HB6 HF6 m1 m20 m21 m22
   cases hd1:dup (Cm p)
   ·have HD1:=zh hd1;clear hd1
    go_wp2_with fail
    have hal2:=Ad4 qa qc (Cd p) 0 W7 ((HALL.out W7 HB7.out).2.2.1.wider (zn _) HB7.out.size) (by rw[←HLP.out.2];omega) HZ.out.2;rw[←HLP.out.2] at hal2;refine hal2.mono ?_;clear hal2;rintro e W8 ⟨rfl,hB8⟩;have HB8:=zm HB7 hB8;clear hB8 HB7
    cases hd2:dup (Cd p)
    ·have hr0:Bc p=if p.aj.any Ny then 7
       else if p.ag.any (J4 p.aj.length) then 3
       else if p.binds.any (fun b=> !Wh p.aj.length p.ag.length b) then 3
       else Ih p.binds:=by
      unfold Bc;rw[zq HMANY.out,HA.out,HBAD.out,HD1.out,hd2];rfl
     have HR0:=zh hr0;clear hr0
     have HD2:=zh hd2;clear hd2
     have F8:=HALL.out W8 HB8.out;have m1:=F8.2.2.2.2.1;obtain⟨m20,m21,m22⟩:=F8.2.2.2.1;have HF8:=zh F8;clear F8
     go_wp2_with fail
     refine(containsFunc_Post _ #[] Api Ny p.aj a1 c1 0 W8 (fun x _ W _=>by simpa using Ak8 x W) (HF8.out.1.aj.wider (zn _) HB8.out.size) (by omega)).mono ?_;rintro e W9 ⟨rfl,hB9⟩;have HB9:=zm HB8 hB9;clear hB9 HB8 HF8 m1 m20 m21 m22
     cases hk:p.aj.any Ny
     ·have HK:=zh hk;clear hk
      have F9:=HALL.out W9 HB9.out;have m1:=F9.2.2.2.2.1;obtain⟨m20,m21,m22⟩:=F9.2.2.2.1;have HF9:=zh F9;clear F9
      go_wp2_with fail
      refine(containsFunc_Queue _ #[zt g] Apj (J4 p.aj.length) p.ag a2 c2 0 W9 (fun x _ W hW=>by
       have:=Ak9 x g na p.aj.length nc W (by omega) (HALL.out W (HB9.out.trans (hW.mono HB9.out.size))).2.2.2.2.1;simpa using this) (HF9.out.1.ag.wider (zn _) HB9.out.size) (by omega)).mono ?_
      rintro e W10 ⟨rfl,hB10⟩;have HB10:=zm HB9 hB10;clear hB10 HB9 HF9 m1 m20 m21 m22
      cases hq:p.ag.any (J4 p.aj.length)
      ·have HQ:=zh hq;clear hq
       have F10:=HALL.out W10 HB10.out;obtain⟨m20,m21,m22⟩:=F10.2.2.2.1;have HF10:=zh F10;clear F10
       go_wp2_with fail
       refine(containsFunc_Bind _ #[zt w.heap.size] Apk (fun b=> !Wh p.aj.length p.ag.length b) p.binds a3 c3 0 W10 (fun x _ W hW=>by
        have F:=HALL.out W (HB10.out.trans (hW.mono HB10.out.size));have:=Ala x w.heap.size a1 a2 a3 p.aj.length p.ag.length p.binds.length c1 c2 c3 W (by omega) (by omega) F.2.2.2.1.1 F.2.2.2.1.2.1 F.2.2.2.1.2.2;simpa using this) (HF10.out.1.binds.wider (zn _) HB10.out.size) (by omega)).mono ?_
       rintro e W11 ⟨rfl,hB11⟩;have HB11:=zm HB10 hB11;clear hB11 HB10 HF10 m20 m21 m22
       cases hb:p.binds.any (fun b=> !Wh p.aj.length p.ag.length b)
       ·have hr1:Bc p=Ih p.binds:=by rw[HR0.out,HK.out,HQ.out,hb];rfl
        have HR1:=zh hr1;clear hr1
        have HBB:=zh hb;clear hb
        have F11:=HALL.out W11 HB11.out;obtain⟨m20,m21,m22⟩:=F11.2.2.2.1;clear F11;go_wp2_with fail
        go_loopw [53] (fun i wr=>Arq p.binds W3.heap.size W3 i wr) (fun i _=>p.binds.length - (intOf i).toNat)
        case atStart=>exact⟨0,by omega,rfl,rfl,HB11.out⟩
        case round=>
         obtain⟨k,hk,rfl,hpe,hBr⟩:=hrel;have HBr:=zh hBr;have HPE:=zh hpe;clear hpe
         by_cases hlt:k < p.binds.length
         ·obtain⟨b,o,rfl,_,hb,hc⟩:=Bf (size:=4) Ia (by decide) (HALL.out wr hBr).1.binds hlt
          have e0:wr.cell? ⟨b,o+k * 4,none⟩=some (.int .i64 p.binds[k].src):=hc 0 _ rfl;have e1:wr.cell? ⟨b,o+k * 4+1,none⟩=some (.bool p.binds[k].cd):=hc 1 _ rfl;have e2:wr.cell? ⟨b,o+k * 4+2,none⟩=some (.int .i64 p.binds[k].to):=hc 2 _ rfl;have e3:wr.cell? ⟨b,o+k * 4+3,none⟩=some (.string p.binds[k].pattern):=hc 3 _ rfl;have hpd:=Z0 hlt;have hps:=HS.out.bind _ (zg hlt);have henv:Env wr:=Ba (HALL.out wr hBr).2.2.2.2.2 HV.out;have HEN:=zh henv;have HPD:=zh hpd;have HPS:=zh hps;clear hc hpd hps henv hBr m20 m21 m22;generalize hx:p.binds[k]=x at *;clear hx;obtain⟨src,tp,dst,pat⟩:=x;go_wp2_with fail
          refine(Zd _ _ (Nat.lt_of_le_of_lt HPS.out (by omega)) (Ba ((zb _ _).alloc (zn _) _) HEN.out)).mono ?_;rintro e W12 ⟨rfl,hB12⟩;have hB12':Below wr.heap.size wr W12:=((zb _ _).alloc (zn _) _).trans (hB12.mono (by simp));have HB12:=zh (HBr.out.trans (hB12'.mono HBr.out.size));clear hB12 hB12' e0 e1 e2 e3
          have HPD2:Hid (Ih (p.binds.drop k)=if Be E1 pat=0 then Ih (p.binds.drop (k+1)) else Be E1 pat):=HPD.out;clear HPD;generalize Be E1 pat=se at *;by_cases hse:se=0
          ·subst hse
           have HN:Hid (Ih (p.binds.drop (k+1))=Ih p.binds):=by
            have:=HPD2.out;rw[zp rfl,HPE.out] at this;exact this.symm
           go_wp2_with fail
           exact⟨⟨k+1,hlt,by go_num,HN.out,HB12.out⟩,by simp[intOf];omega⟩
          ·have HN:Hid (Bc p=se):=by
            have:=HPD2.out;rw[zq hse,HPE.out] at this;exact HR1.out.trans this
           have hse':(se != 0)=true:=by simp[hse]
           go_wp2_with fail
           all_goals go_ret
           all_goals exact⟨by rw[HN.out];rfl,(HALL.out W12 HB12.out).2.2.2.2.2⟩
         ·obtain rfl:k=p.binds.length:=by omega
          have HN:Hid (Bc p=0):=by
           have:=HPE.out;rw[List.drop_length] at this;exact HR1.out.trans this.symm
          go_wp2_with fail
          go_ret
          exact⟨by rw[HN.out];rfl,(HALL.out _ HBr.out).2.2.2.2.2⟩
       ·have hr:Bc p=3:=by rw[HR0.out,HK.out,HQ.out,hb];rfl
        have HR:=zh hr;clear hr hb
        go_wp2_with fail
        go_ret
        exact⟨by rw[HR.out];rfl,(HALL.out W11 HB11.out).2.2.2.2.2⟩
      ·have hr:Bc p=3:=by rw[HR0.out,HK.out,hq];rfl
       have HR:=zh hr;clear hr hq
       go_wp2_with fail
       go_ret
       exact⟨by rw[HR.out];rfl,(HALL.out W10 HB10.out).2.2.2.2.2⟩
     ·have hr:Bc p=7:=by rw[HR0.out,hk];rfl
      have HR:=zh hr;clear hr hk
      go_wp2_with fail
      go_ret
      exact⟨by rw[HR.out];rfl,(HALL.out W9 HB9.out).2.2.2.2.2⟩
    ·have hr:Bc p=6:=by
      unfold Bc;rw[zq HMANY.out,HA.out,HBAD.out,HD1.out,hd2];rfl
     have HR:=zh hr;clear hr hd2
     go_wp2_with fail
     go_ret
     exact⟨by rw[HR.out];rfl,(HALL.out W8 HB8.out).2.2.2.2.2⟩
   ·have hr:Bc p=6:=by
     unfold Bc;rw[zq HMANY.out,HA.out,HBAD.out,hd1];rfl
    have HR:=zh hr;clear hr hd1
    go_wp2_with fail
    go_ret
    exact⟨by rw[HR.out];rfl,(HALL.out W7 HB7.out).2.2.2.2.2⟩
  ·have hr:Bc p=4:=by
    unfold Bc;rw[zq HMANY.out,HA.out,zp hbad]
   have HR:=zh hr;clear hr hbad
   go_wp2_with fail
   go_ret
   exact⟨by rw[HR.out];rfl,(HALL.out W6 HB6.out).2.2.2.2.2⟩
end Go.Proofs.YtpkneogjdfolaaaGreatDoor
