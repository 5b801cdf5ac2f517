/-
  The log: an act is read.
-/
import Derived.Test.YtaanpcjkflhomaaGreatDoorLogA
import Derived.Test.YtaanpcjkflhomaaGreatDoorBunO
import Derived.Test.YtaanpcjkflhomaaGreatDoorBunA
import Derived.Recover
set_option maxHeartbeats 20000000
set_option maxRecDepth 100000
set_option linter.unusedSimpArgs false
set_option linter.unusedVariables false
namespace Go.Proofs.YtaanpcjkflhomaaGreatDoor
open Go Go.RowKit
def Vk:Cn:=⟨0,0,0,⟨#[]⟩,⟨#[]⟩⟩
def Oh (s:ByteArray):Cn:=match Hp s with|some (x,_)=>x|none=>Vk
def Aag (s:ByteArray):ByteArray:=match Hp s with|some (_,r)=>r|none=>s
def Ui (s:ByteArray):Bool:=(Hp s).isSome
def T5 (s:ByteArray) (w:World) (e:Ending) (w':World):Prop:=
 e= .returned (.tuple #[.agg (Ez (Oh s)).toArray,.string (Aag s),.bool (Ui s)])∧Below w.heap.size w w'
structure Mk (w W:World) (s:ByteArray) (v0 v1 v2 v3 v4:Value) (r:ByteArray):Prop where
 str:Bk W (w.heap.size) 9 #[.string s]
 act:Bk W (w.heap.size+1) 57 #[v0,v1,v2,v3,v4]
 rest:Bk W (w.heap.size+1+1) 9 #[.string ⟨#[]⟩]
 isb:Bk W (w.heap.size+1+1+1) 4 #[.bool false]
 glass:Jj W (w.heap.size+1+1+1+1) r
 below:Below w.heap.size w W
theorem Mk.grown {w W W':World} {s r r':ByteArray} {v0 v1 v2 v3 v4:Value} (h:Mk w W s v0 v1 v2 v3 v4 r) (hg:W.grownBy W' (some (w.heap.size+1+1+1+1))) (hl:Jj W' (w.heap.size+1+1+1+1) r'):Mk w W' s v0 v1 v2 v3 v4 r':=
 ⟨h.str.grown hg (fun e=>by simp only[Option.some.injEq] at e;omega),h.act.grown hg (fun e=>by simp only[Option.some.injEq] at e;omega),h.rest.grown hg (fun e=>by simp only[Option.some.injEq] at e;omega),h.isb.grown hg (fun e=>by simp only[Option.some.injEq] at e;omega),hl,
  h.below.grown hg h.below.size fun k hk=>by simp only[Option.some.injEq] at hk;omega⟩
theorem Mk.set0 {w W:World} {s r:ByteArray} {v0 v1 v2 v3 v4:Value} (h:Mk w W s v0 v1 v2 v3 v4 r) (u:Value):Mk w (W.setCell ⟨w.heap.size+1,0,none⟩ u) s u v1 v2 v3 v4 r:=
 ⟨h.str.far (p:=⟨w.heap.size+1,0,none⟩) (by show w.heap.size≠w.heap.size+1;omega) u,h.act.set_ 0 u,h.rest.far (p:=⟨w.heap.size+1,0,none⟩) (by show w.heap.size+1+1≠w.heap.size+1;omega) u,h.isb.far (p:=⟨w.heap.size+1,0,none⟩) (by show w.heap.size+1+1+1≠w.heap.size+1;omega) u,Bk.far (p:=⟨w.heap.size+1,0,none⟩) h.glass (by show w.heap.size+1+1+1+1≠w.heap.size+1;omega) u,h.below.setCell (p:=⟨w.heap.size+1,0,none⟩) (by show w.heap.size≤w.heap.size+1;omega) u⟩
theorem Mk.set1 {w W:World} {s r:ByteArray} {v0 v1 v2 v3 v4:Value} (h:Mk w W s v0 v1 v2 v3 v4 r) (u:Value):Mk w (W.setCell ⟨w.heap.size+1,1,none⟩ u) s v0 u v2 v3 v4 r:=
 ⟨h.str.far (p:=⟨w.heap.size+1,1,none⟩) (by show w.heap.size≠w.heap.size+1;omega) u,h.act.set_ 1 u,h.rest.far (p:=⟨w.heap.size+1,1,none⟩) (by show w.heap.size+1+1≠w.heap.size+1;omega) u,h.isb.far (p:=⟨w.heap.size+1,1,none⟩) (by show w.heap.size+1+1+1≠w.heap.size+1;omega) u,Bk.far (p:=⟨w.heap.size+1,1,none⟩) h.glass (by show w.heap.size+1+1+1+1≠w.heap.size+1;omega) u,h.below.setCell (p:=⟨w.heap.size+1,1,none⟩) (by show w.heap.size≤w.heap.size+1;omega) u⟩
theorem Mk.set2 {w W:World} {s r:ByteArray} {v0 v1 v2 v3 v4:Value} (h:Mk w W s v0 v1 v2 v3 v4 r) (u:Value):Mk w (W.setCell ⟨w.heap.size+1,2,none⟩ u) s v0 v1 u v3 v4 r:=
 ⟨h.str.far (p:=⟨w.heap.size+1,2,none⟩) (by show w.heap.size≠w.heap.size+1;omega) u,h.act.set_ 2 u,h.rest.far (p:=⟨w.heap.size+1,2,none⟩) (by show w.heap.size+1+1≠w.heap.size+1;omega) u,h.isb.far (p:=⟨w.heap.size+1,2,none⟩) (by show w.heap.size+1+1+1≠w.heap.size+1;omega) u,Bk.far (p:=⟨w.heap.size+1,2,none⟩) h.glass (by show w.heap.size+1+1+1+1≠w.heap.size+1;omega) u,h.below.setCell (p:=⟨w.heap.size+1,2,none⟩) (by show w.heap.size≤w.heap.size+1;omega) u⟩
theorem Mk.set3 {w W:World} {s r:ByteArray} {v0 v1 v2 v3 v4:Value} (h:Mk w W s v0 v1 v2 v3 v4 r) (u:Value):Mk w (W.setCell ⟨w.heap.size+1,3,none⟩ u) s v0 v1 v2 u v4 r:=
 ⟨h.str.far (p:=⟨w.heap.size+1,3,none⟩) (by show w.heap.size≠w.heap.size+1;omega) u,h.act.set_ 3 u,h.rest.far (p:=⟨w.heap.size+1,3,none⟩) (by show w.heap.size+1+1≠w.heap.size+1;omega) u,h.isb.far (p:=⟨w.heap.size+1,3,none⟩) (by show w.heap.size+1+1+1≠w.heap.size+1;omega) u,Bk.far (p:=⟨w.heap.size+1,3,none⟩) h.glass (by show w.heap.size+1+1+1+1≠w.heap.size+1;omega) u,h.below.setCell (p:=⟨w.heap.size+1,3,none⟩) (by show w.heap.size≤w.heap.size+1;omega) u⟩
theorem Mk.set4 {w W:World} {s r:ByteArray} {v0 v1 v2 v3 v4:Value} (h:Mk w W s v0 v1 v2 v3 v4 r) (u:Value):Mk w (W.setCell ⟨w.heap.size+1,4,none⟩ u) s v0 v1 v2 v3 u r:=
 ⟨h.str.far (p:=⟨w.heap.size+1,4,none⟩) (by show w.heap.size≠w.heap.size+1;omega) u,h.act.set_ 4 u,h.rest.far (p:=⟨w.heap.size+1,4,none⟩) (by show w.heap.size+1+1≠w.heap.size+1;omega) u,h.isb.far (p:=⟨w.heap.size+1,4,none⟩) (by show w.heap.size+1+1+1≠w.heap.size+1;omega) u,Bk.far (p:=⟨w.heap.size+1,4,none⟩) h.glass (by show w.heap.size+1+1+1+1≠w.heap.size+1;omega) u,h.below.setCell (p:=⟨w.heap.size+1,4,none⟩) (by show w.heap.size≤w.heap.size+1;omega) u⟩
theorem Mk.dr {w W:World} {s r:ByteArray} {v0 v1 v2 v3 v4:Value} (h:Mk w W s v0 v1 v2 v3 v4 r):Mk w W.drew s v0 v1 v2 v3 v4 r:=⟨h.str,h.act,h.rest,h.isb,h.glass,h.below.drew⟩
theorem Bk.dr' {w:World} {g:Nat} {t:TypeId} {cs:Array Value} (h:Bk w g t cs):Bk w.drew g t cs:=h
structure Ajb (w W:World) (s:ByteArray) (v0 v1 v2 v3 v4:Value):Prop where
 str:Bk W (w.heap.size) 9 #[.string s]
 act:Bk W (w.heap.size+1) 57 #[v0,v1,v2,v3,v4]
 rest:Bk W (w.heap.size+1+1) 9 #[.string ⟨#[]⟩]
 isb:Bk W (w.heap.size+1+1+1) 4 #[.bool false]
 below:Below w.heap.size w W
theorem Mk.dead {w W W':World} {s r:ByteArray} {v0 v1 v2 v3 v4:Value} (h:Mk w W s v0 v1 v2 v3 v4 r) (hg:W.grownBy W' (some (w.heap.size+1+1+1+1))):Ajb w W' s v0 v1 v2 v3 v4:=
 ⟨h.str.grown hg (fun e=>by simp only[Option.some.injEq] at e;omega),h.act.grown hg (fun e=>by simp only[Option.some.injEq] at e;omega),h.rest.grown hg (fun e=>by simp only[Option.some.injEq] at e;omega),h.isb.grown hg (fun e=>by simp only[Option.some.injEq] at e;omega),
  h.below.grown hg h.below.size fun k hk=>by simp only[Option.some.injEq] at hk;omega⟩
def Al9 (B:Nat):List Deferred:=[{ target:= .fn (.func 130) #[.pointer (some ⟨B,0,none⟩),.pointer (some ⟨B+1,0,none⟩),.pointer (some ⟨B+1+1,0,none⟩),.pointer (some ⟨B+1+1+1,0,none⟩)],args:= #[] }]
def Ov (B:Nat):Array Value:= #[.pointer (some ⟨B,0,none⟩),.pointer (some ⟨B+1,0,none⟩),.pointer (some ⟨B+1+1,0,none⟩),.pointer (some ⟨B+1+1+1,0,none⟩)]
theorem Arw (w W:World) (s:ByteArray) (v0 v1 v2 v3 v4:Value) (h:Ajb w W s v0 v1 v2 v3 v4):
  CallsD Tryz.prog 130 (Ov w.heap.size) (.panicking [Uk]) W fun en u' w'=>en= .returned (.tuple #[])∧u'= .panicking [{ Uk with recovered:=true }]∧
   Bk w' (w.heap.size+1) 57 #[.int .i64 0,.int .i64 0,.int .i64 0,.string ⟨#[]⟩,.string ⟨#[]⟩]∧Bk w' (w.heap.size+1+1) 9 #[.string s]∧Bk w' (w.heap.size+1+1+1) 4 #[.bool false]∧Below w.heap.size w w':=by
 have j0:W.cell? ⟨w.heap.size,0,none⟩=some (.string s):=h.str.cell 0
 have k0:W.cell? ⟨w.heap.size+1,0,none⟩=some v0:=h.act.cell 0
 have k1:W.cell? ⟨w.heap.size+1,1,none⟩=some v1:=h.act.cell 1
 have k2:W.cell? ⟨w.heap.size+1,2,none⟩=some v2:=h.act.cell 2
 have k3:W.cell? ⟨w.heap.size+1,3,none⟩=some v3:=h.act.cell 3
 have k4:W.cell? ⟨w.heap.size+1,4,none⟩=some v4:=h.act.cell 4
 have k5:W.cell? ⟨w.heap.size+1+1,0,none⟩=some (.string ⟨#[]⟩):=h.rest.cell 0
 have k6:W.cell? ⟨w.heap.size+1+1+1,0,none⟩=some (.bool false):=h.isb.cell 0
 have f0:=h.act.frozen 0;have f1:=h.act.frozen 1;have f2:=h.act.frozen 2;have f3:=h.act.frozen 3;have f4:=h.act.frozen 4
 have f5:=h.rest.frozen 0;have f6:=h.isb.frozen 0
 have l1:=h.act.lt;have l2:=h.rest.lt;have l3:=h.isb.lt
 have HD:=zh h
 clear h
 unfold Uk Ov
 refine callsD_of_wpS Tryz.func130 rfl fun c₀ cs hu=> ?_
 apply wpS_seq
 apply wpS_region
 simp[wpOpsS,go_sem,recoverD,hu,Tryz.ntmps130,Exit.thenS]
 refine wpS_of_wp ?_
 change Code.wp _ _ _ (⟨#[.pointer (some ⟨w.heap.size,0,none⟩),.pointer (some ⟨w.heap.size+1,0,none⟩),.pointer (some ⟨w.heap.size+1+1,0,none⟩),.pointer (some ⟨w.heap.size+1+1+1,0,none⟩),.iface 192 (.agg #[]),.bool true,undef,undef],[]⟩:Act) _
 go_wp2_with fail
 have h:=HD.out
 refine⟨rfl,_,rfl,_,results_none rfl _ _ _,rfl,rfl,?_,?_,?_,?_⟩
 ·have:=(((((((h.act.set_ 0 (.int .i64 0)).set_ 1 (.int .i64 0)).set_ 2 (.int .i64 0)).set_ 3 (.string ⟨#[]⟩)).set_ 4 (.string ⟨#[]⟩)).far (p:=⟨w.heap.size+1+1,0,none⟩) (by show w.heap.size+1≠w.heap.size+1+1;omega) (.string s)).far (p:=⟨w.heap.size+1+1+1,0,none⟩) (by show w.heap.size+1≠w.heap.size+1+1+1;omega) (.bool false))
  simpa using this
 ·have:=(((((((h.rest.far (p:=⟨w.heap.size+1,0,none⟩) (by show w.heap.size+1+1≠w.heap.size+1;omega) (.int .i64 0)).far (p:=⟨w.heap.size+1,1,none⟩) (by show w.heap.size+1+1≠w.heap.size+1;omega) (.int .i64 0)).far (p:=⟨w.heap.size+1,2,none⟩) (by show w.heap.size+1+1≠w.heap.size+1;omega) (.int .i64 0)).far (p:=⟨w.heap.size+1,3,none⟩) (by show w.heap.size+1+1≠w.heap.size+1;omega) (.string ⟨#[]⟩)).far (p:=⟨w.heap.size+1,4,none⟩) (by show w.heap.size+1+1≠w.heap.size+1;omega) (.string ⟨#[]⟩)).set_ 0 (.string s)).far (p:=⟨w.heap.size+1+1+1,0,none⟩) (by show w.heap.size+1+1≠w.heap.size+1+1+1;omega) (.bool false))
  simpa using this
 ·have:=(((((((h.isb.far (p:=⟨w.heap.size+1,0,none⟩) (by show w.heap.size+1+1+1≠w.heap.size+1;omega) (.int .i64 0)).far (p:=⟨w.heap.size+1,1,none⟩) (by show w.heap.size+1+1+1≠w.heap.size+1;omega) (.int .i64 0)).far (p:=⟨w.heap.size+1,2,none⟩) (by show w.heap.size+1+1+1≠w.heap.size+1;omega) (.int .i64 0)).far (p:=⟨w.heap.size+1,3,none⟩) (by show w.heap.size+1+1+1≠w.heap.size+1;omega) (.string ⟨#[]⟩)).far (p:=⟨w.heap.size+1,4,none⟩) (by show w.heap.size+1+1+1≠w.heap.size+1;omega) (.string ⟨#[]⟩)).far (p:=⟨w.heap.size+1+1,0,none⟩) (by show w.heap.size+1+1+1≠w.heap.size+1+1;omega) (.string s)).set_ 0 (.bool false))
  simpa using this
 ·exact((((((h.below.setCell (p:=⟨w.heap.size+1,0,none⟩) (by show w.heap.size≤w.heap.size+1;omega) _).setCell (p:=⟨w.heap.size+1,1,none⟩) (by show w.heap.size≤w.heap.size+1;omega) _).setCell (p:=⟨w.heap.size+1,2,none⟩) (by show w.heap.size≤w.heap.size+1;omega) _).setCell (p:=⟨w.heap.size+1,3,none⟩) (by show w.heap.size≤w.heap.size+1;omega) _).setCell (p:=⟨w.heap.size+1,4,none⟩) (by show w.heap.size≤w.heap.size+1;omega) _).setCell (p:=⟨w.heap.size+1+1,0,none⟩) (by show w.heap.size≤w.heap.size+1+1;omega) _).setCell (p:=⟨w.heap.size+1+1+1,0,none⟩) (by show w.heap.size≤w.heap.size+1+1+1;omega) _
theorem Auy (B:Nat) (w:World):
  CallsD Tryz.prog 130 (Ov B) .returning w fun en u' w'=>en= .returned (.tuple #[])∧u'= .returning∧w'=w:=by
 unfold Ov
 refine callsD_of_wpS Tryz.func130 rfl fun c₀ cs hu=> ?_
 apply wpS_seq
 apply wpS_region
 simp[wpOpsS,go_sem,recoverD,hu,Tryz.ntmps130,Exit.thenS]
 refine wpS_of_wp ?_
 change Code.wp _ _ _ (⟨#[.pointer (some ⟨B,0,none⟩),.pointer (some ⟨B+1,0,none⟩),.pointer (some ⟨B+1+1,0,none⟩),.pointer (some ⟨B+1+1+1,0,none⟩),.nilIface,.bool false,undef,undef],[]⟩:Act) _
 go_wp2_with fail
 refine⟨rfl,.returning,?_,_,results_none rfl _ _ _,rfl,rfl,rfl⟩
 cases c₀
 simp_all
theorem Qb {s:ByteArray} {w W:World} {a:Act} {v0 v1 v2 v3 v4:Value} (hd:a.defers=Al9 w.heap.size) (ht2:a.tmps[2]? =some (.pointer (some ⟨w.heap.size+1,0,none⟩))) (ht3:a.tmps[3]? =some (.pointer (some ⟨w.heap.size+1+1,0,none⟩))) (ht4:a.tmps[4]? =some (.pointer (some ⟨w.heap.size+1+1+1,0,none⟩)))
  (h:Ajb w W s v0 v1 v2 v3 v4) (hn:Hp s=none):
  bodyPostD Tryz.prog Tryz.f83 (T5 s w) (.panic [Uk]) a W:=by
 show Leaves Tryz.prog Tryz.f83 a.tmps (T5 s w) a.defers (.panicking [Uk]) W
 rw[hd]
 refine leaves_cons (f:=130) (args:=Ov w.heap.size) (by simp[Ov]) (by simp[go_sem,Ov]) ?_
 refine(Arw w W s v0 v1 v2 v3 v4 h).mono ?_
 rintro e u' w'' ⟨rfl,rfl,ha2,hr2,hi2,hb2⟩
 have k0:=ha2.cell 0;have k1:=ha2.cell 1;have k2:=ha2.cell 2;have k3:=ha2.cell 3;have k4:=ha2.cell 4;have k5:=hr2.cell 0;have k6:=hi2.cell 0
 simp only[zI,zJ,zK] at k0 k1 k2 k3 k4 k5 k6
 show Leaves Tryz.prog Tryz.f83 a.tmps (T5 s w) [] .returning _
 refine⟨.tuple #[.agg #[.int .i64 0,.int .i64 0,.int .i64 0,.string ⟨#[]⟩,.string ⟨#[]⟩],.string s,.bool false],?_,?_,hb2⟩
 ·simp[results,Tryz.results83,ht2,ht3,ht4,go_sem,k0,k1,k2,k3,k4,k5,k6]
 ·unfold Oh Aag Ui
  rw[hn]
  rfl
theorem Aux {s r:ByteArray} {x:Cn} {w W:World} {a:Act} (hd:a.defers=Al9 w.heap.size) (ht2:a.tmps[2]? =some (.pointer (some ⟨w.heap.size+1,0,none⟩))) (ht3:a.tmps[3]? =some (.pointer (some ⟨w.heap.size+1+1,0,none⟩))) (ht4:a.tmps[4]? =some (.pointer (some ⟨w.heap.size+1+1+1,0,none⟩)))
  (hx:Bk W (w.heap.size+1) 57 (Ez x).toArray) (hr:Bk W (w.heap.size+1+1) 9 #[.string r]) (hi:Bk W (w.heap.size+1+1+1) 4 #[.bool true]) (hb:Below w.heap.size w W) (hn:Hp s=some (x,r)):
  bodyPostD Tryz.prog Tryz.f83 (T5 s w) .ret a W:=by
 show Leaves Tryz.prog Tryz.f83 a.tmps (T5 s w) a.defers .returning W
 rw[hd]
 refine leaves_cons (f:=130) (args:=Ov w.heap.size) (by simp[Ov]) (by simp[go_sem,Ov]) ?_
 refine(Auy w.heap.size W).mono ?_
 rintro e u' w'' ⟨rfl,rfl,rfl⟩
 unfold Ez at hx
 have k0:=hx.cell 0;have k1:=hx.cell 1;have k2:=hx.cell 2;have k3:=hx.cell 3;have k4:=hx.cell 4;have k5:=hr.cell 0;have k6:=hi.cell 0
 simp only[zI,zJ,zK] at k0 k1 k2 k3 k4 k5 k6
 show Leaves Tryz.prog Tryz.f83 a.tmps (T5 s w) [] .returning _
 refine⟨.tuple #[.agg (Ez x).toArray,.string r,.bool true],?_,?_,hb⟩
 ·simp[results,Tryz.results83,ht2,ht3,ht4,go_sem,Ez,k0,k1,k2,k3,k4,k5,k6]
 ·unfold Oh Aag Ui
  rw[hn]
  rfl
theorem As0 (s:ByteArray) (w:World):Calls Tryz.prog 83 #[.string s] w (T5 s w):=by
 have hmf:∀(fn:Fn) (first cap:Array Value) (w:World),(Instr.makeFunc fn first cap).run Tryz.prog w= .ok (.func fn first cap) w:=fun _ _ _ _=>rfl
 go_enter_defers Tryz.func83,Tryz.ntmps83
 go_wp2_with fail
 obtain⟨W0,hW0⟩:∃W0,(((((w.alloc (.cells #[.string s] 9)).alloc (.cells #[.int .i64 0,.int .i64 0,.int .i64 0,.string ⟨#[]⟩,.string ⟨#[]⟩] 57)).alloc (.cells #[.string ⟨#[]⟩] 9)).alloc (.cells #[.bool false] 4)).alloc (.cells #[.string s] 168))=W0:=⟨_,rfl⟩
 have h0:Mk w W0 s (.int .i64 0) (.int .i64 0) (.int .i64 0) (.string ⟨#[]⟩) (.string ⟨#[]⟩) s:=by
  rw[←hW0]
  exact⟨((((Bk.new _ _ _).alloc _).alloc _).alloc _).alloc _,(((Bk.new_at _ _ _ (by simp)).alloc _).alloc _).alloc _,((Bk.new_at _ _ _ (by simp)).alloc _).alloc _,(Bk.new_at _ _ _ (by simp)).alloc _,Bk.new_at _ _ _ (by simp),
   (((((zb _ _).alloc (zn _) _).alloc (by simp) _).alloc (by simp;omega) _).alloc (by simp;omega) _).alloc (by simp;omega) _⟩
 rw[hW0]
 clear hW0
 have HA0:=zh h0;clear h0
 have q1:=Rt (w.heap.size+1+1+1+1) s W0 HA0.out.glass
 rcases o1:nmS s with _|⟨k,r1⟩
 ·rw[o1] at q1
  have HN:Hid (Hp s=none):=zh (by unfold Hp;simp only[o1,Option.bind_some,Option.bind_none])
  have HQ:=zh q1
  clear q1
  refine HQ.out.mono ?_
  rintro e wz ⟨hgr,rfl⟩
  have HDD:=zh (HA0.out.dead hgr)
  clear hgr
  go_wp2_with fail
  exact Qb rfl rfl rfl rfl HDD.out HN.out
 ·rw[o1] at q1
  have HQ:=zh q1;clear q1
  refine HQ.out.mono ?_
  clear HQ
  rintro e w1 ⟨hgr,rfl,hgl⟩
  have h1:=HA0.out.grown hgr hgl
  have hc:=h1.act.cell 0
  have hf:=h1.act.frozen 0
  have hlt:=h1.act.lt
  have hs1:=h1.set0 (.int .i64 (k:Nat))
  have HS:=zh hs1
  simp only[zI,zJ,zK] at hc
  clear hgr hgl h1 hs1
  go_wp2_with fail
  clear hc hf hlt
  obtain⟨W1,hW1⟩:∃W,w1.setCell ⟨w.heap.size+1,0,none⟩ (.int .i64 (k:Nat))=W:=⟨_,rfl⟩
  rw[hW1] at HS
  rw[hW1]
  clear hW1
  have HA1:=HS
  clear HS
  have q2:=Rt (w.heap.size+1+1+1+1) r1 W1 HA1.out.glass
  rcases o2:nmS r1 with _|⟨a,r2⟩
  ·rw[o2] at q2
   have HN:Hid (Hp s=none):=zh (by unfold Hp;simp only[o1,o2,Option.bind_some,Option.bind_none])
   have HQ:=zh q2
   clear q2
   refine HQ.out.mono ?_
   rintro e wz ⟨hgr,rfl⟩
   have HDD:=zh (HA1.out.dead hgr)
   clear hgr
   go_wp2_with fail
   exact Qb rfl rfl rfl rfl HDD.out HN.out
  ·rw[o2] at q2
   have HQ:=zh q2;clear q2
   refine HQ.out.mono ?_
   clear HQ
   rintro e w2 ⟨hgr,rfl,hgl⟩
   have h2:=HA1.out.grown hgr hgl
   have hc:=h2.act.cell 1
   have hf:=h2.act.frozen 1
   have hlt:=h2.act.lt
   have hs2:=h2.set1 (.int .i64 (a:Nat))
   have HS:=zh hs2
   simp only[zI,zJ,zK] at hc
   clear hgr hgl h2 hs2
   go_wp2_with fail
   clear hc hf hlt
   obtain⟨W2,hW2⟩:∃W,w2.setCell ⟨w.heap.size+1,1,none⟩ (.int .i64 (a:Nat))=W:=⟨_,rfl⟩
   rw[hW2] at HS
   rw[hW2]
   clear hW2
   have HA2:=HS
   clear HS
   have q3:=Rt (w.heap.size+1+1+1+1) r2 W2 HA2.out.glass
   rcases o3:nmS r2 with _|⟨b,r3⟩
   ·rw[o3] at q3
    have HN:Hid (Hp s=none):=zh (by unfold Hp;simp only[o1,o2,o3,Option.bind_some,Option.bind_none])
    have HQ:=zh q3
    clear q3
    refine HQ.out.mono ?_
    rintro e wz ⟨hgr,rfl⟩
    have HDD:=zh (HA2.out.dead hgr)
    clear hgr
    go_wp2_with fail
    exact Qb rfl rfl rfl rfl HDD.out HN.out
   ·rw[o3] at q3
    have HQ:=zh q3;clear q3
    refine HQ.out.mono ?_
    clear HQ
    rintro e w3 ⟨hgr,rfl,hgl⟩
    have h3:=HA2.out.grown hgr hgl
    have hc:=h3.act.cell 2
    have hf:=h3.act.frozen 2
    have hlt:=h3.act.lt
    have hs3:=h3.set2 (.int .i64 (b:Nat))
    have HS:=zh hs3
    simp only[zI,zJ,zK] at hc
    clear hgr hgl h3 hs3
    go_wp2_with fail
    clear hc hf hlt
    obtain⟨W3,hW3⟩:∃W,w3.setCell ⟨w.heap.size+1,2,none⟩ (.int .i64 (b:Nat))=W:=⟨_,rfl⟩
    rw[hW3] at HS
    rw[hW3]
    clear hW3
    have HA3:=HS
    clear HS
    have q4:=Rt (w.heap.size+1+1+1+1) r3 W3 HA3.out.glass
    rcases o4:nmS r3 with _|⟨n,r4⟩
    ·rw[o4] at q4
     have HN:Hid (Hp s=none):=zh (by unfold Hp;simp only[o1,o2,o3,o4,Option.bind_some,Option.bind_none])
     have HQ:=zh q4
     clear q4
     refine HQ.out.mono ?_
     rintro e wz ⟨hgr,rfl⟩
     have HDD:=zh (HA3.out.dead hgr)
     clear hgr
     go_wp2_with fail
     exact Qb rfl rfl rfl rfl HDD.out HN.out
    ·rw[o4] at q4
     have HQ:=zh q4;clear q4
     refine HQ.out.mono ?_
     clear HQ
     rintro e w4 ⟨hgr,rfl,hgl⟩
     have HA4:=zh (HA3.out.grown hgr hgl)
     clear hgr hgl
     go_wp2_with fail
     have q5:=V7 (w.heap.size+1+1+1+1) r4 n w4 HA4.out.glass
     rcases o5:tkS n r4 with _|⟨y,r5⟩
     ·rw[o5] at q5
      have HN:Hid (Hp s=none):=zh (by unfold Hp;simp only[o1,o2,o3,o4,o5,Option.bind_some,Option.bind_none])
      have HQ:=zh q5
      clear q5
      refine HQ.out.mono ?_
      rintro e wz ⟨hgr,rfl⟩
      have HDD:=zh (HA4.out.dead hgr)
      clear hgr
      go_wp2_with fail
      exact Qb rfl rfl rfl rfl HDD.out HN.out
     ·rw[o5] at q5
      have HQ:=zh q5;clear q5
      refine HQ.out.mono ?_
      clear HQ
      rintro e w5 ⟨hgr,rfl,hgl⟩
      have h5:=HA4.out.grown hgr hgl
      have hc:=h5.act.cell 3
      have hf:=h5.act.frozen 3
      have hlt:=h5.act.lt
      have hs5:=h5.set3 (.string y)
      have HS:=zh hs5
      simp only[zI,zJ,zK] at hc
      clear hgr hgl h5 hs5
      go_wp2_with fail
      clear hc hf hlt
      obtain⟨W5,hW5⟩:∃W,w5.setCell ⟨w.heap.size+1,3,none⟩ (.string y)=W:=⟨_,rfl⟩
      rw[hW5] at HS
      rw[hW5]
      clear hW5
      have HA5:=HS
      clear HS
      have q6:=Rt (w.heap.size+1+1+1+1) r5 W5 HA5.out.glass
      rcases o6:nmS r5 with _|⟨m,r6⟩
      ·rw[o6] at q6
       have HN:Hid (Hp s=none):=zh (by unfold Hp;simp only[o1,o2,o3,o4,o5,o6,Option.bind_some,Option.bind_none])
       have HQ:=zh q6
       clear q6
       refine HQ.out.mono ?_
       rintro e wz ⟨hgr,rfl⟩
       have HDD:=zh (HA5.out.dead hgr)
       clear hgr
       go_wp2_with fail
       exact Qb rfl rfl rfl rfl HDD.out HN.out
      ·rw[o6] at q6
       have HQ:=zh q6;clear q6
       refine HQ.out.mono ?_
       clear HQ
       rintro e w6 ⟨hgr,rfl,hgl⟩
       have HA6:=zh (HA5.out.grown hgr hgl)
       clear hgr hgl
       go_wp2_with fail
       have q7:=V7 (w.heap.size+1+1+1+1) r6 m w6 HA6.out.glass
       rcases o7:tkS m r6 with _|⟨z,r7⟩
       ·rw[o7] at q7
        have HN:Hid (Hp s=none):=zh (by unfold Hp;simp only[o1,o2,o3,o4,o5,o6,o7,Option.bind_some,Option.bind_none])
        have HQ:=zh q7
        clear q7
        refine HQ.out.mono ?_
        rintro e wz ⟨hgr,rfl⟩
        have HDD:=zh (HA6.out.dead hgr)
        clear hgr
        go_wp2_with fail
        exact Qb rfl rfl rfl rfl HDD.out HN.out
       ·rw[o7] at q7
        have HQ:=zh q7;clear q7
        refine HQ.out.mono ?_
        clear HQ
        rintro e w7 ⟨hgr,rfl,hgl⟩
        have h7:=HA6.out.grown hgr hgl
        have hc:=h7.act.cell 4
        have hf:=h7.act.frozen 4
        have hlt:=h7.act.lt
        have hs7:=h7.set4 (.string z)
        have HS:=zh hs7
        simp only[zI,zJ,zK] at hc
        clear hgr hgl h7 hs7
        go_upto_region 8 with fail
        clear hc hf hlt
        obtain⟨W7,hW7⟩:∃W,w7.setCell ⟨w.heap.size+1,4,none⟩ (.string z)=W:=⟨_,rfl⟩
        rw[hW7] at HS
        rw[hW7]
        clear hW7
        have HA7:=HS
        clear HS
        have HN:Hid (Hp s=some (⟨(k:Nat),(a:Nat),(b:Nat),y,z⟩,r7)):=zh (by unfold Hp;simp only[o1,o2,o3,o4,o5,o6,o7,Option.bind_some])
        have hW:=HA7.out
        have z0:Mk w W7.drew s (.int .i64 (k:Nat)) (.int .i64 (a:Nat)) (.int .i64 (b:Nat)) (.string y) (.string z) r7:=hW.dr
        have z5:=((((hW.set0 (.int .i64 (k:Nat))).set1 (.int .i64 (a:Nat))).set2 (.int .i64 (b:Nat))).set3 (.string y)).set4 (.string z)
        have HF:Hid (Bk (((((((W7.setCell ⟨w.heap.size+1,0,none⟩ (.int .i64 (k:Nat))).setCell ⟨w.heap.size+1,1,none⟩ (.int .i64 (a:Nat))).setCell ⟨w.heap.size+1,2,none⟩ (.int .i64 (b:Nat))).setCell ⟨w.heap.size+1,3,none⟩ (.string y)).setCell ⟨w.heap.size+1,4,none⟩ (.string z)).setCell ⟨w.heap.size+1+1,0,none⟩ (.string r7)).setCell ⟨w.heap.size+1+1+1,0,none⟩ (.bool true)) (w.heap.size+1) 57 (Ez (⟨(k:Nat),(a:Nat),(b:Nat),y,z⟩:Cn)).toArray∧Bk (((((((W7.setCell ⟨w.heap.size+1,0,none⟩ (.int .i64 (k:Nat))).setCell ⟨w.heap.size+1,1,none⟩ (.int .i64 (a:Nat))).setCell ⟨w.heap.size+1,2,none⟩ (.int .i64 (b:Nat))).setCell ⟨w.heap.size+1,3,none⟩ (.string y)).setCell ⟨w.heap.size+1,4,none⟩ (.string z)).setCell ⟨w.heap.size+1+1,0,none⟩ (.string r7)).setCell ⟨w.heap.size+1+1+1,0,none⟩ (.bool true)) (w.heap.size+1+1) 9 #[.string r7]∧Bk (((((((W7.setCell ⟨w.heap.size+1,0,none⟩ (.int .i64 (k:Nat))).setCell ⟨w.heap.size+1,1,none⟩ (.int .i64 (a:Nat))).setCell ⟨w.heap.size+1,2,none⟩ (.int .i64 (b:Nat))).setCell ⟨w.heap.size+1,3,none⟩ (.string y)).setCell ⟨w.heap.size+1,4,none⟩ (.string z)).setCell ⟨w.heap.size+1+1,0,none⟩ (.string r7)).setCell ⟨w.heap.size+1+1+1,0,none⟩ (.bool true)) (w.heap.size+1+1+1) 4 #[.bool true]∧Jj (((((((W7.setCell ⟨w.heap.size+1,0,none⟩ (.int .i64 (k:Nat))).setCell ⟨w.heap.size+1,1,none⟩ (.int .i64 (a:Nat))).setCell ⟨w.heap.size+1,2,none⟩ (.int .i64 (b:Nat))).setCell ⟨w.heap.size+1,3,none⟩ (.string y)).setCell ⟨w.heap.size+1,4,none⟩ (.string z)).setCell ⟨w.heap.size+1+1,0,none⟩ (.string r7)).setCell ⟨w.heap.size+1+1+1,0,none⟩ (.bool true)) (w.heap.size+1+1+1+1) r7∧Below w.heap.size w (((((((W7.setCell ⟨w.heap.size+1,0,none⟩ (.int .i64 (k:Nat))).setCell ⟨w.heap.size+1,1,none⟩ (.int .i64 (a:Nat))).setCell ⟨w.heap.size+1,2,none⟩ (.int .i64 (b:Nat))).setCell ⟨w.heap.size+1,3,none⟩ (.string y)).setCell ⟨w.heap.size+1,4,none⟩ (.string z)).setCell ⟨w.heap.size+1+1,0,none⟩ (.string r7)).setCell ⟨w.heap.size+1+1+1,0,none⟩ (.bool true))):=zh
         ⟨(z5.act.far (p:=⟨w.heap.size+1+1,0,none⟩) (by show w.heap.size+1≠w.heap.size+1+1;omega) _).far (p:=⟨w.heap.size+1+1+1,0,none⟩) (by show w.heap.size+1≠w.heap.size+1+1+1;omega) _,(z5.rest.set_ 0 (.string r7)).far (p:=⟨w.heap.size+1+1+1,0,none⟩) (by show w.heap.size+1+1≠w.heap.size+1+1+1;omega) _,(z5.isb.far (p:=⟨w.heap.size+1+1,0,none⟩) (by show w.heap.size+1+1+1≠w.heap.size+1+1;omega) _).set_ 0 (.bool true),Bk.far (p:=⟨w.heap.size+1+1+1,0,none⟩) (Bk.far (p:=⟨w.heap.size+1+1,0,none⟩) z5.glass (by show w.heap.size+1+1+1+1≠w.heap.size+1+1;omega) (.string r7)) (by show w.heap.size+1+1+1+1≠w.heap.size+1+1+1;omega) (.bool true),(z5.below.setCell (p:=⟨w.heap.size+1+1,0,none⟩) (by show w.heap.size≤w.heap.size+1+1;omega) _).setCell (p:=⟨w.heap.size+1+1+1,0,none⟩) (by show w.heap.size≤w.heap.size+1+1+1;omega) _⟩
        have e0:(fun W=>W.cell? ⟨w.heap.size+1,0,none⟩=some (.int .i64 (k:Nat))∧W.cell? ⟨w.heap.size+1,1,none⟩=some (.int .i64 (a:Nat))∧W.cell? ⟨w.heap.size+1,2,none⟩=some (.int .i64 (b:Nat))∧W.cell? ⟨w.heap.size+1,3,none⟩=some (.string y)∧W.cell? ⟨w.heap.size+1,4,none⟩=some (.string z)∧W.cell? ⟨w.heap.size+1+1+1+1,0,none⟩=some (.string r7)) W7.drew:=⟨z0.act.cell 0,z0.act.cell 1,z0.act.cell 2,z0.act.cell 3,z0.act.cell 4,Bk.cell z0.glass 0⟩
        have y5':=z5.dr
        have e5:(fun W=>W.cell? ⟨w.heap.size+1,0,none⟩=some (.int .i64 (k:Nat))∧W.cell? ⟨w.heap.size+1,1,none⟩=some (.int .i64 (a:Nat))∧W.cell? ⟨w.heap.size+1,2,none⟩=some (.int .i64 (b:Nat))∧W.cell? ⟨w.heap.size+1,3,none⟩=some (.string y)∧W.cell? ⟨w.heap.size+1,4,none⟩=some (.string z)∧W.cell? ⟨w.heap.size+1+1+1+1,0,none⟩=some (.string r7)) (((((W7.setCell ⟨w.heap.size+1,0,none⟩ (.int .i64 (k:Nat))).setCell ⟨w.heap.size+1,1,none⟩ (.int .i64 (a:Nat))).setCell ⟨w.heap.size+1,2,none⟩ (.int .i64 (b:Nat))).setCell ⟨w.heap.size+1,3,none⟩ (.string y)).setCell ⟨w.heap.size+1,4,none⟩ (.string z)).drew:=⟨y5'.act.cell 0,y5'.act.cell 1,y5'.act.cell 2,y5'.act.cell 3,y5'.act.cell 4,Bk.cell y5'.glass 0⟩
        have g6:=Bk.dr' (Bk.far (p:=⟨w.heap.size+1+1,0,none⟩) z5.glass (by show w.heap.size+1+1+1+1≠w.heap.size+1+1;omega) (.string r7))
        have a6:=Bk.dr' (z5.act.far (p:=⟨w.heap.size+1+1,0,none⟩) (by show w.heap.size+1≠w.heap.size+1+1;omega) (.string r7))
        have e6:(fun W=>W.cell? ⟨w.heap.size+1,0,none⟩=some (.int .i64 (k:Nat))∧W.cell? ⟨w.heap.size+1,1,none⟩=some (.int .i64 (a:Nat))∧W.cell? ⟨w.heap.size+1,2,none⟩=some (.int .i64 (b:Nat))∧W.cell? ⟨w.heap.size+1,3,none⟩=some (.string y)∧W.cell? ⟨w.heap.size+1,4,none⟩=some (.string z)∧W.cell? ⟨w.heap.size+1+1+1+1,0,none⟩=some (.string r7)) ((((((W7.setCell ⟨w.heap.size+1,0,none⟩ (.int .i64 (k:Nat))).setCell ⟨w.heap.size+1,1,none⟩ (.int .i64 (a:Nat))).setCell ⟨w.heap.size+1,2,none⟩ (.int .i64 (b:Nat))).setCell ⟨w.heap.size+1,3,none⟩ (.string y)).setCell ⟨w.heap.size+1,4,none⟩ (.string z)).setCell ⟨w.heap.size+1+1,0,none⟩ (.string r7)).drew:=⟨a6.cell 0,a6.cell 1,a6.cell 2,a6.cell 3,a6.cell 4,Bk.cell g6 0⟩
        have g7:=Bk.dr' HF.out.2.2.2.1
        have a7:=Bk.dr' HF.out.1
        have e7:(fun W=>W.cell? ⟨w.heap.size+1,0,none⟩=some (.int .i64 (k:Nat))∧W.cell? ⟨w.heap.size+1,1,none⟩=some (.int .i64 (a:Nat))∧W.cell? ⟨w.heap.size+1,2,none⟩=some (.int .i64 (b:Nat))∧W.cell? ⟨w.heap.size+1,3,none⟩=some (.string y)∧W.cell? ⟨w.heap.size+1,4,none⟩=some (.string z)∧W.cell? ⟨w.heap.size+1+1+1+1,0,none⟩=some (.string r7)) (((((((W7.setCell ⟨w.heap.size+1,0,none⟩ (.int .i64 (k:Nat))).setCell ⟨w.heap.size+1,1,none⟩ (.int .i64 (a:Nat))).setCell ⟨w.heap.size+1,2,none⟩ (.int .i64 (b:Nat))).setCell ⟨w.heap.size+1,3,none⟩ (.string y)).setCell ⟨w.heap.size+1,4,none⟩ (.string z)).setCell ⟨w.heap.size+1+1,0,none⟩ (.string r7)).setCell ⟨w.heap.size+1+1+1,0,none⟩ (.bool true)).drew:=⟨a7.cell 0,a7.cell 1,a7.cell 2,a7.cell 3,a7.cell 4,Bk.cell g7 0⟩
        have l1:=hW.act.lt;have l2:=hW.rest.lt;have l3:=hW.isb.lt
        have m1:w.heap.size+1 < W7.drew.heap.size:=l1
        have m2:w.heap.size+1+1 < W7.drew.heap.size:=l2
        have m3:w.heap.size+1+1+1 < W7.drew.heap.size:=l3
        have f0:W7.drew.frozen? ⟨w.heap.size+1,0,none⟩=false:=z0.act.frozen 0
        have f1:W7.drew.frozen? ⟨w.heap.size+1,1,none⟩=false:=z0.act.frozen 1
        have f2:W7.drew.frozen? ⟨w.heap.size+1,2,none⟩=false:=z0.act.frozen 2
        have f3:W7.drew.frozen? ⟨w.heap.size+1,3,none⟩=false:=z0.act.frozen 3
        have f4:W7.drew.frozen? ⟨w.heap.size+1,4,none⟩=false:=z0.act.frozen 4
        have f5:W7.drew.frozen? ⟨w.heap.size+1+1,0,none⟩=false:=z0.rest.frozen 0
        have f6:W7.drew.frozen? ⟨w.heap.size+1+1+1,0,none⟩=false:=z0.isb.frozen 0
        have y5:W7.drew.cell? ⟨w.heap.size+1+1,0,none⟩=some (.string ⟨#[]⟩):=z0.rest.cell 0
        have y6:W7.drew.cell? ⟨w.heap.size+1+1+1,0,none⟩=some (.bool false):=z0.isb.cell 0
        have xx0:W7.cell? ⟨w.heap.size+1,0,none⟩=some (.int .i64 (k:Nat)):=hW.act.cell 0
        have ff0:W7.frozen? ⟨w.heap.size+1,0,none⟩=false:=hW.act.frozen 0
        have xx1:W7.cell? ⟨w.heap.size+1,1,none⟩=some (.int .i64 (a:Nat)):=hW.act.cell 1
        have ff1:W7.frozen? ⟨w.heap.size+1,1,none⟩=false:=hW.act.frozen 1
        have xx2:W7.cell? ⟨w.heap.size+1,2,none⟩=some (.int .i64 (b:Nat)):=hW.act.cell 2
        have ff2:W7.frozen? ⟨w.heap.size+1,2,none⟩=false:=hW.act.frozen 2
        have xx3:W7.cell? ⟨w.heap.size+1,3,none⟩=some (.string y):=hW.act.cell 3
        have ff3:W7.frozen? ⟨w.heap.size+1,3,none⟩=false:=hW.act.frozen 3
        have xx4:W7.cell? ⟨w.heap.size+1,4,none⟩=some (.string z):=hW.act.cell 4
        have ff4:W7.frozen? ⟨w.heap.size+1,4,none⟩=false:=hW.act.frozen 4
        have ff5:W7.frozen? ⟨w.heap.size+1+1,0,none⟩=false:=hW.rest.frozen 0
        have ff6:W7.frozen? ⟨w.heap.size+1+1+1,0,none⟩=false:=hW.isb.frozen 0
        have yy5:W7.cell? ⟨w.heap.size+1+1,0,none⟩=some (.string ⟨#[]⟩):=hW.rest.cell 0
        have yy6:W7.cell? ⟨w.heap.size+1+1+1,0,none⟩=some (.bool false):=hW.isb.cell 0
        obtain⟨x0,x1,x2,x3,x4,_⟩:=e0
        have e0:(fun W=>W.cell? ⟨w.heap.size+1,0,none⟩=some (.int .i64 (k:Nat))∧W.cell? ⟨w.heap.size+1,1,none⟩=some (.int .i64 (a:Nat))∧W.cell? ⟨w.heap.size+1,2,none⟩=some (.int .i64 (b:Nat))∧W.cell? ⟨w.heap.size+1,3,none⟩=some (.string y)∧W.cell? ⟨w.heap.size+1,4,none⟩=some (.string z)∧W.cell? ⟨w.heap.size+1+1+1+1,0,none⟩=some (.string r7)) W7.drew:=⟨x0,x1,x2,x3,x4,Bk.cell z0.glass 0⟩
        clear z0 z5 g6 a6 g7 a7 y5' hW
        refine Is ?_
        refine wp_region_held_drew (S:=(fun W=>W.cell? ⟨w.heap.size+1,0,none⟩=some (.int .i64 (k:Nat))∧W.cell? ⟨w.heap.size+1,1,none⟩=some (.int .i64 (a:Nat))∧W.cell? ⟨w.heap.size+1,2,none⟩=some (.int .i64 (b:Nat))∧W.cell? ⟨w.heap.size+1,3,none⟩=some (.string y)∧W.cell? ⟨w.heap.size+1,4,none⟩=some (.string z)∧W.cell? ⟨w.heap.size+1+1+1+1,0,none⟩=some (.string r7))) (by kernel_rfl) (by first|assumption|exact e0) (fun hHeld=> ?_)
        first|(refine zH 0 ?_)|(refine zU 0 ?_)
        try simp only[Act.put,zA,zB,zC,zD,zE]
        first|(refine zH 1 ?_)|(refine zU 1 ?_)
        try simp only[Act.put,zA,zB,zC,zD,zE,zF]
        first|(refine zH 2 ?_)|(refine zU 2 ?_)
        try simp only[Act.put,zA,zB,zC,zD,zE,zF]
        first|(refine zH 3 ?_)|(refine zU 3 ?_)
        try simp only[Act.put,zA,zB,zC,zD,zE,zF]
        first|(refine zH 4 ?_)|(refine zU 4 ?_)
        try simp only[Act.put,zA,zB,zC,zD,zE,zF]
        clear hHeld
        refine zR 5 fun K hK=> ?_
        go_simp
        refine hK.out _ _ (by exact e5) (fun hHeld=> ?_)
        clear hK K
        try simp only[Act.put,zA,zB,zC,zD,zE,zF]
        refine zR 6 fun K hK=> ?_
        clear hHeld
        go_simp
        refine hK.out _ _ (by exact e6) (fun hHeld=> ?_)
        clear hK K
        try simp only[Act.put,zA,zB,zC,zD,zE,zF]
        refine zR 7 fun K hK=> ?_
        clear hHeld
        go_simp
        refine hK.out _ _ (by exact e7) (fun hHeld=> ?_)
        clear hK K
        try simp only[Act.put,zA,zB,zC,zD,zE,zF]
        refine wpAnyH_done (by kernel_rfl) ?_ _
        refine RQ0.normal ?_
        clear hHeld e0 e5 e6 e7
        go_wp2_with fail
        exact Aux rfl rfl rfl rfl (Bk.dr' HF.out.1) (Bk.dr' HF.out.2.1) (Bk.dr' HF.out.2.2.1) HF.out.2.2.2.2.drew HN.out
end Go.Proofs.YtaanpcjkflhomaaGreatDoor
