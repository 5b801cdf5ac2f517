/-
  Rows of ints that are read, in all that comes.
  The reference's fits, walked.
  The reference's answer on routes: in, PostsOf, QueuesOf, RouteError.
  The reference's answer on routes: QueuesOf, RouteError.
-/
import Derived.Test.YtaanpcjkflhomaaGreatDoorBunO
import Derived.Test.YtaanpcjkflhomaaGreatDoorBunN
import Derived.Test.YtaanpcjkflhomaaGreatDoorWalkL
import Derived.Test.YtaanpcjkflhomaaGreatDoorBunD
set_option maxHeartbeats 20000000
set_option maxRecDepth 100000
set_option linter.unusedSimpArgs false
set_option linter.unusedVariables false
namespace Go.Proofs.YtaanpcjkflhomaaGreatDoor
open Go Go.RowKit
def IntsIn (W0:World) (v:Value) (xs:List Int):Prop:=∃a c,v= .slice a xs.length c∧xs.length≤1048576∧Sl W0 0 W0.heap.size a (xs.map (Value.int .i64))
theorem IntsIn.at_ {W0 W:World} {a:Option Addr} {c:Nat} {xs:List Int} (h:Sl W0 0 W0.heap.size a (xs.map (Value.int .i64))) (hb:Below W0.heap.size W0 W) {j:Nat} (hj:j < xs.length):∃b o,a=some ⟨b,o,none⟩∧∀i,(hi:i < xs.length)→W.cell? ⟨b,o+i,none⟩=some (.int .i64 xs[i]):=by
 obtain⟨b,o,rfl,h1,h2⟩:=M0 h hj
 refine⟨b,o,rfl,fun i hi=> ?_⟩
 obtain⟨b',o',e,h3,h4⟩:=M0 h hi
 simp only[Option.some.injEq,Addr.mk.injEq] at e
 obtain⟨rfl,rfl,_⟩:=e
 exact(hb.cell (p:=⟨b,o+i,none⟩) h1).trans h4
theorem IntsIn.since {W0 W:World} {v:Value} {xs:List Int} (h:IntsIn W0 v xs) (hb:Below W0.heap.size W0 W):IntsIn W v xs:=by
 obtain⟨a,c,e,h1,h2⟩:=h
 exact⟨a,c,e,h1,(h2.below hb (zn _)).wider (zn _) hb.size⟩
open Go.RowKit
end Go.Proofs.YtaanpcjkflhomaaGreatDoor
namespace Go.Proofs.YtaanpcjkflhomaaGreatDoor
open Go.RowKit
open Go Go.RowKit
def Mj (W:World) (g:Nat) (l:List Bool):Prop:=Bk W g 4 (l.map Value.bool).toArray
theorem Mj.cell {W:World} {g:Nat} {l:List Bool} (h:Mj W g l) {i:Nat} (hi:i < l.length):W.cell? ⟨g,i,none⟩=some (.bool l[i]):=by
 have:=Bk.cell h i
 rw[this]
 simp[hi]
theorem Mj.set {W:World} {g:Nat} {l:List Bool} (h:Mj W g l) (i:Nat) (b:Bool):Mj (W.setCell ⟨g,i,none⟩ (.bool b)) g (l.set i b):=by
 have:=Bk.set_ h i (.bool b)
 unfold Mj
 rw[List.map_set]
 simpa using this
structure T6 (w:World) (p:Ab) (P:Array Value) (g:Nat) (l:List Bool) (W:World):Prop where
 box:Bk W w.heap.size 26 P
 is:Mj W g l
 below:Below w.heap.size w W
 g:w.heap.size < g
theorem T6.set {w W:World} {p:Ab} {P:Array Value} {g:Nat} {l:List Bool} (h:T6 w p P g l W) (i:Nat):T6 w p P g (l.set i true) (W.setCell ⟨g,i,none⟩ (.bool true)):=
 ⟨h.box.far (p:=⟨g,i,none⟩) (by have:=h.g;show w.heap.size≠g;omega) _,h.is.set i true,h.below.setCell (p:=⟨g,i,none⟩) (by have:=h.g;show w.heap.size≤g;omega) _,h.g⟩
open Go Go.RowKit
structure Ym (w:World) (p:Ab) (a1 a2 a3:Option Addr) (c1 c2 c3:Nat) (W0:World):Prop where
 box:Bk W0 w.heap.size 26 #[.slice a1 p.posts.length c1,.slice a2 p.queues.length c2,.slice a3 p.binds.length c3]
 plan:Az W0 0 W0.heap.size a1 a2 a3 p
theorem Ym.since {w W0 W:World} {p:Ab} {a1 a2 a3:Option Addr} {c1 c2 c3:Nat} (h:Ym w p a1 a2 a3 c1 c2 c3 W0) (hb:Below W0.heap.size W0 W):Ym w p a1 a2 a3 c1 c2 c3 W:=
 ⟨h.box.below hb h.box.lt,(h.plan.below hb (zn _)).wider (zn _) hb.size⟩
end Go.Proofs.YtaanpcjkflhomaaGreatDoor
