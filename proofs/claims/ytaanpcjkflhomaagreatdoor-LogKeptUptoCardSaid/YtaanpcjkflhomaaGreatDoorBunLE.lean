/-
  The plain law of what is written behind a log, and of a log that is cut.
-/
import Derived.Test.YtaanpcjkflhomaaGreatDoorBunLB
import Derived.Test.YtaanpcjkflhomaaGreatDoorBunG
set_option maxHeartbeats 20000000
set_option maxRecDepth 100000
set_option linter.unusedSimpArgs false
set_option linter.unusedVariables false
namespace Go.Proofs.YtaanpcjkflhomaaGreatDoor
open Go Go.RowKit
theorem Am7 {x:Cn} (h:F0 x=0):Df x=true∧Gc x=bs (Jg x):=by
 have h1:Df x=true:=by
  cases hc:Df x with
  |true=>rfl
  |false=>unfold F0 at h;rw[hc] at h;simp at h
 refine⟨h1,?_⟩;unfold Gc;rw[zp h1,Ad2]
theorem Wk (t:ByteArray) (h:t.size≤4096):Dd t=0∧Dq t=(Jr 60 t.data.toList).1∧J4 t=(t.size:Int) - ((Jr 60 t.data.toList).2.length:Int):=by
 have e:=Am1 60 t.data.toList;rw[Px] at e;refine⟨zq (by omega),?_,?_⟩
 ·unfold Dq
  rw[zq (by omega),e]
 ·unfold J4
  rw[zq (by omega),e];rfl
theorem Axr {l:List Cn} {k:Nat} (hl:l.length≤60) (hr:∀x∈l,Df x=true) (hs:(Jh l).length≤4096):Dd (bs ((Jh l).take k))=0∧Dq (bs ((Jh l).take k))=l.take (Pn l k):=by
 have hsz:(bs ((Jh l).take k)).size≤4096:=by rw[Me,List.length_take];omega
 obtain⟨e1,e2,_⟩:=Wk _ hsz;refine⟨e1,?_⟩;rw[e2];exact Ah6 l 60 k hl hr
open Go Go.RowKit
theorem Aa6 (x:Cn):(Gc x).size≤515:=by
 unfold Gc
 split
 ·rename_i h
  have h':=h;unfold Df at h';simp only[zc,zd] at h';rw[Ad2,Me,Abs];omega
 ·exact Nat.zero_le _
end Go.Proofs.YtaanpcjkflhomaaGreatDoor
