/-
  Walk of the reference's PushOf.
-/
import Derived.Test.YtaanpcjkflhomaaGreatDoorBunE
set_option maxHeartbeats 20000000
set_option maxRecDepth 100000
set_option linter.unusedSimpArgs false
set_option linter.unusedVariables false
namespace Go.Proofs.YtaanpcjkflhomaaGreatDoor
open Go.RowKit
def Ai1 (w W0:World) (x:Ap):Prop:=∀W,Below W0.heap.size W0 W→(W.cell? ⟨w.heap.size,0,none⟩=some (.int .i64 x.seq)∧W.cell? ⟨w.heap.size,1,none⟩=some (.string x.key)∧W.cell? ⟨w.heap.size,2,none⟩=some (.string x.body)∧W.cell? ⟨w.heap.size,3,none⟩=some (.bool x.again)∧W.cell? ⟨w.heap.size,4,none⟩=some (.int .i64 x.deaths))∧Below w.heap.size w W
theorem Rk (w:World) (x:Ap) (t:TypeId):Ai1 w (w.alloc (.cells #[.int .i64 x.seq,.string x.key,.string x.body,.bool x.again,.int .i64 x.deaths] t)) x:=fun W hW=>by
 have hb:=(Bk.new w t #[.int .i64 x.seq,.string x.key,.string x.body,.bool x.again,.int .i64 x.deaths]).below hW (by simp)
 refine⟨⟨?_,?_,?_,?_,?_⟩,((zb _ w).alloc (zn _) _).trans (hW.mono (by simp))⟩
 ·have:=hb.cell 0;simpa using this
 ·have:=hb.cell 1;simpa using this
 ·have:=hb.cell 2;simpa using this
 ·have:=hb.cell 3;simpa using this
 ·have:=hb.cell 4;simpa using this
end Go.Proofs.YtaanpcjkflhomaaGreatDoor
