/-
  Parts of a line that reads; a slice cut at its end.
-/
import Derived.Test.YtaanpcjkflhomaaGreatDoorLinesGA
set_option maxHeartbeats 20000000
set_option maxRecDepth 100000
set_option linter.unusedSimpArgs false
set_option linter.unusedVariables false
namespace Go.Proofs.YtaanpcjkflhomaaGreatDoor
open Go Go.RowKit
theorem Pk {P:Program} {t size:Nat} (ht:P.underlying t=some (.slice (P.elem t))) (hs:∀w,(sizeOf (P.elem t)).run P w= .ok size w) (a:Option Addr) (len cap k:Nat) (i:Int) (hi:i=(k:Int)) (hk:k≤cap) (w:World):
  (Instr.slice t (.slice a len cap) none (some (.int .i64 i)) none).run P w= .ok (.slice a k cap) w:=by
 subst hi
 rw[run_slice_h w t a len cap ht .i64 k (by omega) (by omega),hs]
 cases a with
 |none=>simp[sliced,Result.andThen]
 |some a=>simp[sliced,Result.andThen,Addr.add]
end Go.Proofs.YtaanpcjkflhomaaGreatDoor
