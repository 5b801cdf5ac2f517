/-
  log.Recover: what stays small on the way.
-/
import Derived.Test.YtaanpcjkflhomaaGreatDoorLogG
import Derived.Test.YtaanpcjkflhomaaGreatDoorLogP
import Derived.Test.YtaanpcjkflhomaaGreatDoorDoP
import Derived.Test.YtaanpcjkflhomaaGreatDoorBunG
import Derived.Test.YtaanpcjkflhomaaGreatDoorBunJ
set_option maxHeartbeats 20000000
set_option maxRecDepth 100000
set_option linter.unusedSimpArgs false
set_option linter.unusedVariables false
namespace Go.Proofs.YtaanpcjkflhomaaGreatDoor
open Go Go.RowKit
theorem Agq {p:Ab} {s:Aa} (x:Cn) (h:Am s∧Ba s):Am (Lb p s x)∧Ba (Lb p s x):=by
 unfold Lb
 by_cases h0:E2 p s x=0
 ·rw[if_pos h0]
  exact⟨(Q8 h0).right.small,(Q8 h0).right.ints⟩
 ·rw[if_neg h0]
  exact h
theorem Nr {p:Ab} (hp:Ai p):∀(l:List Cn),Am (Ju p l)∧Ba (Ju p l):=by
 intro l
 have hk:∀(l:List Cn) (s:Aa),(Am s∧Ba s)→Am (l.foldl (Lb p) s)∧Ba (l.foldl (Lb p) s):=by
  intro l
  induction l with
  |nil=>intro s h;exact h
  |cons x l ih=>intro s h;exact ih _ (Agq x h)
 exact hk l _ ⟨Wv hp,Aea p⟩
end Go.Proofs.YtaanpcjkflhomaaGreatDoor
