/-
  An act whose numbers and texts are within bounds.
-/
import Derived.Test.YtaanpcjkflhomaaGreatDoorBunA
set_option maxHeartbeats 20000000
set_option maxRecDepth 100000
set_option linter.unusedSimpArgs false
set_option linter.unusedVariables false
namespace Go.Proofs.YtaanpcjkflhomaaGreatDoor
structure Eb (x:Cn):Prop where
 kind: -9223372036854775808≤x.kind∧x.kind≤9223372036854775807
 a: -9223372036854775808≤x.a∧x.a≤9223372036854775807
 b: -9223372036854775808≤x.b∧x.b≤9223372036854775807
 key:x.key.size≤1048576
 body:x.body.size≤1048576
end Go.Proofs.YtaanpcjkflhomaaGreatDoor
