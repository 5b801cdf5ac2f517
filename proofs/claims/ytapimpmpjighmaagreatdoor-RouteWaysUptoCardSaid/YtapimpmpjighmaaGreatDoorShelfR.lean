/-
  More contracts of the library, laid at this program.
-/
import Derived.Test.YtapimpmpjighmaaGreatDoorShelf


namespace Go.Proofs


end Go.Proofs
