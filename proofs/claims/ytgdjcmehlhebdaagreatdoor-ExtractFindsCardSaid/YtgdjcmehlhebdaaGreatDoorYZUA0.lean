/-
  Walks: the document's sides. Printed by a program of ours.
-/
import Derived.Test.YtgdjcmehlhebdaaGreatDoorYZTU
import Derived.Test.YtgdjcmehlhebdaaGreatDoorP1
namespace Go.Proofs.YtgdjcmehlhebdaaGreatDoor
open Go.E
set_option linter.unusedVariables false
set_option maxRecDepth 4000

end Go.Proofs.YtgdjcmehlhebdaaGreatDoor
