/-
  Walks: more than is looked at; what a nil truth answers. Printed by a program of ours.
-/
import Derived.Test.YtgdjcmehlhebdaaGreatDoorYQ
import Derived.Test.YtgdjcmehlhebdaaGreatDoorXQ
namespace Go.Proofs.YtgdjcmehlhebdaaGreatDoor
open Go.E
set_option linter.unusedVariables false
set_option maxRecDepth 4000
end Go.Proofs.YtgdjcmehlhebdaaGreatDoor
