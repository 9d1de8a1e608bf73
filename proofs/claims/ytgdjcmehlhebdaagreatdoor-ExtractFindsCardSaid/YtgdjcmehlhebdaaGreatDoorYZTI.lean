/-
  Walks: the nodes of the two trees. Printed by a program of ours.
-/
import Derived.Test.YtgdjcmehlhebdaaGreatDoorYZTH
namespace Go.Proofs.YtgdjcmehlhebdaaGreatDoor
open Go.E
set_option linter.unusedVariables false
set_option maxRecDepth 4000


end Go.Proofs.YtgdjcmehlhebdaaGreatDoor
