/-
  Walks: the document's spots. Printed by a program of ours.
-/
import Derived.Test.YtgdjcmehlhebdaaGreatDoorY4
namespace Go.Proofs.YtgdjcmehlhebdaaGreatDoor
open Go.E
set_option linter.unusedVariables false
set_option maxRecDepth 4000

end Go.Proofs.YtgdjcmehlhebdaaGreatDoor
