/-
  Walks: the ways up of a tree. Printed by a program of ours. Walks: the document's tree. Printed by a program of ours. Walks: the two trees side by side. Printed by a program of ours. Walks: the nodes of the two trees. Printed by a program of ours.
-/
import Derived.Test.YtgdjcmehlhebdaaGreatDoorYZFX
import Derived.Test.YtgdjcmehlhebdaaGreatDoorP2
namespace Go.Proofs.YtgdjcmehlhebdaaGreatDoor
open Go.E
set_option linter.unusedVariables false
set_option maxRecDepth 4000

end Go.Proofs.YtgdjcmehlhebdaaGreatDoor
namespace Go.Proofs.YtgdjcmehlhebdaaGreatDoor
open Go.E
set_option linter.unusedVariables false
set_option maxRecDepth 4000

end Go.Proofs.YtgdjcmehlhebdaaGreatDoor
namespace Go.Proofs.YtgdjcmehlhebdaaGreatDoor
open Go.E
set_option linter.unusedVariables false
set_option maxRecDepth 4000

end Go.Proofs.YtgdjcmehlhebdaaGreatDoor
namespace Go.Proofs.YtgdjcmehlhebdaaGreatDoor
open Go.E
set_option linter.unusedVariables false
set_option maxRecDepth 4000


end Go.Proofs.YtgdjcmehlhebdaaGreatDoor
