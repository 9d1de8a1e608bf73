/-
  Walks: sealed blocks and leaves as bytes. Printed by a program of ours. Walks: items and their texts. Printed by a program of ours. Walks: lists of items; the law of items. Printed by a program of ours.
-/
import Derived.Test.YtgdjcmehlhebdaaGreatDoorY9
import Derived.Test.YtgdjcmehlhebdaaGreatDoorXQ
namespace Go.Proofs.YtgdjcmehlhebdaaGreatDoor
open Go.E
set_option linter.unusedVariables false
set_option maxRecDepth 4000
end Go.Proofs.YtgdjcmehlhebdaaGreatDoor
namespace Go.Proofs.YtgdjcmehlhebdaaGreatDoor
open Go.E
set_option linter.unusedVariables false
set_option maxRecDepth 4000
end Go.Proofs.YtgdjcmehlhebdaaGreatDoor
namespace Go.Proofs.YtgdjcmehlhebdaaGreatDoor
open Go.E
set_option linter.unusedVariables false
set_option maxRecDepth 4000
end Go.Proofs.YtgdjcmehlhebdaaGreatDoor
