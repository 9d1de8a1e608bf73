/-
  Walks: the document's tree. Printed by a program of ours.
-/
import Derived.Test.YtgdjcmehlhebdaaDoorZTF
import Derived.Test.YtgdjcmehlhebdaaDoorP2
namespace Go.Proofs.YtgdjcmehlhebdaaDoor
open Go.E
set_option linter.unusedVariables false
set_option maxRecDepth 4000

end Go.Proofs.YtgdjcmehlhebdaaDoor
