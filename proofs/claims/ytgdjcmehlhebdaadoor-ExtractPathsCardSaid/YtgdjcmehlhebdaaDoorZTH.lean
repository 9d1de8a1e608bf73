/-
  Walks: the two trees side by side. Printed by a program of ours.
-/
import Derived.Test.YtgdjcmehlhebdaaDoorZTG
namespace Go.Proofs.YtgdjcmehlhebdaaDoor
open Go.E
set_option linter.unusedVariables false
set_option maxRecDepth 4000

end Go.Proofs.YtgdjcmehlhebdaaDoor
