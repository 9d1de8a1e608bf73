/-
  Walks: what the functions of the package entrustref02 compute. Printed by a program of ours.
-/
import Derived.Test.YtlneklemjfefpaaDoorTA
namespace Go.Proofs.YtlneklemjfefpaaDoor
open Go.E
set_option linter.unusedVariables false
set_option maxRecDepth 4000
end Go.Proofs.YtlneklemjfefpaaDoor
