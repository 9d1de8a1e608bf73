/-
  Walks: the document's sides. Printed by a program of ours.
-/
import Derived.Test.YtlneklemjfefpaaDoorTU
import Derived.Test.YtlneklemjfefpaaDoorP1
namespace Go.Proofs.YtlneklemjfefpaaDoor
open Go.E
set_option linter.unusedVariables false
set_option maxRecDepth 4000

end Go.Proofs.YtlneklemjfefpaaDoor
