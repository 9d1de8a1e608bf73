/-
  Walks: a tree for another number of blocks. Printed by a program of ours.
-/
import Derived.Test.YtlneklemjfefpaaDoorWM
import Derived.Test.YtlneklemjfefpaaDoorP3
import Derived.Test.YtlneklemjfefpaaDoorTD
namespace Go.Proofs.YtlneklemjfefpaaDoor
open Go.E
set_option linter.unusedVariables false
set_option maxRecDepth 4000


end Go.Proofs.YtlneklemjfefpaaDoor
