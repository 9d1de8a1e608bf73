/-
  Walks: the ways up of a tree. Printed by a program of ours. Walks: the document's tree. Printed by a program of ours. Walks: the two trees side by side. Printed by a program of ours.
-/
import Derived.Test.YtlneklemjfefpaaDoorFX
import Derived.Test.YtlneklemjfefpaaDoorP2
namespace Go.Proofs.YtlneklemjfefpaaDoor
open Go.E
set_option linter.unusedVariables false
set_option maxRecDepth 4000

end Go.Proofs.YtlneklemjfefpaaDoor
namespace Go.Proofs.YtlneklemjfefpaaDoor
open Go.E
set_option linter.unusedVariables false
set_option maxRecDepth 4000

end Go.Proofs.YtlneklemjfefpaaDoor
namespace Go.Proofs.YtlneklemjfefpaaDoor
open Go.E
set_option linter.unusedVariables false
set_option maxRecDepth 4000

end Go.Proofs.YtlneklemjfefpaaDoor
