/-
  Walks: the document's tree put exactly; the laws of a tree's leaves and of its sizes. Printed by a program of ours. Walks: the laws of a tree's leaves and of its sizes. Printed by a program of ours.
-/
import Derived.Test.YtlneklemjfefpaaDoorX1
import Derived.Test.YtlneklemjfefpaaDoorLX
import Derived.Test.YtlneklemjfefpaaDoorOB
import Derived.Test.YtlneklemjfefpaaDoorT3
namespace Go.Proofs.YtlneklemjfefpaaDoor
open Go.E
set_option linter.unusedVariables false
set_option maxRecDepth 4000


end Go.Proofs.YtlneklemjfefpaaDoor
namespace Go.Proofs.YtlneklemjfefpaaDoor
open Go.E
set_option linter.unusedVariables false
set_option maxRecDepth 4000
theorem Tryd.cells34 : (Tryd.prog.info? 34).map (·.size) = some 1 := by kernel_rfl
theorem Tryd.one34 : oneT Tryd.prog 34 = true := by kernel_rfl
end Go.Proofs.YtlneklemjfefpaaDoor
