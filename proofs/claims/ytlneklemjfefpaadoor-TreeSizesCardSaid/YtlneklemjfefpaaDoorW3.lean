/-
  Walks: the numbers of a slice, collected and sorted. Printed by a program of ours.
-/
import Derived.Test.YtlneklemjfefpaaDoorW2
import Derived.Test.YtlneklemjfefpaaDoorE3
namespace Go.Proofs.YtlneklemjfefpaaDoor
open Go.E
set_option linter.unusedVariables false
set_option maxRecDepth 4000
theorem Tryd.ent140 : Enters Tryd.prog 140 := ⟨_, Tryd.func140, by kernel_rfl, rfl⟩
end Go.Proofs.YtlneklemjfefpaaDoor
