/-
  Walks: the law of items. Printed by a program of ours.
-/
import Derived.Test.YtgdjcmehlhebdaaGreatDoorYQ
namespace Go.Proofs.YtgdjcmehlhebdaaGreatDoor
open Go.E
set_option linter.unusedVariables false
set_option maxRecDepth 4000
theorem Tryz.ent8 : Enters Tryz.prog 8 := ⟨_, Tryz.func8, by kernel_rfl, rfl⟩
theorem Tryz.ent10 : Enters Tryz.prog 10 := ⟨_, Tryz.func10, by kernel_rfl, rfl⟩
theorem Tryz.ent14 : Enters Tryz.prog 14 := ⟨_, Tryz.func14, by kernel_rfl, rfl⟩
theorem Tryz.ent16 : Enters Tryz.prog 16 := ⟨_, Tryz.func16, by kernel_rfl, rfl⟩

end Go.Proofs.YtgdjcmehlhebdaaGreatDoor
