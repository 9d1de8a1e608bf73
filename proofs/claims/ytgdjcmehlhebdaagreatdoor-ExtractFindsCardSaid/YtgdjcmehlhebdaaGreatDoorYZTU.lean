/-
  Walks: spans. Printed by a program of ours.
-/
import Derived.Test.YtgdjcmehlhebdaaGreatDoorYZTH
import Derived.Test.YtgdjcmehlhebdaaGreatDoorTP
namespace Go.Proofs.YtgdjcmehlhebdaaGreatDoor
open Go.E
set_option linter.unusedVariables false
set_option maxRecDepth 4000

theorem u64s_step (f k : Nat) : u64s ((List.range k).map (f + ·)) ++ [.int .u64 ((f + k : Nat) : Int)] = u64s ((List.range (k + 1)).map (f + ·)) := by
  rw [List.range_succ, List.map_append]; simp [u64s]
end Go.Proofs.YtgdjcmehlhebdaaGreatDoor
