/-
  Facts of the program's table that the later walks use. Printed by a program of ours.
-/
import Derived.Test.YtgdjcmehlhebdaaGreatDoorY2
import Derived.Test.YtgdjcmehlhebdaaGreatDoorP2
import Derived.Test.YtgdjcmehlhebdaaGreatDoorMO
namespace Go.Proofs.YtgdjcmehlhebdaaGreatDoor
open Go.E
set_option linter.unusedVariables false
set_option maxRecDepth 4000
theorem map_step {α : Type} (F : α → H32) (d : α) {s : List α} {k : Nat} (h : k < s.length) : hcs ((s.take k).map F) ++ hvl (F (s.getD k d)) = hcs ((s.take (k + 1)).map F) := by
  have e : s.take (k + 1) = s.take k ++ [s.getD k d] := by
    rw [List.take_succ_eq_append_getElem h]; simp [List.getD, h]
  rw [e, List.map_append, hcs_append, List.map_singleton, hcs_cons, hcs_nil, List.append_nil]

end Go.Proofs.YtgdjcmehlhebdaaGreatDoor
