/-
  Closed facts of the row of 'ExtractSides'.
-/
import Derived.Test.YtgdjcmehlhebdaaGreatDoorL1
namespace Go.Proofs.YtgdjcmehlhebdaaGreatDoor
set_option maxRecDepth 100000
theorem extractSides_and {a b : Bool} (h1 : a = true) (h2 : b = true) : (a && b) = true := by rw [h1, h2]; rfl
set_option maxHeartbeats 20000000 in
theorem extractSides_closed : joinedFacts Tryz.prog 4 Tryz.f4 Rows.extractSidesSpec Rows.extractSidesRow = true := by
  unfold joinedFacts
  repeat' (with_reducible refine extractSides_and ?_ ?_)
  all_goals (as_aux_lemma => kernel_rfl)
theorem extractSides_named : Tryz.prog.funcNamed Rows.extractSidesRow.func = some 4 := by kernel_rfl
theorem extractSides_inst : Tryz.f4.isInstance Tryz.prog Rows.extractSidesRow.origin Rows.extractSidesRow.targs := of_decide_eq_true (by kernel_rfl)
theorem extractSides_wrap : Tryz.f4.isWrapper Tryz.prog Rows.extractSidesRow.wrapper Rows.extractSidesRow.mainSum := by unfold Func.isWrapper; first | (rw [if_pos (by decide +kernel)]; kernel_rfl) | (rw [if_neg (by decide +kernel)]; exact ⟨rfl, rfl⟩)
end Go.Proofs.YtgdjcmehlhebdaaGreatDoor
