/-
  Closed facts of the row of 'ExtractOpenings'.
-/
import Derived.Test.YtgdjcmehlhebdaaDoorL1
namespace Go.Proofs.YtgdjcmehlhebdaaDoor
set_option maxRecDepth 100000
theorem extractOpenings_and {a b : Bool} (h1 : a = true) (h2 : b = true) : (a && b) = true := by rw [h1, h2]; rfl
set_option maxHeartbeats 20000000 in
theorem extractOpenings_closed : joinedFacts Tryd.prog 4 Tryd.f4 Rows.extractOpeningsSpec Rows.extractOpeningsRow = true := by
  unfold joinedFacts
  repeat' (with_reducible refine extractOpenings_and ?_ ?_)
  all_goals (as_aux_lemma => kernel_rfl)
theorem extractOpenings_named : Tryd.prog.funcNamed Rows.extractOpeningsRow.func = some 4 := by kernel_rfl
theorem extractOpenings_inst : Tryd.f4.isInstance Tryd.prog Rows.extractOpeningsRow.origin Rows.extractOpeningsRow.targs := of_decide_eq_true (by kernel_rfl)
theorem extractOpenings_wrap : Tryd.f4.isWrapper Tryd.prog Rows.extractOpeningsRow.wrapper Rows.extractOpeningsRow.mainSum := by unfold Func.isWrapper; first | (rw [if_pos (by decide +kernel)]; kernel_rfl) | (rw [if_neg (by decide +kernel)]; exact ⟨rfl, rfl⟩)
end Go.Proofs.YtgdjcmehlhebdaaDoor
