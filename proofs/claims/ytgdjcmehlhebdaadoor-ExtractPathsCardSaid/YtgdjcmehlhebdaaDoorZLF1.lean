/-
  Closed facts of the row of 'ExtractPaths'.
-/
import Derived.Test.YtgdjcmehlhebdaaDoorL1
namespace Go.Proofs.YtgdjcmehlhebdaaDoor
set_option maxRecDepth 100000
theorem extractPaths_and {a b : Bool} (h1 : a = true) (h2 : b = true) : (a && b) = true := by rw [h1, h2]; rfl
set_option maxHeartbeats 20000000 in
theorem extractPaths_closed : joinedFacts Tryd.prog 3 Tryd.f3 Rows.extractPathsSpec Rows.extractPathsRow = true := by
  unfold joinedFacts
  repeat' (with_reducible refine extractPaths_and ?_ ?_)
  all_goals (as_aux_lemma => kernel_rfl)
theorem extractPaths_named : Tryd.prog.funcNamed Rows.extractPathsRow.func = some 3 := by kernel_rfl
theorem extractPaths_inst : Tryd.f3.isInstance Tryd.prog Rows.extractPathsRow.origin Rows.extractPathsRow.targs := of_decide_eq_true (by kernel_rfl)
theorem extractPaths_wrap : Tryd.f3.isWrapper Tryd.prog Rows.extractPathsRow.wrapper Rows.extractPathsRow.mainSum := by unfold Func.isWrapper; first | (rw [if_pos (by decide +kernel)]; kernel_rfl) | (rw [if_neg (by decide +kernel)]; exact ⟨rfl, rfl⟩)
end Go.Proofs.YtgdjcmehlhebdaaDoor
