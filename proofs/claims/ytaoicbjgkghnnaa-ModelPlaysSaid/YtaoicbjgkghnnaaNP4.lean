/-
  Closed facts of the row of 'modelPlays'.
-/
import Derived.Test.YtaoicbjgkghnnaaNO
namespace Go.Proofs.Ytaoicbjgkghnnaa
set_option maxRecDepth 100000
theorem modelPlays_and {a b : Bool} (h1 : a = true) (h2 : b = true) : (a && b) = true := by rw [h1, h2]; rfl
set_option maxHeartbeats 20000000 in
theorem modelPlays_closed : joinedFacts Try.prog 4 Try.f4 Rows.modelPlaysSpec Rows.modelPlaysRow = true := by
  unfold joinedFacts
  repeat' (with_reducible refine modelPlays_and ?_ ?_)
  all_goals (as_aux_lemma => kernel_rfl)
theorem modelPlays_named : Try.prog.funcNamed Rows.modelPlaysRow.func = some 4 := by kernel_rfl
theorem modelPlays_inst : Try.f4.isInstance Try.prog Rows.modelPlaysRow.origin Rows.modelPlaysRow.targs := of_decide_eq_true (by kernel_rfl)
theorem modelPlays_wrap : Try.f4.isWrapper Try.prog Rows.modelPlaysRow.wrapper Rows.modelPlaysRow.mainSum := by unfold Func.isWrapper; first | (rw [if_pos (by decide +kernel)]; kernel_rfl) | (rw [if_neg (by decide +kernel)]; exact ⟨rfl, rfl⟩)
end Go.Proofs.Ytaoicbjgkghnnaa
