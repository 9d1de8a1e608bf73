/-
  Closed facts of the row of 'modelLast'.
-/
import Derived.Test.YtaoicbjgkghnnaaNO
namespace Go.Proofs.Ytaoicbjgkghnnaa
set_option maxRecDepth 100000
theorem modelLast_and {a b : Bool} (h1 : a = true) (h2 : b = true) : (a && b) = true := by rw [h1, h2]; rfl
set_option maxHeartbeats 20000000 in
theorem modelLast_closed : joinedFacts Try.prog 5 Try.f5 Rows.modelLastSpec Rows.modelLastRow = true := by
  unfold joinedFacts
  repeat' (with_reducible refine modelLast_and ?_ ?_)
  all_goals (as_aux_lemma => kernel_rfl)
theorem modelLast_named : Try.prog.funcNamed Rows.modelLastRow.func = some 5 := by kernel_rfl
theorem modelLast_inst : Try.f5.isInstance Try.prog Rows.modelLastRow.origin Rows.modelLastRow.targs := of_decide_eq_true (by kernel_rfl)
theorem modelLast_wrap : Try.f5.isWrapper Try.prog Rows.modelLastRow.wrapper Rows.modelLastRow.mainSum := by unfold Func.isWrapper; first | (rw [if_pos (by decide +kernel)]; kernel_rfl) | (rw [if_neg (by decide +kernel)]; exact ⟨rfl, rfl⟩)
end Go.Proofs.Ytaoicbjgkghnnaa
