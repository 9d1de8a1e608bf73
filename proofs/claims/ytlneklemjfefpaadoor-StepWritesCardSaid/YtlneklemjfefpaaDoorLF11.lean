/-
  Closed facts of the row of 'StepWrites'.
-/
import Derived.Test.YtlneklemjfefpaaDoorLC
namespace Go.Proofs.YtlneklemjfefpaaDoor
set_option maxRecDepth 100000
theorem stepWrites_and {a b : Bool} (h1 : a = true) (h2 : b = true) : (a && b) = true := by rw [h1, h2]; rfl
set_option maxHeartbeats 20000000 in
theorem stepWrites_closed : joinedFacts Tryd.prog 9 Tryd.f9 Rows.stepWritesSpec Rows.stepWritesRow = true := by
  unfold joinedFacts
  repeat' (with_reducible refine stepWrites_and ?_ ?_)
  all_goals (as_aux_lemma => kernel_rfl)
theorem stepWrites_named : Tryd.prog.funcNamed Rows.stepWritesRow.func = some 9 := by kernel_rfl
theorem stepWrites_inst : Tryd.f9.isInstance Tryd.prog Rows.stepWritesRow.origin Rows.stepWritesRow.targs := of_decide_eq_true (by kernel_rfl)
theorem stepWrites_wrap : Tryd.f9.isWrapper Tryd.prog Rows.stepWritesRow.wrapper Rows.stepWritesRow.mainSum := by unfold Func.isWrapper; first | (rw [if_pos (by decide +kernel)]; kernel_rfl) | (rw [if_neg (by decide +kernel)]; exact ⟨rfl, rfl⟩)
end Go.Proofs.YtlneklemjfefpaaDoor
