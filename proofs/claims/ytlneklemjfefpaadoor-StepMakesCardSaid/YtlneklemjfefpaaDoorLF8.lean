/-
  Closed facts of the row of 'StepMakes'.
-/
import Derived.Test.YtlneklemjfefpaaDoorLC
namespace Go.Proofs.YtlneklemjfefpaaDoor
set_option maxRecDepth 100000
theorem stepMakes_and {a b : Bool} (h1 : a = true) (h2 : b = true) : (a && b) = true := by rw [h1, h2]; rfl
set_option maxHeartbeats 20000000 in
theorem stepMakes_closed : joinedFacts Tryd.prog 13 Tryd.f13 Rows.stepMakesSpec Rows.stepMakesRow = true := by
  unfold joinedFacts
  repeat' (with_reducible refine stepMakes_and ?_ ?_)
  all_goals (as_aux_lemma => kernel_rfl)
theorem stepMakes_named : Tryd.prog.funcNamed Rows.stepMakesRow.func = some 13 := by kernel_rfl
theorem stepMakes_inst : Tryd.f13.isInstance Tryd.prog Rows.stepMakesRow.origin Rows.stepMakesRow.targs := of_decide_eq_true (by kernel_rfl)
theorem stepMakes_wrap : Tryd.f13.isWrapper Tryd.prog Rows.stepMakesRow.wrapper Rows.stepMakesRow.mainSum := by unfold Func.isWrapper; first | (rw [if_pos (by decide +kernel)]; kernel_rfl) | (rw [if_neg (by decide +kernel)]; exact ⟨rfl, rfl⟩)
end Go.Proofs.YtlneklemjfefpaaDoor
