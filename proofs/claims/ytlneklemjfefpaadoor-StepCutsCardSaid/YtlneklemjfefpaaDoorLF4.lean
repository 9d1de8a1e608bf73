/-
  Closed facts of the row of 'StepCuts'.
-/
import Derived.Test.YtlneklemjfefpaaDoorLC
namespace Go.Proofs.YtlneklemjfefpaaDoor
set_option maxRecDepth 100000
theorem stepCuts_closed : joinedFacts Tryd.prog 6 Tryd.f6 Rows.stepCutsSpec Rows.stepCutsRow = true := by kernel_rfl
theorem stepCuts_named : Tryd.prog.funcNamed Rows.stepCutsRow.func = some 6 := by kernel_rfl
theorem stepCuts_inst : Tryd.f6.isInstance Tryd.prog Rows.stepCutsRow.origin Rows.stepCutsRow.targs := of_decide_eq_true (by kernel_rfl)
theorem stepCuts_wrap : Tryd.f6.isWrapper Tryd.prog Rows.stepCutsRow.wrapper Rows.stepCutsRow.mainSum := by unfold Func.isWrapper; first | (rw [if_pos (by decide +kernel)]; kernel_rfl) | (rw [if_neg (by decide +kernel)]; exact ⟨rfl, rfl⟩)
end Go.Proofs.YtlneklemjfefpaaDoor
