/-
  Closed facts of the row of 'StepGrows'.
-/
import Derived.Test.YtlneklemjfefpaaDoorLC
namespace Go.Proofs.YtlneklemjfefpaaDoor
set_option maxRecDepth 100000
theorem stepGrows_closed : joinedFacts Tryd.prog 3 Tryd.f3 Rows.stepGrowsSpec Rows.stepGrowsRow = true := by kernel_rfl
theorem stepGrows_named : Tryd.prog.funcNamed Rows.stepGrowsRow.func = some 3 := by kernel_rfl
theorem stepGrows_inst : Tryd.f3.isInstance Tryd.prog Rows.stepGrowsRow.origin Rows.stepGrowsRow.targs := of_decide_eq_true (by kernel_rfl)
theorem stepGrows_wrap : Tryd.f3.isWrapper Tryd.prog Rows.stepGrowsRow.wrapper Rows.stepGrowsRow.mainSum := by unfold Func.isWrapper; first | (rw [if_pos (by decide +kernel)]; kernel_rfl) | (rw [if_neg (by decide +kernel)]; exact ⟨rfl, rfl⟩)
end Go.Proofs.YtlneklemjfefpaaDoor
