/-
  Closed facts of the row of 'SpanIndices'.
-/
import Derived.Test.YtlneklemjfefpaaDoorLC
namespace Go.Proofs.YtlneklemjfefpaaDoor
set_option maxRecDepth 100000
theorem spanIndices_closed : joinedFacts Tryd.prog 7 Tryd.f7 Rows.spanIndicesSpec Rows.spanIndicesRow = true := by kernel_rfl
theorem spanIndices_named : Tryd.prog.funcNamed Rows.spanIndicesRow.func = some 7 := by kernel_rfl
theorem spanIndices_inst : Tryd.f7.isInstance Tryd.prog Rows.spanIndicesRow.origin Rows.spanIndicesRow.targs := of_decide_eq_true (by kernel_rfl)
theorem spanIndices_wrap : Tryd.f7.isWrapper Tryd.prog Rows.spanIndicesRow.wrapper Rows.spanIndicesRow.mainSum := by unfold Func.isWrapper; first | (rw [if_pos (by decide +kernel)]; kernel_rfl) | (rw [if_neg (by decide +kernel)]; exact ⟨rfl, rfl⟩)
end Go.Proofs.YtlneklemjfefpaaDoor
