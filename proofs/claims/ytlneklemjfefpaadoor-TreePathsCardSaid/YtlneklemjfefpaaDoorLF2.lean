/-
  Closed facts of the row of 'TreePaths'.
-/
import Derived.Test.YtlneklemjfefpaaDoorLC
namespace Go.Proofs.YtlneklemjfefpaaDoor
set_option maxRecDepth 100000
theorem treePaths_closed : joinedFacts Tryd.prog 4 Tryd.f4 Rows.treePathsSpec Rows.treePathsRow = true := by kernel_rfl
theorem treePaths_named : Tryd.prog.funcNamed Rows.treePathsRow.func = some 4 := by kernel_rfl
theorem treePaths_inst : Tryd.f4.isInstance Tryd.prog Rows.treePathsRow.origin Rows.treePathsRow.targs := of_decide_eq_true (by kernel_rfl)
theorem treePaths_wrap : Tryd.f4.isWrapper Tryd.prog Rows.treePathsRow.wrapper Rows.treePathsRow.mainSum := by unfold Func.isWrapper; first | (rw [if_pos (by decide +kernel)]; kernel_rfl) | (rw [if_neg (by decide +kernel)]; exact ⟨rfl, rfl⟩)
end Go.Proofs.YtlneklemjfefpaaDoor
