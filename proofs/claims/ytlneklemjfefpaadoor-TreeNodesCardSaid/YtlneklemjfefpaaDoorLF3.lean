/-
  Closed facts of the row of 'TreeNodes'.
-/
import Derived.Test.YtlneklemjfefpaaDoorLC
namespace Go.Proofs.YtlneklemjfefpaaDoor
set_option maxRecDepth 100000
theorem treeNodes_closed : joinedFacts Tryd.prog 5 Tryd.f5 Rows.treeNodesSpec Rows.treeNodesRow = true := by kernel_rfl
theorem treeNodes_named : Tryd.prog.funcNamed Rows.treeNodesRow.func = some 5 := by kernel_rfl
theorem treeNodes_inst : Tryd.f5.isInstance Tryd.prog Rows.treeNodesRow.origin Rows.treeNodesRow.targs := of_decide_eq_true (by kernel_rfl)
theorem treeNodes_wrap : Tryd.f5.isWrapper Tryd.prog Rows.treeNodesRow.wrapper Rows.treeNodesRow.mainSum := by unfold Func.isWrapper; first | (rw [if_pos (by decide +kernel)]; kernel_rfl) | (rw [if_neg (by decide +kernel)]; exact ⟨rfl, rfl⟩)
end Go.Proofs.YtlneklemjfefpaaDoor
