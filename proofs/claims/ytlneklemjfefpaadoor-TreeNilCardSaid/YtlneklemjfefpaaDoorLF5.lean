/-
  Closed facts of the row of 'TreeNil'.
-/
import Derived.Test.YtlneklemjfefpaaDoorLC
namespace Go.Proofs.YtlneklemjfefpaaDoor
set_option maxRecDepth 100000
theorem treeNil_closed : joinedFacts Tryd.prog 18 Tryd.f18 Rows.treeNilSpec Rows.treeNilRow = true := by kernel_rfl
theorem treeNil_named : Tryd.prog.funcNamed Rows.treeNilRow.func = some 18 := by kernel_rfl
theorem treeNil_inst : Tryd.f18.isInstance Tryd.prog Rows.treeNilRow.origin Rows.treeNilRow.targs := of_decide_eq_true (by kernel_rfl)
theorem treeNil_wrap : Tryd.f18.isWrapper Tryd.prog Rows.treeNilRow.wrapper Rows.treeNilRow.mainSum := by unfold Func.isWrapper; first | (rw [if_pos (by decide +kernel)]; kernel_rfl) | (rw [if_neg (by decide +kernel)]; exact ⟨rfl, rfl⟩)
end Go.Proofs.YtlneklemjfefpaaDoor
