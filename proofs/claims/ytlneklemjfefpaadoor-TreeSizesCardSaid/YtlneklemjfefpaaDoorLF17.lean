/-
  Closed facts of the row of 'TreeSizes'.
-/
import Derived.Test.YtlneklemjfefpaaDoorL1
namespace Go.Proofs.YtlneklemjfefpaaDoor
set_option maxRecDepth 100000
theorem treeSizes_and {a b : Bool} (h1 : a = true) (h2 : b = true) : (a && b) = true := by rw [h1, h2]; rfl
set_option maxHeartbeats 20000000 in
theorem treeSizes_closed : joinedFacts Tryd.prog 17 Tryd.f17 Rows.treeSizesSpec Rows.treeSizesRow = true := by
  unfold joinedFacts
  repeat' (with_reducible refine treeSizes_and ?_ ?_)
  all_goals (as_aux_lemma => kernel_rfl)
theorem treeSizes_named : Tryd.prog.funcNamed Rows.treeSizesRow.func = some 17 := by kernel_rfl
theorem treeSizes_inst : Tryd.f17.isInstance Tryd.prog Rows.treeSizesRow.origin Rows.treeSizesRow.targs := of_decide_eq_true (by kernel_rfl)
theorem treeSizes_wrap : Tryd.f17.isWrapper Tryd.prog Rows.treeSizesRow.wrapper Rows.treeSizesRow.mainSum := by unfold Func.isWrapper; first | (rw [if_pos (by decide +kernel)]; kernel_rfl) | (rw [if_neg (by decide +kernel)]; exact ⟨rfl, rfl⟩)
end Go.Proofs.YtlneklemjfefpaaDoor
