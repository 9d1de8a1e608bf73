/-
  Closed facts of the row of 'StepLeads'.
-/
import Derived.Test.YtlneklemjfefpaaDoorL1
namespace Go.Proofs.YtlneklemjfefpaaDoor
set_option maxRecDepth 100000
theorem stepLeads_and {a b : Bool} (h1 : a = true) (h2 : b = true) : (a && b) = true := by rw [h1, h2]; rfl
set_option maxHeartbeats 20000000 in
theorem stepLeads_closed : joinedFacts Tryd.prog 20 Tryd.f20 Rows.stepLeadsSpec Rows.stepLeadsRow = true := by
  unfold joinedFacts
  repeat' (with_reducible refine stepLeads_and ?_ ?_)
  all_goals (as_aux_lemma => kernel_rfl)
theorem stepLeads_named : Tryd.prog.funcNamed Rows.stepLeadsRow.func = some 20 := by kernel_rfl
theorem stepLeads_inst : Tryd.f20.isInstance Tryd.prog Rows.stepLeadsRow.origin Rows.stepLeadsRow.targs := of_decide_eq_true (by kernel_rfl)
theorem stepLeads_wrap : Tryd.f20.isWrapper Tryd.prog Rows.stepLeadsRow.wrapper Rows.stepLeadsRow.mainSum := by unfold Func.isWrapper; first | (rw [if_pos (by decide +kernel)]; kernel_rfl) | (rw [if_neg (by decide +kernel)]; exact ⟨rfl, rfl⟩)
end Go.Proofs.YtlneklemjfefpaaDoor
