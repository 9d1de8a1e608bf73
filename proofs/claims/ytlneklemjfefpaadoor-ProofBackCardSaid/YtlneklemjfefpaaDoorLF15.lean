/-
  Closed facts of the row of 'ProofBack'.
-/
import Derived.Test.YtlneklemjfefpaaDoorL1
namespace Go.Proofs.YtlneklemjfefpaaDoor
set_option maxRecDepth 100000
theorem proofBack_and {a b : Bool} (h1 : a = true) (h2 : b = true) : (a && b) = true := by rw [h1, h2]; rfl
set_option maxHeartbeats 20000000 in
theorem proofBack_closed : joinedFacts Tryd.prog 19 Tryd.f19 Rows.proofBackSpec Rows.proofBackRow = true := by
  unfold joinedFacts
  repeat' (with_reducible refine proofBack_and ?_ ?_)
  all_goals (as_aux_lemma => kernel_rfl)
theorem proofBack_named : Tryd.prog.funcNamed Rows.proofBackRow.func = some 19 := by kernel_rfl
theorem proofBack_inst : Tryd.f19.isInstance Tryd.prog Rows.proofBackRow.origin Rows.proofBackRow.targs := of_decide_eq_true (by kernel_rfl)
theorem proofBack_wrap : Tryd.f19.isWrapper Tryd.prog Rows.proofBackRow.wrapper Rows.proofBackRow.mainSum := by unfold Func.isWrapper; first | (rw [if_pos (by decide +kernel)]; kernel_rfl) | (rw [if_neg (by decide +kernel)]; exact ⟨rfl, rfl⟩)
end Go.Proofs.YtlneklemjfefpaaDoor
