/-
  Closed facts of the row of 'ProofBinds'.
-/
import Derived.Test.YtlneklemjfefpaaDoorLC
namespace Go.Proofs.YtlneklemjfefpaaDoor
set_option maxRecDepth 100000
theorem proofBinds_and {a b : Bool} (h1 : a = true) (h2 : b = true) : (a && b) = true := by rw [h1, h2]; rfl
set_option maxHeartbeats 20000000 in
theorem proofBinds_closed : joinedFacts Tryd.prog 11 Tryd.f11 Rows.proofBindsSpec Rows.proofBindsRow = true := by
  unfold joinedFacts
  repeat' (with_reducible refine proofBinds_and ?_ ?_)
  all_goals (as_aux_lemma => kernel_rfl)
theorem proofBinds_named : Tryd.prog.funcNamed Rows.proofBindsRow.func = some 11 := by kernel_rfl
theorem proofBinds_inst : Tryd.f11.isInstance Tryd.prog Rows.proofBindsRow.origin Rows.proofBindsRow.targs := of_decide_eq_true (by kernel_rfl)
theorem proofBinds_wrap : Tryd.f11.isWrapper Tryd.prog Rows.proofBindsRow.wrapper Rows.proofBindsRow.mainSum := by unfold Func.isWrapper; first | (rw [if_pos (by decide +kernel)]; kernel_rfl) | (rw [if_neg (by decide +kernel)]; exact ⟨rfl, rfl⟩)
end Go.Proofs.YtlneklemjfefpaaDoor
