/-
  Closed facts of the row of 'ProofMakes'.
-/
import Derived.Test.YtlneklemjfefpaaDoorLC
namespace Go.Proofs.YtlneklemjfefpaaDoor
set_option maxRecDepth 100000
theorem proofMakes_and {a b : Bool} (h1 : a = true) (h2 : b = true) : (a && b) = true := by rw [h1, h2]; rfl
set_option maxHeartbeats 20000000 in
theorem proofMakes_closed : joinedFacts Tryd.prog 12 Tryd.f12 Rows.proofMakesSpec Rows.proofMakesRow = true := by
  unfold joinedFacts
  repeat' (with_reducible refine proofMakes_and ?_ ?_)
  all_goals (as_aux_lemma => kernel_rfl)
theorem proofMakes_named : Tryd.prog.funcNamed Rows.proofMakesRow.func = some 12 := by kernel_rfl
theorem proofMakes_inst : Tryd.f12.isInstance Tryd.prog Rows.proofMakesRow.origin Rows.proofMakesRow.targs := of_decide_eq_true (by kernel_rfl)
theorem proofMakes_wrap : Tryd.f12.isWrapper Tryd.prog Rows.proofMakesRow.wrapper Rows.proofMakesRow.mainSum := by unfold Func.isWrapper; first | (rw [if_pos (by decide +kernel)]; kernel_rfl) | (rw [if_neg (by decide +kernel)]; exact ⟨rfl, rfl⟩)
end Go.Proofs.YtlneklemjfefpaaDoor
