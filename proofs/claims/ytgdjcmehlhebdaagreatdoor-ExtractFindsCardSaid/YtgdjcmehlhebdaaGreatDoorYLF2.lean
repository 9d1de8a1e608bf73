/-
  Closed facts of the row of 'ExtractFinds'.
-/
import Derived.Test.YtgdjcmehlhebdaaGreatDoorL1
namespace Go.Proofs.YtgdjcmehlhebdaaGreatDoor
set_option maxRecDepth 100000
theorem extractFinds_and {a b : Bool} (h1 : a = true) (h2 : b = true) : (a && b) = true := by rw [h1, h2]; rfl
set_option maxHeartbeats 20000000 in
theorem extractFinds_closed : joinedFacts Tryz.prog 6 Tryz.f6 Rows.extractFindsSpec Rows.extractFindsRow = true := by
  unfold joinedFacts
  repeat' (with_reducible refine extractFinds_and ?_ ?_)
  all_goals (as_aux_lemma => kernel_rfl)
theorem extractFinds_named : Tryz.prog.funcNamed Rows.extractFindsRow.func = some 6 := by kernel_rfl
theorem extractFinds_inst : Tryz.f6.isInstance Tryz.prog Rows.extractFindsRow.origin Rows.extractFindsRow.targs := of_decide_eq_true (by kernel_rfl)
theorem extractFinds_wrap : Tryz.f6.isWrapper Tryz.prog Rows.extractFindsRow.wrapper Rows.extractFindsRow.mainSum := by unfold Func.isWrapper; first | (rw [if_pos (by decide +kernel)]; kernel_rfl) | (rw [if_neg (by decide +kernel)]; exact ⟨rfl, rfl⟩)
end Go.Proofs.YtgdjcmehlhebdaaGreatDoor
