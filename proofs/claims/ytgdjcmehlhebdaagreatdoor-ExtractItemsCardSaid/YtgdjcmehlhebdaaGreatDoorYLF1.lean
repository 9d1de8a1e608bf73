/-
  Closed facts of the row of 'ExtractItems'.
-/
import Derived.Test.YtgdjcmehlhebdaaGreatDoorL1
namespace Go.Proofs.YtgdjcmehlhebdaaGreatDoor
set_option maxRecDepth 100000
theorem extractItems_and {a b : Bool} (h1 : a = true) (h2 : b = true) : (a && b) = true := by rw [h1, h2]; rfl
set_option maxHeartbeats 20000000 in
theorem extractItems_closed : joinedFacts Tryz.prog 3 Tryz.f3 Rows.extractItemsSpec Rows.extractItemsRow = true := by
  unfold joinedFacts
  repeat' (with_reducible refine extractItems_and ?_ ?_)
  all_goals (as_aux_lemma => kernel_rfl)
theorem extractItems_named : Tryz.prog.funcNamed Rows.extractItemsRow.func = some 3 := by kernel_rfl
theorem extractItems_inst : Tryz.f3.isInstance Tryz.prog Rows.extractItemsRow.origin Rows.extractItemsRow.targs := of_decide_eq_true (by kernel_rfl)
theorem extractItems_wrap : Tryz.f3.isWrapper Tryz.prog Rows.extractItemsRow.wrapper Rows.extractItemsRow.mainSum := by unfold Func.isWrapper; first | (rw [if_pos (by decide +kernel)]; kernel_rfl) | (rw [if_neg (by decide +kernel)]; exact ⟨rfl, rfl⟩)
end Go.Proofs.YtgdjcmehlhebdaaGreatDoor
