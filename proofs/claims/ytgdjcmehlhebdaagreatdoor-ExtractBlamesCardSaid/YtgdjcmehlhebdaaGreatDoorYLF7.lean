/- Closed facts of the row of 'ExtractBlames'. -/
import Derived.Test.YtgdjcmehlhebdaaGreatDoorL1
set_option maxHeartbeats 25600000
namespace Go.Proofs.YtgdjcmehlhebdaaGreatDoor
open _root_.Go.Proofs.Tryz
set_option maxRecDepth 100000
theorem zfy {a b : Bool} (h1 : a = true) (h2 : b = true) : (a && b) = true := by rw [h1, h2]; rfl
theorem zee : joinedFacts prog 7 f7 Rows.extractBlamesSpec Rows.extractBlamesRow = true := by
 unfold joinedFacts
 repeat' (with_reducible refine zfy ?_ ?_)
 all_goals (as_aux_lemma => kernel_rfl)
theorem extractBlames_named : prog.funcNamed Rows.extractBlamesRow.func = some 7 := by kernel_rfl
theorem zfa : f7.isInstance prog Rows.extractBlamesRow.origin Rows.extractBlamesRow.targs := of_decide_eq_true (by kernel_rfl)
theorem zfb : f7.isWrapper prog Rows.extractBlamesRow.wrapper Rows.extractBlamesRow.mainSum := by unfold Func.isWrapper; first | (rw [if_pos (by decide +kernel)]; kernel_rfl) | (rw [if_neg (by decide +kernel)]; exact ⟨rfl, rfl⟩)
end Go.Proofs.YtgdjcmehlhebdaaGreatDoor
