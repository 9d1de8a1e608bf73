/-
  Closed facts of the row of 'ProofRoots'.
-/
import Derived.Test.YtlneklemjfefpaaDoorLC
namespace Go.Proofs.YtlneklemjfefpaaDoor
set_option maxRecDepth 100000
theorem proofRoots_and {a b : Bool} (h1 : a = true) (h2 : b = true) : (a && b) = true := by rw [h1, h2]; rfl
set_option maxHeartbeats 20000000 in
theorem proofRoots_closed : joinedFacts Tryd.prog 10 Tryd.f10 Rows.proofRootsSpec Rows.proofRootsRow = true := by
  unfold joinedFacts
  repeat' (with_reducible refine proofRoots_and ?_ ?_)
  all_goals (as_aux_lemma => kernel_rfl)
theorem proofRoots_named : Tryd.prog.funcNamed Rows.proofRootsRow.func = some 10 := by kernel_rfl
theorem proofRoots_inst : Tryd.f10.isInstance Tryd.prog Rows.proofRootsRow.origin Rows.proofRootsRow.targs := of_decide_eq_true (by kernel_rfl)
theorem proofRoots_wrap : Tryd.f10.isWrapper Tryd.prog Rows.proofRootsRow.wrapper Rows.proofRootsRow.mainSum := by unfold Func.isWrapper; first | (rw [if_pos (by decide +kernel)]; kernel_rfl) | (rw [if_neg (by decide +kernel)]; exact ⟨rfl, rfl⟩)
end Go.Proofs.YtlneklemjfefpaaDoor
