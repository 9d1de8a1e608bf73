/-
  Closed facts of the row of 'SpanRoots'.
-/
import Derived.Test.YtlneklemjfefpaaDoorLC
namespace Go.Proofs.YtlneklemjfefpaaDoor
set_option maxRecDepth 100000
theorem spanRoots_and {a b : Bool} (h1 : a = true) (h2 : b = true) : (a && b) = true := by rw [h1, h2]; rfl
set_option maxHeartbeats 20000000 in
theorem spanRoots_closed : joinedFacts Tryd.prog 14 Tryd.f14 Rows.spanRootsSpec Rows.spanRootsRow = true := by
  unfold joinedFacts
  repeat' (with_reducible refine spanRoots_and ?_ ?_)
  all_goals (as_aux_lemma => kernel_rfl)
theorem spanRoots_named : Tryd.prog.funcNamed Rows.spanRootsRow.func = some 14 := by kernel_rfl
theorem spanRoots_inst : Tryd.f14.isInstance Tryd.prog Rows.spanRootsRow.origin Rows.spanRootsRow.targs := of_decide_eq_true (by kernel_rfl)
theorem spanRoots_wrap : Tryd.f14.isWrapper Tryd.prog Rows.spanRootsRow.wrapper Rows.spanRootsRow.mainSum := by unfold Func.isWrapper; first | (rw [if_pos (by decide +kernel)]; kernel_rfl) | (rw [if_neg (by decide +kernel)]; exact ⟨rfl, rfl⟩)
end Go.Proofs.YtlneklemjfefpaaDoor
