/-
  Closed facts of the row of 'TreePlays'.
-/
import Derived.Test.YtlneklemjfefpaaDoorL1
namespace Go.Proofs.YtlneklemjfefpaaDoor
set_option maxRecDepth 100000
theorem treePlays_and {a b : Bool} (h1 : a = true) (h2 : b = true) : (a && b) = true := by rw [h1, h2]; rfl
set_option maxHeartbeats 20000000 in
theorem treePlays_closed : joinedFacts Tryd.prog 16 Tryd.f16 Rows.treePlaysSpec Rows.treePlaysRow = true := by
  unfold joinedFacts
  repeat' (with_reducible refine treePlays_and ?_ ?_)
  all_goals (as_aux_lemma => kernel_rfl)
theorem treePlays_named : Tryd.prog.funcNamed Rows.treePlaysRow.func = some 16 := by kernel_rfl
theorem treePlays_inst : Tryd.f16.isInstance Tryd.prog Rows.treePlaysRow.origin Rows.treePlaysRow.targs := of_decide_eq_true (by kernel_rfl)
theorem treePlays_wrap : Tryd.f16.isWrapper Tryd.prog Rows.treePlaysRow.wrapper Rows.treePlaysRow.mainSum := by unfold Func.isWrapper; first | (rw [if_pos (by decide +kernel)]; kernel_rfl) | (rw [if_neg (by decide +kernel)]; exact ⟨rfl, rfl⟩)
end Go.Proofs.YtlneklemjfefpaaDoor
