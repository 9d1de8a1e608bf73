/-
  Closed facts of the row of 'SpanMakes'.
-/
import Derived.Test.YtlneklemjfefpaaDoorLC
namespace Go.Proofs.YtlneklemjfefpaaDoor
set_option maxRecDepth 100000
theorem spanMakes_and {a b : Bool} (h1 : a = true) (h2 : b = true) : (a && b) = true := by rw [h1, h2]; rfl
set_option maxHeartbeats 20000000 in
theorem spanMakes_closed : joinedFacts Tryd.prog 8 Tryd.f8 Rows.spanMakesSpec Rows.spanMakesRow = true := by
  unfold joinedFacts
  repeat' (with_reducible refine spanMakes_and ?_ ?_)
  all_goals (as_aux_lemma => kernel_rfl)
theorem spanMakes_named : Tryd.prog.funcNamed Rows.spanMakesRow.func = some 8 := by kernel_rfl
theorem spanMakes_inst : Tryd.f8.isInstance Tryd.prog Rows.spanMakesRow.origin Rows.spanMakesRow.targs := of_decide_eq_true (by kernel_rfl)
theorem spanMakes_wrap : Tryd.f8.isWrapper Tryd.prog Rows.spanMakesRow.wrapper Rows.spanMakesRow.mainSum := by unfold Func.isWrapper; first | (rw [if_pos (by decide +kernel)]; kernel_rfl) | (rw [if_neg (by decide +kernel)]; exact ⟨rfl, rfl⟩)
end Go.Proofs.YtlneklemjfefpaaDoor
