/-
  Closed facts of the row of 'SpanBack'.
-/
import Derived.Test.YtlneklemjfefpaaDoorLC
namespace Go.Proofs.YtlneklemjfefpaaDoor
set_option maxRecDepth 100000
theorem spanBack_and {a b : Bool} (h1 : a = true) (h2 : b = true) : (a && b) = true := by rw [h1, h2]; rfl
set_option maxHeartbeats 20000000 in
theorem spanBack_closed : joinedFacts Tryd.prog 15 Tryd.f15 Rows.spanBackSpec Rows.spanBackRow = true := by
  unfold joinedFacts
  repeat' (with_reducible refine spanBack_and ?_ ?_)
  all_goals (as_aux_lemma => kernel_rfl)
theorem spanBack_named : Tryd.prog.funcNamed Rows.spanBackRow.func = some 15 := by kernel_rfl
theorem spanBack_inst : Tryd.f15.isInstance Tryd.prog Rows.spanBackRow.origin Rows.spanBackRow.targs := of_decide_eq_true (by kernel_rfl)
theorem spanBack_wrap : Tryd.f15.isWrapper Tryd.prog Rows.spanBackRow.wrapper Rows.spanBackRow.mainSum := by unfold Func.isWrapper; first | (rw [if_pos (by decide +kernel)]; kernel_rfl) | (rw [if_neg (by decide +kernel)]; exact ⟨rfl, rfl⟩)
end Go.Proofs.YtlneklemjfefpaaDoor
