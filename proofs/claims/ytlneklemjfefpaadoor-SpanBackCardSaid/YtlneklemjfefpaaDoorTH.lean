/-
  Walks: the two trees side by side. Printed by a program of ours.
-/
import Derived.Test.YtlneklemjfefpaaDoorTG
namespace Go.Proofs.YtlneklemjfefpaaDoor
open Go.E
set_option linter.unusedVariables false
set_option maxRecDepth 4000

set_option maxHeartbeats 400000 in
theorem is_walk (k n : Nat) (w0 : World) :
    Calls Tryd.prog 35 #[errv 58 k, .int .i64 (n : Int)] w0 (Post w0 [] fun v L => v = .bool (decide (k = n)) ∧ L = []) := by
  refine Calls.of (L := []) (n := 9) (rs := [.tmp 4]) Tryd.func35 rfl rfl rfl (Nat.le_of_ble_eq_true rfl) (Sat.nil _) ?_
  refine TC.seq ?_
  refine TC.region ?_
  refine S.q rfl rfl (Qt.assign (by conv => lhs; whnf)) ?_
  refine S.nil ?_
  refine TC.seq ?_
  refine TC.region ?_
  refine S.q rfl rfl (Qt.move (by conv => lhs; whnf)) ?_
  refine S.opS rfl rfl (OpV.con0 Tryd.ent24 rfl (fun w hw => num_R k w) ?_)
  refine S.q rfl rfl (Qt.move (by conv => lhs; whnf)) ?_
  refine S.q rfl rfl (Qt.eq rfl rfl) ?_
  refine S.q rfl rfl (Qt.assign (by conv => lhs; whnf)) ?_
  refine S.nil ?_
  refine TC.ret ?_
  refine finQ.ret (RVs.tmp (by conv => lhs; whnf) RVs.nil) (Sub.nil _) ?_
  exact ⟨rfl, rfl⟩
theorem is_R (k n : Nat) (w0 : World) : Calls Tryd.prog 35 #[errv 58 k, .int .i64 (n : Int)] w0 (Ret w0 (.bool (decide (k = n)))) := Calls.ret (is_walk k n w0)
theorem is1 (w : World) : Calls Tryd.prog 35 #[.iface 58 (.int .i64 1), .int .i64 1] w (Ret w (.bool true)) := is_R 1 1 w

end Go.Proofs.YtlneklemjfefpaaDoor
