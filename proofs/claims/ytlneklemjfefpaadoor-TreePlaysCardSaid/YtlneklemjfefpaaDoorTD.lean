/-
  Walks: heights, and the root behind a growing step. Printed by a program of ours.
-/
import Derived.Test.YtlneklemjfefpaaDoorTC
import Derived.Test.YtlneklemjfefpaaDoorGR
namespace Go.Proofs.YtlneklemjfefpaaDoor
open Go.E
set_option linter.unusedVariables false
set_option maxRecDepth 4000
theorem Tryd.ent24 : Enters Tryd.prog 24 := ⟨_, Tryd.func24, by kernel_rfl, rfl⟩
theorem Tryd.ent88 : Enters Tryd.prog 88 := ⟨_, Tryd.func88, by kernel_rfl, rfl⟩
theorem Tryd.ent90 : Enters Tryd.prog 90 := ⟨_, Tryd.func90, by kernel_rfl, rfl⟩
theorem Tryd.ent120 : Enters Tryd.prog 120 := ⟨_, Tryd.func120, by kernel_rfl, rfl⟩
theorem Tryd.guard23 : Tryd.prog.eqGuardType Tryd.prog.depth 23 = false := by kernel_rfl
set_option maxHeartbeats 400000 in
theorem len64_walk (x : Nat) (hx : x < 4294967296) (w0 : World) :
    Calls Tryd.prog 120 #[.int .u64 (x : Int)] w0 (Post w0 [] fun v L => v = .int .i64 ((bitlen x : Nat) : Int) ∧ L = []) := by
  refine Calls.of (L := []) (n := 25) (rs := [.tmp 2]) Tryd.func120 rfl rfl rfl (Nat.le_of_ble_eq_true rfl) (Sat.nil _) ?_
  refine TC.seq ?_
  refine TC.region ?_
  refine S.q rfl rfl (Qt.assign (by conv => lhs; whnf)) ?_
  refine S.nil ?_
  refine TC.seq ?_
  refine TC.seq ?_
  refine TC.region ?_
  refine S.q rfl rfl (Qt.move (by conv => lhs; whnf)) ?_
  refine S.q rfl rfl (Qt.dF (Qt.ge (b := 4294967296) rfl rfl) (by omega)) ?_
  refine S.nil ?_
  refine S.if_f rfl ?_
  refine TC.skip ?_
  refine TC.seq ?_
  refine TC.seq ?_
  refine TC.region ?_
  refine S.q rfl rfl (Qt.move (by conv => lhs; whnf)) ?_
  refine S.dec rfl rfl (Qt.ge (b := 65536) rfl rfl) (fun h8 => ?_) (fun h8 => ?_)
  · refine S.nil ?_
    refine S.if_t rfl ?_
    refine TC.seq ?_
    refine TC.region ?_
    refine S.q rfl rfl (Qt.move (by conv => lhs; whnf)) ?_
    refine S.q rfl rfl (Qt.shrN (s := 16) rfl rfl (by simp only [kmax]; omega)) ?_
    refine S.q rfl rfl (Qt.assign (by conv => lhs; whnf)) ?_
    refine S.nil ?_
    refine TC.region ?_
    refine S.q rfl rfl (Qt.move (by conv => lhs; whnf)) ?_
    refine S.q rfl rfl (Qt.addi rfl rfl (IntWalk.i64_in _ (by omega))) ?_
    refine S.q rfl rfl (Qt.assign (by conv => lhs; whnf)) ?_
    refine S.nil ?_
    refine TC.seq ?_
    refine TC.seq ?_
    refine TC.region ?_
    refine S.q rfl rfl (Qt.move (by conv => lhs; whnf)) ?_
    refine S.dec rfl rfl (Qt.ge (b := 256) rfl rfl) (fun h14 => ?_) (fun h14 => ?_)
    · refine S.nil ?_
      refine S.if_t rfl ?_
      refine TC.seq ?_
      refine TC.region ?_
      refine S.q rfl rfl (Qt.move (by conv => lhs; whnf)) ?_
      refine S.q rfl rfl (Qt.shrN (s := 8) rfl rfl (by simp only [kmax]; omega)) ?_
      refine S.q rfl rfl (Qt.assign (by conv => lhs; whnf)) ?_
      refine S.nil ?_
      refine TC.region ?_
      refine S.q rfl rfl (Qt.move (by conv => lhs; whnf)) ?_
      refine S.q rfl rfl (Qt.addi rfl rfl (IntWalk.i64_in _ (by omega))) ?_
      refine S.q rfl rfl (Qt.assign (by conv => lhs; whnf)) ?_
      refine S.nil ?_
      refine TC.seq ?_
      refine TC.region ?_
      refine S.q rfl rfl (Qt.move (by conv => lhs; whnf)) ?_
      refine S.q rfl rfl (Qt.move (by conv => lhs; whnf)) ?_
      refine S.q rfl rfl (Qt.convert Tryd.underlying24 Tryd.underlying5 rfl (by simp only [kmax]; omega)) ?_
      refine S.q rfl rfl (Qt.as (Qt.index_str Tryd.underlying9 rfl rfl (len8_ok _ (by kernel_rfl) (by omega))) (by rw [len8_nat (by omega)])) ?_
      refine S.q rfl rfl (Qt.convert Tryd.underlying5 Tryd.underlying3 rfl (by have := bitlen_8 (i := x) ; have := bitlen_8 (i := x / 2 ^ 16); have := bitlen_8 (i := x / 2 ^ 8); have := bitlen_8 (i := x / 2 ^ 16 / 2 ^ 8); simp only [kmax]; omega)) ?_
      refine S.q rfl rfl (Qt.addi rfl rfl (IntWalk.i64_in _ (by have := bitlen_8 (i := x) ; have := bitlen_8 (i := x / 2 ^ 16); have := bitlen_8 (i := x / 2 ^ 8); have := bitlen_8 (i := x / 2 ^ 16 / 2 ^ 8); omega))) ?_
      refine S.q rfl rfl (Qt.assign (by conv => lhs; whnf)) ?_
      refine S.nil ?_
      refine TC.ret ?_
      refine finQ.ret (RVs.tmp (by conv => lhs; whnf) RVs.nil) (Sub.nil _) ?_
      have e8 := bitlen_shift (x := x) (n := 16) (by omega)
      have e14 := bitlen_shift (x := (x / 2 ^ 16)) (n := 8) (by omega)
      exact ⟨congrArg (Value.int .i64) (by omega), rfl⟩
    · refine S.nil ?_
      refine S.if_f rfl ?_
      refine TC.skip ?_
      refine TC.seq ?_
      refine TC.region ?_
      refine S.q rfl rfl (Qt.move (by conv => lhs; whnf)) ?_
      refine S.q rfl rfl (Qt.move (by conv => lhs; whnf)) ?_
      refine S.q rfl rfl (Qt.convert Tryd.underlying24 Tryd.underlying5 rfl (by simp only [kmax]; omega)) ?_
      refine S.q rfl rfl (Qt.as (Qt.index_str Tryd.underlying9 rfl rfl (len8_ok _ (by kernel_rfl) (by omega))) (by rw [len8_nat (by omega)])) ?_
      refine S.q rfl rfl (Qt.convert Tryd.underlying5 Tryd.underlying3 rfl (by have := bitlen_8 (i := x) ; have := bitlen_8 (i := x / 2 ^ 16); have := bitlen_8 (i := x / 2 ^ 8); have := bitlen_8 (i := x / 2 ^ 16 / 2 ^ 8); simp only [kmax]; omega)) ?_
      refine S.q rfl rfl (Qt.addi rfl rfl (IntWalk.i64_in _ (by have := bitlen_8 (i := x) ; have := bitlen_8 (i := x / 2 ^ 16); have := bitlen_8 (i := x / 2 ^ 8); have := bitlen_8 (i := x / 2 ^ 16 / 2 ^ 8); omega))) ?_
      refine S.q rfl rfl (Qt.assign (by conv => lhs; whnf)) ?_
      refine S.nil ?_
      refine TC.ret ?_
      refine finQ.ret (RVs.tmp (by conv => lhs; whnf) RVs.nil) (Sub.nil _) ?_
      have e8 := bitlen_shift (x := x) (n := 16) (by omega)
      exact ⟨congrArg (Value.int .i64) (by omega), rfl⟩
  · refine S.nil ?_
    refine S.if_f rfl ?_
    refine TC.skip ?_
    refine TC.seq ?_
    refine TC.seq ?_
    refine TC.region ?_
    refine S.q rfl rfl (Qt.move (by conv => lhs; whnf)) ?_
    refine S.dec rfl rfl (Qt.ge (b := 256) rfl rfl) (fun h14 => ?_) (fun h14 => ?_)
    · refine S.nil ?_
      refine S.if_t rfl ?_
      refine TC.seq ?_
      refine TC.region ?_
      refine S.q rfl rfl (Qt.move (by conv => lhs; whnf)) ?_
      refine S.q rfl rfl (Qt.shrN (s := 8) rfl rfl (by simp only [kmax]; omega)) ?_
      refine S.q rfl rfl (Qt.assign (by conv => lhs; whnf)) ?_
      refine S.nil ?_
      refine TC.region ?_
      refine S.q rfl rfl (Qt.move (by conv => lhs; whnf)) ?_
      refine S.q rfl rfl (Qt.addi rfl rfl (IntWalk.i64_in _ (by omega))) ?_
      refine S.q rfl rfl (Qt.assign (by conv => lhs; whnf)) ?_
      refine S.nil ?_
      refine TC.seq ?_
      refine TC.region ?_
      refine S.q rfl rfl (Qt.move (by conv => lhs; whnf)) ?_
      refine S.q rfl rfl (Qt.move (by conv => lhs; whnf)) ?_
      refine S.q rfl rfl (Qt.convert Tryd.underlying24 Tryd.underlying5 rfl (by simp only [kmax]; omega)) ?_
      refine S.q rfl rfl (Qt.as (Qt.index_str Tryd.underlying9 rfl rfl (len8_ok _ (by kernel_rfl) (by omega))) (by rw [len8_nat (by omega)])) ?_
      refine S.q rfl rfl (Qt.convert Tryd.underlying5 Tryd.underlying3 rfl (by have := bitlen_8 (i := x) ; have := bitlen_8 (i := x / 2 ^ 16); have := bitlen_8 (i := x / 2 ^ 8); have := bitlen_8 (i := x / 2 ^ 16 / 2 ^ 8); simp only [kmax]; omega)) ?_
      refine S.q rfl rfl (Qt.addi rfl rfl (IntWalk.i64_in _ (by have := bitlen_8 (i := x) ; have := bitlen_8 (i := x / 2 ^ 16); have := bitlen_8 (i := x / 2 ^ 8); have := bitlen_8 (i := x / 2 ^ 16 / 2 ^ 8); omega))) ?_
      refine S.q rfl rfl (Qt.assign (by conv => lhs; whnf)) ?_
      refine S.nil ?_
      refine TC.ret ?_
      refine finQ.ret (RVs.tmp (by conv => lhs; whnf) RVs.nil) (Sub.nil _) ?_
      have e14 := bitlen_shift (x := x) (n := 8) (by omega)
      exact ⟨congrArg (Value.int .i64) (by omega), rfl⟩
    · refine S.nil ?_
      refine S.if_f rfl ?_
      refine TC.skip ?_
      refine TC.seq ?_
      refine TC.region ?_
      refine S.q rfl rfl (Qt.move (by conv => lhs; whnf)) ?_
      refine S.q rfl rfl (Qt.move (by conv => lhs; whnf)) ?_
      refine S.q rfl rfl (Qt.convert Tryd.underlying24 Tryd.underlying5 rfl (by simp only [kmax]; omega)) ?_
      refine S.q rfl rfl (Qt.as (Qt.index_str Tryd.underlying9 rfl rfl (len8_ok _ (by kernel_rfl) (by omega))) (by rw [len8_nat (by omega)])) ?_
      refine S.q rfl rfl (Qt.convert Tryd.underlying5 Tryd.underlying3 rfl (by have := bitlen_8 (i := x) ; have := bitlen_8 (i := x / 2 ^ 16); have := bitlen_8 (i := x / 2 ^ 8); have := bitlen_8 (i := x / 2 ^ 16 / 2 ^ 8); simp only [kmax]; omega)) ?_
      refine S.q rfl rfl (Qt.addi rfl rfl (IntWalk.i64_in _ (by have := bitlen_8 (i := x) ; have := bitlen_8 (i := x / 2 ^ 16); have := bitlen_8 (i := x / 2 ^ 8); have := bitlen_8 (i := x / 2 ^ 16 / 2 ^ 8); omega))) ?_
      refine S.q rfl rfl (Qt.assign (by conv => lhs; whnf)) ?_
      refine S.nil ?_
      refine TC.ret ?_
      refine finQ.ret (RVs.tmp (by conv => lhs; whnf) RVs.nil) (Sub.nil _) ?_
      exact ⟨congrArg (Value.int .i64) (by omega), rfl⟩
theorem len64_R (x : Nat) (hx : x < 4294967296) (w0 : World) : Calls Tryd.prog 120 #[.int .u64 (x : Int)] w0 (Ret w0 (.int .i64 ((bitlen x : Nat) : Int))) := Calls.ret (len64_walk x hx w0)

set_option maxHeartbeats 400000 in
theorem num_nil_walk (w0 : World) :
    Calls Tryd.prog 24 #[.nilIface] w0 (Post w0 [] fun v L => v = .int .i64 0 ∧ L = []) := by
  refine Calls.of (L := []) (n := 18) (rs := [.tmp 2]) Tryd.func24 rfl rfl rfl (Nat.le_of_ble_eq_true rfl) (Sat.nil _) ?_
  refine TC.seq ?_
  refine TC.region ?_
  refine S.q rfl rfl (Qt.assign (by conv => lhs; whnf)) ?_
  refine S.nil ?_
  refine TC.seq ?_
  refine TC.seq ?_
  refine TC.region ?_
  refine S.q rfl rfl (Qt.move (by conv => lhs; whnf)) ?_
  refine S.q rfl rfl (Qt.eqnil_nil Tryd.underlying27 rfl) ?_
  refine S.nil ?_
  refine S.if_t rfl ?_
  refine TC.seq ?_
  refine TC.region ?_
  refine S.q rfl rfl (Qt.assign (by conv => lhs; whnf)) ?_
  refine S.nil ?_
  refine TC.ret ?_
  refine finQ.ret (RVs.tmp (by conv => lhs; whnf) RVs.nil) (Sub.nil _) ?_
  exact ⟨rfl, rfl⟩
set_option maxHeartbeats 400000 in
theorem num_pos_walk (k : Nat) (hk : 0 < k) (w0 : World) :
    Calls Tryd.prog 24 #[.iface 58 (.int .i64 (k : Int))] w0 (Post w0 [] fun v L => v = .int .i64 (k : Int) ∧ L = []) := by
  refine Calls.of (L := []) (n := 18) (rs := [.tmp 2]) Tryd.func24 rfl rfl rfl (Nat.le_of_ble_eq_true rfl) (Sat.nil _) ?_
  refine TC.seq ?_
  refine TC.region ?_
  refine S.q rfl rfl (Qt.assign (by conv => lhs; whnf)) ?_
  refine S.nil ?_
  refine TC.seq ?_
  refine TC.seq ?_
  refine TC.region ?_
  refine S.q rfl rfl (Qt.move (by conv => lhs; whnf)) ?_
  refine S.q rfl rfl (Qt.eqnil_iface Tryd.underlying27 rfl) ?_
  refine S.nil ?_
  refine S.if_f rfl ?_
  refine TC.skip ?_
  refine TC.seq ?_
  refine TC.seq ?_
  refine TC.region ?_
  refine S.q rfl rfl (Qt.move (by conv => lhs; whnf)) ?_
  refine S.q rfl rfl (Qt.assert_yes Tryd.underlying58 (fun _ h => nomatch h) rfl) ?_
  refine S.q rfl rfl (Qt.move (by conv => lhs; whnf)) ?_
  refine S.q rfl rfl (Qt.extract rfl rfl) ?_
  refine S.q rfl rfl (Qt.extract rfl rfl) ?_
  refine S.q rfl rfl (Qt.assign (by conv => lhs; whnf)) ?_
  refine S.q rfl rfl (Qt.assign (by conv => lhs; whnf)) ?_
  refine S.nil ?_
  refine TC.seq ?_
  refine TC.region ?_
  refine S.q rfl rfl (Qt.move (by conv => lhs; whnf)) ?_
  refine S.q rfl rfl (Qt.move (by conv => lhs; whnf)) ?_
  refine S.qg rfl rfl rfl (Qt.move (by conv => lhs; whnf)) ?_
  refine S.qg rfl rfl rfl (Qt.dT (Qt.ne (b := 0) rfl rfl) (by omega)) ?_
  refine S.q rfl rfl (Qt.pick_t rfl (by conv => lhs; whnf)) ?_
  refine S.nil ?_
  refine S.if_t rfl ?_
  refine TC.seq ?_
  refine TC.region ?_
  refine S.q rfl rfl (Qt.move (by conv => lhs; whnf)) ?_
  refine S.q rfl rfl (Qt.assign (by conv => lhs; whnf)) ?_
  refine S.nil ?_
  refine TC.ret ?_
  refine finQ.ret (RVs.tmp (by conv => lhs; whnf) RVs.nil) (Sub.nil _) ?_
  exact ⟨rfl, rfl⟩
theorem num_R (k : Nat) (w0 : World) : Calls Tryd.prog 24 #[errv 58 k] w0 (Ret w0 (.int .i64 (k : Int))) := by
  by_cases h : k = 0
  · subst h; exact Calls.ret (num_nil_walk w0)
  · rw [errv_pos h]; exact Calls.ret (num_pos_walk k (by omega) w0)

end Go.Proofs.YtlneklemjfefpaaDoor
