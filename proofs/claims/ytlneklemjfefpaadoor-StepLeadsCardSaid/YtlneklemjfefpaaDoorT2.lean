/-
  Walks: heights, and the root behind a growing step. Printed by a program of ours. Walks: the tree of the program. Printed by a program of ours.
-/
import Derived.Test.YtlneklemjfefpaaDoorT1
import Derived.Test.YtlneklemjfefpaaDoorGR
import Derived.Test.YtlneklemjfefpaaDoorP2
namespace Go.Proofs.YtlneklemjfefpaaDoor
open Go.E
set_option linter.unusedVariables false
set_option maxRecDepth 4000
theorem Tryd.ent21 : Enters Tryd.prog 21 := ⟨_, Tryd.func21, by kernel_rfl, rfl⟩
theorem Tryd.ent22 : Enters Tryd.prog 22 := ⟨_, Tryd.func22, by kernel_rfl, rfl⟩
theorem Tryd.ent80 : Enters Tryd.prog 80 := ⟨_, Tryd.func80, by kernel_rfl, rfl⟩
theorem Tryd.ent88 : Enters Tryd.prog 88 := ⟨_, Tryd.func88, by kernel_rfl, rfl⟩
theorem Tryd.ent89 : Enters Tryd.prog 89 := ⟨_, Tryd.func89, by kernel_rfl, rfl⟩
theorem Tryd.ent120 : Enters Tryd.prog 120 := ⟨_, Tryd.func120, by kernel_rfl, rfl⟩
theorem Tryd.guard23 : Tryd.prog.eqGuardType Tryd.prog.depth 23 = false := by kernel_rfl
def H7 : H32 := ⟨[7, 0, 0, 0, 0, 0, 0, 0, 0, 0, 0, 0, 0, 0, 0, 0, 0, 0, 0, 0, 0, 0, 0, 0, 0, 0, 0, 0, 0, 0, 0, 0], rfl⟩
theorem hgt_1 : hgt 1 = 0 := by decide +kernel
theorem hgt_2 : hgt 2 = 1 := by decide +kernel
theorem grow_cases {p q r : Prop} (h : ¬ (p ∧ q ∧ r)) : ¬ p ∨ (p ∧ ¬ q) ∨ (p ∧ q ∧ ¬ r) := by
  by_cases hp : p
  · by_cases hq : q
    · exact .inr (.inr ⟨hp, hq, fun hr => h ⟨hp, hq, hr⟩⟩)
    · exact .inr (.inl ⟨hp, hq⟩)
  · exact .inl hp
set_option maxHeartbeats 400000 in
theorem len64_walk (x : Nat) (hx : x < 4294967296) (w0 : World) :
    Calls Tryd.prog 120 #[.int .u64 (x : Int)] w0 (Post w0 [] fun v L => v = .int .i64 ((bitlen x : Nat) : Int) ∧ L = []) := by
  refine Calls.of (L := []) (n := 25) (rs := [.tmp 2]) Tryd.func120 rfl rfl rfl (Nat.le_of_ble_eq_true rfl) (Sat.nil _) ?_
  refine TC.seq ?_
  refine TC.region ?_
  refine S.q rfl rfl (Qt.assign (by conv => lhs; whnf)) ?_
  refine S.nil ?_
  refine TC.seq ?_
  refine TC.seq ?_
  refine TC.region ?_
  refine S.q rfl rfl (Qt.move (by conv => lhs; whnf)) ?_
  refine S.q rfl rfl (Qt.dF (Qt.ge (b := 4294967296) rfl rfl) (by omega)) ?_
  refine S.nil ?_
  refine S.if_f rfl ?_
  refine TC.skip ?_
  refine TC.seq ?_
  refine TC.seq ?_
  refine TC.region ?_
  refine S.q rfl rfl (Qt.move (by conv => lhs; whnf)) ?_
  refine S.dec rfl rfl (Qt.ge (b := 65536) rfl rfl) (fun h8 => ?_) (fun h8 => ?_)
  · refine S.nil ?_
    refine S.if_t rfl ?_
    refine TC.seq ?_
    refine TC.region ?_
    refine S.q rfl rfl (Qt.move (by conv => lhs; whnf)) ?_
    refine S.q rfl rfl (Qt.shrN (s := 16) rfl rfl (by simp only [kmax]; omega)) ?_
    refine S.q rfl rfl (Qt.assign (by conv => lhs; whnf)) ?_
    refine S.nil ?_
    refine TC.region ?_
    refine S.q rfl rfl (Qt.move (by conv => lhs; whnf)) ?_
    refine S.q rfl rfl (Qt.addi rfl rfl (IntWalk.i64_in _ (by omega))) ?_
    refine S.q rfl rfl (Qt.assign (by conv => lhs; whnf)) ?_
    refine S.nil ?_
    refine TC.seq ?_
    refine TC.seq ?_
    refine TC.region ?_
    refine S.q rfl rfl (Qt.move (by conv => lhs; whnf)) ?_
    refine S.dec rfl rfl (Qt.ge (b := 256) rfl rfl) (fun h14 => ?_) (fun h14 => ?_)
    · refine S.nil ?_
      refine S.if_t rfl ?_
      refine TC.seq ?_
      refine TC.region ?_
      refine S.q rfl rfl (Qt.move (by conv => lhs; whnf)) ?_
      refine S.q rfl rfl (Qt.shrN (s := 8) rfl rfl (by simp only [kmax]; omega)) ?_
      refine S.q rfl rfl (Qt.assign (by conv => lhs; whnf)) ?_
      refine S.nil ?_
      refine TC.region ?_
      refine S.q rfl rfl (Qt.move (by conv => lhs; whnf)) ?_
      refine S.q rfl rfl (Qt.addi rfl rfl (IntWalk.i64_in _ (by omega))) ?_
      refine S.q rfl rfl (Qt.assign (by conv => lhs; whnf)) ?_
      refine S.nil ?_
      refine TC.seq ?_
      refine TC.region ?_
      refine S.q rfl rfl (Qt.move (by conv => lhs; whnf)) ?_
      refine S.q rfl rfl (Qt.move (by conv => lhs; whnf)) ?_
      refine S.q rfl rfl (Qt.convert Tryd.underlying24 Tryd.underlying5 rfl (by simp only [kmax]; omega)) ?_
      refine S.q rfl rfl (Qt.as (Qt.index_str Tryd.underlying9 rfl rfl (len8_ok _ (by kernel_rfl) (by omega))) (by rw [len8_nat (by omega)])) ?_
      refine S.q rfl rfl (Qt.convert Tryd.underlying5 Tryd.underlying3 rfl (by have := bitlen_8 (i := x) ; have := bitlen_8 (i := x / 2 ^ 16); have := bitlen_8 (i := x / 2 ^ 8); have := bitlen_8 (i := x / 2 ^ 16 / 2 ^ 8); simp only [kmax]; omega)) ?_
      refine S.q rfl rfl (Qt.addi rfl rfl (IntWalk.i64_in _ (by have := bitlen_8 (i := x) ; have := bitlen_8 (i := x / 2 ^ 16); have := bitlen_8 (i := x / 2 ^ 8); have := bitlen_8 (i := x / 2 ^ 16 / 2 ^ 8); omega))) ?_
      refine S.q rfl rfl (Qt.assign (by conv => lhs; whnf)) ?_
      refine S.nil ?_
      refine TC.ret ?_
      refine finQ.ret (RVs.tmp (by conv => lhs; whnf) RVs.nil) (Sub.nil _) ?_
      have e8 := bitlen_shift (x := x) (n := 16) (by omega)
      have e14 := bitlen_shift (x := (x / 2 ^ 16)) (n := 8) (by omega)
      exact ⟨congrArg (Value.int .i64) (by omega), rfl⟩
    · refine S.nil ?_
      refine S.if_f rfl ?_
      refine TC.skip ?_
      refine TC.seq ?_
      refine TC.region ?_
      refine S.q rfl rfl (Qt.move (by conv => lhs; whnf)) ?_
      refine S.q rfl rfl (Qt.move (by conv => lhs; whnf)) ?_
      refine S.q rfl rfl (Qt.convert Tryd.underlying24 Tryd.underlying5 rfl (by simp only [kmax]; omega)) ?_
      refine S.q rfl rfl (Qt.as (Qt.index_str Tryd.underlying9 rfl rfl (len8_ok _ (by kernel_rfl) (by omega))) (by rw [len8_nat (by omega)])) ?_
      refine S.q rfl rfl (Qt.convert Tryd.underlying5 Tryd.underlying3 rfl (by have := bitlen_8 (i := x) ; have := bitlen_8 (i := x / 2 ^ 16); have := bitlen_8 (i := x / 2 ^ 8); have := bitlen_8 (i := x / 2 ^ 16 / 2 ^ 8); simp only [kmax]; omega)) ?_
      refine S.q rfl rfl (Qt.addi rfl rfl (IntWalk.i64_in _ (by have := bitlen_8 (i := x) ; have := bitlen_8 (i := x / 2 ^ 16); have := bitlen_8 (i := x / 2 ^ 8); have := bitlen_8 (i := x / 2 ^ 16 / 2 ^ 8); omega))) ?_
      refine S.q rfl rfl (Qt.assign (by conv => lhs; whnf)) ?_
      refine S.nil ?_
      refine TC.ret ?_
      refine finQ.ret (RVs.tmp (by conv => lhs; whnf) RVs.nil) (Sub.nil _) ?_
      have e8 := bitlen_shift (x := x) (n := 16) (by omega)
      exact ⟨congrArg (Value.int .i64) (by omega), rfl⟩
  · refine S.nil ?_
    refine S.if_f rfl ?_
    refine TC.skip ?_
    refine TC.seq ?_
    refine TC.seq ?_
    refine TC.region ?_
    refine S.q rfl rfl (Qt.move (by conv => lhs; whnf)) ?_
    refine S.dec rfl rfl (Qt.ge (b := 256) rfl rfl) (fun h14 => ?_) (fun h14 => ?_)
    · refine S.nil ?_
      refine S.if_t rfl ?_
      refine TC.seq ?_
      refine TC.region ?_
      refine S.q rfl rfl (Qt.move (by conv => lhs; whnf)) ?_
      refine S.q rfl rfl (Qt.shrN (s := 8) rfl rfl (by simp only [kmax]; omega)) ?_
      refine S.q rfl rfl (Qt.assign (by conv => lhs; whnf)) ?_
      refine S.nil ?_
      refine TC.region ?_
      refine S.q rfl rfl (Qt.move (by conv => lhs; whnf)) ?_
      refine S.q rfl rfl (Qt.addi rfl rfl (IntWalk.i64_in _ (by omega))) ?_
      refine S.q rfl rfl (Qt.assign (by conv => lhs; whnf)) ?_
      refine S.nil ?_
      refine TC.seq ?_
      refine TC.region ?_
      refine S.q rfl rfl (Qt.move (by conv => lhs; whnf)) ?_
      refine S.q rfl rfl (Qt.move (by conv => lhs; whnf)) ?_
      refine S.q rfl rfl (Qt.convert Tryd.underlying24 Tryd.underlying5 rfl (by simp only [kmax]; omega)) ?_
      refine S.q rfl rfl (Qt.as (Qt.index_str Tryd.underlying9 rfl rfl (len8_ok _ (by kernel_rfl) (by omega))) (by rw [len8_nat (by omega)])) ?_
      refine S.q rfl rfl (Qt.convert Tryd.underlying5 Tryd.underlying3 rfl (by have := bitlen_8 (i := x) ; have := bitlen_8 (i := x / 2 ^ 16); have := bitlen_8 (i := x / 2 ^ 8); have := bitlen_8 (i := x / 2 ^ 16 / 2 ^ 8); simp only [kmax]; omega)) ?_
      refine S.q rfl rfl (Qt.addi rfl rfl (IntWalk.i64_in _ (by have := bitlen_8 (i := x) ; have := bitlen_8 (i := x / 2 ^ 16); have := bitlen_8 (i := x / 2 ^ 8); have := bitlen_8 (i := x / 2 ^ 16 / 2 ^ 8); omega))) ?_
      refine S.q rfl rfl (Qt.assign (by conv => lhs; whnf)) ?_
      refine S.nil ?_
      refine TC.ret ?_
      refine finQ.ret (RVs.tmp (by conv => lhs; whnf) RVs.nil) (Sub.nil _) ?_
      have e14 := bitlen_shift (x := x) (n := 8) (by omega)
      exact ⟨congrArg (Value.int .i64) (by omega), rfl⟩
    · refine S.nil ?_
      refine S.if_f rfl ?_
      refine TC.skip ?_
      refine TC.seq ?_
      refine TC.region ?_
      refine S.q rfl rfl (Qt.move (by conv => lhs; whnf)) ?_
      refine S.q rfl rfl (Qt.move (by conv => lhs; whnf)) ?_
      refine S.q rfl rfl (Qt.convert Tryd.underlying24 Tryd.underlying5 rfl (by simp only [kmax]; omega)) ?_
      refine S.q rfl rfl (Qt.as (Qt.index_str Tryd.underlying9 rfl rfl (len8_ok _ (by kernel_rfl) (by omega))) (by rw [len8_nat (by omega)])) ?_
      refine S.q rfl rfl (Qt.convert Tryd.underlying5 Tryd.underlying3 rfl (by have := bitlen_8 (i := x) ; have := bitlen_8 (i := x / 2 ^ 16); have := bitlen_8 (i := x / 2 ^ 8); have := bitlen_8 (i := x / 2 ^ 16 / 2 ^ 8); simp only [kmax]; omega)) ?_
      refine S.q rfl rfl (Qt.addi rfl rfl (IntWalk.i64_in _ (by have := bitlen_8 (i := x) ; have := bitlen_8 (i := x / 2 ^ 16); have := bitlen_8 (i := x / 2 ^ 8); have := bitlen_8 (i := x / 2 ^ 16 / 2 ^ 8); omega))) ?_
      refine S.q rfl rfl (Qt.assign (by conv => lhs; whnf)) ?_
      refine S.nil ?_
      refine TC.ret ?_
      refine finQ.ret (RVs.tmp (by conv => lhs; whnf) RVs.nil) (Sub.nil _) ?_
      exact ⟨congrArg (Value.int .i64) (by omega), rfl⟩
theorem len64_R (x : Nat) (hx : x < 4294967296) (w0 : World) : Calls Tryd.prog 120 #[.int .u64 (x : Int)] w0 (Ret w0 (.int .i64 ((bitlen x : Nat) : Int))) := Calls.ret (len64_walk x hx w0)

set_option maxHeartbeats 400000 in
theorem height_walkT (n : Nat) (h : okN n) (w0 : World) :
    Calls Tryd.prog 80 #[.int .u64 (n : Int)] w0 (Post w0 [] fun v L => v = .tuple #[.int .i64 ((hgt n : Nat) : Int), .nilIface] ∧ L = []) := by
  refine Calls.of (L := []) (n := 14) (rs := [.tmp 2, .tmp 3]) Tryd.func80 rfl rfl rfl (Nat.le_of_ble_eq_true rfl) (Sat.nil _) ?_
  obtain ⟨hn1, hn2⟩ := id h
  refine TC.seq ?_
  refine TC.region ?_
  refine S.q rfl rfl (Qt.assign (by conv => lhs; whnf)) ?_
  refine S.q rfl rfl (Qt.assign (by conv => lhs; whnf)) ?_
  refine S.nil ?_
  refine TC.seq ?_
  refine TC.seq ?_
  refine TC.region ?_
  refine S.q rfl rfl (Qt.move (by conv => lhs; whnf)) ?_
  refine S.q rfl rfl (Qt.dF (Qt.lt (b := 1) rfl rfl) (by omega)) ?_
  refine S.q rfl rfl (Qt.move (by conv => lhs; whnf)) ?_
  refine S.qg rfl rfl rfl (Qt.move (by conv => lhs; whnf)) ?_
  refine S.qg rfl rfl rfl (Qt.dF (Qt.gt (b := 4294967296) rfl rfl) (by omega)) ?_
  refine S.q rfl rfl (Qt.pick_f rfl (by conv => lhs; whnf)) ?_
  refine S.nil ?_
  refine S.if_f rfl ?_
  refine TC.skip ?_
  refine TC.seq ?_
  refine TC.region ?_
  refine S.q rfl rfl (Qt.move (by conv => lhs; whnf)) ?_
  refine S.q rfl rfl (Qt.sub (b := 1) rfl rfl (by omega) (by simp only [kmax]; omega)) ?_
  refine S.opS rfl rfl (OpV.con0 Tryd.ent120 rfl (fun w hw => (len64_R (n - 1) (by omega) w : Calls Tryd.prog 120 #[.int .u64 ((n - 1 : Nat) : Int)] w (Ret w (.int .i64 ((hgt n : Nat) : Int))))) ?_)
  refine S.q rfl rfl (Qt.assign (by conv => lhs; whnf)) ?_
  refine S.q rfl rfl (Qt.assign (by conv => lhs; whnf)) ?_
  refine S.nil ?_
  refine TC.ret ?_
  refine finQ.ret (RVs.tmp (by conv => lhs; whnf) (RVs.tmp (by conv => lhs; whnf) RVs.nil)) (Sub.nil _) ?_
  exact ⟨rfl, rfl⟩
theorem height_T (n : Nat) (h : okN n) (w0 : World) : Calls Tryd.prog 80 #[.int .u64 (n : Int)] w0 (Ret w0 (.tuple #[.int .i64 ((hgt n : Nat) : Int), .nilIface])) := Calls.ret (height_walkT n h w0)

set_option maxHeartbeats 400000 in
theorem height_walkF (n : Nat) (h : ¬ okN n) (w0 : World) :
    Calls Tryd.prog 80 #[.int .u64 (n : Int)] w0 (Post w0 [] fun v L => v = .tuple #[.int .i64 0, .iface 58 (.int .i64 1)] ∧ L = []) := by
  refine Calls.of (L := []) (n := 14) (rs := [.tmp 2, .tmp 3]) Tryd.func80 rfl rfl rfl (Nat.le_of_ble_eq_true rfl) (Sat.nil _) ?_
  refine TC.seq ?_
  refine TC.region ?_
  refine S.q rfl rfl (Qt.assign (by conv => lhs; whnf)) ?_
  refine S.q rfl rfl (Qt.assign (by conv => lhs; whnf)) ?_
  refine S.nil ?_
  refine TC.seq ?_
  refine TC.seq ?_
  refine TC.region ?_
  refine S.q rfl rfl (Qt.move (by conv => lhs; whnf)) ?_
  refine S.dec rfl rfl (Qt.lt (b := 1) rfl rfl) (fun h5 => ?_) (fun h5 => ?_)
  · refine S.q rfl rfl (Qt.move (by conv => lhs; whnf)) ?_
    refine S.pass rfl rfl ?_
    refine S.pass rfl rfl ?_
    refine S.q rfl rfl (Qt.pick_t rfl (by conv => lhs; whnf)) ?_
    refine S.nil ?_
    refine S.if_t rfl ?_
    refine TC.seq ?_
    refine TC.region ?_
    refine S.q rfl rfl (Qt.makeInterface Tryd.underlying58 (fun _ h => nomatch h) (by conv => lhs; whnf)) ?_
    refine S.q rfl rfl (Qt.assign (by conv => lhs; whnf)) ?_
    refine S.q rfl rfl (Qt.assign (by conv => lhs; whnf)) ?_
    refine S.nil ?_
    refine TC.ret ?_
    refine finQ.ret (RVs.tmp (by conv => lhs; whnf) (RVs.tmp (by conv => lhs; whnf) RVs.nil)) (Sub.nil _) ?_
    exact ⟨rfl, rfl⟩
  · refine S.q rfl rfl (Qt.move (by conv => lhs; whnf)) ?_
    refine S.qg rfl rfl rfl (Qt.move (by conv => lhs; whnf)) ?_
    refine S.qg rfl rfl rfl (Qt.dT (Qt.gt (b := 4294967296) rfl rfl) (by have := h; unfold okN at this; omega)) ?_
    refine S.q rfl rfl (Qt.pick_f rfl (by conv => lhs; whnf)) ?_
    refine S.nil ?_
    refine S.if_t rfl ?_
    refine TC.seq ?_
    refine TC.region ?_
    refine S.q rfl rfl (Qt.makeInterface Tryd.underlying58 (fun _ h => nomatch h) (by conv => lhs; whnf)) ?_
    refine S.q rfl rfl (Qt.assign (by conv => lhs; whnf)) ?_
    refine S.q rfl rfl (Qt.assign (by conv => lhs; whnf)) ?_
    refine S.nil ?_
    refine TC.ret ?_
    refine finQ.ret (RVs.tmp (by conv => lhs; whnf) (RVs.tmp (by conv => lhs; whnf) RVs.nil)) (Sub.nil _) ?_
    exact ⟨rfl, rfl⟩
theorem height_F (n : Nat) (h : ¬ okN n) (w0 : World) : Calls Tryd.prog 80 #[.int .u64 (n : Int)] w0 (Ret w0 (.tuple #[.int .i64 0, .iface 58 (.int .i64 1)])) := Calls.ret (height_walkF n h w0)

set_option maxHeartbeats 400000 in
theorem hts_walkTT (a b : Nat) (ha : okN a) (hb : okN b) (w0 : World) :
    Calls Tryd.prog 89 #[.int .u64 (a : Int), .int .u64 (b : Int)] w0 (Post w0 [] fun v L => v = .tuple #[.int .i64 ((hgt a : Nat) : Int), .int .i64 ((hgt b : Nat) : Int), .nilIface] ∧ L = []) := by
  refine Calls.of (L := []) (n := 26) (rs := [.tmp 4, .tmp 5, .tmp 6]) Tryd.func89 rfl rfl rfl (Nat.le_of_ble_eq_true rfl) (Sat.nil _) ?_
  refine TC.seq ?_
  refine TC.region ?_
  refine S.q rfl rfl (Qt.assign (by conv => lhs; whnf)) ?_
  refine S.q rfl rfl (Qt.assign (by conv => lhs; whnf)) ?_
  refine S.q rfl rfl (Qt.assign (by conv => lhs; whnf)) ?_
  refine S.nil ?_
  refine TC.seq ?_
  refine TC.region ?_
  refine S.q rfl rfl (Qt.move (by conv => lhs; whnf)) ?_
  refine S.opS rfl rfl (OpV.con0 Tryd.ent80 rfl (fun w hw => height_T a ha w) ?_)
  refine S.q rfl rfl (Qt.move (by conv => lhs; whnf)) ?_
  refine S.q rfl rfl (Qt.extract rfl rfl) ?_
  refine S.q rfl rfl (Qt.extract rfl rfl) ?_
  refine S.q rfl rfl (Qt.assign (by conv => lhs; whnf)) ?_
  refine S.q rfl rfl (Qt.assign (by conv => lhs; whnf)) ?_
  refine S.nil ?_
  refine TC.seq ?_
  refine TC.seq ?_
  refine TC.region ?_
  refine S.q rfl rfl (Qt.move (by conv => lhs; whnf)) ?_
  refine S.q rfl rfl (Qt.nenil_nil Tryd.underlying27 rfl) ?_
  refine S.nil ?_
  refine S.if_f rfl ?_
  refine TC.skip ?_
  refine TC.seq ?_
  refine TC.region ?_
  refine S.q rfl rfl (Qt.move (by conv => lhs; whnf)) ?_
  refine S.opS rfl rfl (OpV.con0 Tryd.ent80 rfl (fun w hw => height_T b hb w) ?_)
  refine S.q rfl rfl (Qt.move (by conv => lhs; whnf)) ?_
  refine S.q rfl rfl (Qt.extract rfl rfl) ?_
  refine S.q rfl rfl (Qt.extract rfl rfl) ?_
  refine S.q rfl rfl (Qt.assign (by conv => lhs; whnf)) ?_
  refine S.q rfl rfl (Qt.assign (by conv => lhs; whnf)) ?_
  refine S.nil ?_
  refine TC.seq ?_
  refine TC.region ?_
  refine S.q rfl rfl (Qt.move (by conv => lhs; whnf)) ?_
  refine S.q rfl rfl (Qt.move (by conv => lhs; whnf)) ?_
  refine S.q rfl rfl (Qt.move (by conv => lhs; whnf)) ?_
  refine S.q rfl rfl (Qt.assign (by conv => lhs; whnf)) ?_
  refine S.q rfl rfl (Qt.assign (by conv => lhs; whnf)) ?_
  refine S.q rfl rfl (Qt.assign (by conv => lhs; whnf)) ?_
  refine S.nil ?_
  refine TC.ret ?_
  refine finQ.ret (RVs.tmp (by conv => lhs; whnf) (RVs.tmp (by conv => lhs; whnf) (RVs.tmp (by conv => lhs; whnf) RVs.nil))) (Sub.nil _) ?_
  exact ⟨rfl, rfl⟩
theorem hts_TT (a b : Nat) (ha : okN a) (hb : okN b) (w0 : World) : Calls Tryd.prog 89 #[.int .u64 (a : Int), .int .u64 (b : Int)] w0 (Ret w0 (.tuple #[.int .i64 ((hgt a : Nat) : Int), .int .i64 ((hgt b : Nat) : Int), .nilIface])) := Calls.ret (hts_walkTT a b ha hb w0)

set_option maxHeartbeats 400000 in
theorem hts_walkF (a b : Nat) (ha : ¬ okN a) (w0 : World) :
    Calls Tryd.prog 89 #[.int .u64 (a : Int), .int .u64 (b : Int)] w0 (Post w0 [] fun v L => v = .tuple #[.int .i64 0, .int .i64 0, .iface 58 (.int .i64 1)] ∧ L = []) := by
  refine Calls.of (L := []) (n := 26) (rs := [.tmp 4, .tmp 5, .tmp 6]) Tryd.func89 rfl rfl rfl (Nat.le_of_ble_eq_true rfl) (Sat.nil _) ?_
  refine TC.seq ?_
  refine TC.region ?_
  refine S.q rfl rfl (Qt.assign (by conv => lhs; whnf)) ?_
  refine S.q rfl rfl (Qt.assign (by conv => lhs; whnf)) ?_
  refine S.q rfl rfl (Qt.assign (by conv => lhs; whnf)) ?_
  refine S.nil ?_
  refine TC.seq ?_
  refine TC.region ?_
  refine S.q rfl rfl (Qt.move (by conv => lhs; whnf)) ?_
  refine S.opS rfl rfl (OpV.con0 Tryd.ent80 rfl (fun w hw => height_F a ha w) ?_)
  refine S.q rfl rfl (Qt.move (by conv => lhs; whnf)) ?_
  refine S.q rfl rfl (Qt.extract rfl rfl) ?_
  refine S.q rfl rfl (Qt.extract rfl rfl) ?_
  refine S.q rfl rfl (Qt.assign (by conv => lhs; whnf)) ?_
  refine S.q rfl rfl (Qt.assign (by conv => lhs; whnf)) ?_
  refine S.nil ?_
  refine TC.seq ?_
  refine TC.seq ?_
  refine TC.region ?_
  refine S.q rfl rfl (Qt.move (by conv => lhs; whnf)) ?_
  refine S.q rfl rfl (Qt.nenil_iface Tryd.underlying27 rfl) ?_
  refine S.nil ?_
  refine S.if_t rfl ?_
  refine TC.seq ?_
  refine TC.region ?_
  refine S.q rfl rfl (Qt.move (by conv => lhs; whnf)) ?_
  refine S.q rfl rfl (Qt.assign (by conv => lhs; whnf)) ?_
  refine S.q rfl rfl (Qt.assign (by conv => lhs; whnf)) ?_
  refine S.q rfl rfl (Qt.assign (by conv => lhs; whnf)) ?_
  refine S.nil ?_
  refine TC.ret ?_
  refine finQ.ret (RVs.tmp (by conv => lhs; whnf) (RVs.tmp (by conv => lhs; whnf) (RVs.tmp (by conv => lhs; whnf) RVs.nil))) (Sub.nil _) ?_
  exact ⟨rfl, rfl⟩
theorem hts_F (a b : Nat) (ha : ¬ okN a) (w0 : World) : Calls Tryd.prog 89 #[.int .u64 (a : Int), .int .u64 (b : Int)] w0 (Ret w0 (.tuple #[.int .i64 0, .int .i64 0, .iface 58 (.int .i64 1)])) := Calls.ret (hts_walkF a b ha w0)

set_option maxHeartbeats 400000 in
theorem hts_walkTF (a b : Nat) (ha : okN a) (hb : ¬ okN b) (w0 : World) :
    Calls Tryd.prog 89 #[.int .u64 (a : Int), .int .u64 (b : Int)] w0 (Post w0 [] fun v L => v = .tuple #[.int .i64 ((hgt a : Nat) : Int), .int .i64 0, .iface 58 (.int .i64 1)] ∧ L = []) := by
  refine Calls.of (L := []) (n := 26) (rs := [.tmp 4, .tmp 5, .tmp 6]) Tryd.func89 rfl rfl rfl (Nat.le_of_ble_eq_true rfl) (Sat.nil _) ?_
  refine TC.seq ?_
  refine TC.region ?_
  refine S.q rfl rfl (Qt.assign (by conv => lhs; whnf)) ?_
  refine S.q rfl rfl (Qt.assign (by conv => lhs; whnf)) ?_
  refine S.q rfl rfl (Qt.assign (by conv => lhs; whnf)) ?_
  refine S.nil ?_
  refine TC.seq ?_
  refine TC.region ?_
  refine S.q rfl rfl (Qt.move (by conv => lhs; whnf)) ?_
  refine S.opS rfl rfl (OpV.con0 Tryd.ent80 rfl (fun w hw => height_T a ha w) ?_)
  refine S.q rfl rfl (Qt.move (by conv => lhs; whnf)) ?_
  refine S.q rfl rfl (Qt.extract rfl rfl) ?_
  refine S.q rfl rfl (Qt.extract rfl rfl) ?_
  refine S.q rfl rfl (Qt.assign (by conv => lhs; whnf)) ?_
  refine S.q rfl rfl (Qt.assign (by conv => lhs; whnf)) ?_
  refine S.nil ?_
  refine TC.seq ?_
  refine TC.seq ?_
  refine TC.region ?_
  refine S.q rfl rfl (Qt.move (by conv => lhs; whnf)) ?_
  refine S.q rfl rfl (Qt.nenil_nil Tryd.underlying27 rfl) ?_
  refine S.nil ?_
  refine S.if_f rfl ?_
  refine TC.skip ?_
  refine TC.seq ?_
  refine TC.region ?_
  refine S.q rfl rfl (Qt.move (by conv => lhs; whnf)) ?_
  refine S.opS rfl rfl (OpV.con0 Tryd.ent80 rfl (fun w hw => height_F b hb w) ?_)
  refine S.q rfl rfl (Qt.move (by conv => lhs; whnf)) ?_
  refine S.q rfl rfl (Qt.extract rfl rfl) ?_
  refine S.q rfl rfl (Qt.extract rfl rfl) ?_
  refine S.q rfl rfl (Qt.assign (by conv => lhs; whnf)) ?_
  refine S.q rfl rfl (Qt.assign (by conv => lhs; whnf)) ?_
  refine S.nil ?_
  refine TC.seq ?_
  refine TC.region ?_
  refine S.q rfl rfl (Qt.move (by conv => lhs; whnf)) ?_
  refine S.q rfl rfl (Qt.move (by conv => lhs; whnf)) ?_
  refine S.q rfl rfl (Qt.move (by conv => lhs; whnf)) ?_
  refine S.q rfl rfl (Qt.assign (by conv => lhs; whnf)) ?_
  refine S.q rfl rfl (Qt.assign (by conv => lhs; whnf)) ?_
  refine S.q rfl rfl (Qt.assign (by conv => lhs; whnf)) ?_
  refine S.nil ?_
  refine TC.ret ?_
  refine finQ.ret (RVs.tmp (by conv => lhs; whnf) (RVs.tmp (by conv => lhs; whnf) (RVs.tmp (by conv => lhs; whnf) RVs.nil))) (Sub.nil _) ?_
  exact ⟨rfl, rfl⟩
theorem hts_TF (a b : Nat) (ha : okN a) (hb : ¬ okN b) (w0 : World) : Calls Tryd.prog 89 #[.int .u64 (a : Int), .int .u64 (b : Int)] w0 (Ret w0 (.tuple #[.int .i64 ((hgt a : Nat) : Int), .int .i64 0, .iface 58 (.int .i64 1)])) := Calls.ret (hts_walkTF a b ha hb w0)

set_option maxHeartbeats 400000 in
theorem grow_walkT (E : Nat → H32) (hEm : ∀ w, Tabs 2 0 w [] → Calls Tryd.prog 88 #[] w (Ret w (.agg (hcs (emptL E)).toArray))) (root : H32) (a b : Nat) (h : okN a ∧ okN b ∧ a ≤ b) (w0 : World) (hT : Tabs 2 0 w0 []) :
    Calls Tryd.prog 22 #[hv root, .int .u64 (a : Int), .int .u64 (b : Int)] w0 (Post w0 [] fun v L => v = .tuple #[hv (growK E root (hgt a) (hgt b - hgt a)), .nilIface] ∧ L = []) := by
  refine Calls.of (L := []) (n := 54) (rs := [.cell 6 23, .tmp 7]) Tryd.func22 rfl rfl rfl (Nat.le_of_ble_eq_true rfl) (Sat.nil _) ?_
  have hlo := hgt_mono h.1 h.2.1 h.2.2
  have hhi := hgt_le h.2.1
  refine TC.seq ?_
  refine TC.region ?_
  refine S.opS rfl rfl (OpV.box (v := hv root) rfl (fun b3 => ?_))
  refine S.opS rfl rfl (OpV.alloc Tryd.zero23 (fun b6 => ?_))
  refine S.q rfl rfl (Qt.assign (by conv => lhs; whnf)) ?_
  refine S.nil ?_
  refine TC.seq ?_
  refine TC.region ?_
  refine S.q rfl rfl (Qt.move (by conv => lhs; whnf)) ?_
  refine S.q rfl rfl (Qt.move (by conv => lhs; whnf)) ?_
  refine S.opS rfl rfl (OpV.con0 Tryd.ent89 rfl (fun w hw => hts_TT a b h.1 h.2.1 w) ?_)
  refine S.q rfl rfl (Qt.move (by conv => lhs; whnf)) ?_
  refine S.q rfl rfl (Qt.extract rfl rfl) ?_
  refine S.q rfl rfl (Qt.extract rfl rfl) ?_
  refine S.q rfl rfl (Qt.extract rfl rfl) ?_
  refine S.q rfl rfl (Qt.assign (by conv => lhs; whnf)) ?_
  refine S.q rfl rfl (Qt.assign (by conv => lhs; whnf)) ?_
  refine S.q rfl rfl (Qt.assign (by conv => lhs; whnf)) ?_
  refine S.nil ?_
  refine TC.seq ?_
  refine TC.seq ?_
  refine TC.region ?_
  refine S.q rfl rfl (Qt.move (by conv => lhs; whnf)) ?_
  refine S.q rfl rfl (Qt.nenil_nil Tryd.underlying27 rfl) ?_
  refine S.q rfl rfl (Qt.move (by conv => lhs; whnf)) ?_
  refine S.qg rfl rfl rfl (Qt.move (by conv => lhs; whnf)) ?_
  refine S.qg rfl rfl rfl (Qt.move (by conv => lhs; whnf)) ?_
  refine S.qg rfl rfl rfl (Qt.dF (Qt.lt rfl rfl) (by omega)) ?_
  refine S.q rfl rfl (Qt.pick_f rfl (by conv => lhs; whnf)) ?_
  refine S.nil ?_
  refine S.if_f rfl ?_
  refine TC.skip ?_
  refine TC.seq ?_
  refine TC.region ?_
  refine S.opS rfl rfl (OpV.con0 Tryd.ent88 rfl (fun w hw => hEm w (hT.at hw)) ?_)
  refine S.opS rfl rfl (OpV.alloc Tryd.zero142 (fun b11 => ?_))
  refine S.opN rfl (OpV.storeV0 (v := .agg (hcs (emptL E)).toArray) rfl rfl (by rw [vl_agg, hcs_length, emptL_length]; exact Tryd.cells142) (hcs_all _) (by rw [vl_agg, hcs_length, emptL_length, List.length_replicate]) ?_)
  refine S.nil ?_
  refine TC.seq ?_
  refine TC.seq ?_
  refine TC.region ?_
  refine S.q rfl rfl (Qt.move (by conv => lhs; whnf)) ?_
  refine S.q rfl rfl (Qt.assign (by conv => lhs; whnf)) ?_
  refine S.nil ?_
  refine TC.block ?_
  refine TC.loop (γ := Nat) [33, 34, 35, 39, 40, 41, 42, 43, 44, 45, 38, 46, 47, 13, 14, 48, 49, 50, 51, 7, 52, 36, 37, 12] (fun k => [(12, .int .i64 ((hgt a + k : Nat) : Int))]) (fun k => [Blk b11 142 (hcs (emptL E)), Blk b6 23 (List.replicate 32 (.int .u8 0)), Blk b3 23 (hvl (growK E root (hgt a) k))]) (fun k => k ≤ hgt b - hgt a) (fun k => hgt b - hgt a - k) (0)
    (Nat.zero_le _) ⟨Out.refl _ _, (List.forall_mem_cons.2 ⟨rfl, (fun _ h => nomatch h)⟩)⟩ (Sub.refl _) ?_
  rintro k u hk
  refine TC.seq ?_
  refine TC.seq ?_
  refine TC.region ?_
  refine S.q rfl rfl (Qt.move (by conv => lhs; whnf)) ?_
  refine S.q rfl rfl (Qt.move (by conv => lhs; whnf)) ?_
  refine S.dec rfl rfl (Qt.lt rfl rfl) (fun h35 => ?_) (fun h35 => ?_)
  · refine S.nil ?_
    refine S.if_t rfl ?_
    refine TC.skip ?_
    refine TC.seq ?_
    refine TC.block ?_
    refine TC.seq ?_
    refine S.draw ([11], [10]) Tryd.mixed (Sub.nil _) ?_
    refine D.qX (k := 0) rfl (by kernel_rfl) (by kernel_rfl) (by kernel_rfl) rfl rfl (Qt.move (by conv => lhs; whnf)) ?_
    refine D.qX (k := 1) rfl (by kernel_rfl) (by kernel_rfl) (by kernel_rfl) rfl rfl (Qt.add (b := 1) rfl rfl (by simp only [kmax]; omega)) ?_
    refine D.qX (k := 2) rfl (by kernel_rfl) (by kernel_rfl) (by kernel_rfl) rfl rfl (Qt.load rfl (Ld.hash1 (x := growK E root (hgt a) k) (Has.at 2 rfl) Tryd.row23 Tryd.cells23)) ?_
    refine D.qX (k := 3) rfl (by kernel_rfl) (by kernel_rfl) (by kernel_rfl) rfl rfl (Qt.move (by conv => lhs; whnf)) ?_
    refine D.qX (k := 4) rfl (by kernel_rfl) (by kernel_rfl) (by kernel_rfl) rfl rfl (Qt.indexB Tryd.underlying142 Tryd.cells23 rfl rfl (by omega)) ?_
    refine D.qX (k := 5) rfl (by kernel_rfl) (by kernel_rfl) (by kernel_rfl) rfl rfl (Qt.as (Qt.load rfl (Ld.hashB (Has.at 0 rfl) (hgt a + k) Tryd.row23 Tryd.cells23 (by rw [emptL_length]; omega) (by omega))) (by rw [emptL_get E (by omega)])) ?_
    refine D.cX (k := 6) rfl (by kernel_rfl) (by kernel_rfl) (by kernel_rfl) rfl rfl (CalU.con0 Tryd.ent31 rfl (fun w hw => join_R (hgt a + k + 1) (by omega) (by omega) (growK E root (hgt a) k) (E (hgt a + k)) w (hT.at hw))) ?_
    refine D.qX (k := 7) rfl (by kernel_rfl) (by kernel_rfl) (by kernel_rfl) rfl rfl (Qt.move (by conv => lhs; whnf)) ?_
    refine D.qX (k := 8) rfl (by kernel_rfl) (by kernel_rfl) (by kernel_rfl) rfl rfl (Qt.extract rfl rfl) ?_
    refine D.q (k := 9) rfl (by kernel_rfl) (by kernel_rfl) rfl rfl (Qt.extract rfl rfl) ?_
    refine D.nS (k := 10) (Sub.nil _) rfl (by kernel_rfl) (by kernel_rfl) rfl rfl (OpV.alloc Tryd.zero23 (fun b13 => ⟨Sub.drop _ (Sub.refl _), ?_⟩))
    refine D.opN (k := 11) (Sub.nil _) rfl (by kernel_rfl) (by kernel_rfl) rfl (OpV.storeV0 (v := hv (growK E root (hgt a) (k + 1))) rfl rfl (hv_size Tryd.cells23) (hv_all _) (hv_len _) ⟨Sub.nil _, ?_⟩)
    refine D.qX (k := 12) rfl (by kernel_rfl) (by kernel_rfl) (by kernel_rfl) rfl rfl (Qt.assign (by conv => lhs; whnf)) ?_
    refine D.done (Sub.nil _) (by kernel_rfl) ?_
    refine TC.seq ?_
    refine TC.seq ?_
    refine TC.region ?_
    refine S.q rfl rfl (Qt.move (by conv => lhs; whnf)) ?_
    refine S.q rfl rfl (Qt.nenil_nil Tryd.underlying27 rfl) ?_
    refine S.nil ?_
    refine S.if_f rfl ?_
    refine TC.skip ?_
    refine TC.region ?_
    refine S.q rfl rfl (Qt.load rfl (Ld.hash1 (x := growK E root (hgt a) (k + 1)) (Has.at 0 rfl) Tryd.row23 Tryd.cells23)) ?_
    refine S.opN rfl (OpV.storeV3 (v := hv (growK E root (hgt a) (k + 1))) rfl rfl (hv_size Tryd.cells23) (hv_all _) (by rw [hv_len, hvl_length]) ?_)
    refine S.nil ?_
    refine TC.region ?_
    refine S.q rfl rfl (Qt.move (by conv => lhs; whnf)) ?_
    refine S.q rfl rfl (Qt.add (b := 1) rfl rfl (by simp only [kmax]; omega)) ?_
    refine S.q rfl rfl (Qt.assign (by conv => lhs; whnf)) ?_
    refine S.nil ?_
    refine ⟨k + 1, ?_, ?_, ⟨?_, (List.forall_mem_cons.2 ⟨rfl, (fun _ h => nomatch h)⟩)⟩, Sub.drop _ (Sub.refl _)⟩
    · show _ ≤ _; omega
    · show _ < _; dsimp only; omega
    repeat (first | exact Out.refl _ _ | refine Out.put rfl ?_ | refine Out.puts rfl ?_ | refine Out.scr ?_ | refine Out.scr' rfl ?_)
  · refine S.nil ?_
    refine S.if_f rfl ?_
    refine TC.exit ?_
    refine TC.seq ?_
    refine TC.region ?_
    refine S.q rfl rfl (Qt.load rfl (Ld.hash1 (x := growK E root (hgt a) k) (Has.at 2 rfl) Tryd.row23 Tryd.cells23)) ?_
    refine S.opN rfl (OpV.storeV1 (v := hv (growK E root (hgt a) k)) rfl rfl (hv_size Tryd.cells23) (hv_all _) (hv_len _) ?_)
    refine S.q rfl rfl (Qt.assign (by conv => lhs; whnf)) ?_
    refine S.nil ?_
    refine TC.ret ?_
    refine finQ.ret (RVs.cell rfl (Ld.all (Has.at 1 rfl) Tryd.row23 (hv_size Tryd.cells23)) (RVs.tmp (by conv => lhs; whnf) RVs.nil)) (Sub.nil _) ?_
    have e : k = hgt b - hgt a := by omega
    rw [← e]
    exact ⟨rfl, rfl⟩
set_option maxHeartbeats 400000 in
theorem grow_walkF (root : H32) (a b : Nat) (h : ¬ (okN a ∧ okN b ∧ a ≤ b)) (w0 : World) :
    Calls Tryd.prog 22 #[hv root, .int .u64 (a : Int), .int .u64 (b : Int)] w0 (Post w0 [] fun v L => v = .tuple #[hv zeroH, .iface 58 (.int .i64 1)] ∧ L = []) := by
  refine Calls.of (L := []) (n := 54) (rs := [.cell 6 23, .tmp 7]) Tryd.func22 rfl rfl rfl (Nat.le_of_ble_eq_true rfl) (Sat.nil _) ?_
  refine TC.seq ?_
  refine TC.region ?_
  refine S.opS rfl rfl (OpV.box (v := hv root) rfl (fun b3 => ?_))
  refine S.opS rfl rfl (OpV.alloc Tryd.zero23 (fun b6 => ?_))
  refine S.q rfl rfl (Qt.assign (by conv => lhs; whnf)) ?_
  refine S.nil ?_
  refine TC.seq ?_
  refine TC.region ?_
  refine S.q rfl rfl (Qt.move (by conv => lhs; whnf)) ?_
  refine S.q rfl rfl (Qt.move (by conv => lhs; whnf)) ?_
  rcases grow_cases h with ha | ⟨ha, hb⟩ | ⟨ha, hb, hc⟩
  · refine S.opS rfl rfl (OpV.con0 Tryd.ent89 rfl (fun w hw => hts_F a b ha w) ?_)
    refine S.q rfl rfl (Qt.move (by conv => lhs; whnf)) ?_
    refine S.q rfl rfl (Qt.extract rfl rfl) ?_
    refine S.q rfl rfl (Qt.extract rfl rfl) ?_
    refine S.q rfl rfl (Qt.extract rfl rfl) ?_
    refine S.q rfl rfl (Qt.assign (by conv => lhs; whnf)) ?_
    refine S.q rfl rfl (Qt.assign (by conv => lhs; whnf)) ?_
    refine S.q rfl rfl (Qt.assign (by conv => lhs; whnf)) ?_
    refine S.nil ?_
    refine TC.seq ?_
    refine TC.seq ?_
    refine TC.region ?_
    refine S.q rfl rfl (Qt.move (by conv => lhs; whnf)) ?_
    refine S.q rfl rfl (Qt.nenil_iface Tryd.underlying27 rfl) ?_
    refine S.q rfl rfl (Qt.move (by conv => lhs; whnf)) ?_
    refine S.pass rfl rfl ?_
    refine S.pass rfl rfl ?_
    refine S.pass rfl rfl ?_
    refine S.q rfl rfl (Qt.pick_t rfl (by conv => lhs; whnf)) ?_
    refine S.nil ?_
    refine S.if_t rfl ?_
    refine TC.seq ?_
    refine TC.region ?_
    refine S.q rfl rfl (Qt.build (v := hv zeroH) rfl (fun _ => by kernel_rfl)) ?_
    refine S.q rfl rfl (Qt.makeInterface Tryd.underlying58 (fun _ h => nomatch h) (by conv => lhs; whnf)) ?_
    refine S.opN rfl (OpV.storeV0 (v := hv (zeroH)) rfl rfl (hv_size Tryd.cells23) (hv_all _) (hv_len _) ?_)
    refine S.q rfl rfl (Qt.assign (by conv => lhs; whnf)) ?_
    refine S.nil ?_
    refine TC.ret ?_
    refine finQ.ret (RVs.cell rfl (Ld.all (Has.at 0 rfl) Tryd.row23 (hv_size Tryd.cells23)) (RVs.tmp (by conv => lhs; whnf) RVs.nil)) (Sub.nil _) ?_
    exact ⟨rfl, rfl⟩
  · refine S.opS rfl rfl (OpV.con0 Tryd.ent89 rfl (fun w hw => hts_TF a b ha hb w) ?_)
    refine S.q rfl rfl (Qt.move (by conv => lhs; whnf)) ?_
    refine S.q rfl rfl (Qt.extract rfl rfl) ?_
    refine S.q rfl rfl (Qt.extract rfl rfl) ?_
    refine S.q rfl rfl (Qt.extract rfl rfl) ?_
    refine S.q rfl rfl (Qt.assign (by conv => lhs; whnf)) ?_
    refine S.q rfl rfl (Qt.assign (by conv => lhs; whnf)) ?_
    refine S.q rfl rfl (Qt.assign (by conv => lhs; whnf)) ?_
    refine S.nil ?_
    refine TC.seq ?_
    refine TC.seq ?_
    refine TC.region ?_
    refine S.q rfl rfl (Qt.move (by conv => lhs; whnf)) ?_
    refine S.q rfl rfl (Qt.nenil_iface Tryd.underlying27 rfl) ?_
    refine S.q rfl rfl (Qt.move (by conv => lhs; whnf)) ?_
    refine S.pass rfl rfl ?_
    refine S.pass rfl rfl ?_
    refine S.pass rfl rfl ?_
    refine S.q rfl rfl (Qt.pick_t rfl (by conv => lhs; whnf)) ?_
    refine S.nil ?_
    refine S.if_t rfl ?_
    refine TC.seq ?_
    refine TC.region ?_
    refine S.q rfl rfl (Qt.build (v := hv zeroH) rfl (fun _ => by kernel_rfl)) ?_
    refine S.q rfl rfl (Qt.makeInterface Tryd.underlying58 (fun _ h => nomatch h) (by conv => lhs; whnf)) ?_
    refine S.opN rfl (OpV.storeV0 (v := hv (zeroH)) rfl rfl (hv_size Tryd.cells23) (hv_all _) (hv_len _) ?_)
    refine S.q rfl rfl (Qt.assign (by conv => lhs; whnf)) ?_
    refine S.nil ?_
    refine TC.ret ?_
    refine finQ.ret (RVs.cell rfl (Ld.all (Has.at 0 rfl) Tryd.row23 (hv_size Tryd.cells23)) (RVs.tmp (by conv => lhs; whnf) RVs.nil)) (Sub.nil _) ?_
    exact ⟨rfl, rfl⟩
  · refine S.opS rfl rfl (OpV.con0 Tryd.ent89 rfl (fun w hw => hts_TT a b ha hb w) ?_)
    refine S.q rfl rfl (Qt.move (by conv => lhs; whnf)) ?_
    refine S.q rfl rfl (Qt.extract rfl rfl) ?_
    refine S.q rfl rfl (Qt.extract rfl rfl) ?_
    refine S.q rfl rfl (Qt.extract rfl rfl) ?_
    refine S.q rfl rfl (Qt.assign (by conv => lhs; whnf)) ?_
    refine S.q rfl rfl (Qt.assign (by conv => lhs; whnf)) ?_
    refine S.q rfl rfl (Qt.assign (by conv => lhs; whnf)) ?_
    refine S.nil ?_
    refine TC.seq ?_
    refine TC.seq ?_
    refine TC.region ?_
    refine S.q rfl rfl (Qt.move (by conv => lhs; whnf)) ?_
    refine S.q rfl rfl (Qt.nenil_nil Tryd.underlying27 rfl) ?_
    refine S.q rfl rfl (Qt.move (by conv => lhs; whnf)) ?_
    refine S.qg rfl rfl rfl (Qt.move (by conv => lhs; whnf)) ?_
    refine S.qg rfl rfl rfl (Qt.move (by conv => lhs; whnf)) ?_
    refine S.qg rfl rfl rfl (Qt.dT (Qt.lt rfl rfl) (by omega)) ?_
    refine S.q rfl rfl (Qt.pick_f rfl (by conv => lhs; whnf)) ?_
    refine S.nil ?_
    refine S.if_t rfl ?_
    refine TC.seq ?_
    refine TC.region ?_
    refine S.q rfl rfl (Qt.build (v := hv zeroH) rfl (fun _ => by kernel_rfl)) ?_
    refine S.q rfl rfl (Qt.makeInterface Tryd.underlying58 (fun _ h => nomatch h) (by conv => lhs; whnf)) ?_
    refine S.opN rfl (OpV.storeV0 (v := hv (zeroH)) rfl rfl (hv_size Tryd.cells23) (hv_all _) (hv_len _) ?_)
    refine S.q rfl rfl (Qt.assign (by conv => lhs; whnf)) ?_
    refine S.nil ?_
    refine TC.ret ?_
    refine finQ.ret (RVs.cell rfl (Ld.all (Has.at 0 rfl) Tryd.row23 (hv_size Tryd.cells23)) (RVs.tmp (by conv => lhs; whnf) RVs.nil)) (Sub.nil _) ?_
    exact ⟨rfl, rfl⟩
theorem grow_R (E : Nat → H32) (hEm : ∀ w, Tabs 2 0 w [] → Calls Tryd.prog 88 #[] w (Ret w (.agg (hcs (emptL E)).toArray))) (root : H32) (a b : Nat) (w0 : World) (hT : Tabs 2 0 w0 []) :
    Calls Tryd.prog 22 #[hv root, .int .u64 (a : Int), .int .u64 (b : Int)] w0 (Ret w0 (.tuple #[hv (growR E root a b), errv 58 (growB a b)])) := by
  by_cases h : okN a ∧ okN b ∧ a ≤ b
  · obtain ⟨e1, e2⟩ := grow_ok (E := E) (root := root) h
    rw [e1, e2]
    exact Calls.ret (grow_walkT E hEm root a b h w0 hT)
  · obtain ⟨e1, e2⟩ := grow_bad (E := E) (root := root) h
    rw [e1, e2]
    exact Calls.ret (grow_walkF root a b h w0)

set_option maxHeartbeats 400000 in
theorem alive12_walk (E : Nat → H32) (hEm : ∀ w, Tabs 2 0 w [] → Calls Tryd.prog 88 #[] w (Ret w (.agg (hcs (emptL E)).toArray))) (hne : E 0 ≠ E 1) (w0 : World) (hT : Tabs 2 0 w0 []) :
    Calls Tryd.prog 21 #[] w0 (Post w0 [] fun v L => v = .bool true ∧ L = []) := by
  refine Calls.of (L := []) (n := 37) (rs := [.tmp 0]) Tryd.func21 rfl rfl rfl (Nat.le_of_ble_eq_true rfl) (Sat.nil _) ?_
  refine TC.seq ?_
  refine TC.region ?_
  refine S.q rfl rfl (Qt.assign (by conv => lhs; whnf)) ?_
  refine S.nil ?_
  refine TC.seq ?_
  refine TC.region ?_
  refine S.opS rfl rfl (OpV.con0 Tryd.ent88 rfl (fun w hw => hEm w (hT.at hw)) ?_)
  refine S.opS rfl rfl (OpV.alloc Tryd.zero142 (fun b1 => ?_))
  refine S.opN rfl (OpV.storeV0 (v := .agg (hcs (emptL E)).toArray) rfl rfl (by rw [vl_agg, hcs_length, emptL_length]; exact Tryd.cells142) (hcs_all _) (by rw [vl_agg, hcs_length, emptL_length, List.length_replicate]) ?_)
  refine S.nil ?_
  refine TC.seq ?_
  refine TC.region ?_
  refine S.q rfl rfl (Qt.build (v := hv H7) rfl (fun _ => by kernel_rfl)) ?_
  refine S.opS rfl rfl (OpV.con0 Tryd.ent22 rfl (fun w hw => (by have h := grow_R E hEm H7 1 2 w (hT.at hw); rw [(grow_ok (E := E) (root := H7) (was := 1) (blocks := 2) (by decide)).1, (grow_ok (E := E) (root := H7) (was := 1) (blocks := 2) (by decide)).2, hgt_1, hgt_2] at h; exact h : Calls Tryd.prog 22 #[hv H7, .int .u64 1, .int .u64 2] w (Ret w (.tuple #[hv (joinH 1 H7 (E 0)), .nilIface])))) ?_)
  refine S.q rfl rfl (Qt.move (by conv => lhs; whnf)) ?_
  refine S.q rfl rfl (Qt.extract rfl rfl) ?_
  refine S.q rfl rfl (Qt.extract rfl rfl) ?_
  refine S.opS rfl rfl (OpV.alloc Tryd.zero23 (fun b2 => ?_))
  refine S.opN rfl (OpV.storeV0 (v := hv (joinH 1 H7 (E 0))) rfl rfl (hv_size Tryd.cells23) (hv_all _) (hv_len _) ?_)
  refine S.q rfl rfl (Qt.assign (by conv => lhs; whnf)) ?_
  refine S.nil ?_
  refine TC.seq ?_
  refine TC.region ?_
  refine S.q rfl rfl (Qt.build (v := hv H7) rfl (fun _ => by kernel_rfl)) ?_
  refine S.q rfl rfl (Qt.indexB (i := 0) Tryd.underlying142 Tryd.cells23 rfl rfl (by omega)) ?_
  refine S.q rfl rfl (Qt.as (Qt.load rfl (Ld.hashB (Has.at 1 rfl) 0 Tryd.row23 Tryd.cells23 (by rw [emptL_length]; decide) rfl)) (by rw [emptL_get E (by decide)])) ?_
  refine S.opS rfl rfl (OpV.con0 Tryd.ent31 rfl (fun w hw => join_R 1 (by decide) (by decide) H7 (E 0) w (hT.at hw)) ?_)
  refine S.q rfl rfl (Qt.move (by conv => lhs; whnf)) ?_
  refine S.q rfl rfl (Qt.extract rfl rfl) ?_
  refine S.q rfl rfl (Qt.extract rfl rfl) ?_
  refine S.opS rfl rfl (OpV.alloc Tryd.zero23 (fun b4 => ?_))
  refine S.opN rfl (OpV.storeV0 (v := hv (joinH 1 H7 (E 0))) rfl rfl (hv_size Tryd.cells23) (hv_all _) (hv_len _) ?_)
  refine S.q rfl rfl (Qt.assign (by conv => lhs; whnf)) ?_
  refine S.nil ?_
  refine TC.seq ?_
  refine TC.region ?_
  refine S.q rfl rfl (Qt.move (by conv => lhs; whnf)) ?_
  refine S.q rfl rfl (Qt.eqnil_nil Tryd.underlying27 rfl) ?_
  refine S.q rfl rfl (Qt.move (by conv => lhs; whnf)) ?_
  refine S.qg rfl rfl rfl (Qt.move (by conv => lhs; whnf)) ?_
  refine S.qg rfl rfl rfl (Qt.eqnil_nil Tryd.underlying27 rfl) ?_
  refine S.q rfl rfl (Qt.pick_t rfl (by conv => lhs; whnf)) ?_
  refine S.q rfl rfl (Qt.move (by conv => lhs; whnf)) ?_
  refine S.qg rfl rfl rfl (Qt.load rfl (Ld.hash1 (x := joinH 1 H7 (E 0)) (Has.at 1 rfl) Tryd.row23 Tryd.cells23)) ?_
  refine S.qg rfl rfl rfl (Qt.load rfl (Ld.hash1 (x := joinH 1 H7 (E 0)) (Has.at 0 rfl) Tryd.row23 Tryd.cells23)) ?_
  refine S.qg rfl rfl rfl (Qt.dT (Qt.eqH (a := joinH 1 H7 (E 0)) (b := joinH 1 H7 (E 0)) Tryd.guard23 Tryd.underlying23 Tryd.underlying5 Tryd.cells5 rfl rfl) rfl) ?_
  refine S.q rfl rfl (Qt.pick_t rfl (by conv => lhs; whnf)) ?_
  refine S.q rfl rfl (Qt.move (by conv => lhs; whnf)) ?_
  refine S.qg rfl rfl rfl (Qt.indexB (i := 0) Tryd.underlying142 Tryd.cells23 rfl rfl (by omega)) ?_
  refine S.qg rfl rfl rfl (Qt.as (Qt.load rfl (Ld.hashB (Has.at 2 rfl) 0 Tryd.row23 Tryd.cells23 (by rw [emptL_length]; decide) rfl)) (by rw [emptL_get E (by decide)])) ?_
  refine S.qg rfl rfl rfl (Qt.indexB (i := 1) Tryd.underlying142 Tryd.cells23 rfl rfl (by omega)) ?_
  refine S.qg rfl rfl rfl (Qt.as (Qt.load rfl (Ld.hashB (Has.at 2 rfl) 1 Tryd.row23 Tryd.cells23 (by rw [emptL_length]; decide) rfl)) (by rw [emptL_get E (by decide)])) ?_
  refine S.qg rfl rfl rfl (Qt.dT (Qt.neH (a := E 0) (b := E 1) Tryd.guard23 Tryd.underlying23 Tryd.underlying5 Tryd.cells5 rfl rfl) hne) ?_
  refine S.q rfl rfl (Qt.pick_t rfl (by conv => lhs; whnf)) ?_
  refine S.q rfl rfl (Qt.assign (by conv => lhs; whnf)) ?_
  refine S.nil ?_
  refine TC.ret ?_
  refine finQ.ret (RVs.tmp (by conv => lhs; whnf) RVs.nil) (Sub.nil _) ?_
  exact ⟨rfl, rfl⟩
end Go.Proofs.YtlneklemjfefpaaDoor
namespace Go.Proofs.YtlneklemjfefpaaDoor
open Go.E
set_option linter.unusedVariables false
set_option maxRecDepth 4000
theorem Tryd.cells24 : (Tryd.prog.info? 24).map (·.size) = some 1 := by kernel_rfl
theorem Tryd.one24 : oneT Tryd.prog 24 = true := by kernel_rfl
theorem Tryd.cells148 : (Tryd.prog.info? 148).map (·.size) = some 1 := by kernel_rfl
theorem Tryd.one148 : oneT Tryd.prog 148 = true := by kernel_rfl
theorem Tryd.cells153 : (Tryd.prog.info? 153).map (·.size) = some 2 := by kernel_rfl
theorem Tryd.row153 : rowT Tryd.prog 153 = true := by kernel_rfl
theorem Tryd.zero150 : zeroOf Tryd.prog 150 = some ([.int .i64 0] ++ [.map none] ++ (List.replicate 1056 (.int .u8 0))) := by kernel_rfl
theorem Tryd.ent33 : Enters Tryd.prog 33 := ⟨_, Tryd.func33, by kernel_rfl, rfl⟩
theorem Tryd.ent92 : Enters Tryd.prog 92 := ⟨_, Tryd.func92, by kernel_rfl, rfl⟩
theorem Tryd.ent93 : Enters Tryd.prog 93 := ⟨_, Tryd.func93, by kernel_rfl, rfl⟩
theorem Tryd.ent94 : Enters Tryd.prog 94 := ⟨_, Tryd.func94, by kernel_rfl, rfl⟩
theorem Tryd.keyAt : KeyLaw Tryd.prog 153 encAt := Go.E.keyAt Tryd.underlying153 (by decide) (by decide) rfl rfl Tryd.underlying3 Tryd.underlying24 (by kernel_rfl)
theorem Tryd.zv23 : zero1 Tryd.prog 23 = some (hv zeroH) := by kernel_rfl
theorem Tryd.buildAt (l p : Nat) (w : World) : (Instr.build 153 #[(0, .int .i64 (l : Int)), (1, .int .u64 (p : Int))]).run Tryd.prog w = .ok (encAt (l, p)) w := by kernel_rfl
set_option maxHeartbeats 400000 in
theorem has_walk (E : Nat → H32) (tb mb height l p : Nat) (hh : height ≤ 32) (hp : p < 18446744073709551616) (w0 : World) (hB : Ro w0 [] (Blk tb 150 (treeCs E height mb))) :
    Calls Tryd.prog 92 #[.pointer (some ⟨tb, 0, none⟩), encAt (l, p)] w0 (Post w0 [] fun v L => v = .bool (decide (okAt height (l, p))) ∧ L = []) := by
  refine Calls.of (L := []) (n := 30) (rs := [.tmp 4]) Tryd.func92 rfl rfl rfl (Nat.le_of_ble_eq_true rfl) (Sat.nil _) ?_
  refine TC.seq ?_
  refine TC.region ?_
  refine S.opS rfl rfl (OpV.box (v := encAt (l, p)) rfl (fun b3 => ?_))
  refine S.q rfl rfl (Qt.assign (by conv => lhs; whnf)) ?_
  refine S.nil ?_
  refine TC.seq ?_
  refine S.draw ([], []) Tryd.mixed (Sub.nil _) ?_
  refine D.qX (k := 0) rfl (by kernel_rfl) (by kernel_rfl) (by kernel_rfl) rfl rfl (Qt.field Tryd.underlying153 rfl Tryd.cells3 rfl) ?_
  refine D.qX (k := 1) rfl (by kernel_rfl) (by kernel_rfl) (by kernel_rfl) rfl rfl (Qt.load rfl (Ld.one (Has.at 0 rfl) Tryd.one3 (rfl))) ?_
  refine D.qX (k := 2) rfl (by kernel_rfl) (by kernel_rfl) (by kernel_rfl) rfl rfl (Qt.dT (Qt.ge (b := 0) rfl rfl) (by omega)) ?_
  refine D.qX (k := 3) rfl (by kernel_rfl) (by kernel_rfl) (by kernel_rfl) rfl rfl (Qt.move (by conv => lhs; whnf)) ?_
  refine D.qgX (k := 4) rfl (by kernel_rfl) (by kernel_rfl) (by kernel_rfl) rfl rfl rfl (Qt.field Tryd.underlying153 rfl Tryd.cells3 rfl) ?_
  refine D.qgX (k := 5) rfl (by kernel_rfl) (by kernel_rfl) (by kernel_rfl) rfl rfl rfl (Qt.load rfl (Ld.one (Has.at 0 rfl) Tryd.one3 (rfl))) ?_
  refine D.qgX (k := 6) rfl (by kernel_rfl) (by kernel_rfl) (by kernel_rfl) rfl rfl rfl (Qt.move (by conv => lhs; whnf)) ?_
  refine D.qgX (k := 7) rfl (by kernel_rfl) (by kernel_rfl) (by kernel_rfl) rfl rfl rfl (Qt.nilCheck rfl) ?_
  refine D.qgX (k := 8) rfl (by kernel_rfl) (by kernel_rfl) (by kernel_rfl) rfl rfl rfl (Qt.field Tryd.underlying150 rfl Tryd.cells3 rfl) ?_
  refine D.qgX (k := 9) rfl (by kernel_rfl) (by kernel_rfl) (by kernel_rfl) rfl rfl rfl (Qt.load rfl (Ld.one (Has.ro hB) Tryd.one3 (rfl))) ?_
  refine D.decgX (k := 10) rfl (by kernel_rfl) (by kernel_rfl) (by kernel_rfl) rfl rfl rfl (Qt.le rfl rfl) (fun h15 => ?_) (fun h15 => ?_)
  · refine D.qX (k := 11) rfl (by kernel_rfl) (by kernel_rfl) (by kernel_rfl) rfl rfl (Qt.pick_t rfl (by conv => lhs; whnf)) ?_
    refine D.qX (k := 12) rfl (by kernel_rfl) (by kernel_rfl) (by kernel_rfl) rfl rfl (Qt.move (by conv => lhs; whnf)) ?_
    refine D.qgX (k := 13) rfl (by kernel_rfl) (by kernel_rfl) (by kernel_rfl) rfl rfl rfl (Qt.field Tryd.underlying153 rfl Tryd.cells24 rfl) ?_
    refine D.qgX (k := 14) rfl (by kernel_rfl) (by kernel_rfl) (by kernel_rfl) rfl rfl rfl (Qt.load rfl (Ld.one (Has.at 0 rfl) Tryd.one24 (rfl))) ?_
    refine D.qgX (k := 15) rfl (by kernel_rfl) (by kernel_rfl) (by kernel_rfl) rfl rfl rfl (Qt.move (by conv => lhs; whnf)) ?_
    refine D.qgX (k := 16) rfl (by kernel_rfl) (by kernel_rfl) (by kernel_rfl) rfl rfl rfl (Qt.nilCheck rfl) ?_
    refine D.qgX (k := 17) rfl (by kernel_rfl) (by kernel_rfl) (by kernel_rfl) rfl rfl rfl (Qt.field Tryd.underlying150 rfl Tryd.cells3 rfl) ?_
    refine D.qgX (k := 18) rfl (by kernel_rfl) (by kernel_rfl) (by kernel_rfl) rfl rfl rfl (Qt.load rfl (Ld.one (Has.ro hB) Tryd.one3 (rfl))) ?_
    refine D.qgX (k := 19) rfl (by kernel_rfl) (by kernel_rfl) (by kernel_rfl) rfl rfl rfl (Qt.field Tryd.underlying153 rfl Tryd.cells3 rfl) ?_
    refine D.qgX (k := 20) rfl (by kernel_rfl) (by kernel_rfl) (by kernel_rfl) rfl rfl rfl (Qt.load rfl (Ld.one (Has.at 0 rfl) Tryd.one3 (rfl))) ?_
    refine D.qgX (k := 21) rfl (by kernel_rfl) (by kernel_rfl) (by kernel_rfl) rfl rfl rfl (Qt.sub rfl rfl (by omega) (by simp only [kmax]; omega)) ?_
    refine D.qgX (k := 22) rfl (by kernel_rfl) (by kernel_rfl) (by kernel_rfl) rfl rfl rfl (Qt.shrN rfl rfl (by simp only [kmax]; omega)) ?_
    refine D.decgX (k := 23) rfl (by kernel_rfl) (by kernel_rfl) (by kernel_rfl) rfl rfl rfl (Qt.eq (b := 0) rfl rfl) (fun h28 => ?_) (fun h28 => ?_)
    · refine D.qX (k := 24) rfl (by kernel_rfl) (by kernel_rfl) (by kernel_rfl) rfl rfl (Qt.pick_t rfl (by conv => lhs; whnf)) ?_
      refine D.qX (k := 25) rfl (by kernel_rfl) (by kernel_rfl) (by kernel_rfl) rfl rfl (Qt.assign (by conv => lhs; whnf)) ?_
      refine D.done (Sub.nil _) (by kernel_rfl) ?_
      refine TC.ret ?_
      refine finQ.ret (RVs.tmp (by conv => lhs; whnf) RVs.nil) (Sub.nil _) ?_
      exact ⟨(congrArg Value.bool (decide_eq_true ((okAt_iff h15).1 h28))).symm, rfl⟩
    · refine D.qX (k := 24) rfl (by kernel_rfl) (by kernel_rfl) (by kernel_rfl) rfl rfl (Qt.pick_t rfl (by conv => lhs; whnf)) ?_
      refine D.qX (k := 25) rfl (by kernel_rfl) (by kernel_rfl) (by kernel_rfl) rfl rfl (Qt.assign (by conv => lhs; whnf)) ?_
      refine D.done (Sub.nil _) (by kernel_rfl) ?_
      refine TC.ret ?_
      refine finQ.ret (RVs.tmp (by conv => lhs; whnf) RVs.nil) (Sub.nil _) ?_
      exact ⟨(congrArg Value.bool (decide_eq_false (fun h => h28 ((okAt_iff h15).2 h)))).symm, rfl⟩
  · refine D.qX (k := 11) rfl (by kernel_rfl) (by kernel_rfl) (by kernel_rfl) rfl rfl (Qt.pick_t rfl (by conv => lhs; whnf)) ?_
    refine D.qX (k := 12) rfl (by kernel_rfl) (by kernel_rfl) (by kernel_rfl) rfl rfl (Qt.move (by conv => lhs; whnf)) ?_
    refine D.pass (k := 13) rfl (by kernel_rfl) (by kernel_rfl) rfl rfl rfl ?_
    refine D.pass (k := 14) rfl (by kernel_rfl) (by kernel_rfl) rfl rfl rfl ?_
    refine D.pass (k := 15) rfl (by kernel_rfl) (by kernel_rfl) rfl rfl rfl ?_
    refine D.pass (k := 16) rfl (by kernel_rfl) (by kernel_rfl) rfl rfl rfl ?_
    refine D.pass (k := 17) rfl (by kernel_rfl) (by kernel_rfl) rfl rfl rfl ?_
    refine D.pass (k := 18) rfl (by kernel_rfl) (by kernel_rfl) rfl rfl rfl ?_
    refine D.pass (k := 19) rfl (by kernel_rfl) (by kernel_rfl) rfl rfl rfl ?_
    refine D.pass (k := 20) rfl (by kernel_rfl) (by kernel_rfl) rfl rfl rfl ?_
    refine D.pass (k := 21) rfl (by kernel_rfl) (by kernel_rfl) rfl rfl rfl ?_
    refine D.pass (k := 22) rfl (by kernel_rfl) (by kernel_rfl) rfl rfl rfl ?_
    refine D.pass (k := 23) rfl (by kernel_rfl) (by kernel_rfl) rfl rfl rfl ?_
    refine D.qX (k := 24) rfl (by kernel_rfl) (by kernel_rfl) (by kernel_rfl) rfl rfl (Qt.pick_f rfl (by conv => lhs; whnf)) ?_
    refine D.qX (k := 25) rfl (by kernel_rfl) (by kernel_rfl) (by kernel_rfl) rfl rfl (Qt.assign (by conv => lhs; whnf)) ?_
    refine D.done (Sub.nil _) (by kernel_rfl) ?_
    refine TC.ret ?_
    refine finQ.ret (RVs.tmp (by conv => lhs; whnf) RVs.nil) (Sub.nil _) ?_
    exact ⟨(congrArg Value.bool (decide_eq_false (fun h => h15 h.1))).symm, rfl⟩
theorem has_R (E : Nat → H32) (tb mb height l p : Nat) (hh : height ≤ 32) (hp : p < 18446744073709551616) (w0 : World) (hB : Ro w0 [] (Blk tb 150 (treeCs E height mb))) : Calls Tryd.prog 92 #[.pointer (some ⟨tb, 0, none⟩), encAt (l, p)] w0 (Ret w0 (.bool (decide (okAt height (l, p))))) := Calls.ret (has_walk E tb mb height l p hh hp w0 hB)
theorem has_T (E : Nat → H32) (tb mb height l p : Nat) (hh : height ≤ 32) (h : okAt height (l, p)) (w0 : World) (hB : Ro w0 [] (Blk tb 150 (treeCs E height mb))) : Calls Tryd.prog 92 #[.pointer (some ⟨tb, 0, none⟩), encAt (l, p)] w0 (Ret w0 (.bool true)) := by
  have hr := has_R E tb mb height l p hh (by have := okAt_lt hh h; omega) w0 hB
  rwa [decide_eq_true h] at hr
set_option maxHeartbeats 400000 in
theorem get_walkS (E : Nat → H32) (tb mb height : Nat) (ms : Tm) (l p : Nat) (hl : l ≤ 32) (h : H32) (hlk : Go.E.look (l, p) ms = some h) (w0 : World) (hB : Ro w0 [] (Blk tb 150 (treeCs E height mb))) (hM : Ro w0 [] (MapA mb encAt hv (ms))) :
    Calls Tryd.prog 94 #[.pointer (some ⟨tb, 0, none⟩), encAt (l, p)] w0 (Post w0 [] fun v L => v = hv (getT E ms (l, p)) ∧ L = []) := by
  refine Calls.of (L := []) (n := 25) (rs := [.cell 4 23]) Tryd.func94 rfl rfl rfl (Nat.le_of_ble_eq_true rfl) (Sat.nil _) ?_
  refine TC.seq ?_
  refine TC.region ?_
  refine S.opS rfl rfl (OpV.box (v := encAt (l, p)) rfl (fun b3 => ?_))
  refine S.opS rfl rfl (OpV.alloc Tryd.zero23 (fun b4 => ?_))
  refine S.nil ?_
  refine TC.seq ?_
  refine TC.seq ?_
  refine S.draw ([10], [9]) Tryd.mixed (Sub.nil _) ?_
  refine D.qX (k := 0) rfl (by kernel_rfl) (by kernel_rfl) (by kernel_rfl) rfl rfl (Qt.move (by conv => lhs; whnf)) ?_
  refine D.qX (k := 1) rfl (by kernel_rfl) (by kernel_rfl) (by kernel_rfl) rfl rfl (Qt.nilCheck rfl) ?_
  refine D.qX (k := 2) rfl (by kernel_rfl) (by kernel_rfl) (by kernel_rfl) rfl rfl (Qt.field Tryd.underlying150 rfl Tryd.cells148 rfl) ?_
  refine D.qX (k := 3) rfl (by kernel_rfl) (by kernel_rfl) (by kernel_rfl) rfl rfl (Qt.load rfl (Ld.one (Has.ro hB) Tryd.one148 (rfl))) ?_
  refine D.qX (k := 4) rfl (by kernel_rfl) (by kernel_rfl) (by kernel_rfl) rfl rfl (Qt.load rfl (Ld.all (vs := vl (encAt (l, p))) (Has.at 1 rfl) Tryd.row153 Tryd.cells153)) ?_
  refine D.qX (k := 5) rfl (by kernel_rfl) (by kernel_rfl) (by kernel_rfl) rfl rfl (Qt.as (v' := .tuple #[hv h, .bool true]) (Qt.lookup_ok (k := (l, p)) Tryd.underlying148 Tryd.keyAt Tryd.zv23 rfl rfl (Has.ro hM)) (by rw [hlk]; rfl)) ?_
  refine D.qX (k := 6) rfl (by kernel_rfl) (by kernel_rfl) (by kernel_rfl) rfl rfl (Qt.move (by conv => lhs; whnf)) ?_
  refine D.qX (k := 7) rfl (by kernel_rfl) (by kernel_rfl) (by kernel_rfl) rfl rfl (Qt.extract rfl rfl) ?_
  refine D.q (k := 8) rfl (by kernel_rfl) (by kernel_rfl) rfl rfl (Qt.extract rfl rfl) ?_
  refine D.nS (k := 9) (Sub.nil _) rfl (by kernel_rfl) (by kernel_rfl) rfl rfl (OpV.alloc Tryd.zero23 (fun b5 => ⟨Sub.drop _ (Sub.refl _), ?_⟩))
  refine D.opN (k := 10) (Sub.nil _) rfl (by kernel_rfl) (by kernel_rfl) rfl (OpV.storeV0 (v := hv (h)) rfl rfl (hv_size Tryd.cells23) (hv_all _) (hv_len _) ⟨Sub.nil _, ?_⟩)
  refine D.qX (k := 11) rfl (by kernel_rfl) (by kernel_rfl) (by kernel_rfl) rfl rfl (Qt.assign (by conv => lhs; whnf)) ?_
  refine D.done (Sub.nil _) (by kernel_rfl) ?_
  refine TC.seq ?_
  refine TC.region ?_
  refine S.q rfl rfl (Qt.move (by conv => lhs; whnf)) ?_
  refine S.nil ?_
  refine S.if_t rfl ?_
  refine TC.seq ?_
  refine TC.region ?_
  refine S.q rfl rfl (Qt.load rfl (Ld.hash1 (x := h) (Has.at 0 rfl) Tryd.row23 Tryd.cells23)) ?_
  refine S.opN rfl (OpV.storeV1 (v := hv (h)) rfl rfl (hv_size Tryd.cells23) (hv_all _) (hv_len _) ?_)
  refine S.nil ?_
  refine TC.ret ?_
  refine finQ.ret (RVs.cell rfl (Ld.all (Has.at 1 rfl) Tryd.row23 (hv_size Tryd.cells23)) RVs.nil) (Sub.nil _) ?_
  exact ⟨congrArg hv (valOr_look E ms _ hlk).symm, rfl⟩
set_option maxHeartbeats 400000 in
theorem get_walkN (E : Nat → H32) (tb mb height : Nat) (ms : Tm) (l p : Nat) (hl : l ≤ 32) (hlk : Go.E.look (l, p) ms = none) (w0 : World) (hB : Ro w0 [] (Blk tb 150 (treeCs E height mb))) (hM : Ro w0 [] (MapA mb encAt hv (ms))) :
    Calls Tryd.prog 94 #[.pointer (some ⟨tb, 0, none⟩), encAt (l, p)] w0 (Post w0 [] fun v L => v = hv (getT E ms (l, p)) ∧ L = []) := by
  refine Calls.of (L := []) (n := 25) (rs := [.cell 4 23]) Tryd.func94 rfl rfl rfl (Nat.le_of_ble_eq_true rfl) (Sat.nil _) ?_
  refine TC.seq ?_
  refine TC.region ?_
  refine S.opS rfl rfl (OpV.box (v := encAt (l, p)) rfl (fun b3 => ?_))
  refine S.opS rfl rfl (OpV.alloc Tryd.zero23 (fun b4 => ?_))
  refine S.nil ?_
  refine TC.seq ?_
  refine TC.seq ?_
  refine S.draw ([10], [9]) Tryd.mixed (Sub.nil _) ?_
  refine D.qX (k := 0) rfl (by kernel_rfl) (by kernel_rfl) (by kernel_rfl) rfl rfl (Qt.move (by conv => lhs; whnf)) ?_
  refine D.qX (k := 1) rfl (by kernel_rfl) (by kernel_rfl) (by kernel_rfl) rfl rfl (Qt.nilCheck rfl) ?_
  refine D.qX (k := 2) rfl (by kernel_rfl) (by kernel_rfl) (by kernel_rfl) rfl rfl (Qt.field Tryd.underlying150 rfl Tryd.cells148 rfl) ?_
  refine D.qX (k := 3) rfl (by kernel_rfl) (by kernel_rfl) (by kernel_rfl) rfl rfl (Qt.load rfl (Ld.one (Has.ro hB) Tryd.one148 (rfl))) ?_
  refine D.qX (k := 4) rfl (by kernel_rfl) (by kernel_rfl) (by kernel_rfl) rfl rfl (Qt.load rfl (Ld.all (vs := vl (encAt (l, p))) (Has.at 1 rfl) Tryd.row153 Tryd.cells153)) ?_
  refine D.qX (k := 5) rfl (by kernel_rfl) (by kernel_rfl) (by kernel_rfl) rfl rfl (Qt.as (v' := .tuple #[hv zeroH, .bool false]) (Qt.lookup_ok (k := (l, p)) Tryd.underlying148 Tryd.keyAt Tryd.zv23 rfl rfl (Has.ro hM)) (by rw [hlk]; rfl)) ?_
  refine D.qX (k := 6) rfl (by kernel_rfl) (by kernel_rfl) (by kernel_rfl) rfl rfl (Qt.move (by conv => lhs; whnf)) ?_
  refine D.qX (k := 7) rfl (by kernel_rfl) (by kernel_rfl) (by kernel_rfl) rfl rfl (Qt.extract rfl rfl) ?_
  refine D.q (k := 8) rfl (by kernel_rfl) (by kernel_rfl) rfl rfl (Qt.extract rfl rfl) ?_
  refine D.nS (k := 9) (Sub.nil _) rfl (by kernel_rfl) (by kernel_rfl) rfl rfl (OpV.alloc Tryd.zero23 (fun b5 => ⟨Sub.drop _ (Sub.refl _), ?_⟩))
  refine D.opN (k := 10) (Sub.nil _) rfl (by kernel_rfl) (by kernel_rfl) rfl (OpV.storeV0 (v := hv (zeroH)) rfl rfl (hv_size Tryd.cells23) (hv_all _) (hv_len _) ⟨Sub.nil _, ?_⟩)
  refine D.qX (k := 11) rfl (by kernel_rfl) (by kernel_rfl) (by kernel_rfl) rfl rfl (Qt.assign (by conv => lhs; whnf)) ?_
  refine D.done (Sub.nil _) (by kernel_rfl) ?_
  refine TC.seq ?_
  refine TC.region ?_
  refine S.q rfl rfl (Qt.move (by conv => lhs; whnf)) ?_
  refine S.nil ?_
  refine S.if_f rfl ?_
  refine TC.skip ?_
  refine TC.seq ?_
  refine S.draw ([7], []) Tryd.mixed (Sub.nil _) ?_
  refine D.qX (k := 0) rfl (by kernel_rfl) (by kernel_rfl) (by kernel_rfl) rfl rfl (Qt.move (by conv => lhs; whnf)) ?_
  refine D.qX (k := 1) rfl (by kernel_rfl) (by kernel_rfl) (by kernel_rfl) rfl rfl (Qt.field Tryd.underlying153 rfl Tryd.cells3 rfl) ?_
  refine D.qX (k := 2) rfl (by kernel_rfl) (by kernel_rfl) (by kernel_rfl) rfl rfl (Qt.load rfl (Ld.one (Has.at 2 rfl) Tryd.one3 (rfl))) ?_
  refine D.qX (k := 3) rfl (by kernel_rfl) (by kernel_rfl) (by kernel_rfl) rfl rfl (Qt.nilCheck rfl) ?_
  refine D.qX (k := 4) rfl (by kernel_rfl) (by kernel_rfl) (by kernel_rfl) rfl rfl (Qt.field Tryd.underlying150 rfl Tryd.cells142 rfl) ?_
  refine D.qX (k := 5) rfl (by kernel_rfl) (by kernel_rfl) (by kernel_rfl) rfl rfl (Qt.indexB Tryd.underlying142 Tryd.cells23 rfl rfl (by omega)) ?_
  refine D.qX (k := 6) rfl (by kernel_rfl) (by kernel_rfl) (by kernel_rfl) rfl rfl (Qt.load rfl (Ld.treeE (Has.ro hB) l Tryd.row23 Tryd.cells23 (by omega) rfl)) ?_
  refine D.opN (k := 7) (Sub.nil _) rfl (by kernel_rfl) (by kernel_rfl) rfl (OpV.storeV1 (v := hv (E l)) rfl rfl (hv_size Tryd.cells23) (hv_all _) (hv_len _) ⟨Sub.nil _, ?_⟩)
  refine D.done (Sub.nil _) (by kernel_rfl) ?_
  refine TC.ret ?_
  refine finQ.ret (RVs.cell rfl (Ld.all (Has.at 1 rfl) Tryd.row23 (hv_size Tryd.cells23)) RVs.nil) (Sub.nil _) ?_
  exact ⟨congrArg hv (valOr_none E ms _ hlk).symm, rfl⟩
theorem get_R (E : Nat → H32) (tb mb height : Nat) (ms : Tm) (l p : Nat) (hl : l ≤ 32) (w0 : World) (hB : Ro w0 [] (Blk tb 150 (treeCs E height mb))) (hM : Ro w0 [] (MapA mb encAt hv (ms))) : Calls Tryd.prog 94 #[.pointer (some ⟨tb, 0, none⟩), encAt (l, p)] w0 (Ret w0 (hv (getT E ms (l, p)))) := by
  cases hlk : Go.E.look (l, p) ms with
  | none => exact Calls.ret (get_walkN E tb mb height ms l p hl hlk w0 hB hM)
  | some h => exact Calls.ret (get_walkS E tb mb height ms l p hl h hlk w0 hB hM)

set_option maxHeartbeats 400000 in
theorem put_walk (E : Nat → H32) (tb mb height : Nat) (ms : Tm) (l p : Nat) (hl : l ≤ 32) (h : H32) (w0 : World) (hL : Sat w0 [Blk tb 150 (treeCs E height mb), MapA mb encAt hv (ms)]) :
    Calls Tryd.prog 93 #[.pointer (some ⟨tb, 0, none⟩), encAt (l, p), hv h] w0 (Post w0 (fps [Blk tb 150 (treeCs E height mb), MapA mb encAt hv (ms)]) fun v L => v = .tuple #[] ∧ L = [Blk tb 150 (treeCs E height mb), MapA mb encAt hv (putT E ms (l, p) h)]) := by
  refine Calls.of (L := [Blk tb 150 (treeCs E height mb), MapA mb encAt hv (ms)]) (n := 26) (rs := []) Tryd.func93 rfl rfl rfl (Nat.le_of_ble_eq_true rfl) (hL) ?_
  refine TC.seq ?_
  refine TC.region ?_
  refine S.opS rfl rfl (OpV.box (v := encAt (l, p)) rfl (fun b4 => ?_))
  refine S.opS rfl rfl (OpV.box (v := hv h) rfl (fun b5 => ?_))
  refine S.nil ?_
  refine TC.seq ?_
  refine TC.seq ?_
  refine S.draw ([], []) Tryd.mixed (Sub.nil _) ?_
  refine D.qX (k := 0) rfl (by kernel_rfl) (by kernel_rfl) (by kernel_rfl) rfl rfl (Qt.load rfl (Ld.hash1 (x := h) (Has.at 0 rfl) Tryd.row23 Tryd.cells23)) ?_
  refine D.qX (k := 1) rfl (by kernel_rfl) (by kernel_rfl) (by kernel_rfl) rfl rfl (Qt.move (by conv => lhs; whnf)) ?_
  refine D.qX (k := 2) rfl (by kernel_rfl) (by kernel_rfl) (by kernel_rfl) rfl rfl (Qt.field Tryd.underlying153 rfl Tryd.cells3 rfl) ?_
  refine D.qX (k := 3) rfl (by kernel_rfl) (by kernel_rfl) (by kernel_rfl) rfl rfl (Qt.load rfl (Ld.one (Has.at 1 rfl) Tryd.one3 (rfl))) ?_
  refine D.qX (k := 4) rfl (by kernel_rfl) (by kernel_rfl) (by kernel_rfl) rfl rfl (Qt.nilCheck rfl) ?_
  refine D.qX (k := 5) rfl (by kernel_rfl) (by kernel_rfl) (by kernel_rfl) rfl rfl (Qt.field Tryd.underlying150 rfl Tryd.cells142 rfl) ?_
  refine D.qX (k := 6) rfl (by kernel_rfl) (by kernel_rfl) (by kernel_rfl) rfl rfl (Qt.indexB Tryd.underlying142 Tryd.cells23 rfl rfl (by omega)) ?_
  refine D.qX (k := 7) rfl (by kernel_rfl) (by kernel_rfl) (by kernel_rfl) rfl rfl (Qt.load rfl (Ld.treeE (Has.at 2 rfl) l Tryd.row23 Tryd.cells23 (by omega) rfl)) ?_
  refine D.decX (k := 8) rfl (by kernel_rfl) (by kernel_rfl) (by kernel_rfl) rfl rfl (Qt.eqH (a := h) (b := E l) Tryd.guard23 Tryd.underlying23 Tryd.underlying5 Tryd.cells5 rfl rfl) (fun h14 => ?_) (fun h14 => ?_)
  · refine D.done (Sub.nil _) (by kernel_rfl) ?_
    refine S.if_t rfl ?_
    refine TC.seq ?_
    refine S.draw ([5], []) Tryd.mixed (Sub.nil _) ?_
    refine D.qX (k := 0) rfl (by kernel_rfl) (by kernel_rfl) (by kernel_rfl) rfl rfl (Qt.move (by conv => lhs; whnf)) ?_
    refine D.qX (k := 1) rfl (by kernel_rfl) (by kernel_rfl) (by kernel_rfl) rfl rfl (Qt.nilCheck rfl) ?_
    refine D.qX (k := 2) rfl (by kernel_rfl) (by kernel_rfl) (by kernel_rfl) rfl rfl (Qt.field Tryd.underlying150 rfl Tryd.cells148 rfl) ?_
    refine D.qX (k := 3) rfl (by kernel_rfl) (by kernel_rfl) (by kernel_rfl) rfl rfl (Qt.load rfl (Ld.one (Has.at 2 rfl) Tryd.one148 (rfl))) ?_
    refine D.qX (k := 4) rfl (by kernel_rfl) (by kernel_rfl) (by kernel_rfl) rfl rfl (Qt.load rfl (Ld.all (vs := vl (encAt (l, p))) (Has.at 1 rfl) Tryd.row153 Tryd.cells153)) ?_
    refine D.opN (k := 5) (Sub.nil _) rfl (by kernel_rfl) (by kernel_rfl) rfl (OpV.mapDel3 (k := (l, p)) rfl Tryd.underlying148 Tryd.keyAt rfl rfl ⟨Sub.nil _, ?_⟩)
    refine D.done (Sub.nil _) (by kernel_rfl) ?_
    refine TC.ret ?_
    refine finQ.ret RVs.nil (Sub.drop _ (Sub.drop _ (Sub.refl _))) ?_
    exact ⟨rfl, by rw [putT_eq (a := (l, p)) h14]⟩
  · refine D.done (Sub.nil _) (by kernel_rfl) ?_
    refine S.if_f rfl ?_
    refine TC.skip ?_
    refine S.draw ([6], []) Tryd.mixed (Sub.nil _) ?_
    refine D.qX (k := 0) rfl (by kernel_rfl) (by kernel_rfl) (by kernel_rfl) rfl rfl (Qt.move (by conv => lhs; whnf)) ?_
    refine D.qX (k := 1) rfl (by kernel_rfl) (by kernel_rfl) (by kernel_rfl) rfl rfl (Qt.nilCheck rfl) ?_
    refine D.qX (k := 2) rfl (by kernel_rfl) (by kernel_rfl) (by kernel_rfl) rfl rfl (Qt.field Tryd.underlying150 rfl Tryd.cells148 rfl) ?_
    refine D.qX (k := 3) rfl (by kernel_rfl) (by kernel_rfl) (by kernel_rfl) rfl rfl (Qt.load rfl (Ld.one (Has.at 2 rfl) Tryd.one148 (rfl))) ?_
    refine D.qX (k := 4) rfl (by kernel_rfl) (by kernel_rfl) (by kernel_rfl) rfl rfl (Qt.load rfl (Ld.all (vs := vl (encAt (l, p))) (Has.at 1 rfl) Tryd.row153 Tryd.cells153)) ?_
    refine D.qX (k := 5) rfl (by kernel_rfl) (by kernel_rfl) (by kernel_rfl) rfl rfl (Qt.load rfl (Ld.hash1 (x := h) (Has.at 0 rfl) Tryd.row23 Tryd.cells23)) ?_
    refine D.opN (k := 6) (Sub.nil _) rfl (by kernel_rfl) (by kernel_rfl) rfl (OpV.mapUpd3 (k := (l, p)) (a := h) Tryd.underlying148 Tryd.keyAt rfl rfl rfl ⟨Sub.nil _, ?_⟩)
    refine D.done (Sub.nil _) (by kernel_rfl) ?_
    refine finQ.normal RVs.nil (Sub.drop _ (Sub.drop _ (Sub.refl _))) ?_
    exact ⟨rfl, by rw [putT_ne (a := (l, p)) h14]⟩
set_option maxHeartbeats 400000 in
theorem set_walk (E : Nat → H32) (tb mb height : Nat) (ms : Tm) (i : Nat) (h : H32) (hh : height ≤ 32) (hi : i < 2 ^ height) (w0 : World) (hL : Sat w0 [Blk tb 150 (treeCs E height mb), MapA mb encAt hv (ms)]) (hT : Tabs 2 0 w0 (fps [Blk tb 150 (treeCs E height mb), MapA mb encAt hv (ms)])) :
    Calls Tryd.prog 27 #[.pointer (some ⟨tb, 0, none⟩), .int .u64 (i : Int), hv h] w0 (Post w0 (fps [Blk tb 150 (treeCs E height mb), MapA mb encAt hv (ms)]) fun v L => v = .nilIface ∧ L = [Blk tb 150 (treeCs E height mb), MapA mb encAt hv (setK E ms i h height)]) := by
  refine Calls.of (L := [Blk tb 150 (treeCs E height mb), MapA mb encAt hv (ms)]) (n := 65) (rs := [.tmp 6]) Tryd.func27 rfl rfl rfl (Nat.le_of_ble_eq_true rfl) (hL) ?_
  have hi32 := pow32 hh hi
  refine TC.seq ?_
  refine TC.region ?_
  refine S.opS rfl rfl (OpV.box (v := hv h) rfl (fun b5 => ?_))
  refine S.q rfl rfl (Qt.assign (by conv => lhs; whnf)) ?_
  refine S.nil ?_
  refine TC.seq ?_
  refine TC.block ?_
  refine TC.seq ?_
  refine TC.region ?_
  refine S.q rfl rfl (Qt.move (by conv => lhs; whnf)) ?_
  refine S.q rfl rfl (Qt.eqp_some Tryd.underlying35 rfl) ?_
  refine S.q rfl rfl (Qt.assign (by conv => lhs; whnf)) ?_
  refine S.nil ?_
  refine S.if_f rfl ?_
  refine TC.seq ?_
  refine TC.region ?_
  refine S.q rfl rfl (Qt.move (by conv => lhs; whnf)) ?_
  refine S.q rfl rfl (Qt.move (by conv => lhs; whnf)) ?_
  refine S.q rfl rfl (Qt.build2 (v := encAt (0, i)) (a := .int .i64 ((0 : Nat) : Int)) (b := .int .u64 ((i : Nat) : Int)) rfl rfl (Tryd.buildAt (0) (i))) ?_
  refine S.opS rfl rfl (OpV.con0 Tryd.ent92 rfl (fun w hw => has_T E tb mb height 0 i hh (ok0 hi) w (Rd.at 1 rfl w hw)) ?_)
  refine S.q rfl rfl (Qt.not_t rfl) ?_
  refine S.q rfl rfl (Qt.assign (by conv => lhs; whnf)) ?_
  refine S.nil ?_
  refine S.if_f rfl ?_
  refine TC.skip ?_
  refine TC.seq ?_
  refine TC.region ?_
  refine S.q rfl rfl (Qt.move (by conv => lhs; whnf)) ?_
  refine S.q rfl rfl (Qt.move (by conv => lhs; whnf)) ?_
  refine S.q rfl rfl (Qt.build2 (v := encAt (0, i)) (a := .int .i64 ((0 : Nat) : Int)) (b := .int .u64 ((i : Nat) : Int)) rfl rfl (Tryd.buildAt (0) (i))) ?_
  refine S.q rfl rfl (Qt.load rfl (Ld.hash1 (x := h) (Has.at 0 rfl) Tryd.row23 Tryd.cells23)) ?_
  refine S.opS rfl rfl (OpV.con (Pre := [Blk tb 150 (treeCs E height mb), MapA mb encAt hv (ms)]) (R := _) Tryd.ent93 rfl ((List.perm_middle (l₁ := [_])).trans (List.Perm.cons _ (List.perm_middle (l₁ := [_])))) (fun w hw => put_walk E tb mb height ms 0 i (by decide) h w hw.sat.left) ?_)
  rintro v L' ⟨rfl, rfl⟩
  refine S.nil ?_
  refine TC.seq ?_
  refine TC.seq ?_
  refine TC.region ?_
  refine S.q rfl rfl (Qt.assign (by conv => lhs; whnf)) ?_
  refine S.nil ?_
  refine TC.block ?_
  refine TC.loop (γ := Nat) [26, 27, 28, 29, 30, 31, 34, 35, 1, 37, 38, 39, 40, 41, 42, 43, 44, 45, 46, 47, 48, 49, 50, 51, 52, 53, 36, 54, 55, 8, 9, 56, 57, 58, 6, 59, 60, 61, 62, 63, 64, 32, 33, 7] (fun j => [(7, .int .i64 ((j + 1 : Nat) : Int)), (1, .int .u64 ((i / 2 ^ j : Nat) : Int))]) (fun j => [Blk tb 150 (treeCs E height mb), MapA mb encAt hv (setK E ms i h j), Blk b5 23 (hvl h)]) (fun j => j ≤ height) (fun j => height - j) (0)
    (Nat.zero_le _) ⟨Out.refl _ _, (List.forall_mem_cons.2 ⟨rfl, (List.forall_mem_cons.2 ⟨(by show Value.int .u64 (i : Int) = Value.int .u64 ((i / 2 ^ 0 : Nat) : Int); rw [Nat.pow_zero, Nat.div_one]), (fun _ h => nomatch h)⟩)⟩)⟩ (Sub.refl _) ?_
  rintro j u hj
  have hd1 := Nat.div_le_self i (2 ^ j)
  have hd2 := Nat.div_le_self i (2 ^ (j + 1))
  refine TC.seq ?_
  refine TC.seq ?_
  refine TC.region ?_
  refine S.q rfl rfl (Qt.move (by conv => lhs; whnf)) ?_
  refine S.q rfl rfl (Qt.move (by conv => lhs; whnf)) ?_
  refine S.q rfl rfl (Qt.nilCheck rfl) ?_
  refine S.q rfl rfl (Qt.field Tryd.underlying150 rfl Tryd.cells3 rfl) ?_
  refine S.q rfl rfl (Qt.load rfl (Ld.one (Has.at 0 rfl) Tryd.one3 (rfl))) ?_
  refine S.dec rfl rfl (Qt.le rfl rfl) (fun h31 => ?_) (fun h31 => ?_)
  · refine S.nil ?_
    refine S.if_t rfl ?_
    refine TC.skip ?_
    refine TC.seq ?_
    refine TC.block ?_
    refine TC.seq ?_
    refine TC.region ?_
    refine S.q rfl rfl (Qt.move (by conv => lhs; whnf)) ?_
    refine S.q rfl rfl (Qt.as (Qt.shrN (s := 1) rfl rfl (by simp only [kmax]; omega)) (by rw [half_pow])) ?_
    refine S.q rfl rfl (Qt.assign (by conv => lhs; whnf)) ?_
    refine S.nil ?_
    refine TC.seq ?_
    refine TC.region ?_
    refine S.q rfl rfl (Qt.move (by conv => lhs; whnf)) ?_
    refine S.q rfl rfl (Qt.move (by conv => lhs; whnf)) ?_
    refine S.q rfl rfl (Qt.move (by conv => lhs; whnf)) ?_
    refine S.q rfl rfl (Qt.sub (b := 1) rfl rfl (by omega) (by simp only [kmax]; omega)) ?_
    refine S.q rfl rfl (Qt.move (by conv => lhs; whnf)) ?_
    refine S.q rfl rfl (Qt.mul (a := 2) rfl rfl (by simp only [kmax]; omega)) ?_
    refine S.q rfl rfl (Qt.build2 (v := encAt (j, 2 * (i / 2 ^ (j + 1)))) (a := .int .i64 ((j : Nat) : Int)) (b := .int .u64 ((2 * (i / 2 ^ (j + 1)) : Nat) : Int)) rfl rfl (Tryd.buildAt (j) (2 * (i / 2 ^ (j + 1))))) ?_
    refine S.opS rfl rfl (OpV.con0 Tryd.ent94 rfl (fun w hw => get_R E tb mb height (setK E ms i h j) j (2 * (i / 2 ^ (j + 1))) (by omega) w (Rd.at 0 rfl w hw) (Rd.at 1 rfl w hw)) ?_)
    refine S.q rfl rfl (Qt.move (by conv => lhs; whnf)) ?_
    refine S.q rfl rfl (Qt.move (by conv => lhs; whnf)) ?_
    refine S.q rfl rfl (Qt.sub (b := 1) rfl rfl (by omega) (by simp only [kmax]; omega)) ?_
    refine S.q rfl rfl (Qt.move (by conv => lhs; whnf)) ?_
    refine S.q rfl rfl (Qt.mul (a := 2) rfl rfl (by simp only [kmax]; omega)) ?_
    refine S.q rfl rfl (Qt.add (b := 1) rfl rfl (by simp only [kmax]; omega)) ?_
    refine S.q rfl rfl (Qt.build2 (v := encAt (j, 2 * (i / 2 ^ (j + 1)) + 1)) (a := .int .i64 ((j : Nat) : Int)) (b := .int .u64 ((2 * (i / 2 ^ (j + 1)) + 1 : Nat) : Int)) rfl rfl (Tryd.buildAt (j) (2 * (i / 2 ^ (j + 1)) + 1))) ?_
    refine S.opS rfl rfl (OpV.con0 Tryd.ent94 rfl (fun w hw => get_R E tb mb height (setK E ms i h j) j (2 * (i / 2 ^ (j + 1)) + 1) (by omega) w (Rd.at 0 rfl w hw) (Rd.at 1 rfl w hw)) ?_)
    refine S.opS rfl rfl (OpV.con0 Tryd.ent31 rfl (fun w hw => join_R (j + 1) (by omega) (by omega) _ _ w (hT.at hw)) ?_)
    refine S.q rfl rfl (Qt.move (by conv => lhs; whnf)) ?_
    refine S.q rfl rfl (Qt.extract rfl rfl) ?_
    refine S.q rfl rfl (Qt.extract rfl rfl) ?_
    refine S.opS rfl rfl (OpV.alloc Tryd.zero23 (fun b8 => ?_))
    refine S.opN rfl (OpV.storeV0 (v := hv (_)) rfl rfl (hv_size Tryd.cells23) (hv_all _) (hv_len _) ?_)
    refine S.q rfl rfl (Qt.assign (by conv => lhs; whnf)) ?_
    refine S.nil ?_
    refine TC.seq ?_
    refine TC.seq ?_
    refine TC.region ?_
    refine S.q rfl rfl (Qt.move (by conv => lhs; whnf)) ?_
    refine S.q rfl rfl (Qt.nenil_nil Tryd.underlying27 rfl) ?_
    refine S.nil ?_
    refine S.if_f rfl ?_
    refine TC.skip ?_
    refine TC.region ?_
    refine S.q rfl rfl (Qt.move (by conv => lhs; whnf)) ?_
    refine S.q rfl rfl (Qt.move (by conv => lhs; whnf)) ?_
    refine S.q rfl rfl (Qt.move (by conv => lhs; whnf)) ?_
    refine S.q rfl rfl (Qt.build2 (v := encAt (j + 1, i / 2 ^ (j + 1))) (a := .int .i64 ((j + 1 : Nat) : Int)) (b := .int .u64 ((i / 2 ^ (j + 1) : Nat) : Int)) rfl rfl (Tryd.buildAt (j + 1) (i / 2 ^ (j + 1)))) ?_
    refine S.q rfl rfl (Qt.load rfl (Ld.hash1 (x := joinH (j + 1) (getT E (setK E ms i h j) (j, 2 * (i / 2 ^ (j + 1)))) (getT E (setK E ms i h j) (j, 2 * (i / 2 ^ (j + 1)) + 1))) (Has.at 0 rfl) Tryd.row23 Tryd.cells23)) ?_
    refine S.opS rfl rfl (OpV.con (Pre := [Blk tb 150 (treeCs E height mb), MapA mb encAt hv (setK E ms i h j)]) (R := _) Tryd.ent93 rfl ((List.perm_middle (l₁ := [_])).trans (List.Perm.cons _ (List.perm_middle (l₁ := [_])))) (fun w hw => put_walk E tb mb height (setK E ms i h j) (j + 1) (i / 2 ^ (j + 1)) (by omega) _ w hw.sat.left) ?_)
    rintro v L' ⟨rfl, rfl⟩
    refine S.nil ?_
    refine TC.region ?_
    refine S.q rfl rfl (Qt.move (by conv => lhs; whnf)) ?_
    refine S.q rfl rfl (Qt.add (b := 1) rfl rfl (by simp only [kmax]; omega)) ?_
    refine S.q rfl rfl (Qt.assign (by conv => lhs; whnf)) ?_
    refine S.nil ?_
    refine ⟨j + 1, ?_, ?_, ⟨?_, (List.forall_mem_cons.2 ⟨rfl, (List.forall_mem_cons.2 ⟨rfl, (fun _ h => nomatch h)⟩)⟩)⟩, Sub.keep _ (Sub.keep _ (Sub.drop _ (Sub.refl _)))⟩
    · show _ ≤ _; omega
    · show _ < _; dsimp only; omega
    repeat (first | exact Out.refl _ _ | refine Out.put rfl ?_ | refine Out.puts rfl ?_ | refine Out.scr ?_ | refine Out.scr' rfl ?_)
  · refine S.nil ?_
    refine S.if_f rfl ?_
    refine TC.exit ?_
    refine TC.seq ?_
    refine TC.region ?_
    refine S.q rfl rfl (Qt.assign (by conv => lhs; whnf)) ?_
    refine S.nil ?_
    refine TC.ret ?_
    refine finQ.ret (RVs.tmp (by conv => lhs; whnf) RVs.nil) (Sub.keep _ (Sub.keep _ (Sub.nil _))) ?_
    obtain rfl : j = height := by omega
    exact ⟨rfl, rfl⟩
set_option maxHeartbeats 400000 in
theorem new_walk (E : Nat → H32) (hEm : ∀ w, Tabs 2 0 w [] → Calls Tryd.prog 88 #[] w (Ret w (.agg (hcs (emptL E)).toArray))) (height : Nat) (hh : height ≤ 32) (w0 : World) (hT : Tabs 2 0 w0 []) :
    Calls Tryd.prog 26 #[.int .i64 (height : Int)] w0 (Post w0 [] fun v L => ∃ tb mb, v = .tuple #[.pointer (some ⟨tb, 0, none⟩), .nilIface] ∧ L = [Blk tb 150 (treeCs E height mb), MapA mb encAt hv ([])]) := by
  refine Calls.of (L := []) (n := 16) (rs := [.tmp 2, .tmp 3]) Tryd.func26 rfl rfl rfl (Nat.le_of_ble_eq_true rfl) (Sat.nil _) ?_
  refine TC.seq ?_
  refine TC.region ?_
  refine S.q rfl rfl (Qt.assign (by conv => lhs; whnf)) ?_
  refine S.q rfl rfl (Qt.assign (by conv => lhs; whnf)) ?_
  refine S.nil ?_
  refine TC.seq ?_
  refine TC.seq ?_
  refine TC.region ?_
  refine S.q rfl rfl (Qt.move (by conv => lhs; whnf)) ?_
  refine S.q rfl rfl (Qt.dF (Qt.lt (b := 0) rfl rfl) (by omega)) ?_
  refine S.q rfl rfl (Qt.move (by conv => lhs; whnf)) ?_
  refine S.qg rfl rfl rfl (Qt.move (by conv => lhs; whnf)) ?_
  refine S.qg rfl rfl rfl (Qt.dF (Qt.gt (b := 32) rfl rfl) (by omega)) ?_
  refine S.q rfl rfl (Qt.pick_f rfl (by conv => lhs; whnf)) ?_
  refine S.nil ?_
  refine S.if_f rfl ?_
  refine TC.skip ?_
  refine TC.seq ?_
  refine TC.region ?_
  refine S.q rfl rfl (Qt.move (by conv => lhs; whnf)) ?_
  refine S.opS rfl rfl (OpV.makeMap (enc := encAt) (encv := hv) (fun mb => ?_))
  refine S.opS rfl rfl (OpV.con0 Tryd.ent88 rfl (fun w hw => hEm w (hT.at hw)) ?_)
  refine S.q rfl rfl (Qt.as (Qt.buildS (vs := [.int .i64 (height : Int), .map (some mb), .agg (hcs (emptL E)).toArray]) (pls := #[(0, 1), (1, 1), (2, 1056)]) Tryd.underlying150 (fun w => by kernel_rfl) Tryd.zero150 rfl ⟨rfl, rfl, (by show some (2, 1056) = some (2, _); rw [vl_agg, hcs_length, emptL_length]), trivial⟩ (by simp [hcs_length, emptL_length, vl])) (show _ = Value.agg (treeCs E height mb).toArray by simp [treeCs, vl])) ?_
  refine S.opS rfl rfl (OpV.box (v := .agg (treeCs E height mb).toArray) rfl (fun b15 => ?_))
  refine S.q rfl rfl (Qt.assign (by conv => lhs; whnf)) ?_
  refine S.q rfl rfl (Qt.assign (by conv => lhs; whnf)) ?_
  refine S.nil ?_
  refine TC.ret ?_
  refine finQ.ret (RVs.tmp (by conv => lhs; whnf) (RVs.tmp (by conv => lhs; whnf) RVs.nil)) (Sub.refl _) ?_
  exact ⟨b15, mb, rfl, rfl⟩
set_option maxHeartbeats 400000 in
theorem root_walk (E : Nat → H32) (tb mb height : Nat) (ms : Tm) (hh : height ≤ 32) (w0 : World) (hB : Ro w0 [] (Blk tb 150 (treeCs E height mb))) (hM : Ro w0 [] (MapA mb encAt hv (ms))) :
    Calls Tryd.prog 28 #[.pointer (some ⟨tb, 0, none⟩)] w0 (Post w0 [] fun v L => v = hv (getT E ms (height, 0)) ∧ L = []) := by
  refine Calls.of (L := []) (n := 13) (rs := [.cell 2 23]) Tryd.func28 rfl rfl rfl (Nat.le_of_ble_eq_true rfl) (Sat.nil _) ?_
  refine TC.seq ?_
  refine TC.region ?_
  refine S.opS rfl rfl (OpV.alloc Tryd.zero23 (fun b2 => ?_))
  refine S.nil ?_
  refine TC.seq ?_
  refine TC.seq ?_
  refine TC.region ?_
  refine S.q rfl rfl (Qt.move (by conv => lhs; whnf)) ?_
  refine S.q rfl rfl (Qt.eqp_some Tryd.underlying35 rfl) ?_
  refine S.nil ?_
  refine S.if_f rfl ?_
  refine TC.skip ?_
  refine TC.seq ?_
  refine TC.region ?_
  refine S.q rfl rfl (Qt.move (by conv => lhs; whnf)) ?_
  refine S.q rfl rfl (Qt.move (by conv => lhs; whnf)) ?_
  refine S.q rfl rfl (Qt.nilCheck rfl) ?_
  refine S.q rfl rfl (Qt.field Tryd.underlying150 rfl Tryd.cells3 rfl) ?_
  refine S.q rfl rfl (Qt.load rfl (Ld.one (Has.ro hB) Tryd.one3 (rfl))) ?_
  refine S.q rfl rfl (Qt.build2 (v := encAt (height, 0)) (a := .int .i64 ((height : Nat) : Int)) (b := .int .u64 ((0 : Nat) : Int)) rfl rfl (Tryd.buildAt (height) (0))) ?_
  refine S.opS rfl rfl (OpV.con0 Tryd.ent94 rfl (fun w hw => get_R E tb mb height ms height 0 hh w (Rd.ro hB w hw) (Rd.ro hM w hw)) ?_)
  refine S.opN rfl (OpV.storeV0 (v := hv (_)) rfl rfl (hv_size Tryd.cells23) (hv_all _) (hv_len _) ?_)
  refine S.nil ?_
  refine TC.ret ?_
  refine finQ.ret (RVs.cell rfl (Ld.all (Has.at 0 rfl) Tryd.row23 (hv_size Tryd.cells23)) RVs.nil) (Sub.nil _) ?_
  exact ⟨rfl, rfl⟩
theorem root_R (E : Nat → H32) (tb mb height : Nat) (ms : Tm) (hh : height ≤ 32) (w0 : World) (hB : Ro w0 [] (Blk tb 150 (treeCs E height mb))) (hM : Ro w0 [] (MapA mb encAt hv (ms))) : Calls Tryd.prog 28 #[.pointer (some ⟨tb, 0, none⟩)] w0 (Ret w0 (hv (getT E ms (height, 0)))) := Calls.ret (root_walk E tb mb height ms hh w0 hB hM)

set_option maxHeartbeats 400000 in
theorem node_walk (E : Nat → H32) (tb mb height : Nat) (ms : Tm) (l p : Nat) (ho : okAt height (l, p)) (hh : height ≤ 32) (w0 : World) (hB : Ro w0 [] (Blk tb 150 (treeCs E height mb))) (hM : Ro w0 [] (MapA mb encAt hv (ms))) :
    Calls Tryd.prog 33 #[.pointer (some ⟨tb, 0, none⟩), .int .i64 (l : Int), .int .u64 (p : Int)] w0 (Post w0 [] fun v L => v = .tuple #[hv (getT E ms (l, p)), .nilIface] ∧ L = []) := by
  refine Calls.of (L := []) (n := 27) (rs := [.cell 6 23, .tmp 7]) Tryd.func33 rfl rfl rfl (Nat.le_of_ble_eq_true rfl) (Sat.nil _) ?_
  refine TC.seq ?_
  refine TC.region ?_
  refine S.opS rfl rfl (OpV.alloc Tryd.zero23 (fun b6 => ?_))
  refine S.q rfl rfl (Qt.assign (by conv => lhs; whnf)) ?_
  refine S.nil ?_
  refine TC.seq ?_
  refine TC.block ?_
  refine TC.seq ?_
  refine TC.region ?_
  refine S.q rfl rfl (Qt.move (by conv => lhs; whnf)) ?_
  refine S.q rfl rfl (Qt.eqp_some Tryd.underlying35 rfl) ?_
  refine S.q rfl rfl (Qt.assign (by conv => lhs; whnf)) ?_
  refine S.nil ?_
  refine S.if_f rfl ?_
  refine TC.seq ?_
  refine TC.region ?_
  refine S.q rfl rfl (Qt.move (by conv => lhs; whnf)) ?_
  refine S.q rfl rfl (Qt.move (by conv => lhs; whnf)) ?_
  refine S.q rfl rfl (Qt.move (by conv => lhs; whnf)) ?_
  refine S.q rfl rfl (Qt.build2 (v := encAt (l, p)) (a := .int .i64 ((l : Nat) : Int)) (b := .int .u64 ((p : Nat) : Int)) rfl rfl (Tryd.buildAt (l) (p))) ?_
  refine S.opS rfl rfl (OpV.con0 Tryd.ent92 rfl (fun w hw => has_T E tb mb height l p hh ho w (Rd.ro hB w hw)) ?_)
  refine S.q rfl rfl (Qt.not_t rfl) ?_
  refine S.q rfl rfl (Qt.assign (by conv => lhs; whnf)) ?_
  refine S.nil ?_
  refine S.if_f rfl ?_
  refine TC.skip ?_
  refine TC.seq ?_
  refine TC.region ?_
  refine S.q rfl rfl (Qt.move (by conv => lhs; whnf)) ?_
  refine S.q rfl rfl (Qt.move (by conv => lhs; whnf)) ?_
  refine S.q rfl rfl (Qt.move (by conv => lhs; whnf)) ?_
  refine S.q rfl rfl (Qt.build2 (v := encAt (l, p)) (a := .int .i64 ((l : Nat) : Int)) (b := .int .u64 ((p : Nat) : Int)) rfl rfl (Tryd.buildAt (l) (p))) ?_
  refine S.opS rfl rfl (OpV.con0 Tryd.ent94 rfl (fun w hw => get_R E tb mb height ms l p (okAt_lt hh ho).1 w (Rd.ro hB w hw) (Rd.ro hM w hw)) ?_)
  refine S.opN rfl (OpV.storeV0 (v := hv (_)) rfl rfl (hv_size Tryd.cells23) (hv_all _) (hv_len _) ?_)
  refine S.q rfl rfl (Qt.assign (by conv => lhs; whnf)) ?_
  refine S.nil ?_
  refine TC.ret ?_
  refine finQ.ret (RVs.cell rfl (Ld.all (Has.at 0 rfl) Tryd.row23 (hv_size Tryd.cells23)) (RVs.tmp (by conv => lhs; whnf) RVs.nil)) (Sub.nil _) ?_
  exact ⟨rfl, rfl⟩
set_option maxHeartbeats 400000 in
theorem leaf_walk (E : Nat → H32) (tb mb height : Nat) (ms : Tm) (i : Nat) (hh : height ≤ 32) (hi : i < 2 ^ height) (w0 : World) (hB : Ro w0 [] (Blk tb 150 (treeCs E height mb))) (hM : Ro w0 [] (MapA mb encAt hv (ms))) :
    Calls Tryd.prog 30 #[.pointer (some ⟨tb, 0, none⟩), .int .u64 (i : Int)] w0 (Post w0 [] fun v L => v = .tuple #[hv (getT E ms (0, i)), .nilIface] ∧ L = []) := by
  refine Calls.of (L := []) (n := 11) (rs := [.cell 4 23, .tmp 5]) Tryd.func30 rfl rfl rfl (Nat.le_of_ble_eq_true rfl) (Sat.nil _) ?_
  refine TC.seq ?_
  refine TC.region ?_
  refine S.opS rfl rfl (OpV.alloc Tryd.zero23 (fun b4 => ?_))
  refine S.q rfl rfl (Qt.assign (by conv => lhs; whnf)) ?_
  refine S.nil ?_
  refine TC.seq ?_
  refine TC.region ?_
  refine S.q rfl rfl (Qt.move (by conv => lhs; whnf)) ?_
  refine S.q rfl rfl (Qt.move (by conv => lhs; whnf)) ?_
  refine S.opS rfl rfl (OpV.con0 Tryd.ent33 rfl (fun w hw => Calls.ret (node_walk E tb mb height ms 0 i (ok0 hi) hh w (Rd.ro hB w hw) (Rd.ro hM w hw))) ?_)
  refine S.q rfl rfl (Qt.extract rfl rfl) ?_
  refine S.q rfl rfl (Qt.extract rfl rfl) ?_
  refine S.opN rfl (OpV.storeV0 (v := hv (_)) rfl rfl (hv_size Tryd.cells23) (hv_all _) (hv_len _) ?_)
  refine S.q rfl rfl (Qt.assign (by conv => lhs; whnf)) ?_
  refine S.nil ?_
  refine TC.ret ?_
  refine finQ.ret (RVs.cell rfl (Ld.all (Has.at 0 rfl) Tryd.row23 (hv_size Tryd.cells23)) (RVs.tmp (by conv => lhs; whnf) RVs.nil)) (Sub.nil _) ?_
  exact ⟨rfl, rfl⟩
theorem leaf_R (E : Nat → H32) (tb mb height : Nat) (ms : Tm) (i : Nat) (hh : height ≤ 32) (hi : i < 2 ^ height) (w0 : World) (hB : Ro w0 [] (Blk tb 150 (treeCs E height mb))) (hM : Ro w0 [] (MapA mb encAt hv (ms))) : Calls Tryd.prog 30 #[.pointer (some ⟨tb, 0, none⟩), .int .u64 (i : Int)] w0 (Ret w0 (.tuple #[hv (getT E ms (0, i)), .nilIface])) := Calls.ret (leaf_walk E tb mb height ms i hh hi w0 hB hM)

set_option maxHeartbeats 400000 in
theorem height85_walk (E : Nat → H32) (tb mb height : Nat) (w0 : World) (hB : Ro w0 [] (Blk tb 150 (treeCs E height mb))) :
    Calls Tryd.prog 85 #[.pointer (some ⟨tb, 0, none⟩)] w0 (Post w0 [] fun v L => v = .int .i64 (height : Int) ∧ L = []) := by
  refine Calls.of (L := []) (n := 9) (rs := [.tmp 2]) Tryd.func85 rfl rfl rfl (Nat.le_of_ble_eq_true rfl) (Sat.nil _) ?_
  refine TC.seq ?_
  refine TC.region ?_
  refine S.q rfl rfl (Qt.assign (by conv => lhs; whnf)) ?_
  refine S.nil ?_
  refine TC.seq ?_
  refine TC.seq ?_
  refine TC.region ?_
  refine S.q rfl rfl (Qt.move (by conv => lhs; whnf)) ?_
  refine S.q rfl rfl (Qt.eqp_some Tryd.underlying35 rfl) ?_
  refine S.nil ?_
  refine S.if_f rfl ?_
  refine TC.skip ?_
  refine TC.seq ?_
  refine TC.region ?_
  refine S.q rfl rfl (Qt.move (by conv => lhs; whnf)) ?_
  refine S.q rfl rfl (Qt.nilCheck rfl) ?_
  refine S.q rfl rfl (Qt.field Tryd.underlying150 rfl Tryd.cells3 rfl) ?_
  refine S.q rfl rfl (Qt.load rfl (Ld.one (Has.ro hB) Tryd.one3 (rfl))) ?_
  refine S.q rfl rfl (Qt.assign (by conv => lhs; whnf)) ?_
  refine S.nil ?_
  refine TC.ret ?_
  refine finQ.ret (RVs.tmp (by conv => lhs; whnf) RVs.nil) (Sub.nil _) ?_
  exact ⟨rfl, rfl⟩
theorem height85_R (E : Nat → H32) (tb mb height : Nat) (w0 : World) (hB : Ro w0 [] (Blk tb 150 (treeCs E height mb))) : Calls Tryd.prog 85 #[.pointer (some ⟨tb, 0, none⟩)] w0 (Ret w0 (.int .i64 (height : Int))) := Calls.ret (height85_walk E tb mb height w0 hB)

set_option maxHeartbeats 400000 in
theorem path_walk (E : Nat → H32) (tb mb height : Nat) (ms : Tm) (i : Nat) (hh : height ≤ 32) (hi : i < 2 ^ height) (w0 : World) (hB : Ro w0 [] (Blk tb 150 (treeCs E height mb))) (hM : Ro w0 [] (MapA mb encAt hv (ms))) :
    Calls Tryd.prog 29 #[.pointer (some ⟨tb, 0, none⟩), .int .u64 (i : Int)] w0 (Post w0 [] fun v L => ∃ O d, v = .tuple #[.slice O height d, .nilIface] ∧ L = [OwnA 23 32 O height d (hcs (pathT E ms height i))]) := by
  refine Calls.of (L := []) (n := 39) (rs := [.tmp 4, .tmp 5]) Tryd.func29 rfl rfl rfl (Nat.le_of_ble_eq_true rfl) (Sat.nil _) ?_
  have hi32 := pow32 hh hi
  refine TC.ownNil 23 32 ?_
  refine TC.seq ?_
  refine TC.region ?_
  refine S.q rfl rfl (Qt.assign (by conv => lhs; whnf)) ?_
  refine S.q rfl rfl (Qt.assign (by conv => lhs; whnf)) ?_
  refine S.nil ?_
  refine TC.seq ?_
  refine TC.block ?_
  refine TC.seq ?_
  refine TC.region ?_
  refine S.q rfl rfl (Qt.move (by conv => lhs; whnf)) ?_
  refine S.q rfl rfl (Qt.eqp_some Tryd.underlying35 rfl) ?_
  refine S.q rfl rfl (Qt.assign (by conv => lhs; whnf)) ?_
  refine S.nil ?_
  refine S.if_f rfl ?_
  refine TC.seq ?_
  refine TC.region ?_
  refine S.q rfl rfl (Qt.move (by conv => lhs; whnf)) ?_
  refine S.q rfl rfl (Qt.move (by conv => lhs; whnf)) ?_
  refine S.q rfl rfl (Qt.build2 (v := encAt (0, i)) (a := .int .i64 ((0 : Nat) : Int)) (b := .int .u64 ((i : Nat) : Int)) rfl rfl (Tryd.buildAt (0) (i))) ?_
  refine S.opS rfl rfl (OpV.con0 Tryd.ent92 rfl (fun w hw => has_T E tb mb height 0 i hh (ok0 hi) w (Rd.ro hB w hw)) ?_)
  refine S.q rfl rfl (Qt.not_t rfl) ?_
  refine S.q rfl rfl (Qt.assign (by conv => lhs; whnf)) ?_
  refine S.nil ?_
  refine S.if_f rfl ?_
  refine TC.skip ?_
  refine TC.seq ?_
  refine TC.region ?_
  refine S.q rfl rfl (Qt.assign (by conv => lhs; whnf)) ?_
  refine S.nil ?_
  refine TC.seq ?_
  refine TC.seq ?_
  refine TC.region ?_
  refine S.q rfl rfl (Qt.move (by conv => lhs; whnf)) ?_
  refine S.q rfl rfl (Qt.nilCheck rfl) ?_
  refine S.q rfl rfl (Qt.field Tryd.underlying150 rfl Tryd.cells3 rfl) ?_
  refine S.q rfl rfl (Qt.load rfl (Ld.one (Has.ro hB) Tryd.one3 (rfl))) ?_
  refine S.q rfl rfl (Qt.move (by conv => lhs; whnf)) ?_
  refine S.nil ?_
  refine TC.block ?_
  refine TC.loop (γ := Nat × Option Addr × Nat) [24, 25, 7, 26, 27, 28, 29, 30, 31, 32, 33, 34, 35, 36, 6, 37, 23] (fun g => [(23, .int .i64 ((g.1 : Nat) : Int)), (6, .slice g.2.1 g.1 g.2.2)]) (fun g => [OwnA 23 32 g.2.1 g.1 g.2.2 (hcs (pathT E ms g.1 i))]) (fun g => g.1 ≤ height) (fun g => height - g.1) ((0, none, 0))
    (Nat.zero_le _) ⟨Out.refl _ _, (List.forall_mem_cons.2 ⟨rfl, (List.forall_mem_cons.2 ⟨rfl, (fun _ h => nomatch h)⟩)⟩)⟩ (Sub.refl _) ?_
  rintro ⟨k, O, d⟩ u hk
  dsimp only at hk
  have hd1 := Nat.div_le_self i (2 ^ k)
  refine TC.seq ?_
  refine TC.region ?_
  refine S.dec rfl rfl (Qt.lt rfl rfl) (fun h24 => ?_) (fun h24 => ?_)
  · refine S.nil ?_
    refine TC.seq ?_
    refine S.if_t rfl ?_
    refine TC.skip ?_
    refine TC.seq ?_
    refine TC.block ?_
    refine TC.seq ?_
    refine TC.region ?_
    refine S.q rfl rfl (Qt.move (by conv => lhs; whnf)) ?_
    refine S.q rfl rfl (Qt.assign (by conv => lhs; whnf)) ?_
    refine S.nil ?_
    refine TC.region ?_
    refine S.q rfl rfl (Qt.move (by conv => lhs; whnf)) ?_
    refine S.q rfl rfl (Qt.move (by conv => lhs; whnf)) ?_
    refine S.q rfl rfl (Qt.move (by conv => lhs; whnf)) ?_
    refine S.q rfl rfl (Qt.move (by conv => lhs; whnf)) ?_
    refine S.q rfl rfl (Qt.move (by conv => lhs; whnf)) ?_
    refine S.q rfl rfl (Qt.shrN rfl rfl (by simp only [kmax]; omega)) ?_
    refine S.q rfl rfl (Qt.xorN (b := 1) rfl rfl (by simp only [kmax]; omega) (by simp only [kmax]; omega)) ?_
    refine S.q rfl rfl (Qt.build2 (v := encAt (k, (i / 2 ^ k) ^^^ 1)) (a := .int .i64 ((k : Nat) : Int)) (b := .int .u64 (((i / 2 ^ k) ^^^ 1 : Nat) : Int)) rfl rfl (Tryd.buildAt (k) ((i / 2 ^ k) ^^^ 1))) ?_
    refine S.opS rfl rfl (OpV.con0 Tryd.ent94 rfl (fun w hw => get_R E tb mb height ms k ((i / 2 ^ k) ^^^ 1) (by omega) w (Rd.ro hB w hw) (Rd.ro hM w hw)) ?_)
    refine S.opS rfl rfl (OpV.slice1 (bytes := 32) (v := hv (getT E ms (k, (i / 2 ^ k) ^^^ 1))) Tryd.underlying44 Tryd.elem23 (by decide) rfl (hv_len _) (fun g35 => ?_))
    refine S.opS rfl rfl (OpV.app1 (bytes := 32) (news := hvl (getT E ms (k, (i / 2 ^ k) ^^^ 1))) Tryd.underlying44 Tryd.elem23 rfl rfl (Has.blk (cs := hvl (getT E ms (k, (i / 2 ^ k) ^^^ 1))) (Has.at 0 rfl)) (by rw [hvl_length]) (bytesL_one _) (by simp only [maxLen]; omega) (by omega) (fun O' d' => ?_))
    refine S.q rfl rfl (Qt.assign (by conv => lhs; whnf)) ?_
    refine S.nil ?_
    refine TC.region ?_
    refine S.q rfl rfl (Qt.add (b := 1) rfl rfl (by simp only [kmax]; omega)) ?_
    refine S.q rfl rfl (Qt.move (by conv => lhs; whnf)) ?_
    refine S.nil ?_
    refine ⟨(k + 1, O', d'), ?_, ?_, ⟨?_, (List.forall_mem_cons.2 ⟨rfl, (List.forall_mem_cons.2 ⟨rfl, (fun _ h => nomatch h)⟩)⟩)⟩, (by dsimp only; rw [pathT_step]; exact Sub.drop _ (Sub.refl _))⟩
    · show _ ≤ _; dsimp only; omega
    · show _ < _; dsimp only; omega
    repeat (first | exact Out.refl _ _ | refine Out.put rfl ?_ | refine Out.puts rfl ?_ | refine Out.scr ?_ | refine Out.scr' rfl ?_)
  · refine S.nil ?_
    refine TC.seq ?_
    refine S.if_f rfl ?_
    refine TC.exit ?_
    refine TC.seq ?_
    refine TC.region ?_
    refine S.q rfl rfl (Qt.move (by conv => lhs; whnf)) ?_
    refine S.q rfl rfl (Qt.assign (by conv => lhs; whnf)) ?_
    refine S.q rfl rfl (Qt.assign (by conv => lhs; whnf)) ?_
    refine S.nil ?_
    refine TC.ret ?_
    refine finQ.ret (RVs.tmp (by conv => lhs; whnf) (RVs.tmp (by conv => lhs; whnf) RVs.nil)) (Sub.refl _) ?_
    obtain rfl : k = height := by omega
    exact ⟨O, d, rfl, rfl⟩
end Go.Proofs.YtlneklemjfefpaaDoor
