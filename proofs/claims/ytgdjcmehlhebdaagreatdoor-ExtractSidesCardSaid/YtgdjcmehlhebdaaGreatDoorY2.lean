/-
  Walks: heights, and the root behind a growing step. Printed by a program of ours. Walks: the tree of the program. Printed by a program of ours.
-/
import Derived.Test.YtgdjcmehlhebdaaGreatDoorY1
import Derived.Test.YtgdjcmehlhebdaaGreatDoorGR
import Derived.Test.YtgdjcmehlhebdaaGreatDoorP2
namespace Go.Proofs.YtgdjcmehlhebdaaGreatDoor
open Go.E
set_option linter.unusedVariables false
set_option maxRecDepth 4000
theorem Tryz.guard49 : Tryz.prog.eqGuardType Tryz.prog.depth 49 = false := by kernel_rfl
set_option maxHeartbeats 400000 in
theorem len64_walk (x : Nat) (hx : x < 4294967296) (w0 : World) :
    Calls Tryz.prog 103 #[.int .u64 (x : Int)] w0 (Post w0 [] fun v L => v = .int .i64 ((bitlen x : Nat) : Int) ∧ L = []) := by
  refine Calls.of (L := []) (n := 25) (rs := [.tmp 2]) Tryz.func103 rfl rfl rfl (Nat.le_of_ble_eq_true rfl) (Sat.nil _) ?_
  refine TC.seq ?_
  refine TC.region ?_
  refine S.as ?_
  refine S.nil ?_
  refine TC.seq ?_
  refine TC.seq ?_
  refine TC.region ?_
  refine S.mv ?_
  refine S.q rfl rfl (Qt.dF (Qt.ge (b := 4294967296) rfl rfl) (by omega)) ?_
  refine S.nil ?_
  refine S.if_f rfl ?_
  refine TC.skip ?_
  refine TC.seq ?_
  refine TC.seq ?_
  refine TC.region ?_
  refine S.mv ?_
  refine S.dec rfl rfl (Qt.ge (b := 65536) rfl rfl) (fun h8 => ?_) (fun h8 => ?_)
  · refine S.nil ?_
    refine S.if_t rfl ?_
    refine TC.seq ?_
    refine TC.region ?_
    refine S.mv ?_
    refine S.q rfl rfl (Qt.shrN (s := 16) rfl rfl (by simp only [kmax]; omega)) ?_
    refine S.as ?_
    refine S.nil ?_
    refine TC.region ?_
    refine S.mv ?_
    refine S.q rfl rfl (Qt.addi rfl rfl (IntWalk.i64_in _ (by omega))) ?_
    refine S.as ?_
    refine S.nil ?_
    refine TC.seq ?_
    refine TC.seq ?_
    refine TC.region ?_
    refine S.mv ?_
    refine S.dec rfl rfl (Qt.ge (b := 256) rfl rfl) (fun h14 => ?_) (fun h14 => ?_)
    · refine S.nil ?_
      refine S.if_t rfl ?_
      refine TC.seq ?_
      refine TC.region ?_
      refine S.mv ?_
      refine S.q rfl rfl (Qt.shrN (s := 8) rfl rfl (by simp only [kmax]; omega)) ?_
      refine S.as ?_
      refine S.nil ?_
      refine TC.region ?_
      refine S.mv ?_
      refine S.q rfl rfl (Qt.addi rfl rfl (IntWalk.i64_in _ (by omega))) ?_
      refine S.as ?_
      refine S.nil ?_
      refine TC.seq ?_
      refine TC.region ?_
      refine S.mv ?_
      refine S.mv ?_
      refine S.q rfl rfl (Qt.convert Tryz.underlying40 Tryz.underlying5 rfl (by simp only [kmax]; omega)) ?_
      refine S.q rfl rfl (Qt.as (Qt.index_str Tryz.underlying9 rfl rfl (len8_ok _ (by kernel_rfl) (by omega))) (by rw [len8_nat (by omega)])) ?_
      refine S.q rfl rfl (Qt.convert Tryz.underlying5 Tryz.underlying3 rfl (by have := bitlen_8 (i := x) ; have := bitlen_8 (i := x / 2 ^ 16); have := bitlen_8 (i := x / 2 ^ 8); have := bitlen_8 (i := x / 2 ^ 16 / 2 ^ 8); simp only [kmax]; omega)) ?_
      refine S.q rfl rfl (Qt.addi rfl rfl (IntWalk.i64_in _ (by have := bitlen_8 (i := x) ; have := bitlen_8 (i := x / 2 ^ 16); have := bitlen_8 (i := x / 2 ^ 8); have := bitlen_8 (i := x / 2 ^ 16 / 2 ^ 8); omega))) ?_
      refine S.as ?_
      refine S.nil ?_
      refine TC.ret ?_
      refine finQ.ret (RVs.tmp (by conv => lhs; whnf) RVs.nil) (Sub.nil _) ?_
      have e8 := bitlen_shift (x := x) (n := 16) (by omega)
      have e14 := bitlen_shift (x := (x / 2 ^ 16)) (n := 8) (by omega)
      exact ⟨congrArg (Value.int .i64) (by omega), rfl⟩
    · refine S.nil ?_
      refine S.if_f rfl ?_
      refine TC.skip ?_
      refine TC.seq ?_
      refine TC.region ?_
      refine S.mv ?_
      refine S.mv ?_
      refine S.q rfl rfl (Qt.convert Tryz.underlying40 Tryz.underlying5 rfl (by simp only [kmax]; omega)) ?_
      refine S.q rfl rfl (Qt.as (Qt.index_str Tryz.underlying9 rfl rfl (len8_ok _ (by kernel_rfl) (by omega))) (by rw [len8_nat (by omega)])) ?_
      refine S.q rfl rfl (Qt.convert Tryz.underlying5 Tryz.underlying3 rfl (by have := bitlen_8 (i := x) ; have := bitlen_8 (i := x / 2 ^ 16); have := bitlen_8 (i := x / 2 ^ 8); have := bitlen_8 (i := x / 2 ^ 16 / 2 ^ 8); simp only [kmax]; omega)) ?_
      refine S.q rfl rfl (Qt.addi rfl rfl (IntWalk.i64_in _ (by have := bitlen_8 (i := x) ; have := bitlen_8 (i := x / 2 ^ 16); have := bitlen_8 (i := x / 2 ^ 8); have := bitlen_8 (i := x / 2 ^ 16 / 2 ^ 8); omega))) ?_
      refine S.as ?_
      refine S.nil ?_
      refine TC.ret ?_
      refine finQ.ret (RVs.tmp (by conv => lhs; whnf) RVs.nil) (Sub.nil _) ?_
      have e8 := bitlen_shift (x := x) (n := 16) (by omega)
      exact ⟨congrArg (Value.int .i64) (by omega), rfl⟩
  · refine S.nil ?_
    refine S.if_f rfl ?_
    refine TC.skip ?_
    refine TC.seq ?_
    refine TC.seq ?_
    refine TC.region ?_
    refine S.mv ?_
    refine S.dec rfl rfl (Qt.ge (b := 256) rfl rfl) (fun h14 => ?_) (fun h14 => ?_)
    · refine S.nil ?_
      refine S.if_t rfl ?_
      refine TC.seq ?_
      refine TC.region ?_
      refine S.mv ?_
      refine S.q rfl rfl (Qt.shrN (s := 8) rfl rfl (by simp only [kmax]; omega)) ?_
      refine S.as ?_
      refine S.nil ?_
      refine TC.region ?_
      refine S.mv ?_
      refine S.q rfl rfl (Qt.addi rfl rfl (IntWalk.i64_in _ (by omega))) ?_
      refine S.as ?_
      refine S.nil ?_
      refine TC.seq ?_
      refine TC.region ?_
      refine S.mv ?_
      refine S.mv ?_
      refine S.q rfl rfl (Qt.convert Tryz.underlying40 Tryz.underlying5 rfl (by simp only [kmax]; omega)) ?_
      refine S.q rfl rfl (Qt.as (Qt.index_str Tryz.underlying9 rfl rfl (len8_ok _ (by kernel_rfl) (by omega))) (by rw [len8_nat (by omega)])) ?_
      refine S.q rfl rfl (Qt.convert Tryz.underlying5 Tryz.underlying3 rfl (by have := bitlen_8 (i := x) ; have := bitlen_8 (i := x / 2 ^ 16); have := bitlen_8 (i := x / 2 ^ 8); have := bitlen_8 (i := x / 2 ^ 16 / 2 ^ 8); simp only [kmax]; omega)) ?_
      refine S.q rfl rfl (Qt.addi rfl rfl (IntWalk.i64_in _ (by have := bitlen_8 (i := x) ; have := bitlen_8 (i := x / 2 ^ 16); have := bitlen_8 (i := x / 2 ^ 8); have := bitlen_8 (i := x / 2 ^ 16 / 2 ^ 8); omega))) ?_
      refine S.as ?_
      refine S.nil ?_
      refine TC.ret ?_
      refine finQ.ret (RVs.tmp (by conv => lhs; whnf) RVs.nil) (Sub.nil _) ?_
      have e14 := bitlen_shift (x := x) (n := 8) (by omega)
      exact ⟨congrArg (Value.int .i64) (by omega), rfl⟩
    · refine S.nil ?_
      refine S.if_f rfl ?_
      refine TC.skip ?_
      refine TC.seq ?_
      refine TC.region ?_
      refine S.mv ?_
      refine S.mv ?_
      refine S.q rfl rfl (Qt.convert Tryz.underlying40 Tryz.underlying5 rfl (by simp only [kmax]; omega)) ?_
      refine S.q rfl rfl (Qt.as (Qt.index_str Tryz.underlying9 rfl rfl (len8_ok _ (by kernel_rfl) (by omega))) (by rw [len8_nat (by omega)])) ?_
      refine S.q rfl rfl (Qt.convert Tryz.underlying5 Tryz.underlying3 rfl (by have := bitlen_8 (i := x) ; have := bitlen_8 (i := x / 2 ^ 16); have := bitlen_8 (i := x / 2 ^ 8); have := bitlen_8 (i := x / 2 ^ 16 / 2 ^ 8); simp only [kmax]; omega)) ?_
      refine S.q rfl rfl (Qt.addi rfl rfl (IntWalk.i64_in _ (by have := bitlen_8 (i := x) ; have := bitlen_8 (i := x / 2 ^ 16); have := bitlen_8 (i := x / 2 ^ 8); have := bitlen_8 (i := x / 2 ^ 16 / 2 ^ 8); omega))) ?_
      refine S.as ?_
      refine S.nil ?_
      refine TC.ret ?_
      refine finQ.ret (RVs.tmp (by conv => lhs; whnf) RVs.nil) (Sub.nil _) ?_
      exact ⟨congrArg (Value.int .i64) (by omega), rfl⟩
theorem len64_R (x : Nat) (hx : x < 4294967296) (w0 : World) : Calls Tryz.prog 103 #[.int .u64 (x : Int)] w0 (Ret w0 (.int .i64 ((bitlen x : Nat) : Int))) := Calls.ret (len64_walk x hx w0)

set_option maxHeartbeats 400000 in
theorem height_walkT (n : Nat) (h : okN n) (w0 : World) :
    Calls Tryz.prog 39 #[.int .u64 (n : Int)] w0 (Post w0 [] fun v L => v = .tuple #[.int .i64 ((hgt n : Nat) : Int), .nilIface] ∧ L = []) := by
  refine Calls.of (L := []) (n := 14) (rs := [.tmp 2, .tmp 3]) Tryz.func39 rfl rfl rfl (Nat.le_of_ble_eq_true rfl) (Sat.nil _) ?_
  obtain ⟨hn1, hn2⟩ := id h
  refine TC.seq ?_
  refine TC.region ?_
  refine S.as ?_
  refine S.as ?_
  refine S.nil ?_
  refine TC.seq ?_
  refine TC.seq ?_
  refine TC.region ?_
  refine S.mv ?_
  refine S.q rfl rfl (Qt.dF (Qt.lt (b := 1) rfl rfl) (by omega)) ?_
  refine S.mv ?_
  refine S.qg rfl rfl rfl (Qt.move (by conv => lhs; whnf)) ?_
  refine S.qg rfl rfl rfl (Qt.dF (Qt.gt (b := 4294967296) rfl rfl) (by omega)) ?_
  refine S.q rfl rfl (Qt.pick_f rfl (by conv => lhs; whnf)) ?_
  refine S.nil ?_
  refine S.if_f rfl ?_
  refine TC.skip ?_
  refine TC.seq ?_
  refine TC.region ?_
  refine S.mv ?_
  refine S.q rfl rfl (Qt.sub (b := 1) rfl rfl (by omega) (by simp only [kmax]; omega)) ?_
  refine S.opS rfl rfl (OpV.con0 Tryz.ent103 rfl (fun w hw => (len64_R (n - 1) (by omega) w : Calls Tryz.prog 103 #[.int .u64 ((n - 1 : Nat) : Int)] w (Ret w (.int .i64 ((hgt n : Nat) : Int))))) ?_)
  refine S.as ?_
  refine S.as ?_
  refine S.nil ?_
  refine TC.ret ?_
  refine finQ.ret (RVs.tmp (by conv => lhs; whnf) (RVs.tmp (by conv => lhs; whnf) RVs.nil)) (Sub.nil _) ?_
  exact ⟨rfl, rfl⟩
theorem height_T (n : Nat) (h : okN n) (w0 : World) : Calls Tryz.prog 39 #[.int .u64 (n : Int)] w0 (Ret w0 (.tuple #[.int .i64 ((hgt n : Nat) : Int), .nilIface])) := Calls.ret (height_walkT n h w0)

end Go.Proofs.YtgdjcmehlhebdaaGreatDoor
namespace Go.Proofs.YtgdjcmehlhebdaaGreatDoor
open Go.E
set_option linter.unusedVariables false
set_option maxRecDepth 4000
theorem Tryz.keyAt : KeyLaw Tryz.prog 249 encAt := Go.E.keyAt Tryz.underlying249 (by decide) (by decide) rfl rfl Tryz.underlying3 Tryz.underlying40 (by kernel_rfl)
theorem Tryz.zv23 : zero1 Tryz.prog 49 = some (hv zeroH) := by kernel_rfl
theorem Tryz.buildAt (l p : Nat) (w : World) : (Instr.build 249 #[(0, .int .i64 (l : Int)), (1, .int .u64 (p : Int))]).run Tryz.prog w = .ok (encAt (l, p)) w := by kernel_rfl
set_option maxHeartbeats 400000 in
theorem has_walk (E : Nat → H32) (tb mb height l p : Nat) (hh : height ≤ 32) (hp : p < 18446744073709551616) (w0 : World) (hB : Ro w0 [] (Blk tb 243 (treeCs E height mb))) :
    Calls Tryz.prog 166 #[.pointer (some ⟨tb, 0, none⟩), encAt (l, p)] w0 (Post w0 [] fun v L => v = .bool (decide (okAt height (l, p))) ∧ L = []) := by
  refine Calls.of (L := []) (n := 30) (rs := [.tmp 4]) Tryz.func166 rfl rfl rfl (Nat.le_of_ble_eq_true rfl) (Sat.nil _) ?_
  refine TC.seq ?_
  refine TC.region ?_
  refine S.opS rfl rfl (OpV.box (v := encAt (l, p)) rfl (fun b3 => ?_))
  refine S.as ?_
  refine S.nil ?_
  refine TC.seq ?_
  refine S.draw ([], []) Tryz.mixed (Sub.nil _) ?_
  refine D.qY 0 rfl (Qt.field Tryz.underlying249 rfl Tryz.cells3 rfl) ?_
  refine D.qY 1 rfl (Qt.load rfl (Ld.one (Has.at 0 rfl) Tryz.one3 (rfl))) ?_
  refine D.qY 2 rfl (Qt.dT (Qt.ge (b := 0) rfl rfl) (by omega)) ?_
  refine D.qY 3 rfl (Qt.move (by conv => lhs; whnf)) ?_
  refine D.qgX (k := 4) rfl (by kernel_rfl) (by kernel_rfl) (by kernel_rfl) rfl rfl rfl (Qt.field Tryz.underlying249 rfl Tryz.cells3 rfl) ?_
  refine D.qgX (k := 5) rfl (by kernel_rfl) (by kernel_rfl) (by kernel_rfl) rfl rfl rfl (Qt.load rfl (Ld.one (Has.at 0 rfl) Tryz.one3 (rfl))) ?_
  refine D.qgX (k := 6) rfl (by kernel_rfl) (by kernel_rfl) (by kernel_rfl) rfl rfl rfl (Qt.move (by conv => lhs; whnf)) ?_
  refine D.qgX (k := 7) rfl (by kernel_rfl) (by kernel_rfl) (by kernel_rfl) rfl rfl rfl (Qt.nilCheck rfl) ?_
  refine D.qgX (k := 8) rfl (by kernel_rfl) (by kernel_rfl) (by kernel_rfl) rfl rfl rfl (Qt.field Tryz.underlying243 rfl Tryz.cells3 rfl) ?_
  refine D.qgX (k := 9) rfl (by kernel_rfl) (by kernel_rfl) (by kernel_rfl) rfl rfl rfl (Qt.load rfl (Ld.one (Has.ro hB) Tryz.one3 (rfl))) ?_
  refine D.decgX (k := 10) rfl (by kernel_rfl) (by kernel_rfl) (by kernel_rfl) rfl rfl rfl (Qt.le rfl rfl) (fun h15 => ?_) (fun h15 => ?_)
  · refine D.qY 11 rfl (Qt.pick_t rfl (by conv => lhs; whnf)) ?_
    refine D.qY 12 rfl (Qt.move (by conv => lhs; whnf)) ?_
    refine D.qgX (k := 13) rfl (by kernel_rfl) (by kernel_rfl) (by kernel_rfl) rfl rfl rfl (Qt.field Tryz.underlying249 rfl Tryz.cells40 rfl) ?_
    refine D.qgX (k := 14) rfl (by kernel_rfl) (by kernel_rfl) (by kernel_rfl) rfl rfl rfl (Qt.load rfl (Ld.one (Has.at 0 rfl) Tryz.one40 (rfl))) ?_
    refine D.qgX (k := 15) rfl (by kernel_rfl) (by kernel_rfl) (by kernel_rfl) rfl rfl rfl (Qt.move (by conv => lhs; whnf)) ?_
    refine D.qgX (k := 16) rfl (by kernel_rfl) (by kernel_rfl) (by kernel_rfl) rfl rfl rfl (Qt.nilCheck rfl) ?_
    refine D.qgX (k := 17) rfl (by kernel_rfl) (by kernel_rfl) (by kernel_rfl) rfl rfl rfl (Qt.field Tryz.underlying243 rfl Tryz.cells3 rfl) ?_
    refine D.qgX (k := 18) rfl (by kernel_rfl) (by kernel_rfl) (by kernel_rfl) rfl rfl rfl (Qt.load rfl (Ld.one (Has.ro hB) Tryz.one3 (rfl))) ?_
    refine D.qgX (k := 19) rfl (by kernel_rfl) (by kernel_rfl) (by kernel_rfl) rfl rfl rfl (Qt.field Tryz.underlying249 rfl Tryz.cells3 rfl) ?_
    refine D.qgX (k := 20) rfl (by kernel_rfl) (by kernel_rfl) (by kernel_rfl) rfl rfl rfl (Qt.load rfl (Ld.one (Has.at 0 rfl) Tryz.one3 (rfl))) ?_
    refine D.qgX (k := 21) rfl (by kernel_rfl) (by kernel_rfl) (by kernel_rfl) rfl rfl rfl (Qt.sub rfl rfl (by omega) (by simp only [kmax]; omega)) ?_
    refine D.qgX (k := 22) rfl (by kernel_rfl) (by kernel_rfl) (by kernel_rfl) rfl rfl rfl (Qt.shrN rfl rfl (by simp only [kmax]; omega)) ?_
    refine D.decgX (k := 23) rfl (by kernel_rfl) (by kernel_rfl) (by kernel_rfl) rfl rfl rfl (Qt.eq (b := 0) rfl rfl) (fun h28 => ?_) (fun h28 => ?_)
    · refine D.qY 24 rfl (Qt.pick_t rfl (by conv => lhs; whnf)) ?_
      refine D.qY 25 rfl (Qt.assign (by conv => lhs; whnf)) ?_
      refine D.done (Sub.nil _) (by kernel_rfl) ?_
      refine TC.ret ?_
      refine finQ.ret (RVs.tmp (by conv => lhs; whnf) RVs.nil) (Sub.nil _) ?_
      exact ⟨(congrArg Value.bool (decide_eq_true ((okAt_iff h15).1 h28))).symm, rfl⟩
    · refine D.qY 24 rfl (Qt.pick_t rfl (by conv => lhs; whnf)) ?_
      refine D.qY 25 rfl (Qt.assign (by conv => lhs; whnf)) ?_
      refine D.done (Sub.nil _) (by kernel_rfl) ?_
      refine TC.ret ?_
      refine finQ.ret (RVs.tmp (by conv => lhs; whnf) RVs.nil) (Sub.nil _) ?_
      exact ⟨(congrArg Value.bool (decide_eq_false (fun h => h28 ((okAt_iff h15).2 h)))).symm, rfl⟩
  · refine D.qY 11 rfl (Qt.pick_t rfl (by conv => lhs; whnf)) ?_
    refine D.qY 12 rfl (Qt.move (by conv => lhs; whnf)) ?_
    refine D.pass (k := 13) rfl (by kernel_rfl) (by kernel_rfl) rfl rfl rfl ?_
    refine D.pass (k := 14) rfl (by kernel_rfl) (by kernel_rfl) rfl rfl rfl ?_
    refine D.pass (k := 15) rfl (by kernel_rfl) (by kernel_rfl) rfl rfl rfl ?_
    refine D.pass (k := 16) rfl (by kernel_rfl) (by kernel_rfl) rfl rfl rfl ?_
    refine D.pass (k := 17) rfl (by kernel_rfl) (by kernel_rfl) rfl rfl rfl ?_
    refine D.pass (k := 18) rfl (by kernel_rfl) (by kernel_rfl) rfl rfl rfl ?_
    refine D.pass (k := 19) rfl (by kernel_rfl) (by kernel_rfl) rfl rfl rfl ?_
    refine D.pass (k := 20) rfl (by kernel_rfl) (by kernel_rfl) rfl rfl rfl ?_
    refine D.pass (k := 21) rfl (by kernel_rfl) (by kernel_rfl) rfl rfl rfl ?_
    refine D.pass (k := 22) rfl (by kernel_rfl) (by kernel_rfl) rfl rfl rfl ?_
    refine D.pass (k := 23) rfl (by kernel_rfl) (by kernel_rfl) rfl rfl rfl ?_
    refine D.qY 24 rfl (Qt.pick_f rfl (by conv => lhs; whnf)) ?_
    refine D.qY 25 rfl (Qt.assign (by conv => lhs; whnf)) ?_
    refine D.done (Sub.nil _) (by kernel_rfl) ?_
    refine TC.ret ?_
    refine finQ.ret (RVs.tmp (by conv => lhs; whnf) RVs.nil) (Sub.nil _) ?_
    exact ⟨(congrArg Value.bool (decide_eq_false (fun h => h15 h.1))).symm, rfl⟩
theorem has_R (E : Nat → H32) (tb mb height l p : Nat) (hh : height ≤ 32) (hp : p < 18446744073709551616) (w0 : World) (hB : Ro w0 [] (Blk tb 243 (treeCs E height mb))) : Calls Tryz.prog 166 #[.pointer (some ⟨tb, 0, none⟩), encAt (l, p)] w0 (Ret w0 (.bool (decide (okAt height (l, p))))) := Calls.ret (has_walk E tb mb height l p hh hp w0 hB)
theorem has_T (E : Nat → H32) (tb mb height l p : Nat) (hh : height ≤ 32) (h : okAt height (l, p)) (w0 : World) (hB : Ro w0 [] (Blk tb 243 (treeCs E height mb))) : Calls Tryz.prog 166 #[.pointer (some ⟨tb, 0, none⟩), encAt (l, p)] w0 (Ret w0 (.bool true)) := by
  have hr := has_R E tb mb height l p hh (by have := okAt_lt hh h; omega) w0 hB
  rwa [decide_eq_true h] at hr
set_option maxHeartbeats 400000 in
theorem get_walkS (E : Nat → H32) (tb mb height : Nat) (ms : Tm) (l p : Nat) (hl : l ≤ 32) (h : H32) (hlk : Go.E.look (l, p) ms = some h) (w0 : World) (hB : Ro w0 [] (Blk tb 243 (treeCs E height mb))) (hM : Ro w0 [] (MapA mb encAt hv (ms))) :
    Calls Tryz.prog 135 #[.pointer (some ⟨tb, 0, none⟩), encAt (l, p)] w0 (Post w0 [] fun v L => v = hv (getT E ms (l, p)) ∧ L = []) := by
  refine Calls.of (L := []) (n := 25) (rs := [.cell 4 49]) Tryz.func135 rfl rfl rfl (Nat.le_of_ble_eq_true rfl) (Sat.nil _) ?_
  refine TC.seq ?_
  refine TC.region ?_
  refine S.opS rfl rfl (OpV.box (v := encAt (l, p)) rfl (fun b3 => ?_))
  refine S.opS rfl rfl (OpV.alloc Tryz.zero49 (fun b4 => ?_))
  refine S.nil ?_
  refine TC.seq ?_
  refine TC.seq ?_
  refine S.draw ([10], [9]) Tryz.mixed (Sub.nil _) ?_
  refine D.qY 0 rfl (Qt.move (by conv => lhs; whnf)) ?_
  refine D.qY 1 rfl (Qt.nilCheck rfl) ?_
  refine D.qY 2 rfl (Qt.field Tryz.underlying243 rfl Tryz.cells241 rfl) ?_
  refine D.qY 3 rfl (Qt.load rfl (Ld.one (Has.ro hB) Tryz.one241 (rfl))) ?_
  refine D.qY 4 rfl (Qt.load rfl (Ld.all (vs := vl (encAt (l, p))) (Has.at 1 rfl) Tryz.row249 Tryz.cells249)) ?_
  refine D.qY 5 rfl (Qt.as (v' := .tuple #[hv h, .bool true]) (Qt.lookup_ok (k := (l, p)) Tryz.underlying241 Tryz.keyAt Tryz.zv23 rfl rfl (Has.ro hM)) (by rw [hlk]; rfl)) ?_
  refine D.qY 6 rfl (Qt.move (by conv => lhs; whnf)) ?_
  refine D.qY 7 rfl (Qt.extract rfl rfl) ?_
  refine D.q (k := 8) rfl (by kernel_rfl) (by kernel_rfl) rfl rfl (Qt.extract rfl rfl) ?_
  refine D.nS (k := 9) (Sub.nil _) rfl (by kernel_rfl) (by kernel_rfl) rfl rfl (OpV.alloc Tryz.zero49 (fun b5 => ⟨Sub.drop _ (Sub.refl _), ?_⟩))
  refine D.opN (k := 10) (Sub.nil _) rfl (by kernel_rfl) (by kernel_rfl) rfl (OpV.storeV0 (v := hv (h)) rfl rfl (hv_size Tryz.cells49) (hv_all _) (hv_len _) ⟨Sub.nil _, ?_⟩)
  refine D.qY 11 rfl (Qt.assign (by conv => lhs; whnf)) ?_
  refine D.done (Sub.nil _) (by kernel_rfl) ?_
  refine TC.seq ?_
  refine TC.region ?_
  refine S.mv ?_
  refine S.nil ?_
  refine S.if_t rfl ?_
  refine TC.seq ?_
  refine TC.region ?_
  refine S.q rfl rfl (Qt.load rfl (Ld.hash1 (x := h) (Has.at 0 rfl) Tryz.row49 Tryz.cells49)) ?_
  refine S.opN rfl (OpV.storeV1 (v := hv (h)) rfl rfl (hv_size Tryz.cells49) (hv_all _) (hv_len _) ?_)
  refine S.nil ?_
  refine TC.ret ?_
  refine finQ.ret (RVs.cell rfl (Ld.all (Has.at 1 rfl) Tryz.row49 (hv_size Tryz.cells49)) RVs.nil) (Sub.nil _) ?_
  exact ⟨congrArg hv (valOr_look E ms _ hlk).symm, rfl⟩
set_option maxHeartbeats 400000 in
theorem get_walkN (E : Nat → H32) (tb mb height : Nat) (ms : Tm) (l p : Nat) (hl : l ≤ 32) (hlk : Go.E.look (l, p) ms = none) (w0 : World) (hB : Ro w0 [] (Blk tb 243 (treeCs E height mb))) (hM : Ro w0 [] (MapA mb encAt hv (ms))) :
    Calls Tryz.prog 135 #[.pointer (some ⟨tb, 0, none⟩), encAt (l, p)] w0 (Post w0 [] fun v L => v = hv (getT E ms (l, p)) ∧ L = []) := by
  refine Calls.of (L := []) (n := 25) (rs := [.cell 4 49]) Tryz.func135 rfl rfl rfl (Nat.le_of_ble_eq_true rfl) (Sat.nil _) ?_
  refine TC.seq ?_
  refine TC.region ?_
  refine S.opS rfl rfl (OpV.box (v := encAt (l, p)) rfl (fun b3 => ?_))
  refine S.opS rfl rfl (OpV.alloc Tryz.zero49 (fun b4 => ?_))
  refine S.nil ?_
  refine TC.seq ?_
  refine TC.seq ?_
  refine S.draw ([10], [9]) Tryz.mixed (Sub.nil _) ?_
  refine D.qY 0 rfl (Qt.move (by conv => lhs; whnf)) ?_
  refine D.qY 1 rfl (Qt.nilCheck rfl) ?_
  refine D.qY 2 rfl (Qt.field Tryz.underlying243 rfl Tryz.cells241 rfl) ?_
  refine D.qY 3 rfl (Qt.load rfl (Ld.one (Has.ro hB) Tryz.one241 (rfl))) ?_
  refine D.qY 4 rfl (Qt.load rfl (Ld.all (vs := vl (encAt (l, p))) (Has.at 1 rfl) Tryz.row249 Tryz.cells249)) ?_
  refine D.qY 5 rfl (Qt.as (v' := .tuple #[hv zeroH, .bool false]) (Qt.lookup_ok (k := (l, p)) Tryz.underlying241 Tryz.keyAt Tryz.zv23 rfl rfl (Has.ro hM)) (by rw [hlk]; rfl)) ?_
  refine D.qY 6 rfl (Qt.move (by conv => lhs; whnf)) ?_
  refine D.qY 7 rfl (Qt.extract rfl rfl) ?_
  refine D.q (k := 8) rfl (by kernel_rfl) (by kernel_rfl) rfl rfl (Qt.extract rfl rfl) ?_
  refine D.nS (k := 9) (Sub.nil _) rfl (by kernel_rfl) (by kernel_rfl) rfl rfl (OpV.alloc Tryz.zero49 (fun b5 => ⟨Sub.drop _ (Sub.refl _), ?_⟩))
  refine D.opN (k := 10) (Sub.nil _) rfl (by kernel_rfl) (by kernel_rfl) rfl (OpV.storeV0 (v := hv (zeroH)) rfl rfl (hv_size Tryz.cells49) (hv_all _) (hv_len _) ⟨Sub.nil _, ?_⟩)
  refine D.qY 11 rfl (Qt.assign (by conv => lhs; whnf)) ?_
  refine D.done (Sub.nil _) (by kernel_rfl) ?_
  refine TC.seq ?_
  refine TC.region ?_
  refine S.mv ?_
  refine S.nil ?_
  refine S.if_f rfl ?_
  refine TC.skip ?_
  refine TC.seq ?_
  refine S.draw ([7], []) Tryz.mixed (Sub.nil _) ?_
  refine D.qY 0 rfl (Qt.move (by conv => lhs; whnf)) ?_
  refine D.qY 1 rfl (Qt.field Tryz.underlying249 rfl Tryz.cells3 rfl) ?_
  refine D.qY 2 rfl (Qt.load rfl (Ld.one (Has.at 2 rfl) Tryz.one3 (rfl))) ?_
  refine D.qY 3 rfl (Qt.nilCheck rfl) ?_
  refine D.qY 4 rfl (Qt.field Tryz.underlying243 rfl Tryz.cells140 rfl) ?_
  refine D.qY 5 rfl (Qt.indexB Tryz.underlying140 Tryz.cells49 rfl rfl (by omega)) ?_
  refine D.qY 6 rfl (Qt.load rfl (Ld.treeE (Has.ro hB) l Tryz.row49 Tryz.cells49 (by omega) rfl)) ?_
  refine D.opN (k := 7) (Sub.nil _) rfl (by kernel_rfl) (by kernel_rfl) rfl (OpV.storeV1 (v := hv (E l)) rfl rfl (hv_size Tryz.cells49) (hv_all _) (hv_len _) ⟨Sub.nil _, ?_⟩)
  refine D.done (Sub.nil _) (by kernel_rfl) ?_
  refine TC.ret ?_
  refine finQ.ret (RVs.cell rfl (Ld.all (Has.at 1 rfl) Tryz.row49 (hv_size Tryz.cells49)) RVs.nil) (Sub.nil _) ?_
  exact ⟨congrArg hv (valOr_none E ms _ hlk).symm, rfl⟩
theorem get_R (E : Nat → H32) (tb mb height : Nat) (ms : Tm) (l p : Nat) (hl : l ≤ 32) (w0 : World) (hB : Ro w0 [] (Blk tb 243 (treeCs E height mb))) (hM : Ro w0 [] (MapA mb encAt hv (ms))) : Calls Tryz.prog 135 #[.pointer (some ⟨tb, 0, none⟩), encAt (l, p)] w0 (Ret w0 (hv (getT E ms (l, p)))) := by
  cases hlk : Go.E.look (l, p) ms with
  | none => exact Calls.ret (get_walkN E tb mb height ms l p hl hlk w0 hB hM)
  | some h => exact Calls.ret (get_walkS E tb mb height ms l p hl h hlk w0 hB hM)

set_option maxHeartbeats 400000 in
theorem new_walk (E : Nat → H32) (hEm : ∀ w, Tabs 3 1 w [] → Calls Tryz.prog 55 #[] w (Ret w (.agg (hcs (emptL E)).toArray))) (height : Nat) (hh : height ≤ 32) (w0 : World) (hT : Tabs 3 1 w0 []) :
    Calls Tryz.prog 67 #[.int .i64 (height : Int)] w0 (Post w0 [] fun v L => ∃ tb mb, v = .tuple #[.pointer (some ⟨tb, 0, none⟩), .nilIface] ∧ L = [Blk tb 243 (treeCs E height mb), MapA mb encAt hv ([])]) := by
  refine Calls.of (L := []) (n := 16) (rs := [.tmp 2, .tmp 3]) Tryz.func67 rfl rfl rfl (Nat.le_of_ble_eq_true rfl) (Sat.nil _) ?_
  refine TC.seq ?_
  refine TC.region ?_
  refine S.as ?_
  refine S.as ?_
  refine S.nil ?_
  refine TC.seq ?_
  refine TC.seq ?_
  refine TC.region ?_
  refine S.mv ?_
  refine S.q rfl rfl (Qt.dF (Qt.lt (b := 0) rfl rfl) (by omega)) ?_
  refine S.mv ?_
  refine S.qg rfl rfl rfl (Qt.move (by conv => lhs; whnf)) ?_
  refine S.qg rfl rfl rfl (Qt.dF (Qt.gt (b := 32) rfl rfl) (by omega)) ?_
  refine S.q rfl rfl (Qt.pick_f rfl (by conv => lhs; whnf)) ?_
  refine S.nil ?_
  refine S.if_f rfl ?_
  refine TC.skip ?_
  refine TC.seq ?_
  refine TC.region ?_
  refine S.mv ?_
  refine S.opS rfl rfl (OpV.makeMap (enc := encAt) (encv := hv) (fun mb => ?_))
  refine S.opS rfl rfl (OpV.con0 Tryz.ent55 rfl (fun w hw => hEm w (hT.at hw)) ?_)
  refine S.q rfl rfl (Qt.as (Qt.buildS (vs := [.int .i64 (height : Int), .map (some mb), .agg (hcs (emptL E)).toArray]) (pls := #[(0, 1), (1, 1), (2, 1056)]) Tryz.underlying243 (fun w => by kernel_rfl) Tryz.zero243 rfl ⟨rfl, rfl, (by show some (2, 1056) = some (2, _); rw [vl_agg, hcs_length, emptL_length]), trivial⟩ (by simp [hcs_length, emptL_length, vl])) (show _ = Value.agg (treeCs E height mb).toArray by simp [treeCs, vl])) ?_
  refine S.opS rfl rfl (OpV.box (v := .agg (treeCs E height mb).toArray) rfl (fun b15 => ?_))
  refine S.as ?_
  refine S.as ?_
  refine S.nil ?_
  refine TC.ret ?_
  refine finQ.ret (RVs.tmp (by conv => lhs; whnf) (RVs.tmp (by conv => lhs; whnf) RVs.nil)) (Sub.refl _) ?_
  exact ⟨b15, mb, rfl, rfl⟩
set_option maxHeartbeats 400000 in
theorem node_walk (E : Nat → H32) (tb mb height : Nat) (ms : Tm) (l p : Nat) (ho : okAt height (l, p)) (hh : height ≤ 32) (w0 : World) (hB : Ro w0 [] (Blk tb 243 (treeCs E height mb))) (hM : Ro w0 [] (MapA mb encAt hv (ms))) :
    Calls Tryz.prog 141 #[.pointer (some ⟨tb, 0, none⟩), .int .i64 (l : Int), .int .u64 (p : Int)] w0 (Post w0 [] fun v L => v = .tuple #[hv (getT E ms (l, p)), .nilIface] ∧ L = []) := by
  refine Calls.of (L := []) (n := 27) (rs := [.cell 6 49, .tmp 7]) Tryz.func141 rfl rfl rfl (Nat.le_of_ble_eq_true rfl) (Sat.nil _) ?_
  refine TC.seq ?_
  refine TC.region ?_
  refine S.opS rfl rfl (OpV.alloc Tryz.zero49 (fun b6 => ?_))
  refine S.as ?_
  refine S.nil ?_
  refine TC.seq ?_
  refine TC.block ?_
  refine TC.seq ?_
  refine TC.region ?_
  refine S.mv ?_
  refine S.q rfl rfl (Qt.eqp_some Tryz.underlying155 rfl) ?_
  refine S.as ?_
  refine S.nil ?_
  refine S.if_f rfl ?_
  refine TC.seq ?_
  refine TC.region ?_
  refine S.mv ?_
  refine S.mv ?_
  refine S.mv ?_
  refine S.q rfl rfl (Qt.build2 (v := encAt (l, p)) (a := .int .i64 ((l : Nat) : Int)) (b := .int .u64 ((p : Nat) : Int)) rfl rfl (Tryz.buildAt (l) (p))) ?_
  refine S.opS rfl rfl (OpV.con0 Tryz.ent166 rfl (fun w hw => has_T E tb mb height l p hh ho w (Rd.ro hB w hw)) ?_)
  refine S.q rfl rfl (Qt.not_t rfl) ?_
  refine S.as ?_
  refine S.nil ?_
  refine S.if_f rfl ?_
  refine TC.skip ?_
  refine TC.seq ?_
  refine TC.region ?_
  refine S.mv ?_
  refine S.mv ?_
  refine S.mv ?_
  refine S.q rfl rfl (Qt.build2 (v := encAt (l, p)) (a := .int .i64 ((l : Nat) : Int)) (b := .int .u64 ((p : Nat) : Int)) rfl rfl (Tryz.buildAt (l) (p))) ?_
  refine S.opS rfl rfl (OpV.con0 Tryz.ent135 rfl (fun w hw => get_R E tb mb height ms l p (okAt_lt hh ho).1 w (Rd.ro hB w hw) (Rd.ro hM w hw)) ?_)
  refine S.opN rfl (OpV.storeV0 (v := hv (_)) rfl rfl (hv_size Tryz.cells49) (hv_all _) (hv_len _) ?_)
  refine S.as ?_
  refine S.nil ?_
  refine TC.ret ?_
  refine finQ.ret (RVs.cell rfl (Ld.all (Has.at 0 rfl) Tryz.row49 (hv_size Tryz.cells49)) (RVs.tmp (by conv => lhs; whnf) RVs.nil)) (Sub.nil _) ?_
  exact ⟨rfl, rfl⟩
set_option maxHeartbeats 400000 in
theorem leaf_walk (E : Nat → H32) (tb mb height : Nat) (ms : Tm) (i : Nat) (hh : height ≤ 32) (hi : i < 2 ^ height) (w0 : World) (hB : Ro w0 [] (Blk tb 243 (treeCs E height mb))) (hM : Ro w0 [] (MapA mb encAt hv (ms))) :
    Calls Tryz.prog 138 #[.pointer (some ⟨tb, 0, none⟩), .int .u64 (i : Int)] w0 (Post w0 [] fun v L => v = .tuple #[hv (getT E ms (0, i)), .nilIface] ∧ L = []) := by
  refine Calls.of (L := []) (n := 11) (rs := [.cell 4 49, .tmp 5]) Tryz.func138 rfl rfl rfl (Nat.le_of_ble_eq_true rfl) (Sat.nil _) ?_
  refine TC.seq ?_
  refine TC.region ?_
  refine S.opS rfl rfl (OpV.alloc Tryz.zero49 (fun b4 => ?_))
  refine S.as ?_
  refine S.nil ?_
  refine TC.seq ?_
  refine TC.region ?_
  refine S.mv ?_
  refine S.mv ?_
  refine S.opS rfl rfl (OpV.con0 Tryz.ent141 rfl (fun w hw => Calls.ret (node_walk E tb mb height ms 0 i (ok0 hi) hh w (Rd.ro hB w hw) (Rd.ro hM w hw))) ?_)
  refine S.q rfl rfl (Qt.extract rfl rfl) ?_
  refine S.q rfl rfl (Qt.extract rfl rfl) ?_
  refine S.opN rfl (OpV.storeV0 (v := hv (_)) rfl rfl (hv_size Tryz.cells49) (hv_all _) (hv_len _) ?_)
  refine S.as ?_
  refine S.nil ?_
  refine TC.ret ?_
  refine finQ.ret (RVs.cell rfl (Ld.all (Has.at 0 rfl) Tryz.row49 (hv_size Tryz.cells49)) (RVs.tmp (by conv => lhs; whnf) RVs.nil)) (Sub.nil _) ?_
  exact ⟨rfl, rfl⟩
theorem leaf_R (E : Nat → H32) (tb mb height : Nat) (ms : Tm) (i : Nat) (hh : height ≤ 32) (hi : i < 2 ^ height) (w0 : World) (hB : Ro w0 [] (Blk tb 243 (treeCs E height mb))) (hM : Ro w0 [] (MapA mb encAt hv (ms))) : Calls Tryz.prog 138 #[.pointer (some ⟨tb, 0, none⟩), .int .u64 (i : Int)] w0 (Ret w0 (.tuple #[hv (getT E ms (0, i)), .nilIface])) := Calls.ret (leaf_walk E tb mb height ms i hh hi w0 hB hM)

set_option maxHeartbeats 400000 in
theorem height85_walk (E : Nat → H32) (tb mb height : Nat) (w0 : World) (hB : Ro w0 [] (Blk tb 243 (treeCs E height mb))) :
    Calls Tryz.prog 80 #[.pointer (some ⟨tb, 0, none⟩)] w0 (Post w0 [] fun v L => v = .int .i64 (height : Int) ∧ L = []) := by
  refine Calls.of (L := []) (n := 9) (rs := [.tmp 2]) Tryz.func80 rfl rfl rfl (Nat.le_of_ble_eq_true rfl) (Sat.nil _) ?_
  refine TC.seq ?_
  refine TC.region ?_
  refine S.as ?_
  refine S.nil ?_
  refine TC.seq ?_
  refine TC.seq ?_
  refine TC.region ?_
  refine S.mv ?_
  refine S.q rfl rfl (Qt.eqp_some Tryz.underlying155 rfl) ?_
  refine S.nil ?_
  refine S.if_f rfl ?_
  refine TC.skip ?_
  refine TC.seq ?_
  refine TC.region ?_
  refine S.mv ?_
  refine S.q rfl rfl (Qt.nilCheck rfl) ?_
  refine S.q rfl rfl (Qt.field Tryz.underlying243 rfl Tryz.cells3 rfl) ?_
  refine S.q rfl rfl (Qt.load rfl (Ld.one (Has.ro hB) Tryz.one3 (rfl))) ?_
  refine S.as ?_
  refine S.nil ?_
  refine TC.ret ?_
  refine finQ.ret (RVs.tmp (by conv => lhs; whnf) RVs.nil) (Sub.nil _) ?_
  exact ⟨rfl, rfl⟩
theorem height85_R (E : Nat → H32) (tb mb height : Nat) (w0 : World) (hB : Ro w0 [] (Blk tb 243 (treeCs E height mb))) : Calls Tryz.prog 80 #[.pointer (some ⟨tb, 0, none⟩)] w0 (Ret w0 (.int .i64 (height : Int))) := Calls.ret (height85_walk E tb mb height w0 hB)

set_option maxHeartbeats 400000 in
theorem path_walk (E : Nat → H32) (tb mb height : Nat) (ms : Tm) (i : Nat) (hh : height ≤ 32) (hi : i < 2 ^ height) (w0 : World) (hB : Ro w0 [] (Blk tb 243 (treeCs E height mb))) (hM : Ro w0 [] (MapA mb encAt hv (ms))) :
    Calls Tryz.prog 153 #[.pointer (some ⟨tb, 0, none⟩), .int .u64 (i : Int)] w0 (Post w0 [] fun v L => ∃ O d, v = .tuple #[.slice O height d, .nilIface] ∧ L = [OwnA 49 32 O height d (hcs (pathT E ms height i))]) := by
  refine Calls.of (L := []) (n := 39) (rs := [.tmp 4, .tmp 5]) Tryz.func153 rfl rfl rfl (Nat.le_of_ble_eq_true rfl) (Sat.nil _) ?_
  have hi32 := pow32 hh hi
  refine TC.ownNil 49 32 ?_
  refine TC.seq ?_
  refine TC.region ?_
  refine S.as ?_
  refine S.as ?_
  refine S.nil ?_
  refine TC.seq ?_
  refine TC.block ?_
  refine TC.seq ?_
  refine TC.region ?_
  refine S.mv ?_
  refine S.q rfl rfl (Qt.eqp_some Tryz.underlying155 rfl) ?_
  refine S.as ?_
  refine S.nil ?_
  refine S.if_f rfl ?_
  refine TC.seq ?_
  refine TC.region ?_
  refine S.mv ?_
  refine S.mv ?_
  refine S.q rfl rfl (Qt.build2 (v := encAt (0, i)) (a := .int .i64 ((0 : Nat) : Int)) (b := .int .u64 ((i : Nat) : Int)) rfl rfl (Tryz.buildAt (0) (i))) ?_
  refine S.opS rfl rfl (OpV.con0 Tryz.ent166 rfl (fun w hw => has_T E tb mb height 0 i hh (ok0 hi) w (Rd.ro hB w hw)) ?_)
  refine S.q rfl rfl (Qt.not_t rfl) ?_
  refine S.as ?_
  refine S.nil ?_
  refine S.if_f rfl ?_
  refine TC.skip ?_
  refine TC.seq ?_
  refine TC.region ?_
  refine S.as ?_
  refine S.nil ?_
  refine TC.seq ?_
  refine TC.seq ?_
  refine TC.region ?_
  refine S.mv ?_
  refine S.q rfl rfl (Qt.nilCheck rfl) ?_
  refine S.q rfl rfl (Qt.field Tryz.underlying243 rfl Tryz.cells3 rfl) ?_
  refine S.q rfl rfl (Qt.load rfl (Ld.one (Has.ro hB) Tryz.one3 (rfl))) ?_
  refine S.mv ?_
  refine S.nil ?_
  refine TC.block ?_
  refine TC.loop (γ := Nat × Option Addr × Nat) [24, 25, 7, 26, 27, 28, 29, 30, 31, 32, 33, 34, 35, 36, 6, 37, 23] (fun g => [(23, .int .i64 ((g.1 : Nat) : Int)), (6, .slice g.2.1 g.1 g.2.2)]) (fun g => [OwnA 49 32 g.2.1 g.1 g.2.2 (hcs (pathT E ms g.1 i))]) (fun g => g.1 ≤ height) (fun g => height - g.1) ((0, none, 0))
    (Nat.zero_le _) ⟨Out.refl _ _, (List.forall_mem_cons.2 ⟨rfl, (List.forall_mem_cons.2 ⟨rfl, (fun _ h => nomatch h)⟩)⟩)⟩ (Sub.refl _) ?_
  rintro ⟨k, O, d⟩ u hk
  dsimp only at hk
  have hd1 := Nat.div_le_self i (2 ^ k)
  refine TC.seq ?_
  refine TC.region ?_
  refine S.dec rfl rfl (Qt.lt rfl rfl) (fun h24 => ?_) (fun h24 => ?_)
  · refine S.nil ?_
    refine TC.seq ?_
    refine S.if_t rfl ?_
    refine TC.skip ?_
    refine TC.seq ?_
    refine TC.block ?_
    refine TC.seq ?_
    refine TC.region ?_
    refine S.mv ?_
    refine S.as ?_
    refine S.nil ?_
    refine TC.region ?_
    refine S.mv ?_
    refine S.mv ?_
    refine S.mv ?_
    refine S.mv ?_
    refine S.mv ?_
    refine S.q rfl rfl (Qt.shrN rfl rfl (by simp only [kmax]; omega)) ?_
    refine S.q rfl rfl (Qt.xorN (b := 1) rfl rfl (by simp only [kmax]; omega) (by simp only [kmax]; omega)) ?_
    refine S.q rfl rfl (Qt.build2 (v := encAt (k, (i / 2 ^ k) ^^^ 1)) (a := .int .i64 ((k : Nat) : Int)) (b := .int .u64 (((i / 2 ^ k) ^^^ 1 : Nat) : Int)) rfl rfl (Tryz.buildAt (k) ((i / 2 ^ k) ^^^ 1))) ?_
    refine S.opS rfl rfl (OpV.con0 Tryz.ent135 rfl (fun w hw => get_R E tb mb height ms k ((i / 2 ^ k) ^^^ 1) (by omega) w (Rd.ro hB w hw) (Rd.ro hM w hw)) ?_)
    refine S.opS rfl rfl (OpV.slice1 (bytes := 32) (v := hv (getT E ms (k, (i / 2 ^ k) ^^^ 1))) Tryz.underlying33 Tryz.elem49 (by decide) rfl (hv_len _) (fun g35 => ?_))
    refine S.opS rfl rfl (OpV.app1 (bytes := 32) (news := hvl (getT E ms (k, (i / 2 ^ k) ^^^ 1))) Tryz.underlying33 Tryz.elem49 rfl rfl (Has.blk (cs := hvl (getT E ms (k, (i / 2 ^ k) ^^^ 1))) (Has.at 0 rfl)) (by rw [hvl_length]) (bytesL_one _) (by simp only [maxLen]; omega) (by omega) (fun O' d' => ?_))
    refine S.as ?_
    refine S.nil ?_
    refine TC.region ?_
    refine S.q rfl rfl (Qt.add (b := 1) rfl rfl (by simp only [kmax]; omega)) ?_
    refine S.mv ?_
    refine S.nil ?_
    refine ⟨(k + 1, O', d'), ?_, ?_, ⟨?_, (List.forall_mem_cons.2 ⟨rfl, (List.forall_mem_cons.2 ⟨rfl, (fun _ h => nomatch h)⟩)⟩)⟩, (by dsimp only; rw [pathT_step]; exact Sub.drop _ (Sub.refl _))⟩
    · show _ ≤ _; dsimp only; omega
    · show _ < _; dsimp only; omega
    repeat (first | exact Out.refl _ _ | refine Out.put rfl ?_ | refine Out.puts rfl ?_ | refine Out.scr ?_ | refine Out.scr' rfl ?_)
  · refine S.nil ?_
    refine TC.seq ?_
    refine S.if_f rfl ?_
    refine TC.exit ?_
    refine TC.seq ?_
    refine TC.region ?_
    refine S.mv ?_
    refine S.as ?_
    refine S.as ?_
    refine S.nil ?_
    refine TC.ret ?_
    refine finQ.ret (RVs.tmp (by conv => lhs; whnf) (RVs.tmp (by conv => lhs; whnf) RVs.nil)) (Sub.refl _) ?_
    obtain rfl : k = height := by omega
    exact ⟨O, d, rfl, rfl⟩
end Go.Proofs.YtgdjcmehlhebdaaGreatDoor
