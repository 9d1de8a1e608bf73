/-
  Walks: what the functions of the package sha compute. Printed by a program of ours.
-/
import Derived.Test.YtgdjcmehlhebdaaGreatDoorSH
import Derived.Test.YtgdjcmehlhebdaaGreatDoorE2
import Derived.Test.YtgdjcmehlhebdaaGreatDoorYF
namespace Go.Proofs.YtgdjcmehlhebdaaGreatDoor
open Go.E
set_option linter.unusedVariables false
set_option maxRecDepth 4000
set_option maxHeartbeats 400000 in
theorem rotl_walk (x : W) (k : Nat) (h1 : 1 ≤ k) (h2 : k ≤ 31) (w0 : World) :
    Calls Tryz.prog 212 #[.int .u32 (x.toNat : Int), .int .i64 (-(k : Int))] w0 (Post w0 [] fun v L => v = .int .u32 ((ror x k).toNat : Int) ∧ L = []) := by
  refine Calls.of (L := []) (n := 17) (rs := [.tmp 4]) Tryz.func212 rfl rfl rfl (Nat.le_of_ble_eq_true rfl) (Sat.nil _) ?_
  refine TC.seq ?_
  refine TC.region ?_
  refine S.as ?_
  refine S.nil ?_
  refine TC.seq ?_
  refine TC.region ?_
  refine S.mv ?_
  refine S.q rfl rfl (Qt.convNeg Tryz.underlying3 Tryz.underlying226 rfl h1 (by omega)) ?_
  refine S.q rfl rfl (Qt.as (Qt.andN (b := 31) rfl rfl (by simp only [kmax]; omega) (by simp only [kmax]; omega)) (by rw [rot_and h1 h2])) ?_
  refine S.as ?_
  refine S.nil ?_
  refine TC.seq ?_
  refine TC.region ?_
  refine S.mv ?_
  refine S.mv ?_
  refine S.q rfl rfl (Qt.shl32 rfl rfl (by omega)) ?_
  refine S.mv ?_
  refine S.mv ?_
  refine S.q rfl rfl (Qt.sub (a := 32) rfl rfl (by omega) (by simp only [kmax]; omega)) ?_
  refine S.q rfl rfl (Qt.shr32 rfl rfl) ?_
  refine S.q rfl rfl (Qt.or32 rfl rfl) ?_
  refine S.as ?_
  refine S.nil ?_
  refine TC.ret ?_
  refine finQ.ret (RVs.tmp (by conv => lhs; whnf) RVs.nil) (Sub.nil _) ?_
  exact ⟨by rw [rol_ror x (by omega)]; rfl, rfl⟩
theorem rotl_R (x : W) (k : Nat) (h1 : 1 ≤ k) (h2 : k ≤ 31) (w0 : World) : Calls Tryz.prog 212 #[.int .u32 (x.toNat : Int), .int .i64 (-(k : Int))] w0 (Ret w0 (.int .u32 ((ror x k).toNat : Int))) := Calls.ret (rotl_walk x k h1 h2 w0)

set_option maxHeartbeats 400000 in
theorem turn_walk (x : W) (k : Nat) (h1 : 1 ≤ k) (h2 : k ≤ 31) (w0 : World) :
    Calls Tryz.prog 199 #[.int .u32 (x.toNat : Int), .int .i64 (k : Int)] w0 (Post w0 [] fun v L => v = .int .u32 ((ror x k).toNat : Int) ∧ L = []) := by
  refine Calls.of (L := []) (n := 9) (rs := [.tmp 4]) Tryz.func199 rfl rfl rfl (Nat.le_of_ble_eq_true rfl) (Sat.nil _) ?_
  refine TC.seq ?_
  refine TC.region ?_
  refine S.as ?_
  refine S.nil ?_
  refine TC.seq ?_
  refine TC.region ?_
  refine S.mv ?_
  refine S.mv ?_
  refine S.q rfl rfl (Qt.negi rfl (IntWalk.i64_in _ (by omega))) ?_
  refine S.opS rfl rfl (OpV.con0 Tryz.ent212 rfl (fun w hw => rotl_R x k h1 h2 w) ?_)
  refine S.as ?_
  refine S.nil ?_
  refine TC.ret ?_
  refine finQ.ret (RVs.tmp (by conv => lhs; whnf) RVs.nil) (Sub.nil _) ?_
  exact ⟨rfl, rfl⟩
theorem turn_R (x : W) (k : Nat) (h1 : 1 ≤ k) (h2 : k ≤ 31) (w0 : World) : Calls Tryz.prog 199 #[.int .u32 (x.toNat : Int), .int .i64 (k : Int)] w0 (Ret w0 (.int .u32 ((ror x k).toNat : Int))) := Calls.ret (turn_walk x k h1 h2 w0)

set_option maxHeartbeats 400000 in
theorem rturn_walk (x : W) (k : Nat) (h1 : 1 ≤ k) (h2 : k ≤ 31) (w0 : World) :
    Calls Tryz.prog 181 #[.int .u32 (x.toNat : Int), .int .i64 (k : Int)] w0 (Post w0 [] fun v L => v = .int .u32 ((ror x k).toNat : Int) ∧ L = []) := by
  refine Calls.of (L := []) (n := 15) (rs := [.tmp 4]) Tryz.func181 rfl rfl rfl (Nat.le_of_ble_eq_true rfl) (Sat.nil _) ?_
  refine TC.seq ?_
  refine TC.region ?_
  refine S.as ?_
  refine S.nil ?_
  refine TC.seq ?_
  refine TC.region ?_
  refine S.mv ?_
  refine S.mv ?_
  refine S.q rfl rfl (Qt.convert Tryz.underlying3 Tryz.underlying226 rfl (by simp only [kmax]; omega)) ?_
  refine S.q rfl rfl (Qt.shr32 rfl rfl) ?_
  refine S.mv ?_
  refine S.mv ?_
  refine S.q rfl rfl (Qt.sub (a := 32) rfl rfl (by omega) (by simp only [kmax]; omega)) ?_
  refine S.q rfl rfl (Qt.convert Tryz.underlying3 Tryz.underlying226 rfl (by simp only [kmax]; omega)) ?_
  refine S.q rfl rfl (Qt.shl32 rfl rfl (by omega)) ?_
  refine S.q rfl rfl (Qt.or32 rfl rfl) ?_
  refine S.as ?_
  refine S.nil ?_
  refine TC.ret ?_
  refine finQ.ret (RVs.tmp (by conv => lhs; whnf) RVs.nil) (Sub.nil _) ?_
  exact ⟨rfl, rfl⟩
theorem rturn_R (x : W) (k : Nat) (h1 : 1 ≤ k) (h2 : k ≤ 31) (w0 : World) : Calls Tryz.prog 181 #[.int .u32 (x.toNat : Int), .int .i64 (k : Int)] w0 (Ret w0 (.int .u32 ((ror x k).toNat : Int))) := Calls.ret (rturn_walk x k h1 h2 w0)

set_option maxHeartbeats 400000 in
theorem word_walk (A : Option Addr) (c : Nat) (b : List UInt8) (w0 : World) (hR : Ro w0 [] (SlA A (bytesL b))) (h : b.length = 4) :
    Calls Tryz.prog 211 #[.slice A 4 c] w0 (Post w0 [] fun v L => v = .int .u32 ((wordAt b 0).toNat : Int) ∧ L = []) := by
  refine Calls.of (L := []) (n := 25) (rs := [.tmp 2]) Tryz.func211 rfl rfl rfl (Nat.le_of_ble_eq_true rfl) (Sat.nil _) ?_
  refine TC.seq ?_
  refine TC.region ?_
  refine S.as ?_
  refine S.nil ?_
  refine TC.seq ?_
  refine S.draw ([], []) Tryz.mixed (Sub.refl _) ?_
  refine D.qY 0 rfl (Qt.move (by conv => lhs; whnf)) ?_
  refine D.qY 1 rfl (Qt.index (i := 0) Tryz.underlying112 Tryz.cells5 rfl rfl (by omega) (Has.ro hR) (by rw [bytesL_length]; omega)) ?_
  refine D.qY 2 rfl (Qt.load rfl (Ld.sl (Has.ro hR) Tryz.one5 (bytesG (by omega) rfl))) ?_
  refine D.qY 3 rfl (Qt.u8to32 Tryz.underlying5 Tryz.underlying223 rfl) ?_
  refine D.qY 4 rfl (Qt.shl32 (s := 24) rfl rfl (by omega)) ?_
  refine D.qY 5 rfl (Qt.move (by conv => lhs; whnf)) ?_
  refine D.qY 6 rfl (Qt.index (i := 1) Tryz.underlying112 Tryz.cells5 rfl rfl (by omega) (Has.ro hR) (by rw [bytesL_length]; omega)) ?_
  refine D.qY 7 rfl (Qt.load rfl (Ld.sl (Has.ro hR) Tryz.one5 (bytesG (by omega) rfl))) ?_
  refine D.qY 8 rfl (Qt.u8to32 Tryz.underlying5 Tryz.underlying223 rfl) ?_
  refine D.qY 9 rfl (Qt.shl32 (s := 16) rfl rfl (by omega)) ?_
  refine D.qY 10 rfl (Qt.or32 rfl rfl) ?_
  refine D.qY 11 rfl (Qt.move (by conv => lhs; whnf)) ?_
  refine D.qY 12 rfl (Qt.index (i := 2) Tryz.underlying112 Tryz.cells5 rfl rfl (by omega) (Has.ro hR) (by rw [bytesL_length]; omega)) ?_
  refine D.qY 13 rfl (Qt.load rfl (Ld.sl (Has.ro hR) Tryz.one5 (bytesG (by omega) rfl))) ?_
  refine D.qY 14 rfl (Qt.u8to32 Tryz.underlying5 Tryz.underlying223 rfl) ?_
  refine D.qY 15 rfl (Qt.shl32 (s := 8) rfl rfl (by omega)) ?_
  refine D.qY 16 rfl (Qt.or32 rfl rfl) ?_
  refine D.qY 17 rfl (Qt.move (by conv => lhs; whnf)) ?_
  refine D.qY 18 rfl (Qt.index (i := 3) Tryz.underlying112 Tryz.cells5 rfl rfl (by omega) (Has.ro hR) (by rw [bytesL_length]; omega)) ?_
  refine D.qY 19 rfl (Qt.load rfl (Ld.sl (Has.ro hR) Tryz.one5 (bytesG (by omega) rfl))) ?_
  refine D.qY 20 rfl (Qt.u8to32 Tryz.underlying5 Tryz.underlying223 rfl) ?_
  refine D.qY 21 rfl (Qt.or32 rfl rfl) ?_
  refine D.qY 22 rfl (Qt.assign (by conv => lhs; whnf)) ?_
  refine D.done (Sub.refl _) (by kernel_rfl) ?_
  refine TC.ret ?_
  refine finQ.ret (RVs.tmp (by conv => lhs; whnf) RVs.nil) (Sub.nil _) ?_
  exact ⟨rfl, rfl⟩
theorem word_R (A : Option Addr) (c : Nat) (b : List UInt8) (w0 : World) (hR : Ro w0 [] (SlA A (bytesL b))) (h : b.length = 4) : Calls Tryz.prog 211 #[.slice A 4 c] w0 (Ret w0 (.int .u32 ((wordAt b 0).toNat : Int))) := Calls.ret (word_walk A c b w0 hR h)

set_option maxHeartbeats 400000 in
theorem spread_walk (bl : List UInt8) (hb : bl.length = 64) (w0 : World) :
    Calls Tryz.prog 198 #[.agg (bytesL bl).toArray] w0 (Post w0 [] fun v L => v = .agg (w32s (sched bl 64)).toArray ∧ L = []) := by
  refine Calls.of (L := []) (n := 60) (rs := [.cell 2 302]) Tryz.func198 rfl rfl rfl (Nat.le_of_ble_eq_true rfl) (Sat.nil _) ?_
  refine TC.seq ?_
  refine TC.region ?_
  refine S.opS rfl rfl (OpV.box (by conv => lhs; whnf) (fun b1 => ?_))
  refine S.opS rfl rfl (OpV.alloc Tryz.zero302 (fun b2 => ?_))
  refine S.nil ?_
  refine TC.seq ?_
  refine TC.region ?_
  refine S.opS rfl rfl (OpV.alloc Tryz.zero302 (fun b3 => ?_))
  refine S.nil ?_
  refine TC.seq ?_
  refine TC.seq ?_
  refine TC.region ?_
  refine S.mv ?_
  refine S.nil ?_
  refine TC.block ?_
  refine TC.loop (γ := Nat) [8, 9, 4, 10, 11, 12, 13, 14, 15, 16, 17, 18, 19, 20, 21, 22, 23, 24, 25, 26, 27, 28, 5, 6, 29, 30, 31, 32, 33, 34, 35, 36, 37, 38, 39, 40, 41, 42, 43, 44, 45, 46, 47, 48, 49, 50, 51, 52, 53, 54, 55, 56, 57, 58, 7] (fun k => [(7, .int .i64 (k : Int))]) (fun k => [Blk b3 302 (w32s (schedA bl k)), Blk b2 302 (List.replicate 64 (.int .u32 0)), Blk b1 289 (bytesL bl)]) (fun k => k ≤ 64) (fun k => 64 - k) (0)
    (by omega) ⟨Out.refl _ _, (List.forall_mem_cons.2 ⟨rfl, (fun _ h => nomatch h)⟩)⟩ ((by rw [schedA_zero]; exact Sub.refl _)) ?_
  rintro k u hk
  refine TC.seq ?_
  refine TC.region ?_
  refine S.dec rfl rfl (Qt.lt (b := 64) rfl rfl) (fun h8 => ?_) (fun h8 => ?_)
  · refine S.nil ?_
    refine TC.seq ?_
    refine S.if_t rfl ?_
    refine TC.skip ?_
    refine TC.seq ?_
    refine TC.block ?_
    refine TC.seq ?_
    refine TC.region ?_
    refine S.mv ?_
    refine S.as ?_
    refine S.nil ?_
    refine TC.seq ?_
    refine TC.seq ?_
    refine TC.region ?_
    refine S.mv ?_
    refine S.dec rfl rfl (Qt.lt (b := 16) rfl rfl) (fun h11 => ?_) (fun h11 => ?_)
    · refine S.nil ?_
      refine S.if_t rfl ?_
      refine TC.seq ?_
      refine TC.region ?_
      refine S.mv ?_
      refine S.mv ?_
      refine S.q rfl rfl (Qt.mul (a := 4) rfl rfl (by simp only [kmax]; omega)) ?_
      refine S.mv ?_
      refine S.q rfl rfl (Qt.mul (a := 4) rfl rfl (by simp only [kmax]; omega)) ?_
      refine S.q rfl rfl (Qt.add (b := 4) rfl rfl (by simp only [kmax]; omega)) ?_
      refine S.q rfl rfl (Qt.as (v' := .slice (some ⟨b1, 0 + 4 * k * 1, none⟩) 4 (64 - 4 * k)) (Qt.sliceB_lohi Tryz.underlying289 Tryz.cells5 rfl rfl rfl (by omega) (by omega) (by omega)) (by rw [show 4 * k + 4 - 4 * k = 4 by omega])) ?_
      refine S.opS rfl rfl (OpV.con0 Tryz.ent211 rfl (fun w hw => word_R _ _ _ w (Rd.bytesPart (Rd.at 2 rfl) (0 + 4 * k * 1) 4 w hw) (part_length _ _ _ (by omega))) ?_)
      refine S.q rfl rfl (Qt.indexB Tryz.underlying302 Tryz.cells223 rfl rfl (by omega)) ?_
      refine S.opN rfl (OpV.storeE0 rfl (by conv => lhs; whnf) Tryz.cells223 rfl rfl (by rw [w32s_length, schedA_length bl (by omega)]; omega) (by rw [Nat.zero_add, Nat.mul_one, w32s_set, schedA_set bl (by omega) _ (by rw [word_part, nextW, if_pos h11]; simp)]) ?_)
      refine S.nil ?_
      refine TC.exit ?_
      refine TC.region ?_
      refine S.q rfl rfl (Qt.add (b := 1) rfl rfl (by simp only [kmax]; omega)) ?_
      refine S.mv ?_
      refine S.nil ?_
      refine ⟨k + 1, ?_, ?_, ⟨?_, (List.forall_mem_cons.2 ⟨rfl, (fun _ h => nomatch h)⟩)⟩, Sub.refl _⟩
      · show _ ≤ _; omega
      · show _ < _; dsimp only; omega
      repeat (first | exact Out.refl _ _ | refine Out.put rfl ?_ | refine Out.puts rfl ?_ | refine Out.scr ?_ | refine Out.scr' rfl ?_)
    · refine S.nil ?_
      refine S.if_f rfl ?_
      refine TC.skip ?_
      refine TC.seq ?_
      refine S.draw ([], []) Tryz.mixed (Sub.nil _) ?_
      refine D.qY 0 rfl (Qt.move (by conv => lhs; whnf)) ?_
      refine D.qY 1 rfl (Qt.sub (b := 15) rfl rfl (by omega) (by simp only [kmax]; omega)) ?_
      refine D.qY 2 rfl (Qt.indexB Tryz.underlying302 Tryz.cells223 rfl rfl (by omega)) ?_
      refine D.qY 3 rfl (Qt.load rfl (Ld.one (Has.at 0 rfl) Tryz.one223 (w32s_get (i := k - 15) (by rw [schedA_length bl (by omega)]; omega) (by omega)))) ?_
      refine D.qY 4 rfl (Qt.move (by conv => lhs; whnf)) ?_
      refine D.qY 5 rfl (Qt.sub (b := 2) rfl rfl (by omega) (by simp only [kmax]; omega)) ?_
      refine D.qY 6 rfl (Qt.indexB Tryz.underlying302 Tryz.cells223 rfl rfl (by omega)) ?_
      refine D.qY 7 rfl (Qt.load rfl (Ld.one (Has.at 0 rfl) Tryz.one223 (w32s_get (i := k - 2) (by rw [schedA_length bl (by omega)]; omega) (by omega)))) ?_
      refine D.qY 8 rfl (Qt.assign (by conv => lhs; whnf)) ?_
      refine D.qY 9 rfl (Qt.assign (by conv => lhs; whnf)) ?_
      refine D.done (Sub.nil _) (by kernel_rfl) ?_
      refine S.draw ([29], []) Tryz.mixed (Sub.drop _ (Sub.keep _ (Sub.keep _ (Sub.nil [])))) ?_
      refine D.qY 0 rfl (Qt.move (by conv => lhs; whnf)) ?_
      refine D.qY 1 rfl (Qt.move (by conv => lhs; whnf)) ?_
      refine D.qY 2 rfl (Qt.sub (b := 16) rfl rfl (by omega) (by simp only [kmax]; omega)) ?_
      refine D.qY 3 rfl (Qt.indexB Tryz.underlying302 Tryz.cells223 rfl rfl (by omega)) ?_
      refine D.qY 4 rfl (Qt.load rfl (Ld.one (Has.at 0 rfl) Tryz.one223 (w32s_get (i := k - 16) (by rw [schedA_length bl (by omega)]; omega) (by omega)))) ?_
      refine D.qY 5 rfl (Qt.move (by conv => lhs; whnf)) ?_
      refine D.cX (k := 6) rfl (by kernel_rfl) (by kernel_rfl) (by kernel_rfl) rfl rfl (CalU.con0 Tryz.ent199 rfl (fun w hw => turn_R _ 7 (by decide) (by decide) w)) ?_
      refine D.qY 7 rfl (Qt.move (by conv => lhs; whnf)) ?_
      refine D.cX (k := 8) rfl (by kernel_rfl) (by kernel_rfl) (by kernel_rfl) rfl rfl (CalU.con0 Tryz.ent199 rfl (fun w hw => turn_R _ 18 (by decide) (by decide) w)) ?_
      refine D.qY 9 rfl (Qt.xor32 rfl rfl) ?_
      refine D.qY 10 rfl (Qt.move (by conv => lhs; whnf)) ?_
      refine D.qY 11 rfl (Qt.shr32 (s := 3) rfl rfl) ?_
      refine D.qY 12 rfl (Qt.xor32 rfl rfl) ?_
      refine D.qY 13 rfl (Qt.add32 rfl rfl) ?_
      refine D.qY 14 rfl (Qt.move (by conv => lhs; whnf)) ?_
      refine D.qY 15 rfl (Qt.sub (b := 7) rfl rfl (by omega) (by simp only [kmax]; omega)) ?_
      refine D.qY 16 rfl (Qt.indexB Tryz.underlying302 Tryz.cells223 rfl rfl (by omega)) ?_
      refine D.qY 17 rfl (Qt.load rfl (Ld.one (Has.at 0 rfl) Tryz.one223 (w32s_get (i := k - 7) (by rw [schedA_length bl (by omega)]; omega) (by omega)))) ?_
      refine D.qY 18 rfl (Qt.add32 rfl rfl) ?_
      refine D.qY 19 rfl (Qt.move (by conv => lhs; whnf)) ?_
      refine D.cX (k := 20) rfl (by kernel_rfl) (by kernel_rfl) (by kernel_rfl) rfl rfl (CalU.con0 Tryz.ent199 rfl (fun w hw => turn_R _ 17 (by decide) (by decide) w)) ?_
      refine D.qY 21 rfl (Qt.move (by conv => lhs; whnf)) ?_
      refine D.cX (k := 22) rfl (by kernel_rfl) (by kernel_rfl) (by kernel_rfl) rfl rfl (CalU.con0 Tryz.ent199 rfl (fun w hw => turn_R _ 19 (by decide) (by decide) w)) ?_
      refine D.qY 23 rfl (Qt.xor32 rfl rfl) ?_
      refine D.qY 24 rfl (Qt.move (by conv => lhs; whnf)) ?_
      refine D.qY 25 rfl (Qt.shr32 (s := 10) rfl rfl) ?_
      refine D.qY 26 rfl (Qt.xor32 rfl rfl) ?_
      refine D.qY 27 rfl (Qt.add32 rfl rfl) ?_
      refine D.qY 28 rfl (Qt.indexB Tryz.underlying302 Tryz.cells223 rfl rfl (by omega)) ?_
      refine D.opN (k := 29) (Sub.drop _ (Sub.keep _ (Sub.keep _ (Sub.nil [])))) rfl (by kernel_rfl) (by kernel_rfl) rfl (OpV.storeE0 rfl (by conv => lhs; whnf) Tryz.cells223 rfl rfl (by rw [w32s_length, schedA_length bl (by omega)]; omega) (by rw [Nat.zero_add, Nat.mul_one, w32s_set, schedA_set bl (by omega) _ (by rw [nextW, if_neg h11, schedA_get bl (by omega), schedA_get bl (by omega), schedA_get bl (by omega), schedA_get bl (by omega)]; rfl)]) ⟨Sub.drop _ (Sub.keep _ (Sub.keep _ (Sub.nil []))), ?_⟩)
      refine D.done (Sub.drop _ (Sub.keep _ (Sub.keep _ (Sub.nil [])))) (by kernel_rfl) ?_
      refine TC.region ?_
      refine S.q rfl rfl (Qt.add (b := 1) rfl rfl (by simp only [kmax]; omega)) ?_
      refine S.mv ?_
      refine S.nil ?_
      refine ⟨k + 1, ?_, ?_, ⟨?_, (List.forall_mem_cons.2 ⟨rfl, (fun _ h => nomatch h)⟩)⟩, Sub.refl _⟩
      · show _ ≤ _; omega
      · show _ < _; dsimp only; omega
      repeat (first | exact Out.refl _ _ | refine Out.put rfl ?_ | refine Out.puts rfl ?_ | refine Out.scr ?_ | refine Out.scr' rfl ?_)
  · refine S.nil ?_
    refine TC.seq ?_
    refine S.if_f rfl ?_
    refine TC.exit ?_
    refine TC.seq ?_
    refine TC.region ?_
    refine S.q rfl rfl (Qt.load rfl (Ld.all (Has.at 0 rfl) Tryz.row302 (by rw [w32s_length, schedA_length bl (by omega)]; exact Tryz.cells302))) ?_
    refine S.opN rfl (OpV.storeV1 (v := .agg (w32s (schedA bl k)).toArray) rfl rfl (by rw [vl_agg, w32s_length, schedA_length bl (by omega)]; exact Tryz.cells302) (w32s_all _) (by rw [vl_agg, w32s_length, schedA_length bl (by omega)]; rfl) ?_)
    refine S.nil ?_
    refine TC.ret ?_
    refine finQ.ret (RVs.cell rfl (Ld.all (Has.at 1 rfl) Tryz.row302 (by rw [vl_agg, w32s_length, schedA_length bl (by omega)]; exact Tryz.cells302)) RVs.nil) (Sub.nil _) ?_
    have e : schedA bl k = sched bl 64 := by rw [show k = 64 by omega, schedA_all]
    rw [← e]
    exact ⟨rfl, rfl⟩
theorem spread_R (bl : List UInt8) (hb : bl.length = 64) (w0 : World) : Calls Tryz.prog 198 #[.agg (bytesL bl).toArray] w0 (Ret w0 (.agg (w32s (sched bl 64)).toArray)) := Calls.ret (spread_walk bl hb w0)

set_option maxHeartbeats 400000 in
theorem compress_walk0 (s : List W) (bl : List UInt8) (ws : List W) (hs : s.length = 8) (hb : bl.length = 64) (hws : ws = sched bl 64) (hwl : ws.length = 64) (w0 : World) (hT : Tabs 3 1 w0 []) :
    Calls Tryz.prog 173 #[.agg (w32s s).toArray, .agg (bytesL bl).toArray] w0 (Post w0 [] fun v L => v = .agg (w32s (plus8 (rnds s ws 64) s)).toArray ∧ L = []) := by
  refine Calls.of (L := []) (n := 110) (rs := [.cell 4 224]) Tryz.func173 rfl rfl rfl (Nat.le_of_ble_eq_true rfl) (Sat.nil _) ?_
  refine TC.seq ?_
  refine TC.region ?_
  refine S.opS rfl rfl (OpV.box (by conv => lhs; whnf) (fun b2 => ?_))
  refine S.opS rfl rfl (OpV.box (by conv => lhs; whnf) (fun b3 => ?_))
  refine S.opS rfl rfl (OpV.alloc Tryz.zero224 (fun b4 => ?_))
  refine S.nil ?_
  refine TC.seq ?_
  refine TC.region ?_
  refine S.q rfl rfl (Qt.load rfl (Ld.all (Has.at 2 rfl) Tryz.row224 (by rw [vl_agg, w32s_length, hs]; exact Tryz.cells224))) ?_
  refine S.opS rfl rfl (OpV.alloc Tryz.zero224 (fun b5 => ?_))
  refine S.opN rfl (OpV.storeV0 (v := .agg (w32s s).toArray) rfl rfl (by rw [vl_agg, w32s_length, hs]; exact Tryz.cells224) (w32s_all _) (by rw [vl_agg, w32s_length, hs]; rfl) ?_)
  refine S.nil ?_
  refine TC.seq ?_
  refine TC.seq ?_
  refine TC.region ?_
  refine S.q rfl rfl (Qt.load rfl (Ld.all (Has.at 2 rfl) Tryz.row289 (by rw [vl_agg, bytesL_length, hb]; exact Tryz.cells289))) ?_
  refine S.opS rfl rfl (OpV.con0 Tryz.ent198 rfl (fun w hw => (by rw [hws]; exact spread_R bl hb w : Calls Tryz.prog 198 #[.agg (bytesL bl).toArray] w (Ret w (.agg (w32s ws).toArray)))) ?_)
  refine S.mv ?_
  refine S.nil ?_
  refine TC.block ?_
  refine TC.loop (γ := Nat) [21, 22, 23, 6, 7, 24, 25, 26, 27, 28, 29, 30, 31, 32, 33, 34, 35, 8, 9, 10, 11, 12, 13, 36, 37, 38, 39, 40, 41, 42, 43, 44, 45, 46, 47, 48, 49, 50, 51, 52, 53, 54, 55, 56, 57, 58, 59, 60, 61, 14, 62, 63, 64, 65, 66, 67, 68, 69, 70, 71, 72, 73, 74, 75, 76, 77, 78, 79, 80, 81, 15, 82, 83, 84, 85, 86, 87, 88, 89, 90, 91, 92, 93, 94, 95, 96, 20] (fun k => [(20, .int .i64 (k : Int))]) (fun k => [Blk b5 224 (w32s (rnds s ws k)), Blk b4 224 (List.replicate 8 (.int .u32 0)), Blk b3 289 (bytesL bl), Blk b2 224 (w32s s)]) (fun k => k ≤ 64) (fun k => 64 - k) (0)
    (by omega) ⟨Out.refl _ _, (List.forall_mem_cons.2 ⟨rfl, (fun _ h => nomatch h)⟩)⟩ (Sub.refl _) ?_
  rintro k u hk
  refine TC.seq ?_
  refine TC.region ?_
  refine S.dec rfl rfl (Qt.lt (b := 64) rfl rfl) (fun h21 => ?_) (fun h21 => ?_)
  · refine S.nil ?_
    refine TC.seq ?_
    refine S.if_t rfl ?_
    refine TC.skip ?_
    refine TC.seq ?_
    refine TC.block ?_
    refine TC.seq ?_
    refine TC.region ?_
    refine S.mv ?_
    refine S.q rfl rfl (Qt.index_agg Tryz.underlying302 Tryz.cells223 Tryz.plain223 rfl rfl (by omega) (w32s_aget (by rw [hwl]; omega))) ?_
    refine S.as ?_
    refine S.as ?_
    refine S.nil ?_
    refine TC.seq ?_
    refine S.draw ([], []) Tryz.mixed (Sub.nil _) ?_
    refine D.qY 0 rfl (Qt.indexB (i := 0) Tryz.underlying224 Tryz.cells223 rfl rfl (by omega)) ?_
    refine D.qY 1 rfl (Qt.load rfl (Ld.one (Has.at 0 rfl) Tryz.one223 (w32s_get (i := 0) (by rw [rnds_length hs]; decide) rfl))) ?_
    refine D.qY 2 rfl (Qt.indexB (i := 1) Tryz.underlying224 Tryz.cells223 rfl rfl (by omega)) ?_
    refine D.qY 3 rfl (Qt.load rfl (Ld.one (Has.at 0 rfl) Tryz.one223 (w32s_get (i := 1) (by rw [rnds_length hs]; decide) rfl))) ?_
    refine D.qY 4 rfl (Qt.indexB (i := 2) Tryz.underlying224 Tryz.cells223 rfl rfl (by omega)) ?_
    refine D.qY 5 rfl (Qt.load rfl (Ld.one (Has.at 0 rfl) Tryz.one223 (w32s_get (i := 2) (by rw [rnds_length hs]; decide) rfl))) ?_
    refine D.qY 6 rfl (Qt.indexB (i := 4) Tryz.underlying224 Tryz.cells223 rfl rfl (by omega)) ?_
    refine D.qY 7 rfl (Qt.load rfl (Ld.one (Has.at 0 rfl) Tryz.one223 (w32s_get (i := 4) (by rw [rnds_length hs]; decide) rfl))) ?_
    refine D.qY 8 rfl (Qt.indexB (i := 5) Tryz.underlying224 Tryz.cells223 rfl rfl (by omega)) ?_
    refine D.qY 9 rfl (Qt.load rfl (Ld.one (Has.at 0 rfl) Tryz.one223 (w32s_get (i := 5) (by rw [rnds_length hs]; decide) rfl))) ?_
    refine D.qY 10 rfl (Qt.indexB (i := 6) Tryz.underlying224 Tryz.cells223 rfl rfl (by omega)) ?_
    refine D.qY 11 rfl (Qt.load rfl (Ld.one (Has.at 0 rfl) Tryz.one223 (w32s_get (i := 6) (by rw [rnds_length hs]; decide) rfl))) ?_
    refine D.qY 12 rfl (Qt.assign (by conv => lhs; whnf)) ?_
    refine D.qY 13 rfl (Qt.assign (by conv => lhs; whnf)) ?_
    refine D.qY 14 rfl (Qt.assign (by conv => lhs; whnf)) ?_
    refine D.qY 15 rfl (Qt.assign (by conv => lhs; whnf)) ?_
    refine D.qY 16 rfl (Qt.assign (by conv => lhs; whnf)) ?_
    refine D.qY 17 rfl (Qt.assign (by conv => lhs; whnf)) ?_
    refine D.done (Sub.nil _) (by kernel_rfl) ?_
    refine TC.seq ?_
    refine S.draw ([], []) Tryz.mixed (Sub.nil _) ?_
    refine D.qY 0 rfl (Qt.indexB (i := 7) Tryz.underlying224 Tryz.cells223 rfl rfl (by omega)) ?_
    refine D.qY 1 rfl (Qt.load rfl (Ld.one (Has.at 0 rfl) Tryz.one223 (w32s_get (i := 7) (by rw [rnds_length hs]; decide) rfl))) ?_
    refine D.qY 2 rfl (Qt.move (by conv => lhs; whnf)) ?_
    refine D.cX (k := 3) rfl (by kernel_rfl) (by kernel_rfl) (by kernel_rfl) rfl rfl (CalU.con0 Tryz.ent199 rfl (fun w hw => turn_R _ 6 (by decide) (by decide) w)) ?_
    refine D.qY 4 rfl (Qt.move (by conv => lhs; whnf)) ?_
    refine D.cX (k := 5) rfl (by kernel_rfl) (by kernel_rfl) (by kernel_rfl) rfl rfl (CalU.con0 Tryz.ent199 rfl (fun w hw => turn_R _ 11 (by decide) (by decide) w)) ?_
    refine D.qY 6 rfl (Qt.xor32 rfl rfl) ?_
    refine D.qY 7 rfl (Qt.move (by conv => lhs; whnf)) ?_
    refine D.cX (k := 8) rfl (by kernel_rfl) (by kernel_rfl) (by kernel_rfl) rfl rfl (CalU.con0 Tryz.ent199 rfl (fun w hw => turn_R _ 25 (by decide) (by decide) w)) ?_
    refine D.qY 9 rfl (Qt.xor32 rfl rfl) ?_
    refine D.qY 10 rfl (Qt.add32 rfl rfl) ?_
    refine D.qY 11 rfl (Qt.move (by conv => lhs; whnf)) ?_
    refine D.qY 12 rfl (Qt.move (by conv => lhs; whnf)) ?_
    refine D.qY 13 rfl (Qt.and32 rfl rfl) ?_
    refine D.qY 14 rfl (Qt.move (by conv => lhs; whnf)) ?_
    refine D.qY 15 rfl (Qt.not32 rfl) ?_
    refine D.qY 16 rfl (Qt.move (by conv => lhs; whnf)) ?_
    refine D.qY 17 rfl (Qt.and32 rfl rfl) ?_
    refine D.qY 18 rfl (Qt.xor32 rfl rfl) ?_
    refine D.qY 19 rfl (Qt.add32 rfl rfl) ?_
    refine D.qY 20 rfl (Qt.move (by conv => lhs; whnf)) ?_
    refine D.qY 21 rfl (Qt.indexB Tryz.underlying302 Tryz.cells223 rfl rfl (by omega)) ?_
    refine D.qY 22 rfl (Qt.load rfl (Ld.slB (Has.ro hT.1) Tryz.one223 (w32s_get (i := k) (by rw [K256_length]; omega) (by omega)))) ?_
    refine D.qY 23 rfl (Qt.add32 rfl rfl) ?_
    refine D.qY 24 rfl (Qt.move (by conv => lhs; whnf)) ?_
    refine D.qY 25 rfl (Qt.add32 rfl rfl) ?_
    refine D.qY 26 rfl (Qt.assign (by conv => lhs; whnf)) ?_
    refine D.done (Sub.nil _) (by kernel_rfl) ?_
    refine TC.seq ?_
    refine TC.region ?_
    refine S.mv ?_
    refine S.opS rfl rfl (OpV.con0 Tryz.ent199 rfl (fun w hw => turn_R _ 2 (by decide) (by decide) w) ?_)
    refine S.mv ?_
    refine S.opS rfl rfl (OpV.con0 Tryz.ent199 rfl (fun w hw => turn_R _ 13 (by decide) (by decide) w) ?_)
    refine S.q rfl rfl (Qt.xor32 rfl rfl) ?_
    refine S.mv ?_
    refine S.opS rfl rfl (OpV.con0 Tryz.ent199 rfl (fun w hw => turn_R _ 22 (by decide) (by decide) w) ?_)
    refine S.q rfl rfl (Qt.xor32 rfl rfl) ?_
    refine S.mv ?_
    refine S.mv ?_
    refine S.q rfl rfl (Qt.and32 rfl rfl) ?_
    refine S.mv ?_
    refine S.mv ?_
    refine S.q rfl rfl (Qt.and32 rfl rfl) ?_
    refine S.q rfl rfl (Qt.xor32 rfl rfl) ?_
    refine S.mv ?_
    refine S.mv ?_
    refine S.q rfl rfl (Qt.and32 rfl rfl) ?_
    refine S.q rfl rfl (Qt.xor32 rfl rfl) ?_
    refine S.q rfl rfl (Qt.add32 rfl rfl) ?_
    refine S.as ?_
    refine S.nil ?_
    refine TC.region ?_
    refine S.mv ?_
    refine S.mv ?_
    refine S.q rfl rfl (Qt.add32 rfl rfl) ?_
    refine S.mv ?_
    refine S.mv ?_
    refine S.mv ?_
    refine S.q rfl rfl (Qt.indexB (i := 3) Tryz.underlying224 Tryz.cells223 rfl rfl (by omega)) ?_
    refine S.q rfl rfl (Qt.load rfl (Ld.one (Has.at 0 rfl) Tryz.one223 (w32s_get (i := 3) (by rw [rnds_length hs]; decide) rfl))) ?_
    refine S.mv ?_
    refine S.q rfl rfl (Qt.add32 rfl rfl) ?_
    refine S.mv ?_
    refine S.mv ?_
    refine S.mv ?_
    refine S.q rfl rfl (Qt.build (v := .agg (w32s (rnd (rnds s ws k) (K256.getD k 0) (ws.getD k 0))).toArray) rfl (fun _ => by kernel_rfl)) ?_
    refine S.opN rfl (OpV.storeV0 (v := .agg (w32s (rnd (rnds s ws k) (K256.getD k 0) (ws.getD k 0))).toArray) rfl rfl (by rw [vl_agg, w32s_length, rnd_length]; exact Tryz.cells224) (w32s_all _) (by rw [vl_agg, w32s_length, w32s_length, rnd_length, rnds_length hs]) ?_)
    refine S.nil ?_
    refine TC.region ?_
    refine S.q rfl rfl (Qt.add (b := 1) rfl rfl (by simp only [kmax]; omega)) ?_
    refine S.mv ?_
    refine S.nil ?_
    refine ⟨k + 1, ?_, ?_, ⟨?_, (List.forall_mem_cons.2 ⟨rfl, (fun _ h => nomatch h)⟩)⟩, Sub.refl _⟩
    · show _ ≤ _; omega
    · show _ < _; dsimp only; omega
    repeat (first | exact Out.refl _ _ | refine Out.put rfl ?_ | refine Out.puts rfl ?_ | refine Out.scr ?_ | refine Out.scr' rfl ?_)
  · refine S.nil ?_
    refine TC.seq ?_
    refine S.if_f rfl ?_
    refine TC.exit ?_
    refine TC.seq ?_
    refine TC.seq ?_
    refine TC.region ?_
    refine S.mv ?_
    refine S.nil ?_
    refine TC.block ?_
    refine TC.loop (γ := Nat) [98, 99, 16, 100, 101, 102, 103, 104, 105, 106, 107, 108, 97] (fun j => [(97, .int .i64 (j : Int))]) (fun j => [Blk b5 224 (w32s (addP (rnds s ws k) s j)), Blk b4 224 (List.replicate 8 (.int .u32 0)), Blk b3 289 (bytesL bl), Blk b2 224 (w32s s)]) (fun j => j ≤ 8) (fun j => 8 - j) (0)
      (by omega) ⟨Out.refl _ _, (List.forall_mem_cons.2 ⟨rfl, (fun _ h => nomatch h)⟩)⟩ ((by rw [addP_zero _ (rnds_length hs _ _)]; exact Sub.refl _)) ?_
    rintro j u hj
    refine TC.seq ?_
    refine TC.region ?_
    refine S.dec rfl rfl (Qt.lt (b := 8) rfl rfl) (fun h98 => ?_) (fun h98 => ?_)
    · refine S.nil ?_
      refine TC.seq ?_
      refine S.if_t rfl ?_
      refine TC.skip ?_
      refine TC.seq ?_
      refine TC.block ?_
      refine TC.seq ?_
      refine TC.region ?_
      refine S.mv ?_
      refine S.as ?_
      refine S.nil ?_
      refine S.draw ([8], []) Tryz.mixed (Sub.drop _ (Sub.keep _ (Sub.keep _ (Sub.keep _ (Sub.nil []))))) ?_
      refine D.qY 0 rfl (Qt.move (by conv => lhs; whnf)) ?_
      refine D.qY 1 rfl (Qt.indexB Tryz.underlying224 Tryz.cells223 rfl rfl (by omega)) ?_
      refine D.qY 2 rfl (Qt.load rfl (Ld.one (Has.at 0 rfl) Tryz.one223 (w32s_get (i := j) (by rw [addP_length]; omega) (by omega)))) ?_
      refine D.qY 3 rfl (Qt.move (by conv => lhs; whnf)) ?_
      refine D.qY 4 rfl (Qt.indexB Tryz.underlying224 Tryz.cells223 rfl rfl (by omega)) ?_
      refine D.qY 5 rfl (Qt.load rfl (Ld.one (Has.at 3 rfl) Tryz.one223 (w32s_get (i := j) (by rw [hs]; omega) (by omega)))) ?_
      refine D.qY 6 rfl (Qt.add32 rfl rfl) ?_
      refine D.qY 7 rfl (Qt.indexB Tryz.underlying224 Tryz.cells223 rfl rfl (by omega)) ?_
      refine D.opN (k := 8) (Sub.drop _ (Sub.keep _ (Sub.keep _ (Sub.keep _ (Sub.nil []))))) rfl (by kernel_rfl) (by kernel_rfl) rfl (OpV.storeE0 rfl (by conv => lhs; whnf) Tryz.cells223 rfl rfl (by rw [w32s_length, addP_length]; omega) (by rw [Nat.zero_add, Nat.mul_one, addP_get _ _ (by omega), w32s_set, addP_set _ _ (by omega)]) ⟨Sub.drop _ (Sub.keep _ (Sub.keep _ (Sub.keep _ (Sub.nil [])))), ?_⟩)
      refine D.done (Sub.drop _ (Sub.keep _ (Sub.keep _ (Sub.keep _ (Sub.nil []))))) (by kernel_rfl) ?_
      refine TC.region ?_
      refine S.q rfl rfl (Qt.add (b := 1) rfl rfl (by simp only [kmax]; omega)) ?_
      refine S.mv ?_
      refine S.nil ?_
      refine ⟨j + 1, ?_, ?_, ⟨?_, (List.forall_mem_cons.2 ⟨rfl, (fun _ h => nomatch h)⟩)⟩, Sub.refl _⟩
      · show _ ≤ _; omega
      · show _ < _; dsimp only; omega
      repeat (first | exact Out.refl _ _ | refine Out.put rfl ?_ | refine Out.puts rfl ?_ | refine Out.scr ?_ | refine Out.scr' rfl ?_)
    · refine S.nil ?_
      refine TC.seq ?_
      refine S.if_f rfl ?_
      refine TC.exit ?_
      refine TC.seq ?_
      refine TC.region ?_
      refine S.q rfl rfl (Qt.load rfl (Ld.all (Has.at 0 rfl) Tryz.row224 (by rw [w32s_length, addP_length]; exact Tryz.cells224))) ?_
      refine S.opN rfl (OpV.storeV1 (v := .agg (w32s (addP (rnds s ws k) s j)).toArray) rfl rfl (by rw [vl_agg, w32s_length, addP_length]; exact Tryz.cells224) (w32s_all _) (by rw [vl_agg, w32s_length, addP_length]; rfl) ?_)
      refine S.nil ?_
      refine TC.ret ?_
      refine finQ.ret (RVs.cell rfl (Ld.all (Has.at 1 rfl) Tryz.row224 (by rw [vl_agg, w32s_length, addP_length]; exact Tryz.cells224)) RVs.nil) (Sub.nil _) ?_
      have e : addP (rnds s ws k) s j = plus8 (rnds s ws 64) s := by rw [show j = 8 by omega, show k = 64 by omega, addP_all]
      rw [← e]
      exact ⟨rfl, rfl⟩
theorem compress_R (s : List W) (bl : List UInt8) (hs : s.length = 8) (hb : bl.length = 64) (w0 : World) (hT : Tabs 3 1 w0 []) : Calls Tryz.prog 173 #[.agg (w32s s).toArray, .agg (bytesL bl).toArray] w0 (Ret w0 (.agg (w32s (comp s bl)).toArray)) :=
  Calls.ret (compress_walk0 s bl (sched bl 64) hs hb rfl (sched_length bl 64) w0 hT)

set_option maxHeartbeats 400000 in
theorem clone_walk (A : Option Addr) (c : Nat) (b : List UInt8) (w0 : World) (hR : Ro w0 [] (SlA A (bytesL b))) (hl : b.length ≤ 70368744177664) :
    Calls Tryz.prog 197 #[.slice A b.length c] w0 (Post w0 [] fun v L => ∃ O d, v = .slice O b.length d ∧ L = [OwnA 5 1 O b.length d (bytesL b)]) := by
  refine Calls.of (L := []) (n := 8) (rs := [.tmp 2]) Tryz.func197 rfl rfl rfl (Nat.le_of_ble_eq_true rfl) (Sat.nil _) ?_
  refine TC.ownNil 5 1 ?_
  refine TC.seq ?_
  refine TC.region ?_
  refine S.as ?_
  refine S.nil ?_
  refine TC.seq ?_
  refine TC.seq ?_
  refine TC.region ?_
  refine S.mv ?_
  refine S.q rfl rfl (Qt.eqsl Tryz.underlying112 rfl) ?_
  refine S.nil ?_
  refine TC.ifb rfl (fun hn => ?_) (fun hn => ?_)
  · refine TC.seq ?_
    refine TC.region ?_
    refine S.as ?_
    refine S.nil ?_
    refine TC.ret ?_
    refine finQ.ret (RVs.tmp (by conv => lhs; whnf) RVs.nil) (Sub.refl _) ?_
    obtain rfl : A = none := Option.isNone_iff_eq_none.1 hn
    obtain rfl : b = [] := bytesL_nil (SlA.none_nil hR.1)
    exact ⟨none, 0, rfl, rfl⟩
  · refine TC.skip ?_
    refine TC.seq ?_
    refine TC.region ?_
    refine S.opS rfl rfl (OpV.slice0 Tryz.underlying112 ⟨_, Tryz.elem5⟩ (fun g5 => ?_))
    refine S.mv ?_
    refine S.opS rfl rfl (OpV.app0 (bytes := 1) (news := bytesL b) Tryz.underlying112 Tryz.elem5 rfl rfl (Has.ro hR) (by rw [bytesL_length]; omega) (bytesL_one _) (by simp only [maxLen]; omega) (by omega) (fun O d => ?_))
    refine S.as ?_
    refine S.nil ?_
    refine TC.ret ?_
    refine finQ.ret (RVs.tmp (by conv => lhs; whnf) RVs.nil) (Sub.keep _ (Sub.drop _ (Sub.nil _))) ?_
    exact ⟨O, d, by rw [Nat.zero_add]; rfl, by rw [Nat.zero_add, List.nil_append]⟩
set_option maxHeartbeats 400000 in
theorem pad_walk (A : Option Addr) (c : Nat) (b : List UInt8) (w0 : World) (hR : Ro w0 [] (SlA A (bytesL b))) (hl : b.length ≤ 70368744177664) :
    Calls Tryz.prog 172 #[.slice A b.length c] w0 (Post w0 [] fun v L => ∃ O d, v = .slice O (padL b).length d ∧ L = [OwnA 5 1 O (padL b).length d (bytesL (padL b))]) := by
  refine Calls.of (L := []) (n := 31) (rs := [.tmp 2]) Tryz.func172 rfl rfl rfl (Nat.le_of_ble_eq_true rfl) (Sat.nil _) ?_
  refine TC.seq ?_
  refine TC.region ?_
  refine S.as ?_
  refine S.nil ?_
  refine TC.seq ?_
  refine TC.region ?_
  refine S.mv ?_
  refine S.opS rfl rfl (OpV.con (Pre := []) (R := _) Tryz.ent197 rfl (List.Perm.refl _) (fun w hw => clone_walk A c b w (Rd.ro hR w hw) hl) ?_)
  rintro v L' ⟨O, d, rfl, rfl⟩
  refine S.opS rfl rfl (OpV.slice1 (bytes := 1) (v := .int .u8 (((128 : UInt8).toNat : Nat) : Int)) Tryz.underlying112 Tryz.elem5 (by decide) rfl rfl (fun g7 => ?_))
  refine S.opS rfl rfl (OpV.app1 (bytes := 1) (news := bytesL [128]) Tryz.underlying112 Tryz.elem5 rfl rfl (Has.blk (Has.at 0 rfl)) (rfl) (bytesL_one _) (by simp only [maxLen]; omega) (by omega) (fun O' d' => ?_))
  refine S.as ?_
  refine S.nil ?_
  refine TC.seq ?_
  refine TC.block ?_
  have hnl : noughts b.length < 64 := Nat.mod_lt _ (by decide)
  refine TC.loop (γ := Nat × Option Addr × Nat) [9, 10, 11, 12, 13, 14, 15, 3] (fun g => [(3, .slice g.2.1 (b.length + 1 + g.1) g.2.2)]) (fun g => [OwnA 5 1 g.2.1 (b.length + 1 + g.1) g.2.2 (bytesL (padA b g.1))]) (fun g => g.1 ≤ noughts b.length) (fun g => noughts b.length - g.1) ((0, O', d'))
    (Nat.zero_le _) ⟨Out.refl _ _, (List.forall_mem_cons.2 ⟨rfl, (fun _ h => nomatch h)⟩)⟩ ((by dsimp only; rw [← padA_zero]; exact Sub.drop _ (Sub.refl _))) ?_
  rintro ⟨j, O, d⟩ u hj
  dsimp only at hj
  refine TC.seq ?_
  refine TC.seq ?_
  refine TC.region ?_
  refine S.mv ?_
  refine S.q rfl rfl (Qt.len_slice Tryz.underlying112 rfl) ?_
  refine S.q rfl rfl (Qt.rem (b := 64) rfl rfl (by omega)) ?_
  refine S.dec rfl rfl (Qt.ne (b := 56) rfl rfl) (fun h12 => ?_) (fun h12 => ?_)
  · refine S.nil ?_
    refine S.if_t rfl ?_
    refine TC.skip ?_
    refine TC.block ?_
    refine TC.region ?_
    refine S.mv ?_
    refine S.opS rfl rfl (OpV.slice1 (bytes := 1) (v := .int .u8 (((0 : UInt8).toNat : Nat) : Int)) Tryz.underlying112 Tryz.elem5 (by decide) rfl rfl (fun g14 => ?_))
    refine S.opS rfl rfl (OpV.app1 (bytes := 1) (news := bytesL [0]) Tryz.underlying112 Tryz.elem5 rfl rfl (Has.blk (Has.at 0 rfl)) (rfl) (bytesL_one _) (by simp only [maxLen]; omega) (by omega) (fun O2 d2 => ?_))
    refine S.as ?_
    refine S.nil ?_
    refine ⟨(j + 1, O2, d2), ?_, ?_, ⟨?_, (List.forall_mem_cons.2 ⟨rfl, (fun _ h => nomatch h)⟩)⟩, (by dsimp only; rw [← padA_succ]; exact Sub.drop _ (Sub.refl _))⟩
    · have := nought_more hj h12
      show _ ≤ _; dsimp only; omega
    · have := nought_more hj h12
      show _ < _; dsimp only; omega
    repeat (first | exact Out.refl _ _ | refine Out.put rfl ?_ | refine Out.puts rfl ?_ | refine Out.scr ?_ | refine Out.scr' rfl ?_)
  · refine S.nil ?_
    refine S.if_f rfl ?_
    refine TC.exit ?_
    refine TC.seq ?_
    refine TC.seq ?_
    refine TC.region ?_
    refine S.as ?_
    refine S.nil ?_
    refine TC.block ?_
    obtain rfl := nought_end hj (Decidable.byContradiction h12)
    refine TC.loop (γ := Nat × Option Addr × Nat) [16, 17, 20, 21, 22, 23, 24, 25, 26, 27, 28, 29, 3, 18, 19, 4] (fun g => [(4, .int .i64 (56 - 8 * (g.1 : Int))), (3, .slice g.2.1 (b.length + 1 + noughts b.length + g.1) g.2.2)]) (fun g => [OwnA 5 1 g.2.1 (b.length + 1 + noughts b.length + g.1) g.2.2 (bytesL (padB b g.1))]) (fun g => g.1 ≤ 8) (fun g => 8 - g.1) ((0, O, d))
      (Nat.zero_le _) ⟨Out.refl _ _, (List.forall_mem_cons.2 ⟨rfl, (List.forall_mem_cons.2 ⟨rfl, (fun _ h => nomatch h)⟩)⟩)⟩ ((by dsimp only; rw [padB_zero]; exact Sub.refl _)) ?_
    rintro ⟨i, O, d⟩ u hi
    dsimp only at hi
    refine TC.seq ?_
    refine TC.seq ?_
    refine TC.region ?_
    refine S.mv ?_
    refine S.dec rfl rfl (Qt.gei rfl rfl) (fun h17 => ?_) (fun h17 => ?_)
    · refine S.nil ?_
      refine S.if_t rfl ?_
      refine TC.skip ?_
      refine TC.seq ?_
      refine TC.block ?_
      refine TC.region ?_
      refine S.mv ?_
      refine S.mv ?_
      refine S.q rfl rfl (Qt.len_slice Tryz.underlying112 rfl) ?_
      refine S.q rfl rfl (Qt.convert Tryz.underlying3 Tryz.underlying40 rfl (by simp only [kmax]; omega)) ?_
      refine S.q rfl rfl (Qt.mul (a := 8) rfl rfl (by simp only [kmax]; omega)) ?_
      refine S.q rfl rfl (Qt.as (Qt.move rfl) (congrArg (Value.int .i64) (show (56 - 8 * (i : Int)) = ((56 - 8 * i : Nat) : Int) by omega))) ?_
      refine S.q rfl rfl (Qt.shrN rfl rfl (by simp only [kmax]; omega)) ?_
      refine S.q rfl rfl (Qt.toByte Tryz.underlying40 Tryz.underlying5 rfl) ?_
      refine S.opS rfl rfl (OpV.slice1 (bytes := 1) (v := .int .u8 (((UInt8.ofNat (8 * b.length / 2 ^ (56 - 8 * i))).toNat : Nat) : Int)) Tryz.underlying112 Tryz.elem5 (by decide) rfl rfl (fun g28 => ?_))
      refine S.opS rfl rfl (OpV.app1 (bytes := 1) (news := bytesL [UInt8.ofNat (8 * b.length / 2 ^ (56 - 8 * i))]) Tryz.underlying112 Tryz.elem5 rfl rfl (Has.blk (Has.at 0 rfl)) (rfl) (bytesL_one _) (by simp only [maxLen]; omega) (by omega) (fun O2 d2 => ?_))
      refine S.as ?_
      refine S.nil ?_
      refine TC.region ?_
      refine S.mv ?_
      refine S.q rfl rfl (Qt.subi rfl rfl (IntWalk.i64_in _ (by omega))) ?_
      refine S.as ?_
      refine S.nil ?_
      refine ⟨(i + 1, O2, d2), ?_, ?_, ⟨?_, (List.forall_mem_cons.2 ⟨(by show Value.int .i64 (56 - 8 * (i : Int) - 8) = Value.int .i64 (56 - 8 * ((i + 1 : Nat) : Int)); congr 1; omega), (List.forall_mem_cons.2 ⟨rfl, (fun _ h => nomatch h)⟩)⟩)⟩, (by dsimp only; rw [← padB_succ b (by omega)]; exact Sub.drop _ (Sub.refl _))⟩
      · show _ ≤ _; dsimp only; omega
      · show _ < _; dsimp only; omega
      repeat (first | exact Out.refl _ _ | refine Out.put rfl ?_ | refine Out.puts rfl ?_ | refine Out.scr ?_ | refine Out.scr' rfl ?_)
    · refine S.nil ?_
      refine S.if_f rfl ?_
      refine TC.exit ?_
      refine TC.seq ?_
      refine TC.region ?_
      refine S.mv ?_
      refine S.as ?_
      refine S.nil ?_
      refine TC.ret ?_
      refine finQ.ret (RVs.tmp (by conv => lhs; whnf) RVs.nil) (Sub.refl _) ?_
      obtain rfl : i = 8 := by omega
      have e := padL_length b
      exact ⟨O, d, by rw [e]; rfl, by rw [e, padB_all b (by omega)]⟩
set_option maxHeartbeats 400000 in
theorem chunk_walk (A : Option Addr) (N c n : Nat) (hn : 1 ≤ n) (w0 : World) :
    Calls Tryz.prog 171 #[.slice A N c, .int .i64 (n : Int)] w0 (Post w0 [] fun v L => ∃ b2 b3, v = .func (.func 196) #[] #[.pointer (some ⟨b2, 0, none⟩), .pointer (some ⟨b3, 0, none⟩)] ∧ L = [Blk b3 3 [.int .i64 (n : Int)], Blk b2 112 [.slice A N c]]) := by
  refine Calls.of (L := []) (n := 9) (rs := [.tmp 4]) Tryz.func171 rfl rfl rfl (Nat.le_of_ble_eq_true rfl) (Sat.nil _) ?_
  refine TC.seq ?_
  refine TC.region ?_
  refine S.opS rfl rfl (OpV.box (by conv => lhs; whnf) (fun b2 => ?_))
  refine S.opS rfl rfl (OpV.box (by conv => lhs; whnf) (fun b3 => ?_))
  refine S.as ?_
  refine S.nil ?_
  refine TC.seq ?_
  refine TC.seq ?_
  refine TC.region ?_
  refine S.q rfl rfl (Qt.load rfl (Ld.one (Has.at 0 rfl) Tryz.one3 (rfl))) ?_
  refine S.q rfl rfl (Qt.dF (Qt.lt (b := 1) rfl rfl) (by omega)) ?_
  refine S.nil ?_
  refine S.if_f rfl ?_
  refine TC.skip ?_
  refine TC.seq ?_
  refine TC.region ?_
  refine S.q rfl rfl (Qt.makeFuncL (fs := []) (cs := [.pointer (some ⟨b2, 0, none⟩), .pointer (some ⟨b3, 0, none⟩)]) rfl rfl) ?_
  refine S.as ?_
  refine S.nil ?_
  refine TC.ret ?_
  refine finQ.ret (RVs.tmp (by conv => lhs; whnf) RVs.nil) (Sub.refl _) ?_
  exact ⟨_, _, rfl, rfl⟩
set_option maxHeartbeats 400000 in
theorem chunk1_walk (A : Option Addr) (m c n : Nat) (hn : 1 ≤ n) (hc : n * m ≤ c) (hc2 : c ≤ 9223372036854775807) (b2 b3 l : Nat) (J : Bool → List (Fin m) → List Assn → Prop) (w0 : World) (L0 : List Assn) (h0 : Sat w0 L0) (hJ : J true [] L0) (hB2 : Ro w0 (fps L0) (Blk b2 112 [.slice A (n * m) c])) (hB3 : Ro w0 (fps L0) (Blk b3 3 [.int .i64 (n : Int)]))
    (hY : ∀ pre x w' L', J true pre L' → St w0 (fps L0) L' w' → YieldAt Fence.wide 0 Tryz.prog l ((fun i : Fin m => [.slice (A.map (·.add (n * i.val * 1))) n n]) x).toArray w' fun e w'' => ∃ L'', St w' (fps L') L'' w'' ∧ ((e = .returned (.bool true) ∧ J true (pre ++ [x]) L'') ∨ (e = .returned (.bool false) ∧ J false (pre ++ [x]) L''))) :
    Calls Tryz.prog 196 #[.func (.yield l) #[] #[], .pointer (some ⟨b2, 0, none⟩), .pointer (some ⟨b3, 0, none⟩)] w0 (Post w0 (fps L0) fun v L => (∃ xs, xs = List.finRange m ∧ J true xs L) ∨ (∃ pre, True ∧ J false pre L)) := by
  refine Calls.of (L := L0) (n := 31) (rs := []) Tryz.func196 rfl rfl rfl (Nat.le_of_ble_eq_true rfl) (h0) ?_
  refine TC.seq ?_
  refine TC.region ?_
  refine S.as ?_
  refine S.nil ?_
  refine TC.block ?_
  refine TC.loop (γ := Nat × List Assn) [6, 7, 8, 9, 13, 14, 15, 16, 17, 18, 5, 19, 20, 21, 22, 23, 24, 25, 26, 27, 28, 29, 30, 10, 11, 12, 4] (fun g => [(4, .int .i64 ((n * g.1 : Nat) : Int))]) (fun g => g.2) (fun g => g.1 ≤ m ∧ J true ((List.finRange m).take g.1) g.2) (fun g => m - g.1) ((0, L0))
    ⟨Nat.zero_le _, hJ⟩ ⟨Out.refl _ _, (List.forall_mem_cons.2 ⟨rfl, (fun _ h => nomatch h)⟩)⟩ (Sub.refl _) ?_
  rintro ⟨k, Z⟩ u ⟨hk, hj⟩
  dsimp only at hk hj
  refine TC.seq ?_
  refine TC.seq ?_
  refine TC.region ?_
  refine S.mv ?_
  refine S.q rfl rfl (Qt.load rfl (Ld.one (Has.ro hB2) Tryz.one112 (rfl))) ?_
  refine S.q rfl rfl (Qt.len_slice Tryz.underlying112 rfl) ?_
  refine S.dec rfl rfl (Qt.lt rfl rfl) (fun h9 => ?_) (fun h9 => ?_)
  · refine S.nil ?_
    refine S.if_t rfl ?_
    refine TC.skip ?_
    refine TC.seq ?_
    refine TC.block ?_
    refine TC.seq ?_
    refine S.draw ([], []) Tryz.mixed (Sub.nil _) ?_
    have hkm : k < m := Nat.lt_of_mul_lt_mul_left (a := n) h9
    have hkn : n * k + n ≤ n * m := by rw [← Nat.mul_succ]; exact Nat.mul_le_mul_left _ hkm
    have hkn2 : n * (k, Z).fst + n ≤ n * m := hkn
    refine D.qY 0 rfl (Qt.load rfl (Ld.one (Has.ro hB3) Tryz.one3 (rfl))) ?_
    refine D.qY 1 rfl (Qt.load rfl (Ld.one (Has.ro hB2) Tryz.one112 (rfl))) ?_
    refine D.qY 2 rfl (Qt.move (by conv => lhs; whnf)) ?_
    refine D.qY 3 rfl (Qt.slice_lo Tryz.underlying112 Tryz.cells5 rfl rfl (by omega)) ?_
    refine D.qY 4 rfl (Qt.len_slice Tryz.underlying112 rfl) ?_
    refine D.qY 5 rfl (Qt.as (Qt.minN rfl rfl) (by rw [Nat.min_eq_left (show n ≤ n * m - n * k by omega)])) ?_
    refine D.qY 6 rfl (Qt.assign (by conv => lhs; whnf)) ?_
    refine D.done (Sub.nil _) (by kernel_rfl) ?_
    refine TC.seq ?_
    refine TC.region ?_
    refine S.mv ?_
    refine S.q rfl rfl (Qt.load rfl (Ld.one (Has.ro hB2) Tryz.one112 (rfl))) ?_
    refine S.mv ?_
    refine S.mv ?_
    refine S.mv ?_
    refine S.q rfl rfl (Qt.add rfl rfl (by simp only [kmax]; omega)) ?_
    refine S.mv ?_
    refine S.mv ?_
    refine S.q rfl rfl (Qt.add rfl rfl (by simp only [kmax]; omega)) ?_
    refine S.q rfl rfl (Qt.as (v' := .slice (A.map (·.add (n * k * 1))) n n) (Qt.slice3 Tryz.underlying112 Tryz.cells5 rfl rfl rfl rfl (by omega) (by omega) (by omega)) (by rw [if_neg (by omega), show n * k + n - n * k = n by omega])) ?_
    refine S.opS rfl rfl (OpV.yield (L1 := []) (enc := (fun i : Fin m => [.slice (A.map (·.add (n * i.val * 1))) n n])) ⟨k, hkm⟩ hY rfl rfl hj (fun Z2 hj2 => ?_) (fun Z2 hj2 => ?_))
    · rw [← finRange_take hkm] at hj2
      refine S.q rfl rfl (Qt.not_t rfl) ?_
      refine S.nil ?_
      refine S.if_f rfl ?_
      refine TC.skip ?_
      refine TC.region ?_
      refine S.mv ?_
      refine S.q rfl rfl (Qt.load rfl (Ld.one (Has.ro hB3) Tryz.one3 (rfl))) ?_
      refine S.q rfl rfl (Qt.add rfl rfl (by simp only [kmax]; omega)) ?_
      refine S.as ?_
      refine S.nil ?_
      refine ⟨(k + 1, Z2), ?_, ?_, ⟨?_, (List.forall_mem_cons.2 ⟨rfl, (fun _ h => nomatch h)⟩)⟩, Sub.refl _⟩
      · exact ⟨by show _ ≤ _; dsimp only; omega, hj2⟩
      · show _ < _; dsimp only; omega
      repeat (first | exact Out.refl _ _ | refine Out.put rfl ?_ | refine Out.puts rfl ?_ | refine Out.scr ?_ | refine Out.scr' rfl ?_)
    · refine S.q rfl rfl (Qt.not_f rfl) ?_
      refine S.nil ?_
      refine S.if_t rfl ?_
      refine TC.ret ?_
      refine finQ.ret RVs.nil (Sub.refl _) ?_
      exact .inr ⟨_, trivial, hj2⟩
  · refine S.nil ?_
    refine S.if_f rfl ?_
    refine TC.exit ?_
    refine finQ.normal RVs.nil (Sub.refl _) ?_
    have hkm : m ≤ k := Nat.le_of_mul_le_mul_left (Nat.le_of_not_lt h9) hn
    obtain rfl : k = m := by omega
    rw [finRange_all] at hj
    exact .inl ⟨_, rfl, hj⟩
theorem chunk_gen (A : Option Addr) (m c n : Nat) (hn : 1 ≤ n) (hc : n * m ≤ c) (hc2 : c ≤ 9223372036854775807) (b2 b3 : Nat) (w : World) (L0 : List Assn) (h0 : Sat w L0) (hB2 : Ro w (fps L0) (Blk b2 112 [.slice A (n * m) c])) (hB3 : Ro w (fps L0) (Blk b3 3 [.int .i64 (n : Int)])) :
    Gen Tryz.prog 196 #[.pointer (some ⟨b2, 0, none⟩), .pointer (some ⟨b3, 0, none⟩)] (fun i : Fin m => [.slice (A.map (·.add (n * i.val * 1))) n n]) (fun xs => xs = List.finRange m) (fun _ => True) w L0 := fun l J hJ hY =>
  chunk1_walk A m c n hn hc hc2 b2 b3 l J w L0 h0 hJ hB2 hB3 hY

set_option maxHeartbeats 400000 in
theorem sum_walk (A : Option Addr) (c : Nat) (b : List UInt8) (w0 : World) (hR : Ro w0 [] (SlA A (bytesL b))) (hl : b.length ≤ 70368744177664) (hT : Tabs 3 1 w0 []) :
    Calls Tryz.prog 114 #[.slice A b.length c] w0 (Post w0 [] fun v L => v = hv (shaH b) ∧ L = []) := by
  refine Calls.of (L := []) (n := 41) (rs := [.cell 2 49]) Tryz.func114 rfl rfl rfl (Nat.le_of_ble_eq_true rfl) (Sat.nil _) ?_
  obtain ⟨m, hm⟩ : ∃ m, (padL b).length = 64 * m := ⟨(padL b).length / 64, by have := padL_mod b; omega⟩
  have hpl := padL_length b
  have hnl : noughts b.length < 64 := Nat.mod_lt _ (by decide)
  refine TC.seq ?_
  refine TC.region ?_
  refine S.opS rfl rfl (OpV.alloc Tryz.zero49 (fun b2 => ?_))
  refine S.nil ?_
  refine TC.seq ?_
  refine TC.region ?_
  refine S.q rfl rfl (Qt.load rfl (Ld.sl0 (vs := w32s I256) (Has.ro hT.2) Tryz.row224 (by rw [w32s_length, I256_length]; exact Tryz.cells224) (by decide) (fun _ _ h => h))) ?_
  refine S.opS rfl rfl (OpV.alloc Tryz.zero224 (fun b3 => ?_))
  refine S.opN rfl (OpV.storeV0 (v := .agg (w32s I256).toArray) rfl rfl (by rw [vl_agg, w32s_length, I256_length]; exact Tryz.cells224) (w32s_all _) (rfl) ?_)
  refine S.nil ?_
  refine TC.seq ?_
  refine TC.seq ?_
  refine TC.region ?_
  refine S.mv ?_
  refine S.opS rfl rfl (OpV.con (Pre := []) (R := _) Tryz.ent172 rfl (List.Perm.refl _) (fun w hw => pad_walk A c b w (Rd.ro hR w hw) hl) ?_)
  rintro v L' ⟨O, d, rfl, rfl⟩
  refine S.opS rfl rfl (OpV.con (Pre := []) (R := _) Tryz.ent171 rfl (List.Perm.refl _) (fun w hw => chunk_walk O (padL b).length d 64 (by decide) w) ?_)
  rintro v L' ⟨c2, c3, rfl, rfl⟩
  refine S.nil ?_
  refine TC.block ?_
  refine TC.fact (Has.at 2 rfl) (fun _ h => own_cap h) (fun hdc => ?_)
  rw [hm] at hdc ⊢
  refine TC.rangeFunc (α := Fin m) (fun i : Fin m => [Value.slice (O.map (·.add (64 * i.val * 1))) 64 64]) (fun xs => xs = List.finRange m) (fun _ => True) (fun pre L' => L' = [Blk b3 224 (w32s (sumF (padL b) pre))]) (fun _ _ _ => False) (L0 := [Blk b3 224 (w32s (sumF (padL b) ([] : List (Fin m))))]) rfl rfl Tryz.ent196 rfl (fun _ => rfl) (List.perm_middle (l₁ := [_, _, _]) (l₂ := [_])) rfl (fun w L' hw => chunk_gen O m d 64 (by decide) hdc.1 (by have := hdc.2.1; simp only [maxLen] at this; omega) c2 c3 w L' hw.sat.left (Ro.of_rest hw (.tail _ (.head _))) (Ro.of_rest hw (.head _))) ?_ ?_ (fun _ _ _ _ _ h => h.elim)
  · rintro w' l Dd Rr Rb pre x L' rfl hst
    have hO : Ro w' (fps [Rr, dfA Dd, Blk b3 224 (w32s (sumF (padL b) pre))]) (SlA (O.map (·.add (64 * x.val * 1))) (bytesL (blk64 (padL b) x.val))) := by
      rw [show blk64 (padL b) x.val = ((padL b).drop (64 * x.val * 1)).take 64 by rw [Nat.mul_one]; rfl]
      exact Ro.bytesPart (Ro.own (Ro.of_rest hst (.tail _ (.tail _ (.head _))))) (64 * x.val * 1) 64
    have hT2 := Tabs.pre hT hst
    refine TC.region ?_
    refine S.as ?_
    refine S.nil ?_
    refine ⟨_, Sub.refl _, ?_⟩
    refine TC.block ?_
    refine S.draw ([5], []) Tryz.mixed (Sub.keep _ (Sub.keep _ (Sub.drop _ (Sub.nil [])))) ?_
    refine D.qY 0 rfl (Qt.load rfl (Ld.all (Has.at 2 rfl) Tryz.row224 (by rw [w32s_length, sumF_length]; exact Tryz.cells224))) ?_
    refine D.qY 1 rfl (Qt.move (by conv => lhs; whnf)) ?_
    refine D.qY 2 rfl (Qt.toArr Tryz.underlying289 rfl (Nat.le_refl _)) ?_
    refine D.qY 3 rfl (Qt.load rfl (Ld.sl0 (vs := bytesL (blk64 (padL b) x)) (Has.ro hO) Tryz.row289 (by rw [bytesL_length, blk64_length x.2 hm]; exact Tryz.cells289) (by rw [bytesL_length, blk64_length x.2 hm]; decide) (fun _ _ h => h))) ?_
    refine D.cX (k := 4) rfl (by kernel_rfl) (by kernel_rfl) (by kernel_rfl) rfl rfl (CalU.con0 Tryz.ent173 rfl (fun w hw => compress_R _ _ (sumF_length _ _) (blk64_length x.2 hm) w (hT2.at hw))) ?_
    refine D.opN (k := 5) (Sub.keep _ (Sub.keep _ (Sub.drop _ (Sub.nil [])))) rfl (by kernel_rfl) (by kernel_rfl) rfl (OpV.storeV2 (v := .agg (w32s (comp (sumF (padL b) pre) (blk64 (padL b) x))).toArray) rfl rfl (by rw [vl_agg, w32s_length, comp_length]; exact Tryz.cells224) (w32s_all _) (by rw [vl_agg, w32s_length, w32s_length, comp_length, sumF_length]) ⟨Sub.keep _ (Sub.keep _ (Sub.drop _ (Sub.nil []))), ?_⟩)
    refine D.done (Sub.keep _ (Sub.keep _ (Sub.drop _ (Sub.nil [])))) (by kernel_rfl) ?_
    refine ⟨_, Sub.refl _, (congrArg (fun z => [Blk b3 224 (w32s z)]) (sumF_snoc (padL b) pre x)).symm⟩
  · rintro Dd xs L' rfl rfl
    obtain ⟨s, hsd⟩ : ∃ s, s = sumF (padL b) (List.finRange m) := ⟨_, rfl⟩
    have hs : s.length = 8 := by rw [hsd, sumF_length]
    rw [← hsd]
    refine TC.seq ?_
    refine TC.region ?_
    refine S.opS rfl rfl (OpV.alloc Tryz.zero49 (fun b5 => ?_))
    refine S.nil ?_
    refine TC.seq ?_
    refine TC.seq ?_
    refine TC.region ?_
    refine S.q rfl rfl (Qt.load rfl (Ld.all (Has.at 2 rfl) Tryz.row224 (by rw [w32s_length, hs]; exact Tryz.cells224))) ?_
    refine S.mv ?_
    refine S.nil ?_
    refine TC.block ?_
    refine TC.loop (γ := Nat) [20, 21, 22, 6, 7, 23, 24, 25, 26, 27, 28, 29, 30, 31, 32, 33, 34, 35, 36, 37, 38, 39, 19] (fun i => [(19, .int .i64 (i : Int))]) (fun i => [Blk b5 49 (bytesL (outP s i)), dfA Dd, Blk b3 224 (w32s s), Blk b2 49 (List.replicate 32 (.int .u8 0))]) (fun i => i ≤ 8) (fun i => 8 - i) (0)
      (by omega) ⟨Out.refl _ _, (List.forall_mem_cons.2 ⟨rfl, (fun _ h => nomatch h)⟩)⟩ ((by rw [outP_zero]; exact Sub.keep _ (Sub.keep _ (Sub.keep _ (Sub.drop _ (Sub.drop _ (Sub.drop _ (Sub.refl _)))))))) ?_
    rintro i u hi
    refine TC.seq ?_
    refine TC.region ?_
    refine S.dec rfl rfl (Qt.lt (b := 8) rfl rfl) (fun h20 => ?_) (fun h20 => ?_)
    · refine S.nil ?_
      refine TC.seq ?_
      refine S.if_t rfl ?_
      refine TC.skip ?_
      refine TC.seq ?_
      refine TC.block ?_
      refine TC.seq ?_
      refine TC.region ?_
      refine S.mv ?_
      refine S.q rfl rfl (Qt.index_agg Tryz.underlying224 Tryz.cells223 Tryz.plain223 rfl rfl (by omega) (w32s_aget (by rw [hs]; omega))) ?_
      refine S.as ?_
      refine S.as ?_
      refine S.nil ?_
      refine TC.region ?_
      refine S.mv ?_
      refine S.q rfl rfl (Qt.mul (a := 4) rfl rfl (by simp only [kmax]; omega)) ?_
      refine S.q rfl rfl (Qt.sliceB_lo Tryz.underlying49 Tryz.cells5 rfl rfl (by omega)) ?_
      refine S.mv ?_
      refine S.q rfl rfl (Qt.shr32 (s := 24) rfl rfl) ?_
      refine S.q rfl rfl (Qt.toByte Tryz.underlying223 Tryz.underlying5 rfl) ?_
      refine S.mv ?_
      refine S.q rfl rfl (Qt.shr32 (s := 16) rfl rfl) ?_
      refine S.q rfl rfl (Qt.toByte Tryz.underlying223 Tryz.underlying5 rfl) ?_
      refine S.mv ?_
      refine S.q rfl rfl (Qt.shr32 (s := 8) rfl rfl) ?_
      refine S.q rfl rfl (Qt.toByte Tryz.underlying223 Tryz.underlying5 rfl) ?_
      refine S.mv ?_
      refine S.q rfl rfl (Qt.toByte Tryz.underlying223 Tryz.underlying5 rfl) ?_
      refine S.opS rfl rfl (OpV.sliceL (vs := bytesL (w4 (s.getD i 0))) Tryz.underlying112 Tryz.elem5 rfl (by decide) rfl (fun v hv => (bytesL_vl hv)) (fun g37 => ?_))
      refine S.opS rfl rfl (OpV.copy1 (cs' := bytesL (outP s (i + 1))) (news := bytesL (w4 (s.getD i 0))) Tryz.underlying112 Tryz.cells5 rfl rfl (Has.blk (Has.at 0 rfl)) (by rw [Nat.min_eq_left (by omega)]; rfl) (bytesL_one _) (by rw [bytesL_length, bytesL_length, outP_length hs (by omega)]; show 0 + 4 * i * 1 + 4 ≤ 32; omega) (by rw [Nat.zero_add, Nat.mul_one]; exact outP_step hs (by omega)) ?_)
      refine S.nil ?_
      refine TC.region ?_
      refine S.q rfl rfl (Qt.add (b := 1) rfl rfl (by simp only [kmax]; omega)) ?_
      refine S.mv ?_
      refine S.nil ?_
      refine ⟨i + 1, ?_, ?_, ⟨?_, (List.forall_mem_cons.2 ⟨rfl, (fun _ h => nomatch h)⟩)⟩, Sub.drop _ (Sub.refl _)⟩
      · show _ ≤ _; omega
      · show _ < _; dsimp only; omega
      repeat (first | exact Out.refl _ _ | refine Out.put rfl ?_ | refine Out.puts rfl ?_ | refine Out.scr ?_ | refine Out.scr' rfl ?_)
    · refine S.nil ?_
      refine TC.seq ?_
      refine S.if_f rfl ?_
      refine TC.exit ?_
      refine TC.seq ?_
      refine TC.region ?_
      refine S.q rfl rfl (Qt.load rfl (Ld.all (Has.at 0 rfl) Tryz.row49 (by rw [bytesL_length, outP_length hs (by omega)]; exact Tryz.cells49))) ?_
      refine S.opN rfl (OpV.storeV3 (v := .agg (bytesL (outP s i)).toArray) rfl rfl (by rw [vl_agg, bytesL_length, outP_length hs (by omega)]; exact Tryz.cells49) (bytesL_all _) (by rw [vl_agg, bytesL_length, outP_length hs (by omega)]; rfl) ?_)
      refine S.nil ?_
      refine TC.ret ?_
      refine finQ.retM rfl (Sub.trans (Sub.keep _ (Sub.refl _)) (Sub.of_perm (List.perm_middle (l₁ := [_])))) (RVs.cell rfl (Ld.all (Has.at 2 rfl) Tryz.row49 (by rw [vl_agg, bytesL_length, outP_length hs (by omega)]; exact Tryz.cells49)) RVs.nil) (Sub.nil _) ?_
      have e : outP s i = shaL b := by rw [show i = 8 by omega, outP_all hs, hsd, sumF_all, shaL, hm, Nat.mul_div_cancel_left _ (by decide)]
      exact ⟨congrArg (fun l => Value.agg (bytesL l).toArray) e, rfl⟩
end Go.Proofs.YtgdjcmehlhebdaaGreatDoor
