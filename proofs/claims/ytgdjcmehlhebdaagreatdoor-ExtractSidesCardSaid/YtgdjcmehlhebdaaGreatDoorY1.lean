/-
  Walks: what the functions of the package entrustref02 compute. Printed by a program of ours. Walks: what the functions of the packages octets and node compute. Printed by a program of ours.
-/
import Derived.Test.YtgdjcmehlhebdaaGreatDoorYZTA
import Derived.Test.YtgdjcmehlhebdaaGreatDoorTR
namespace Go.Proofs.YtgdjcmehlhebdaaGreatDoor
open Go.E
set_option linter.unusedVariables false
set_option maxRecDepth 4000
set_option maxHeartbeats 400000 in
theorem rpad_walk (A : Option Addr) (c : Nat) (b : List UInt8) (w0 : World) (hR : Ro w0 [] (SlA A (bytesL b))) (hl : b.length ≤ 70368744177664) :
    Calls Tryz.prog 120 #[.slice A b.length c] w0 (Post w0 [] fun v L => ∃ O d, v = .slice O (padL b).length d ∧ L = [OwnA 5 1 O (padL b).length d (bytesL (padL b))]) := by
  refine Calls.of (L := []) (n := 45) (rs := [.tmp 2]) Tryz.func120 rfl rfl rfl (Nat.le_of_ble_eq_true rfl) (Sat.nil _) ?_
  have hnl : noughts b.length < 64 := Nat.mod_lt _ (by decide)
  refine TC.seq ?_
  refine TC.region ?_
  refine S.as ?_
  refine S.nil ?_
  refine TC.seq ?_
  refine TC.region ?_
  refine S.mv ?_
  refine S.q rfl rfl (Qt.len_slice Tryz.underlying112 rfl) ?_
  refine S.q rfl rfl (Qt.rem (b := 64) rfl rfl (by omega)) ?_
  refine S.q rfl rfl (Qt.sub (a := 119) rfl rfl (by omega) (by simp only [kmax]; omega)) ?_
  refine S.q rfl rfl (Qt.as (Qt.rem (b := 64) rfl rfl (by omega)) (show _ = Value.int .i64 ((noughts b.length : Nat) : Int) from rfl)) ?_
  refine S.as ?_
  refine S.nil ?_
  refine TC.seq ?_
  refine TC.region ?_
  refine S.opS rfl rfl (OpV.slice0 Tryz.underlying112 ⟨_, Tryz.elem5⟩ (fun g5 => ?_))
  refine S.mv ?_
  refine S.opS rfl rfl (OpV.app0 (bytes := 1) (news := bytesL b) Tryz.underlying112 Tryz.elem5 rfl rfl (Has.ro hR) (by rw [bytesL_length]; omega) (bytesL_one _) (by simp only [maxLen]; omega) (by omega) (fun O d => ?_))
  refine S.as ?_
  refine S.nil ?_
  refine TC.seq ?_
  refine TC.region ?_
  refine S.mv ?_
  refine S.opS rfl rfl (OpV.slice1 (bytes := 1) (v := .int .u8 (((128 : UInt8).toNat : Nat) : Int)) Tryz.underlying112 Tryz.elem5 (by decide) rfl rfl (fun g7 => ?_))
  refine S.opS rfl rfl (OpV.app1 (bytes := 1) (news := bytesL [128]) Tryz.underlying112 Tryz.elem5 rfl rfl (Has.blk (Has.at 0 rfl)) (rfl) (bytesL_one _) (by simp only [maxLen]; omega) (by omega) (fun O' d' => ?_))
  refine S.as ?_
  refine S.nil ?_
  refine TC.seq ?_
  refine TC.seq ?_
  refine TC.region ?_
  refine S.as ?_
  refine S.nil ?_
  refine TC.block ?_
  refine TC.loop (γ := Nat × Option Addr × Nat) [19, 20, 21, 24, 25, 26, 4, 22, 23, 5] (fun g => [(5, .int .i64 ((g.1 : Nat) : Int)), (4, .slice g.2.1 (b.length + 1 + g.1) g.2.2)]) (fun g => [OwnA 5 1 g.2.1 (b.length + 1 + g.1) g.2.2 (bytesL (padA b g.1))]) (fun g => g.1 ≤ noughts b.length) (fun g => noughts b.length - g.1) ((0, O', d'))
    (Nat.zero_le _) ⟨Out.refl _ _, (List.forall_mem_cons.2 ⟨rfl, (List.forall_mem_cons.2 ⟨(by show Value.slice O' (0 + b.length + 1) d' = Value.slice O' (b.length + 1 + 0) d'; rw [Nat.zero_add]), (fun _ h => nomatch h)⟩)⟩)⟩ ((by dsimp only; rw [← padA_zero, List.nil_append, Nat.zero_add]; exact Sub.drop _ (Sub.refl _))) ?_
  rintro ⟨j, O, d⟩ u hj
  dsimp only at hj
  refine TC.seq ?_
  refine TC.seq ?_
  refine TC.region ?_
  refine S.mv ?_
  refine S.mv ?_
  refine S.dec rfl rfl (Qt.lt rfl rfl) (fun h21 => ?_) (fun h21 => ?_)
  · refine S.nil ?_
    refine S.if_t rfl ?_
    refine TC.skip ?_
    refine TC.seq ?_
    refine TC.block ?_
    refine TC.region ?_
    refine S.mv ?_
    refine S.opS rfl rfl (OpV.slice1 (bytes := 1) (v := .int .u8 (((0 : UInt8).toNat : Nat) : Int)) Tryz.underlying112 Tryz.elem5 (by decide) rfl rfl (fun g14 => ?_))
    refine S.opS rfl rfl (OpV.app1 (bytes := 1) (news := bytesL [0]) Tryz.underlying112 Tryz.elem5 rfl rfl (Has.blk (Has.at 0 rfl)) (rfl) (bytesL_one _) (by simp only [maxLen]; omega) (by omega) (fun O2 d2 => ?_))
    refine S.as ?_
    refine S.nil ?_
    refine TC.region ?_
    refine S.mv ?_
    refine S.q rfl rfl (Qt.add (b := 1) rfl rfl (by simp only [kmax]; omega)) ?_
    refine S.as ?_
    refine S.nil ?_
    refine ⟨(j + 1, O2, d2), ?_, ?_, ⟨?_, (List.forall_mem_cons.2 ⟨rfl, (List.forall_mem_cons.2 ⟨rfl, (fun _ h => nomatch h)⟩)⟩)⟩, (by dsimp only; rw [← padA_succ]; exact Sub.drop _ (Sub.refl _))⟩
    · show _ ≤ _; dsimp only; omega
    · show _ < _; dsimp only; omega
    repeat (first | exact Out.refl _ _ | refine Out.put rfl ?_ | refine Out.puts rfl ?_ | refine Out.scr ?_ | refine Out.scr' rfl ?_)
  · refine S.nil ?_
    refine S.if_f rfl ?_
    refine TC.exit ?_
    refine TC.seq ?_
    refine TC.region ?_
    refine S.mv ?_
    refine S.q rfl rfl (Qt.len_slice Tryz.underlying112 rfl) ?_
    refine S.q rfl rfl (Qt.convert Tryz.underlying3 Tryz.underlying40 rfl (by simp only [kmax]; omega)) ?_
    refine S.q rfl rfl (Qt.as (Qt.mul (b := 8) rfl rfl (by simp only [kmax]; omega)) (by rw [Nat.mul_comm])) ?_
    refine S.as ?_
    refine S.nil ?_
    refine TC.seq ?_
    refine TC.seq ?_
    refine TC.region ?_
    refine S.as ?_
    refine S.nil ?_
    refine TC.block ?_
    obtain rfl : j = noughts b.length := by dsimp only at h21; omega
    refine TC.loop (γ := Nat × Option Addr × Nat) [31, 32, 35, 36, 37, 38, 39, 40, 41, 42, 43, 4, 33, 34, 7] (fun g => [(7, .int .i64 (7 - (g.1 : Int))), (4, .slice g.2.1 (b.length + 1 + noughts b.length + g.1) g.2.2)]) (fun g => [OwnA 5 1 g.2.1 (b.length + 1 + noughts b.length + g.1) g.2.2 (bytesL (padB b g.1))]) (fun g => g.1 ≤ 8) (fun g => 8 - g.1) ((0, O, d))
      (Nat.zero_le _) ⟨Out.refl _ _, (List.forall_mem_cons.2 ⟨rfl, (List.forall_mem_cons.2 ⟨rfl, (fun _ h => nomatch h)⟩)⟩)⟩ ((by dsimp only; rw [padB_zero]; exact Sub.refl _)) ?_
    rintro ⟨i, O, d⟩ u hi
    dsimp only at hi
    refine TC.seq ?_
    refine TC.seq ?_
    refine TC.region ?_
    refine S.mv ?_
    refine S.dec rfl rfl (Qt.gei rfl rfl) (fun h32 => ?_) (fun h32 => ?_)
    · refine S.nil ?_
      refine S.if_t rfl ?_
      refine TC.skip ?_
      refine TC.seq ?_
      refine TC.block ?_
      refine TC.region ?_
      refine S.mv ?_
      refine S.mv ?_
      refine S.q rfl rfl (Qt.as (Qt.move rfl) (congrArg (Value.int .i64) (show (7 - (i : Int)) = ((7 - i : Nat) : Int) by omega))) ?_
      refine S.q rfl rfl (Qt.mul (a := 8) rfl rfl (by simp only [kmax]; omega)) ?_
      refine S.q rfl rfl (Qt.convert Tryz.underlying3 Tryz.underlying226 rfl (by simp only [kmax]; omega)) ?_
      refine S.q rfl rfl (Qt.as (Qt.shrN rfl rfl (by simp only [kmax]; omega)) (by rw [show 8 * (7 - i) = 56 - 8 * i by omega])) ?_
      refine S.q rfl rfl (Qt.toByte Tryz.underlying40 Tryz.underlying5 rfl) ?_
      refine S.opS rfl rfl (OpV.slice1 (bytes := 1) (v := .int .u8 (((UInt8.ofNat (8 * b.length / 2 ^ (56 - 8 * i))).toNat : Nat) : Int)) Tryz.underlying112 Tryz.elem5 (by decide) rfl rfl (fun g28 => ?_))
      refine S.opS rfl rfl (OpV.app1 (bytes := 1) (news := bytesL [UInt8.ofNat (8 * b.length / 2 ^ (56 - 8 * i))]) Tryz.underlying112 Tryz.elem5 rfl rfl (Has.blk (Has.at 0 rfl)) (rfl) (bytesL_one _) (by simp only [maxLen]; omega) (by omega) (fun O2 d2 => ?_))
      refine S.as ?_
      refine S.nil ?_
      refine TC.region ?_
      refine S.mv ?_
      refine S.q rfl rfl (Qt.subi rfl rfl (IntWalk.i64_in _ (by omega))) ?_
      refine S.as ?_
      refine S.nil ?_
      refine ⟨(i + 1, O2, d2), ?_, ?_, ⟨?_, (List.forall_mem_cons.2 ⟨(by show Value.int .i64 (7 - (i : Int) - 1) = Value.int .i64 (7 - ((i + 1 : Nat) : Int)); congr 1; omega), (List.forall_mem_cons.2 ⟨rfl, (fun _ h => nomatch h)⟩)⟩)⟩, (by dsimp only; rw [← padB_succ b (by omega)]; exact Sub.drop _ (Sub.refl _))⟩
      · show _ ≤ _; dsimp only; omega
      · show _ < _; dsimp only; omega
      repeat (first | exact Out.refl _ _ | refine Out.put rfl ?_ | refine Out.puts rfl ?_ | refine Out.scr ?_ | refine Out.scr' rfl ?_)
    · refine S.nil ?_
      refine S.if_f rfl ?_
      refine TC.exit ?_
      refine TC.seq ?_
      refine TC.region ?_
      refine S.mv ?_
      refine S.as ?_
      refine S.nil ?_
      refine TC.ret ?_
      refine finQ.ret (RVs.tmp (by conv => lhs; whnf) RVs.nil) (Sub.refl _) ?_
      obtain rfl : i = 8 := by omega
      have e := padL_length b
      exact ⟨O, d, by rw [e]; rfl, by rw [e, padB_all b (by omega)]⟩
set_option maxHeartbeats 400000 in
theorem rcompress_walk0 (s : List W) (A : Option Addr) (c : Nat) (bl : List UInt8) (ws : List W) (hs : s.length = 8) (hb : bl.length = 64) (hws : ws = sched bl 64) (hwl : ws.length = 64) (w0 : World) (hR : Ro w0 [] (SlA A (bytesL bl))) (hT : Tabs 2 0 w0 []) :
    Calls Tryz.prog 121 #[.agg (w32s s).toArray, .slice A 64 c] w0 (Post w0 [] fun v L => v = .agg (w32s (plus8 s (rnds s ws 64))).toArray ∧ L = []) := by
  refine Calls.of (L := []) (n := 199) (rs := [.cell 4 224]) Tryz.func121 rfl rfl rfl (Nat.le_of_ble_eq_true rfl) (Sat.nil _) ?_
  refine TC.seq ?_
  refine TC.region ?_
  refine S.opS rfl rfl (OpV.box (by conv => lhs; whnf) (fun b2 => ?_))
  refine S.opS rfl rfl (OpV.alloc Tryz.zero224 (fun b4 => ?_))
  refine S.nil ?_
  refine TC.seq ?_
  refine TC.region ?_
  refine S.opS rfl rfl (OpV.alloc Tryz.zero302 (fun b5 => ?_))
  refine S.nil ?_
  refine TC.seq ?_
  refine TC.seq ?_
  refine TC.region ?_
  refine S.as ?_
  refine S.nil ?_
  refine TC.block ?_
  refine TC.loop (γ := Nat) [23, 24, 27, 28, 7, 29, 30, 33, 34, 35, 36, 37, 38, 39, 40, 41, 42, 43, 44, 45, 46, 47, 31, 32, 48, 49, 50, 51, 52, 53, 54, 55, 8, 9, 56, 57, 58, 59, 60, 61, 62, 63, 10, 64, 65, 66, 67, 68, 69, 70, 71, 11, 72, 73, 74, 75, 76, 77, 78, 79, 80, 81, 82, 83, 84, 85, 86, 25, 26, 6] (fun k => [(6, .int .i64 (k : Int))]) (fun k => [Blk b5 302 (w32s (schedA bl k)), Blk b4 224 (List.replicate 8 (.int .u32 0)), Blk b2 224 (w32s s)]) (fun k => k ≤ 64) (fun k => 64 - k) (0)
    (by omega) ⟨Out.refl _ _, (List.forall_mem_cons.2 ⟨rfl, (fun _ h => nomatch h)⟩)⟩ ((by rw [schedA_zero]; exact Sub.refl _)) ?_
  rintro k u hk
  refine TC.seq ?_
  refine TC.seq ?_
  refine TC.region ?_
  refine S.mv ?_
  refine S.dec rfl rfl (Qt.lt (b := 64) rfl rfl) (fun h24 => ?_) (fun h24 => ?_)
  · refine S.nil ?_
    refine S.if_t rfl ?_
    refine TC.skip ?_
    refine TC.seq ?_
    refine TC.block ?_
    refine TC.seq ?_
    refine TC.region ?_
    refine S.mv ?_
    refine S.dec rfl rfl (Qt.lt (b := 16) rfl rfl) (fun h28 => ?_) (fun h28 => ?_)
    · refine S.nil ?_
      refine S.if_t rfl ?_
      refine TC.seq ?_
      refine TC.region ?_
      refine S.as ?_
      refine S.nil ?_
      refine TC.block ?_
      refine TC.loop (γ := Nat) [29, 30, 33, 34, 35, 36, 37, 38, 39, 40, 41, 42, 43, 44, 45, 46, 47, 31, 32, 7] (fun i => [(7, .int .i64 (i : Int))]) (fun i => [Blk b5 302 (w32s ((schedA bl k).set k (wpart bl (4 * k) i))), Blk b4 224 (List.replicate 8 (.int .u32 0)), Blk b2 224 (w32s s)]) (fun i => i ≤ 4) (fun i => 4 - i) (0)
        (by omega) ⟨Out.refl _ _, (List.forall_mem_cons.2 ⟨rfl, (fun _ h => nomatch h)⟩)⟩ ((by rw [schedA_part0 bl (by omega)]; exact Sub.refl _)) ?_
      rintro i u hi
      refine TC.seq ?_
      refine TC.seq ?_
      refine TC.region ?_
      refine S.mv ?_
      refine S.dec rfl rfl (Qt.lt (b := 4) rfl rfl) (fun h30 => ?_) (fun h30 => ?_)
      · refine S.nil ?_
        refine S.if_t rfl ?_
        refine TC.skip ?_
        refine TC.seq ?_
        refine TC.block ?_
        refine S.draw ([15], []) Tryz.mixed (Sub.drop _ (Sub.keep _ (Sub.keep _ (Sub.nil [])))) ?_
        refine D.qY 0 rfl (Qt.move (by conv => lhs; whnf)) ?_
        refine D.qY 1 rfl (Qt.move (by conv => lhs; whnf)) ?_
        refine D.qY 2 rfl (Qt.indexB Tryz.underlying302 Tryz.cells223 rfl rfl (by omega)) ?_
        refine D.qY 3 rfl (Qt.load rfl (Ld.one (Has.at 0 rfl) Tryz.one223 (w32s_get (i := k) (by rw [List.length_set, schedA_length bl (by omega)]; omega) (by omega)))) ?_
        refine D.qY 4 rfl (Qt.mul32 (q := 256) rfl rfl) ?_
        refine D.qY 5 rfl (Qt.move (by conv => lhs; whnf)) ?_
        refine D.qY 6 rfl (Qt.move (by conv => lhs; whnf)) ?_
        refine D.qY 7 rfl (Qt.mul (a := 4) rfl rfl (by simp only [kmax]; omega)) ?_
        refine D.qY 8 rfl (Qt.move (by conv => lhs; whnf)) ?_
        refine D.qY 9 rfl (Qt.add rfl rfl (by simp only [kmax]; omega)) ?_
        refine D.qY 10 rfl (Qt.index Tryz.underlying112 Tryz.cells5 rfl rfl (by omega) (Has.ro hR) (by rw [bytesL_length]; omega)) ?_
        refine D.qY 11 rfl (Qt.load rfl (Ld.sl (Has.ro hR) Tryz.one5 (bytesG (i := 4 * k + i) (by omega) (by omega)))) ?_
        refine D.qY 12 rfl (Qt.u8to32 Tryz.underlying5 Tryz.underlying223 rfl) ?_
        refine D.qY 13 rfl (Qt.add32 rfl rfl) ?_
        refine D.qY 14 rfl (Qt.indexB Tryz.underlying302 Tryz.cells223 rfl rfl (by omega)) ?_
        refine D.opN (k := 15) (Sub.drop _ (Sub.keep _ (Sub.keep _ (Sub.nil [])))) rfl (by kernel_rfl) (by kernel_rfl) rfl (OpV.storeE0 rfl (by conv => lhs; whnf) Tryz.cells223 rfl rfl (by rw [w32s_length, List.length_set, schedA_length bl (by omega)]; omega) (by rw [Nat.zero_add, Nat.mul_one, w32s_set, set_set', set_getD _ _ _ _ (by rw [schedA_length bl (by omega)]; omega)]) ⟨Sub.drop _ (Sub.keep _ (Sub.keep _ (Sub.nil []))), ?_⟩)
        refine D.done (Sub.drop _ (Sub.keep _ (Sub.keep _ (Sub.nil [])))) (by kernel_rfl) ?_
        refine TC.region ?_
        refine S.mv ?_
        refine S.q rfl rfl (Qt.add (b := 1) rfl rfl (by simp only [kmax]; omega)) ?_
        refine S.as ?_
        refine S.nil ?_
        refine ⟨i + 1, ?_, ?_, ⟨?_, (List.forall_mem_cons.2 ⟨rfl, (fun _ h => nomatch h)⟩)⟩, Sub.refl _⟩
        · show _ ≤ _; omega
        · show _ < _; dsimp only; omega
        repeat (first | exact Out.refl _ _ | refine Out.put rfl ?_ | refine Out.puts rfl ?_ | refine Out.scr ?_ | refine Out.scr' rfl ?_)
      · refine S.nil ?_
        refine S.if_f rfl ?_
        refine TC.exit ?_
        refine TC.region ?_
        refine S.mv ?_
        refine S.q rfl rfl (Qt.add (b := 1) rfl rfl (by simp only [kmax]; omega)) ?_
        refine S.as ?_
        refine S.nil ?_
        refine ⟨k + 1, ?_, ?_, ⟨?_, (List.forall_mem_cons.2 ⟨rfl, (fun _ h => nomatch h)⟩)⟩, (by rw [show i = 4 by omega, schedA_word bl h28]; exact Sub.refl _)⟩
        · show _ ≤ _; omega
        · show _ < _; dsimp only; omega
        repeat (first | exact Out.refl _ _ | refine Out.put rfl ?_ | refine Out.puts rfl ?_ | refine Out.scr ?_ | refine Out.scr' rfl ?_)
    · refine S.nil ?_
      refine S.if_f rfl ?_
      refine TC.seq ?_
      refine S.draw ([], []) Tryz.mixed (Sub.nil _) ?_
      refine D.qY 0 rfl (Qt.move (by conv => lhs; whnf)) ?_
      refine D.qY 1 rfl (Qt.sub (b := 15) rfl rfl (by omega) (by simp only [kmax]; omega)) ?_
      refine D.qY 2 rfl (Qt.indexB Tryz.underlying302 Tryz.cells223 rfl rfl (by omega)) ?_
      refine D.qY 3 rfl (Qt.load rfl (Ld.one (Has.at 0 rfl) Tryz.one223 (w32s_get (i := k - 15) (by rw [schedA_length bl (by omega)]; omega) (by omega)))) ?_
      refine D.qY 4 rfl (Qt.move (by conv => lhs; whnf)) ?_
      refine D.qY 5 rfl (Qt.sub (b := 2) rfl rfl (by omega) (by simp only [kmax]; omega)) ?_
      refine D.qY 6 rfl (Qt.indexB Tryz.underlying302 Tryz.cells223 rfl rfl (by omega)) ?_
      refine D.qY 7 rfl (Qt.load rfl (Ld.one (Has.at 0 rfl) Tryz.one223 (w32s_get (i := k - 2) (by rw [schedA_length bl (by omega)]; omega) (by omega)))) ?_
      refine D.qY 8 rfl (Qt.assign (by conv => lhs; whnf)) ?_
      refine D.qY 9 rfl (Qt.assign (by conv => lhs; whnf)) ?_
      refine D.done (Sub.nil _) (by kernel_rfl) ?_
      refine TC.seq ?_
      refine TC.region ?_
      refine S.mv ?_
      refine S.opS rfl rfl (OpV.con0 Tryz.ent181 rfl (fun w hw => rturn_R _ 7 (by decide) (by decide) w) ?_)
      refine S.mv ?_
      refine S.opS rfl rfl (OpV.con0 Tryz.ent181 rfl (fun w hw => rturn_R _ 18 (by decide) (by decide) w) ?_)
      refine S.q rfl rfl (Qt.xor32 rfl rfl) ?_
      refine S.mv ?_
      refine S.q rfl rfl (Qt.shr32 (s := 3) rfl rfl) ?_
      refine S.q rfl rfl (Qt.xor32 rfl rfl) ?_
      refine S.as ?_
      refine S.nil ?_
      refine TC.seq ?_
      refine TC.region ?_
      refine S.mv ?_
      refine S.opS rfl rfl (OpV.con0 Tryz.ent181 rfl (fun w hw => rturn_R _ 17 (by decide) (by decide) w) ?_)
      refine S.mv ?_
      refine S.opS rfl rfl (OpV.con0 Tryz.ent181 rfl (fun w hw => rturn_R _ 19 (by decide) (by decide) w) ?_)
      refine S.q rfl rfl (Qt.xor32 rfl rfl) ?_
      refine S.mv ?_
      refine S.q rfl rfl (Qt.shr32 (s := 10) rfl rfl) ?_
      refine S.q rfl rfl (Qt.xor32 rfl rfl) ?_
      refine S.as ?_
      refine S.nil ?_
      refine S.draw ([15], []) Tryz.mixed (Sub.drop _ (Sub.keep _ (Sub.keep _ (Sub.nil [])))) ?_
      refine D.qY 0 rfl (Qt.move (by conv => lhs; whnf)) ?_
      refine D.qY 1 rfl (Qt.move (by conv => lhs; whnf)) ?_
      refine D.qY 2 rfl (Qt.sub (b := 16) rfl rfl (by omega) (by simp only [kmax]; omega)) ?_
      refine D.qY 3 rfl (Qt.indexB Tryz.underlying302 Tryz.cells223 rfl rfl (by omega)) ?_
      refine D.qY 4 rfl (Qt.load rfl (Ld.one (Has.at 0 rfl) Tryz.one223 (w32s_get (i := k - 16) (by rw [schedA_length bl (by omega)]; omega) (by omega)))) ?_
      refine D.qY 5 rfl (Qt.move (by conv => lhs; whnf)) ?_
      refine D.qY 6 rfl (Qt.add32 rfl rfl) ?_
      refine D.qY 7 rfl (Qt.move (by conv => lhs; whnf)) ?_
      refine D.qY 8 rfl (Qt.sub (b := 7) rfl rfl (by omega) (by simp only [kmax]; omega)) ?_
      refine D.qY 9 rfl (Qt.indexB Tryz.underlying302 Tryz.cells223 rfl rfl (by omega)) ?_
      refine D.qY 10 rfl (Qt.load rfl (Ld.one (Has.at 0 rfl) Tryz.one223 (w32s_get (i := k - 7) (by rw [schedA_length bl (by omega)]; omega) (by omega)))) ?_
      refine D.qY 11 rfl (Qt.add32 rfl rfl) ?_
      refine D.qY 12 rfl (Qt.move (by conv => lhs; whnf)) ?_
      refine D.qY 13 rfl (Qt.add32 rfl rfl) ?_
      refine D.qY 14 rfl (Qt.indexB Tryz.underlying302 Tryz.cells223 rfl rfl (by omega)) ?_
      refine D.opN (k := 15) (Sub.drop _ (Sub.keep _ (Sub.keep _ (Sub.nil [])))) rfl (by kernel_rfl) (by kernel_rfl) rfl (OpV.storeE0 rfl (by conv => lhs; whnf) Tryz.cells223 rfl rfl (by rw [w32s_length, schedA_length bl (by omega)]; omega) (by rw [Nat.zero_add, Nat.mul_one, w32s_set, schedA_set bl (by omega) _ (by rw [nextW, if_neg h28, schedA_get bl (by omega), schedA_get bl (by omega), schedA_get bl (by omega), schedA_get bl (by omega)]; rfl)]) ⟨Sub.drop _ (Sub.keep _ (Sub.keep _ (Sub.nil []))), ?_⟩)
      refine D.done (Sub.drop _ (Sub.keep _ (Sub.keep _ (Sub.nil [])))) (by kernel_rfl) ?_
      refine TC.region ?_
      refine S.mv ?_
      refine S.q rfl rfl (Qt.add (b := 1) rfl rfl (by simp only [kmax]; omega)) ?_
      refine S.as ?_
      refine S.nil ?_
      refine ⟨k + 1, ?_, ?_, ⟨?_, (List.forall_mem_cons.2 ⟨rfl, (fun _ h => nomatch h)⟩)⟩, Sub.refl _⟩
      · show _ ≤ _; omega
      · show _ < _; dsimp only; omega
      repeat (first | exact Out.refl _ _ | refine Out.put rfl ?_ | refine Out.puts rfl ?_ | refine Out.scr ?_ | refine Out.scr' rfl ?_)
  · refine S.nil ?_
    refine S.if_f rfl ?_
    refine TC.exit ?_
    refine TC.seq ?_
    refine S.draw ([], []) Tryz.mixed (Sub.nil _) ?_
    refine D.qY 0 rfl (Qt.indexB (i := 0) Tryz.underlying224 Tryz.cells223 rfl rfl (by omega)) ?_
    refine D.qY 1 rfl (Qt.load rfl (Ld.one (Has.at 2 rfl) Tryz.one223 (w32s_get (i := 0) (by rw [hs]; decide) rfl))) ?_
    refine D.qY 2 rfl (Qt.indexB (i := 1) Tryz.underlying224 Tryz.cells223 rfl rfl (by omega)) ?_
    refine D.qY 3 rfl (Qt.load rfl (Ld.one (Has.at 2 rfl) Tryz.one223 (w32s_get (i := 1) (by rw [hs]; decide) rfl))) ?_
    refine D.qY 4 rfl (Qt.indexB (i := 2) Tryz.underlying224 Tryz.cells223 rfl rfl (by omega)) ?_
    refine D.qY 5 rfl (Qt.load rfl (Ld.one (Has.at 2 rfl) Tryz.one223 (w32s_get (i := 2) (by rw [hs]; decide) rfl))) ?_
    refine D.qY 6 rfl (Qt.indexB (i := 3) Tryz.underlying224 Tryz.cells223 rfl rfl (by omega)) ?_
    refine D.qY 7 rfl (Qt.load rfl (Ld.one (Has.at 2 rfl) Tryz.one223 (w32s_get (i := 3) (by rw [hs]; decide) rfl))) ?_
    refine D.qY 8 rfl (Qt.indexB (i := 4) Tryz.underlying224 Tryz.cells223 rfl rfl (by omega)) ?_
    refine D.qY 9 rfl (Qt.load rfl (Ld.one (Has.at 2 rfl) Tryz.one223 (w32s_get (i := 4) (by rw [hs]; decide) rfl))) ?_
    refine D.qY 10 rfl (Qt.indexB (i := 5) Tryz.underlying224 Tryz.cells223 rfl rfl (by omega)) ?_
    refine D.qY 11 rfl (Qt.load rfl (Ld.one (Has.at 2 rfl) Tryz.one223 (w32s_get (i := 5) (by rw [hs]; decide) rfl))) ?_
    refine D.qY 12 rfl (Qt.indexB (i := 6) Tryz.underlying224 Tryz.cells223 rfl rfl (by omega)) ?_
    refine D.qY 13 rfl (Qt.load rfl (Ld.one (Has.at 2 rfl) Tryz.one223 (w32s_get (i := 6) (by rw [hs]; decide) rfl))) ?_
    refine D.qY 14 rfl (Qt.indexB (i := 7) Tryz.underlying224 Tryz.cells223 rfl rfl (by omega)) ?_
    refine D.qY 15 rfl (Qt.load rfl (Ld.one (Has.at 2 rfl) Tryz.one223 (w32s_get (i := 7) (by rw [hs]; decide) rfl))) ?_
    refine D.qY 16 rfl (Qt.assign (by conv => lhs; whnf)) ?_
    refine D.qY 17 rfl (Qt.assign (by conv => lhs; whnf)) ?_
    refine D.qY 18 rfl (Qt.assign (by conv => lhs; whnf)) ?_
    refine D.qY 19 rfl (Qt.assign (by conv => lhs; whnf)) ?_
    refine D.qY 20 rfl (Qt.assign (by conv => lhs; whnf)) ?_
    refine D.qY 21 rfl (Qt.assign (by conv => lhs; whnf)) ?_
    refine D.qY 22 rfl (Qt.assign (by conv => lhs; whnf)) ?_
    refine D.qY 23 rfl (Qt.assign (by conv => lhs; whnf)) ?_
    refine D.done (Sub.nil _) (by kernel_rfl) ?_
    refine TC.seq ?_
    refine TC.seq ?_
    refine TC.region ?_
    refine S.as ?_
    refine S.nil ?_
    refine TC.block ?_
    have ew : schedA bl k = ws := by rw [hws, show k = 64 by omega, schedA_all]
    rw [ew]
    refine TC.loop (γ := Nat) [103, 104, 107, 108, 109, 110, 111, 112, 113, 114, 115, 116, 117, 118, 119, 120, 121, 122, 123, 124, 125, 126, 127, 128, 129, 130, 131, 132, 133, 21, 134, 135, 136, 137, 138, 139, 140, 141, 142, 143, 144, 145, 146, 147, 148, 149, 150, 151, 152, 153, 22, 154, 19, 155, 18, 156, 17, 157, 158, 159, 16, 160, 15, 161, 14, 162, 13, 163, 164, 165, 12, 105, 106, 20] (fun r => [(20, .int .i64 (r : Int)), (12, .int .u32 (((rnds s ws r).getD 0 0).toNat : Int)), (13, .int .u32 (((rnds s ws r).getD 1 0).toNat : Int)), (14, .int .u32 (((rnds s ws r).getD 2 0).toNat : Int)), (15, .int .u32 (((rnds s ws r).getD 3 0).toNat : Int)), (16, .int .u32 (((rnds s ws r).getD 4 0).toNat : Int)), (17, .int .u32 (((rnds s ws r).getD 5 0).toNat : Int)), (18, .int .u32 (((rnds s ws r).getD 6 0).toNat : Int)), (19, .int .u32 (((rnds s ws r).getD 7 0).toNat : Int))]) (fun r => [Blk b5 302 (w32s ws), Blk b4 224 (List.replicate 8 (.int .u32 0)), Blk b2 224 (w32s s)]) (fun r => r ≤ 64) (fun r => 64 - r) (0)
      (by omega) ⟨Out.refl _ _, (List.forall_mem_cons.2 ⟨rfl, (List.forall_mem_cons.2 ⟨rfl, (List.forall_mem_cons.2 ⟨rfl, (List.forall_mem_cons.2 ⟨rfl, (List.forall_mem_cons.2 ⟨rfl, (List.forall_mem_cons.2 ⟨rfl, (List.forall_mem_cons.2 ⟨rfl, (List.forall_mem_cons.2 ⟨rfl, (List.forall_mem_cons.2 ⟨rfl, (fun _ h => nomatch h)⟩)⟩)⟩)⟩)⟩)⟩)⟩)⟩)⟩)⟩ (Sub.refl _) ?_
    rintro r u hr
    refine TC.seq ?_
    refine TC.seq ?_
    refine TC.region ?_
    refine S.mv ?_
    refine S.dec rfl rfl (Qt.lt (b := 64) rfl rfl) (fun h104 => ?_) (fun h104 => ?_)
    · refine S.nil ?_
      refine S.if_t rfl ?_
      refine TC.skip ?_
      refine TC.seq ?_
      refine TC.block ?_
      refine TC.seq ?_
      refine S.draw ([], []) Tryz.mixed (Sub.nil _) ?_
      refine D.qY 0 rfl (Qt.move (by conv => lhs; whnf)) ?_
      refine D.qY 1 rfl (Qt.move (by conv => lhs; whnf)) ?_
      refine D.cX (k := 2) rfl (by kernel_rfl) (by kernel_rfl) (by kernel_rfl) rfl rfl (CalU.con0 Tryz.ent181 rfl (fun w hw => rturn_R _ 6 (by decide) (by decide) w)) ?_
      refine D.qY 3 rfl (Qt.move (by conv => lhs; whnf)) ?_
      refine D.cX (k := 4) rfl (by kernel_rfl) (by kernel_rfl) (by kernel_rfl) rfl rfl (CalU.con0 Tryz.ent181 rfl (fun w hw => rturn_R _ 11 (by decide) (by decide) w)) ?_
      refine D.qY 5 rfl (Qt.xor32 rfl rfl) ?_
      refine D.qY 6 rfl (Qt.move (by conv => lhs; whnf)) ?_
      refine D.cX (k := 7) rfl (by kernel_rfl) (by kernel_rfl) (by kernel_rfl) rfl rfl (CalU.con0 Tryz.ent181 rfl (fun w hw => rturn_R _ 25 (by decide) (by decide) w)) ?_
      refine D.qY 8 rfl (Qt.xor32 rfl rfl) ?_
      refine D.qY 9 rfl (Qt.add32 rfl rfl) ?_
      refine D.qY 10 rfl (Qt.move (by conv => lhs; whnf)) ?_
      refine D.qY 11 rfl (Qt.move (by conv => lhs; whnf)) ?_
      refine D.qY 12 rfl (Qt.and32 rfl rfl) ?_
      refine D.qY 13 rfl (Qt.move (by conv => lhs; whnf)) ?_
      refine D.qY 14 rfl (Qt.not32 rfl) ?_
      refine D.qY 15 rfl (Qt.move (by conv => lhs; whnf)) ?_
      refine D.qY 16 rfl (Qt.and32 rfl rfl) ?_
      refine D.qY 17 rfl (Qt.xor32 rfl rfl) ?_
      refine D.qY 18 rfl (Qt.add32 rfl rfl) ?_
      refine D.qY 19 rfl (Qt.move (by conv => lhs; whnf)) ?_
      refine D.qY 20 rfl (Qt.indexB Tryz.underlying302 Tryz.cells223 rfl rfl (by omega)) ?_
      refine D.qY 21 rfl (Qt.load rfl (Ld.slB (Has.ro hT.1) Tryz.one223 (w32s_get (i := r) (by rw [K256_length]; omega) (by omega)))) ?_
      refine D.qY 22 rfl (Qt.add32 rfl rfl) ?_
      refine D.qY 23 rfl (Qt.move (by conv => lhs; whnf)) ?_
      refine D.qY 24 rfl (Qt.indexB Tryz.underlying302 Tryz.cells223 rfl rfl (by omega)) ?_
      refine D.qY 25 rfl (Qt.load rfl (Ld.one (Has.at 0 rfl) Tryz.one223 (w32s_get (i := r) (by rw [hwl]; omega) (by omega)))) ?_
      refine D.qY 26 rfl (Qt.add32 rfl rfl) ?_
      refine D.qY 27 rfl (Qt.assign (by conv => lhs; whnf)) ?_
      refine D.done (Sub.nil _) (by kernel_rfl) ?_
      refine TC.seq ?_
      refine TC.region ?_
      refine S.mv ?_
      refine S.opS rfl rfl (OpV.con0 Tryz.ent181 rfl (fun w hw => rturn_R _ 2 (by decide) (by decide) w) ?_)
      refine S.mv ?_
      refine S.opS rfl rfl (OpV.con0 Tryz.ent181 rfl (fun w hw => rturn_R _ 13 (by decide) (by decide) w) ?_)
      refine S.q rfl rfl (Qt.xor32 rfl rfl) ?_
      refine S.mv ?_
      refine S.opS rfl rfl (OpV.con0 Tryz.ent181 rfl (fun w hw => rturn_R _ 22 (by decide) (by decide) w) ?_)
      refine S.q rfl rfl (Qt.xor32 rfl rfl) ?_
      refine S.mv ?_
      refine S.mv ?_
      refine S.q rfl rfl (Qt.and32 rfl rfl) ?_
      refine S.mv ?_
      refine S.mv ?_
      refine S.q rfl rfl (Qt.and32 rfl rfl) ?_
      refine S.q rfl rfl (Qt.xor32 rfl rfl) ?_
      refine S.mv ?_
      refine S.mv ?_
      refine S.q rfl rfl (Qt.and32 rfl rfl) ?_
      refine S.q rfl rfl (Qt.xor32 rfl rfl) ?_
      refine S.q rfl rfl (Qt.add32 rfl rfl) ?_
      refine S.as ?_
      refine S.nil ?_
      refine TC.seq ?_
      refine TC.region ?_
      refine S.mv ?_
      refine S.as ?_
      refine S.nil ?_
      refine TC.seq ?_
      refine TC.region ?_
      refine S.mv ?_
      refine S.as ?_
      refine S.nil ?_
      refine TC.seq ?_
      refine TC.region ?_
      refine S.mv ?_
      refine S.as ?_
      refine S.nil ?_
      refine TC.seq ?_
      refine TC.region ?_
      refine S.mv ?_
      refine S.mv ?_
      refine S.q rfl rfl (Qt.add32 rfl rfl) ?_
      refine S.as ?_
      refine S.nil ?_
      refine TC.seq ?_
      refine TC.region ?_
      refine S.mv ?_
      refine S.as ?_
      refine S.nil ?_
      refine TC.seq ?_
      refine TC.region ?_
      refine S.mv ?_
      refine S.as ?_
      refine S.nil ?_
      refine TC.seq ?_
      refine TC.region ?_
      refine S.mv ?_
      refine S.as ?_
      refine S.nil ?_
      refine TC.region ?_
      refine S.mv ?_
      refine S.mv ?_
      refine S.q rfl rfl (Qt.add32 rfl rfl) ?_
      refine S.as ?_
      refine S.nil ?_
      refine TC.region ?_
      refine S.mv ?_
      refine S.q rfl rfl (Qt.add (b := 1) rfl rfl (by simp only [kmax]; omega)) ?_
      refine S.as ?_
      refine S.nil ?_
      refine ⟨r + 1, ?_, ?_, ⟨?_, (List.forall_mem_cons.2 ⟨rfl, (List.forall_mem_cons.2 ⟨rfl, (List.forall_mem_cons.2 ⟨rfl, (List.forall_mem_cons.2 ⟨rfl, (List.forall_mem_cons.2 ⟨rfl, (List.forall_mem_cons.2 ⟨rfl, (List.forall_mem_cons.2 ⟨rfl, (List.forall_mem_cons.2 ⟨rfl, (List.forall_mem_cons.2 ⟨rfl, (fun _ h => nomatch h)⟩)⟩)⟩)⟩)⟩)⟩)⟩)⟩)⟩)⟩, Sub.refl _⟩
      · show _ ≤ _; omega
      · show _ < _; dsimp only; omega
      repeat (first | exact Out.refl _ _ | refine Out.put rfl ?_ | refine Out.puts rfl ?_ | refine Out.scr ?_ | refine Out.scr' rfl ?_)
    · refine S.nil ?_
      refine S.if_f rfl ?_
      refine TC.exit ?_
      refine TC.seq ?_
      refine TC.region ?_
      refine S.q rfl rfl (Qt.indexB (i := 0) Tryz.underlying224 Tryz.cells223 rfl rfl (by omega)) ?_
      refine S.q rfl rfl (Qt.load rfl (Ld.one (Has.at 2 rfl) Tryz.one223 (w32s_get (i := 0) (by rw [hs]; decide) rfl))) ?_
      refine S.mv ?_
      refine S.q rfl rfl (Qt.add32 rfl rfl) ?_
      refine S.q rfl rfl (Qt.indexB (i := 1) Tryz.underlying224 Tryz.cells223 rfl rfl (by omega)) ?_
      refine S.q rfl rfl (Qt.load rfl (Ld.one (Has.at 2 rfl) Tryz.one223 (w32s_get (i := 1) (by rw [hs]; decide) rfl))) ?_
      refine S.mv ?_
      refine S.q rfl rfl (Qt.add32 rfl rfl) ?_
      refine S.q rfl rfl (Qt.indexB (i := 2) Tryz.underlying224 Tryz.cells223 rfl rfl (by omega)) ?_
      refine S.q rfl rfl (Qt.load rfl (Ld.one (Has.at 2 rfl) Tryz.one223 (w32s_get (i := 2) (by rw [hs]; decide) rfl))) ?_
      refine S.mv ?_
      refine S.q rfl rfl (Qt.add32 rfl rfl) ?_
      refine S.q rfl rfl (Qt.indexB (i := 3) Tryz.underlying224 Tryz.cells223 rfl rfl (by omega)) ?_
      refine S.q rfl rfl (Qt.load rfl (Ld.one (Has.at 2 rfl) Tryz.one223 (w32s_get (i := 3) (by rw [hs]; decide) rfl))) ?_
      refine S.mv ?_
      refine S.q rfl rfl (Qt.add32 rfl rfl) ?_
      refine S.q rfl rfl (Qt.indexB (i := 4) Tryz.underlying224 Tryz.cells223 rfl rfl (by omega)) ?_
      refine S.q rfl rfl (Qt.load rfl (Ld.one (Has.at 2 rfl) Tryz.one223 (w32s_get (i := 4) (by rw [hs]; decide) rfl))) ?_
      refine S.mv ?_
      refine S.q rfl rfl (Qt.add32 rfl rfl) ?_
      refine S.q rfl rfl (Qt.indexB (i := 5) Tryz.underlying224 Tryz.cells223 rfl rfl (by omega)) ?_
      refine S.q rfl rfl (Qt.load rfl (Ld.one (Has.at 2 rfl) Tryz.one223 (w32s_get (i := 5) (by rw [hs]; decide) rfl))) ?_
      refine S.mv ?_
      refine S.q rfl rfl (Qt.add32 rfl rfl) ?_
      refine S.q rfl rfl (Qt.indexB (i := 6) Tryz.underlying224 Tryz.cells223 rfl rfl (by omega)) ?_
      refine S.q rfl rfl (Qt.load rfl (Ld.one (Has.at 2 rfl) Tryz.one223 (w32s_get (i := 6) (by rw [hs]; decide) rfl))) ?_
      refine S.mv ?_
      refine S.q rfl rfl (Qt.add32 rfl rfl) ?_
      refine S.q rfl rfl (Qt.indexB (i := 7) Tryz.underlying224 Tryz.cells223 rfl rfl (by omega)) ?_
      refine S.q rfl rfl (Qt.load rfl (Ld.one (Has.at 2 rfl) Tryz.one223 (w32s_get (i := 7) (by rw [hs]; decide) rfl))) ?_
      refine S.mv ?_
      refine S.q rfl rfl (Qt.add32 rfl rfl) ?_
      refine S.q rfl rfl (Qt.build (v := .agg (w32s (plus8 s (rnds s ws r))).toArray) rfl (fun _ => by kernel_rfl)) ?_
      refine S.opN rfl (OpV.storeV1 (v := .agg (w32s (plus8 s (rnds s ws r))).toArray) rfl rfl (by rw [vl_agg, w32s_length]; exact Tryz.cells224) (w32s_all _) (rfl) ?_)
      refine S.nil ?_
      refine TC.ret ?_
      refine finQ.ret (RVs.cell rfl (Ld.all (Has.at 1 rfl) Tryz.row224 (by rw [vl_agg, w32s_length]; exact Tryz.cells224)) RVs.nil) (Sub.nil _) ?_
      have e : rnds s ws r = rnds s ws 64 := by rw [show r = 64 by omega]
      rw [← e]
      exact ⟨rfl, rfl⟩
theorem rcompress_R (s : List W) (A : Option Addr) (c : Nat) (bl : List UInt8) (hs : s.length = 8) (hb : bl.length = 64) (w0 : World) (hR : Ro w0 [] (SlA A (bytesL bl))) (hT : Tabs 2 0 w0 []) : Calls Tryz.prog 121 #[.agg (w32s s).toArray, .slice A 64 c] w0 (Ret w0 (.agg (w32s (comp s bl)).toArray)) :=
  Calls.ret ((rcompress_walk0 s A c bl (sched bl 64) hs hb rfl (sched_length bl 64) w0 hR hT).mono fun e w ⟨v, L, h1, h2, h3, h4⟩ => ⟨v, L, h1, h2, by rw [h3, comp, plus8_comm], h4⟩)

set_option maxHeartbeats 400000 in
theorem rsum_walk (A : Option Addr) (c : Nat) (b : List UInt8) (w0 : World) (hR : Ro w0 [] (SlA A (bytesL b))) (hl : b.length ≤ 70368744177664) (hT : Tabs 2 0 w0 []) :
    Calls Tryz.prog 57 #[.slice A b.length c] w0 (Post w0 [] fun v L => v = hv (shaH b) ∧ L = []) := by
  refine Calls.of (L := []) (n := 42) (rs := [.cell 2 49]) Tryz.func57 rfl rfl rfl (Nat.le_of_ble_eq_true rfl) (Sat.nil _) ?_
  obtain ⟨m, hm⟩ : ∃ m, (padL b).length = 64 * m := ⟨(padL b).length / 64, by have := padL_mod b; omega⟩
  have hpl := padL_length b
  have hnl : noughts b.length < 64 := Nat.mod_lt _ (by decide)
  refine TC.seq ?_
  refine TC.region ?_
  refine S.opS rfl rfl (OpV.alloc Tryz.zero49 (fun b2 => ?_))
  refine S.nil ?_
  refine TC.seq ?_
  refine TC.region ?_
  refine S.mv ?_
  refine S.opS rfl rfl (OpV.con (Pre := []) (R := _) Tryz.ent120 rfl (List.Perm.refl _) (fun w hw => rpad_walk A c b w (Rd.ro hR w hw) hl) ?_)
  rintro v L' ⟨O, d, rfl, rfl⟩
  refine TL.fact (Has.at 0 rfl) (fun _ h => own_cap h) (fun hdc => ?_)
  refine S.as ?_
  refine S.nil ?_
  refine TC.seq ?_
  refine TC.region ?_
  refine S.q rfl rfl (Qt.load rfl (Ld.sl0 (vs := w32s I256) (Has.ro hT.2) Tryz.row224 (by rw [w32s_length, I256_length]; exact Tryz.cells224) (by decide) (fun _ _ h => h))) ?_
  refine S.opS rfl rfl (OpV.alloc Tryz.zero224 (fun b4 => ?_))
  refine S.opN rfl (OpV.storeV0 (v := .agg (w32s I256).toArray) rfl rfl (by rw [vl_agg, w32s_length, I256_length]; exact Tryz.cells224) (w32s_all _) (rfl) ?_)
  refine S.nil ?_
  refine TC.seq ?_
  refine TC.seq ?_
  refine TC.region ?_
  refine S.as ?_
  refine S.nil ?_
  refine TC.block ?_
  refine TC.loop (γ := Nat) [11, 12, 13, 14, 17, 18, 19, 20, 21, 22, 23, 15, 16, 5] (fun k => [(5, .int .i64 ((64 * k : Nat) : Int))]) (fun k => [Blk b4 224 (w32s (sumSt (padL b) k)), OwnA 5 1 O (padL b).length d (bytesL (padL b)), Blk b2 49 (List.replicate 32 (.int .u8 0))]) (fun k => k ≤ m) (fun k => m - k) (0)
    (by omega) ⟨Out.refl _ _, (List.forall_mem_cons.2 ⟨rfl, (fun _ h => nomatch h)⟩)⟩ (Sub.refl _) ?_
  rintro k u hk
  have hO : ∀ {L : List Assn} {M : List Nat} {P : Program} {n : Nat} {r : Option Nat} w, St w0 M L w → OwnA 5 1 O (padL b).length d (bytesL (padL b)) ∈ L → Ro w [] (SlA (O.map (·.add (64 * k * 1))) (bytesL (blk64 (padL b) k))) := fun {L M P n r} w hw hm => by
    rw [show blk64 (padL b) k = ((padL b).drop (64 * k * 1)).take 64 by rw [Nat.mul_one]; rfl]
    exact Ro.bytesPart (Ro.own (Rd.mem (C := ⟨P, n, w0, M, r⟩) hm w hw)) (64 * k * 1) 64
  refine TC.seq ?_
  refine TC.seq ?_
  refine TC.region ?_
  refine S.mv ?_
  refine S.mv ?_
  refine S.q rfl rfl (Qt.len_slice Tryz.underlying112 rfl) ?_
  refine S.dec rfl rfl (Qt.lt rfl rfl) (fun h14 => ?_) (fun h14 => ?_)
  · refine S.nil ?_
    refine S.if_t rfl ?_
    refine TC.skip ?_
    refine TC.seq ?_
    refine TC.block ?_
    refine S.draw ([7], []) Tryz.mixed (Sub.drop _ (Sub.keep _ (Sub.keep _ (Sub.nil [])))) ?_
    refine D.qY 0 rfl (Qt.load rfl (Ld.all (Has.at 0 rfl) Tryz.row224 (by rw [w32s_length, sumSt_length]; exact Tryz.cells224))) ?_
    refine D.qY 1 rfl (Qt.move (by conv => lhs; whnf)) ?_
    refine D.qY 2 rfl (Qt.move (by conv => lhs; whnf)) ?_
    refine D.qY 3 rfl (Qt.move (by conv => lhs; whnf)) ?_
    refine D.qY 4 rfl (Qt.add (b := 64) rfl rfl (by simp only [kmax]; omega)) ?_
    refine D.qY 5 rfl (Qt.as (v' := .slice (O.map (·.add (64 * k * 1))) 64 (d - 64 * k)) (Qt.slice_lohi Tryz.underlying112 Tryz.cells5 rfl rfl rfl (by omega) (by have := hdc.1; omega)) (by have := hdc.1; rw [if_neg (by omega), show 64 * k + 64 - 64 * k = 64 by omega])) ?_
    refine D.cX (k := 6) rfl (by kernel_rfl) (by kernel_rfl) (by kernel_rfl) rfl rfl (CalU.con0 Tryz.ent121 rfl (fun w hw => rcompress_R _ _ _ (blk64 (padL b) k) (sumSt_length _ _) (blk64_length (m := m) (by omega) hm) w (hO (P := Tryz.prog) (n := 0) (r := none) w hw (by simp)) (hT.at hw))) ?_
    refine D.opN (k := 7) (Sub.drop _ (Sub.keep _ (Sub.keep _ (Sub.nil [])))) rfl (by kernel_rfl) (by kernel_rfl) rfl (OpV.storeV0 (v := .agg (w32s (comp (sumSt (padL b) k) (blk64 (padL b) k))).toArray) rfl rfl (by rw [vl_agg, w32s_length, comp_length]; exact Tryz.cells224) (w32s_all _) (by rw [vl_agg, w32s_length, w32s_length, comp_length, sumSt_length]) ⟨Sub.drop _ (Sub.keep _ (Sub.keep _ (Sub.nil []))), ?_⟩)
    refine D.done (Sub.drop _ (Sub.keep _ (Sub.keep _ (Sub.nil [])))) (by kernel_rfl) ?_
    refine TC.region ?_
    refine S.mv ?_
    refine S.q rfl rfl (Qt.add (b := 64) rfl rfl (by simp only [kmax]; omega)) ?_
    refine S.as ?_
    refine S.nil ?_
    refine ⟨k + 1, ?_, ?_, ⟨?_, (List.forall_mem_cons.2 ⟨rfl, (fun _ h => nomatch h)⟩)⟩, Sub.refl _⟩
    · show _ ≤ _; omega
    · show _ < _; dsimp only; omega
    repeat (first | exact Out.refl _ _ | refine Out.put rfl ?_ | refine Out.puts rfl ?_ | refine Out.scr ?_ | refine Out.scr' rfl ?_)
  · refine S.nil ?_
    refine S.if_f rfl ?_
    refine TC.exit ?_
    refine TC.seq ?_
    refine TC.region ?_
    refine S.opS rfl rfl (OpV.alloc Tryz.zero49 (fun b6 => ?_))
    refine S.nil ?_
    refine TC.seq ?_
    refine TC.seq ?_
    refine TC.region ?_
    refine S.as ?_
    refine S.nil ?_
    refine TC.block ?_
    obtain ⟨s, hsd⟩ : ∃ s, s = sumSt (padL b) k := ⟨_, rfl⟩
    have hs : s.length = 8 := by rw [hsd, sumSt_length]
    rw [← hsd]
    refine TC.loop (γ := Nat) [24, 25, 28, 29, 30, 31, 32, 33, 34, 35, 36, 37, 38, 39, 40, 26, 27, 7] (fun i => [(7, .int .i64 (i : Int))]) (fun i => [Blk b6 49 (bytesL (outQ s i)), Blk b4 224 (w32s s), Blk b2 49 (List.replicate 32 (.int .u8 0))]) (fun i => i ≤ 32) (fun i => 32 - i) (0)
      (by omega) ⟨Out.refl _ _, (List.forall_mem_cons.2 ⟨rfl, (fun _ h => nomatch h)⟩)⟩ ((by rw [outQ_zero]; exact Sub.keep _ (Sub.keep _ (Sub.drop _ (Sub.refl _))))) ?_
    rintro i u hi
    refine TC.seq ?_
    refine TC.seq ?_
    refine TC.region ?_
    refine S.mv ?_
    refine S.dec rfl rfl (Qt.lt (b := 32) rfl rfl) (fun h25 => ?_) (fun h25 => ?_)
    · refine S.nil ?_
      refine S.if_t rfl ?_
      refine TC.skip ?_
      refine TC.seq ?_
      refine TC.block ?_
      refine TC.region ?_
      refine S.mv ?_
      refine S.mv ?_
      refine S.q rfl rfl (Qt.quo (b := 4) rfl rfl (by omega) (by simp only [kmax]; omega)) ?_
      refine S.q rfl rfl (Qt.indexB Tryz.underlying224 Tryz.cells223 rfl rfl (by omega)) ?_
      refine S.q rfl rfl (Qt.load rfl (Ld.one (Has.at 1 rfl) Tryz.one223 (w32s_get (i := i / 4) (by rw [hs]; omega) (by omega)))) ?_
      refine S.mv ?_
      refine S.q rfl rfl (Qt.rem (b := 4) rfl rfl (by omega)) ?_
      refine S.q rfl rfl (Qt.mul (a := 8) rfl rfl (by simp only [kmax]; omega)) ?_
      refine S.q rfl rfl (Qt.sub (a := 24) rfl rfl (by omega) (by simp only [kmax]; omega)) ?_
      refine S.q rfl rfl (Qt.convert Tryz.underlying3 Tryz.underlying226 rfl (by simp only [kmax]; omega)) ?_
      refine S.q rfl rfl (Qt.shr32 rfl rfl) ?_
      refine S.q rfl rfl (Qt.toByte Tryz.underlying223 Tryz.underlying5 rfl) ?_
      refine S.q rfl rfl (Qt.indexB Tryz.underlying49 Tryz.cells5 rfl rfl (by omega)) ?_
      refine S.opN rfl (OpV.storeE0 rfl (by conv => lhs; whnf) Tryz.cells5 rfl rfl (by rw [bytesL_length, outQ_length hs (by omega)]; omega) (by rw [Nat.zero_add, Nat.mul_one, bytesL_set, outQ_set hs (by omega)]) ?_)
      refine S.nil ?_
      refine TC.region ?_
      refine S.mv ?_
      refine S.q rfl rfl (Qt.add (b := 1) rfl rfl (by simp only [kmax]; omega)) ?_
      refine S.as ?_
      refine S.nil ?_
      refine ⟨i + 1, ?_, ?_, ⟨?_, (List.forall_mem_cons.2 ⟨rfl, (fun _ h => nomatch h)⟩)⟩, Sub.refl _⟩
      · show _ ≤ _; omega
      · show _ < _; dsimp only; omega
      repeat (first | exact Out.refl _ _ | refine Out.put rfl ?_ | refine Out.puts rfl ?_ | refine Out.scr ?_ | refine Out.scr' rfl ?_)
    · refine S.nil ?_
      refine S.if_f rfl ?_
      refine TC.exit ?_
      refine TC.seq ?_
      refine TC.region ?_
      refine S.q rfl rfl (Qt.load rfl (Ld.all (Has.at 0 rfl) Tryz.row49 (by rw [bytesL_length, outQ_length hs (by omega)]; exact Tryz.cells49))) ?_
      refine S.opN rfl (OpV.storeV2 (v := .agg (bytesL (outQ s i)).toArray) rfl rfl (by rw [vl_agg, bytesL_length, outQ_length hs (by omega)]; exact Tryz.cells49) (bytesL_all _) (by rw [vl_agg, bytesL_length, outQ_length hs (by omega)]; rfl) ?_)
      refine S.nil ?_
      refine TC.ret ?_
      refine finQ.ret (RVs.cell rfl (Ld.all (Has.at 2 rfl) Tryz.row49 (by rw [vl_agg, bytesL_length, outQ_length hs (by omega)]; exact Tryz.cells49)) RVs.nil) (Sub.nil _) ?_
      have hkm : k = m := by omega
      have e : outQ s i = shaL b := by rw [show i = 32 by omega, outQ_all hs, hsd, hkm, shaL, hm, Nat.mul_div_cancel_left _ (by decide)]
      exact ⟨congrArg (fun l => Value.agg (bytesL l).toArray) e, rfl⟩
end Go.Proofs.YtgdjcmehlhebdaaGreatDoor
namespace Go.Proofs.YtgdjcmehlhebdaaGreatDoor
open Go.E
set_option linter.unusedVariables false
set_option maxRecDepth 4000
set_option maxHeartbeats 400000 in
theorem sized_walk (s : Nat) (w0 : World) :
    Calls Tryz.prog 201 #[.int .i64 (s : Int)] w0 (Post w0 [] fun v L => v = .bool (decide (s = 1 ∨ s = 2 ∨ s = 4 ∨ s = 8)) ∧ L = []) := by
  refine Calls.of (L := []) (n := 17) (rs := [.tmp 2]) Tryz.func201 rfl rfl rfl (Nat.le_of_ble_eq_true rfl) (Sat.nil _) ?_
  refine TC.seq ?_
  refine TC.region ?_
  refine S.as ?_
  refine S.nil ?_
  refine TC.seq ?_
  refine TC.region ?_
  refine S.mv ?_
  refine S.dec rfl rfl (Qt.eq (b := 1) rfl rfl) (fun h4 => ?_) (fun h4 => ?_)
  · refine S.mv ?_
    refine S.pass rfl rfl ?_
    refine S.pass rfl rfl ?_
    refine S.q rfl rfl (Qt.pick_t rfl (by conv => lhs; whnf)) ?_
    refine S.mv ?_
    refine S.pass rfl rfl ?_
    refine S.pass rfl rfl ?_
    refine S.q rfl rfl (Qt.pick_t rfl (by conv => lhs; whnf)) ?_
    refine S.mv ?_
    refine S.pass rfl rfl ?_
    refine S.pass rfl rfl ?_
    refine S.q rfl rfl (Qt.pick_t rfl (by conv => lhs; whnf)) ?_
    refine S.as ?_
    refine S.nil ?_
    refine TC.ret ?_
    refine finQ.ret (RVs.tmp (by conv => lhs; whnf) RVs.nil) (Sub.nil _) ?_
    exact ⟨by simp [pack, *], rfl⟩
  · refine S.mv ?_
    refine S.qg rfl rfl rfl (Qt.move (by conv => lhs; whnf)) ?_
    refine S.decg rfl rfl rfl (Qt.eq (b := 2) rfl rfl) (fun h7 => ?_) (fun h7 => ?_)
    · refine S.q rfl rfl (Qt.pick_f rfl (by conv => lhs; whnf)) ?_
      refine S.mv ?_
      refine S.pass rfl rfl ?_
      refine S.pass rfl rfl ?_
      refine S.q rfl rfl (Qt.pick_t rfl (by conv => lhs; whnf)) ?_
      refine S.mv ?_
      refine S.pass rfl rfl ?_
      refine S.pass rfl rfl ?_
      refine S.q rfl rfl (Qt.pick_t rfl (by conv => lhs; whnf)) ?_
      refine S.as ?_
      refine S.nil ?_
      refine TC.ret ?_
      refine finQ.ret (RVs.tmp (by conv => lhs; whnf) RVs.nil) (Sub.nil _) ?_
      exact ⟨by simp [pack, *], rfl⟩
    · refine S.q rfl rfl (Qt.pick_f rfl (by conv => lhs; whnf)) ?_
      refine S.mv ?_
      refine S.qg rfl rfl rfl (Qt.move (by conv => lhs; whnf)) ?_
      refine S.decg rfl rfl rfl (Qt.eq (b := 4) rfl rfl) (fun h11 => ?_) (fun h11 => ?_)
      · refine S.q rfl rfl (Qt.pick_f rfl (by conv => lhs; whnf)) ?_
        refine S.mv ?_
        refine S.pass rfl rfl ?_
        refine S.pass rfl rfl ?_
        refine S.q rfl rfl (Qt.pick_t rfl (by conv => lhs; whnf)) ?_
        refine S.as ?_
        refine S.nil ?_
        refine TC.ret ?_
        refine finQ.ret (RVs.tmp (by conv => lhs; whnf) RVs.nil) (Sub.nil _) ?_
        exact ⟨by simp [pack, *], rfl⟩
      · refine S.q rfl rfl (Qt.pick_f rfl (by conv => lhs; whnf)) ?_
        refine S.mv ?_
        refine S.qg rfl rfl rfl (Qt.move (by conv => lhs; whnf)) ?_
        refine S.decg rfl rfl rfl (Qt.eq (b := 8) rfl rfl) (fun h15 => ?_) (fun h15 => ?_)
        · refine S.q rfl rfl (Qt.pick_f rfl (by conv => lhs; whnf)) ?_
          refine S.as ?_
          refine S.nil ?_
          refine TC.ret ?_
          refine finQ.ret (RVs.tmp (by conv => lhs; whnf) RVs.nil) (Sub.nil _) ?_
          exact ⟨by simp [pack, *], rfl⟩
        · refine S.q rfl rfl (Qt.pick_f rfl (by conv => lhs; whnf)) ?_
          refine S.as ?_
          refine S.nil ?_
          refine TC.ret ?_
          refine finQ.ret (RVs.tmp (by conv => lhs; whnf) RVs.nil) (Sub.nil _) ?_
          exact ⟨by simp [pack, *], rfl⟩
theorem sized_T (s : Nat) (h : s = 1 ∨ s = 2 ∨ s = 4 ∨ s = 8) (w0 : World) : Calls Tryz.prog 201 #[.int .i64 (s : Int)] w0 (Ret w0 (.bool true)) :=
  Calls.ret ((sized_walk s w0).mono fun e w ⟨v, L, h1, h2, h3, h4⟩ => ⟨v, L, h1, h2, by rw [h3, decide_eq_true h], h4⟩)

set_option maxHeartbeats 400000 in
theorem num_walk (wb : Nat) (A : Option Addr) (c : Nat) (bs : List UInt8) (n s : Nat) (hs : s = 1 ∨ s = 2 ∨ s = 4 ∨ s = 8) (hn : n < 2 ^ (8 * s)) (hn64 : n < 18446744073709551616) (hb : bs.length ≤ 70368744177664) (w0 : World) (hL : Sat w0 [Blk wb 297 [.nilIface, .slice A bs.length c], OwnA 5 1 A bs.length c (bytesL bs)]) :
    Calls Tryz.prog 177 #[.pointer (some ⟨wb, 0, none⟩), .int .u64 (n : Int), .int .i64 (s : Int)] w0 (Post w0 (fps [Blk wb 297 [.nilIface, .slice A bs.length c], OwnA 5 1 A bs.length c (bytesL bs)]) fun v L => ∃ O d, v = .pointer (some ⟨wb, 0, none⟩) ∧ L = [Blk wb 297 [.nilIface, .slice O (bs ++ numB n s).length d], OwnA 5 1 O (bs ++ numB n s).length d (bytesL (bs ++ numB n s))]) := by
  refine Calls.of (L := [Blk wb 297 [.nilIface, .slice A bs.length c], OwnA 5 1 A bs.length c (bytesL bs)]) (n := 51) (rs := [.tmp 6]) Tryz.func177 rfl rfl rfl (Nat.le_of_ble_eq_true rfl) (hL) ?_
  refine TC.seq ?_
  refine TC.region ?_
  refine S.as ?_
  refine S.nil ?_
  refine TC.seq ?_
  refine TC.seq ?_
  refine TC.region ?_
  refine S.mv ?_
  refine S.q rfl rfl (Qt.eqp_some Tryz.underlying293 rfl) ?_
  refine S.nil ?_
  refine S.if_f rfl ?_
  refine TC.skip ?_
  refine TC.seq ?_
  refine TC.seq ?_
  refine TC.region ?_
  refine S.mv ?_
  refine S.opS rfl rfl (OpV.con0 Tryz.ent201 rfl (fun w hw => sized_T s hs w) ?_)
  refine S.q rfl rfl (Qt.not_t rfl) ?_
  refine S.mv ?_
  refine S.qg rfl rfl rfl (Qt.move (by conv => lhs; whnf)) ?_
  refine S.decg rfl rfl rfl (Qt.lt (b := 8) rfl rfl) (fun h15 => ?_) (fun h15 => ?_)
  · refine S.qg rfl rfl rfl (Qt.move (by conv => lhs; whnf)) ?_
    refine S.qg rfl rfl rfl (Qt.move (by conv => lhs; whnf)) ?_
    refine S.qg rfl rfl rfl (Qt.move (by conv => lhs; whnf)) ?_
    refine S.qg rfl rfl rfl (Qt.mul (a := 8) rfl rfl (by simp only [kmax]; omega)) ?_
    refine S.qg rfl rfl rfl (Qt.shrN rfl rfl (by simp only [kmax]; omega)) ?_
    refine S.qg rfl rfl rfl (Qt.dF (Qt.ne (b := 0) rfl rfl) (by rw [Nat.div_eq_of_lt hn]; exact fun h => h rfl)) ?_
    refine S.qg rfl rfl rfl (Qt.pick_t rfl (by conv => lhs; whnf)) ?_
    refine S.q rfl rfl (Qt.pick_f rfl (by conv => lhs; whnf)) ?_
    refine S.nil ?_
    refine S.if_f rfl ?_
    refine TC.skip ?_
    refine TC.seq ?_
    refine TC.seq ?_
    refine TC.region ?_
    refine S.mv ?_
    refine S.q rfl rfl (Qt.subi rfl rfl (IntWalk.i64_in _ (by omega))) ?_
    refine S.as ?_
    refine S.nil ?_
    refine TC.block ?_
    refine TC.loop (γ := Nat × Option Addr × Nat) [32, 33, 36, 37, 38, 39, 40, 41, 42, 43, 44, 45, 46, 47, 48, 49, 34, 35, 7] (fun g => [(7, .int .i64 ((s : Int) - 1 - (g.1 : Int)))]) (fun g => [Blk wb 297 [.nilIface, .slice g.2.1 (bs ++ (numB n s).take g.1).length g.2.2], OwnA 5 1 g.2.1 (bs ++ (numB n s).take g.1).length g.2.2 (bytesL (bs ++ (numB n s).take g.1))]) (fun g => g.1 ≤ s) (fun g => s - g.1) ((0, A, c))
      (Nat.zero_le _) ⟨Out.refl _ _, (List.forall_mem_cons.2 ⟨(by show Value.int .i64 ((s : Int) - 1) = Value.int .i64 ((s : Int) - 1 - ((0 : Nat) : Int)); congr 1; omega), (fun _ h => nomatch h)⟩)⟩ ((by dsimp only; rw [List.take_zero, List.append_nil]; exact Sub.refl _)) ?_
    rintro ⟨i, O, d⟩ u hi
    dsimp only at hi
    have hlen : (bs ++ (numB n s).take i).length ≤ bs.length + 8 := by rw [List.length_append, List.length_take, numB_length]; omega
    have hlen2 : (bs ++ (numB n s).take (i, O, d).fst).length ≤ bs.length + 8 := hlen
    refine TC.seq ?_
    refine TC.seq ?_
    refine TC.region ?_
    refine S.mv ?_
    refine S.dec rfl rfl (Qt.gei rfl rfl) (fun h33 => ?_) (fun h33 => ?_)
    · refine S.nil ?_
      refine S.if_t rfl ?_
      refine TC.skip ?_
      refine TC.seq ?_
      refine TC.block ?_
      refine S.draw ([11, 14], [10]) Tryz.mixed (Sub.nil _) ?_
      refine D.q (k := 0) rfl (by kernel_rfl) (by kernel_rfl) rfl rfl (Qt.move (by conv => lhs; whnf)) ?_
      refine D.qY 1 rfl (Qt.move (by conv => lhs; whnf)) ?_
      refine D.qY 2 rfl (Qt.nilCheck rfl) ?_
      refine D.qY 3 rfl (Qt.field Tryz.underlying297 rfl Tryz.cells112 rfl) ?_
      refine D.qY 4 rfl (Qt.load rfl (Ld.one (Has.at 0 rfl) Tryz.one112 (rfl))) ?_
      refine D.qY 5 rfl (Qt.move (by conv => lhs; whnf)) ?_
      refine D.qY 6 rfl (Qt.as (Qt.move rfl) (congrArg (Value.int .i64) (show ((s : Int) - 1 - (i : Int)) = ((s - 1 - i : Nat) : Int) by omega))) ?_
      refine D.qY 7 rfl (Qt.mul (a := 8) rfl rfl (by simp only [kmax]; omega)) ?_
      refine D.qY 8 rfl (Qt.shrN rfl rfl (by simp only [kmax]; omega)) ?_
      refine D.qY 9 rfl (Qt.toByte Tryz.underlying40 Tryz.underlying5 rfl) ?_
      refine D.nS (k := 10) (Sub.nil _) rfl (by kernel_rfl) (by kernel_rfl) rfl rfl (OpV.slice1 (bytes := 1) (v := .int .u8 (((UInt8.ofNat (n / 2 ^ (8 * (s - 1 - i)))).toNat : Nat) : Int)) Tryz.underlying112 Tryz.elem5 (by decide) rfl rfl (fun g46 => ⟨Sub.drop _ (Sub.keep _ (Sub.keep _ (Sub.nil []))), ?_⟩))
      refine D.opS (k := 11) (Sub.nil _) rfl (by kernel_rfl) (by kernel_rfl) rfl rfl (OpV.app2 (bytes := 1) (news := bytesL [UInt8.ofNat (n / 2 ^ (8 * (s - 1 - i)))]) Tryz.underlying112 Tryz.elem5 rfl rfl (Has.blk (Has.at 0 rfl)) (rfl) (bytesL_one _) (by simp only [maxLen]; omega) (by omega) (fun O2 d2 => ⟨Sub.nil _, ?_⟩))
      refine D.qY 12 rfl (Qt.nilCheck rfl) ?_
      refine D.qY 13 rfl (Qt.field Tryz.underlying297 rfl Tryz.cells112 rfl) ?_
      refine D.opN (k := 14) (Sub.nil _) rfl (by kernel_rfl) (by kernel_rfl) rfl (OpV.storeC1 rfl (by conv => lhs; whnf) Tryz.cells112 rfl rfl (Nat.le_of_ble_eq_true rfl) ⟨Sub.nil _, ?_⟩)
      refine D.done (Sub.nil _) (by kernel_rfl) ?_
      refine TC.region ?_
      refine S.mv ?_
      refine S.q rfl rfl (Qt.subi rfl rfl (IntWalk.i64_in _ (by omega))) ?_
      refine S.as ?_
      refine S.nil ?_
      refine ⟨(i + 1, O2, d2), ?_, ?_, ⟨?_, (List.forall_mem_cons.2 ⟨(by show Value.int .i64 ((s : Int) - 1 - (i : Int) - 1) = Value.int .i64 ((s : Int) - 1 - ((i + 1 : Nat) : Int)); congr 1; omega), (fun _ h => nomatch h)⟩)⟩, (by dsimp only; rw [num_len bs n (by omega), ← num_step bs n (by omega)]; exact Sub.drop _ (Sub.refl _))⟩
      · show _ ≤ _; dsimp only; omega
      · show _ < _; dsimp only; omega
      repeat (first | exact Out.refl _ _ | refine Out.put rfl ?_ | refine Out.puts rfl ?_ | refine Out.scr ?_ | refine Out.scr' rfl ?_)
    · refine S.nil ?_
      refine S.if_f rfl ?_
      refine TC.exit ?_
      refine TC.seq ?_
      refine TC.region ?_
      refine S.mv ?_
      refine S.as ?_
      refine S.nil ?_
      refine TC.ret ?_
      refine finQ.ret (RVs.tmp (by conv => lhs; whnf) RVs.nil) (Sub.refl _) ?_
      have e : (numB n s).take i = numB n s := by rw [show i = s by omega, numB_all]
      exact ⟨O, d, rfl, by simp only [e]⟩
  · refine S.qg rfl rfl rfl (Qt.move (by conv => lhs; whnf)) ?_
    refine S.pass rfl rfl ?_
    refine S.pass rfl rfl ?_
    refine S.pass rfl rfl ?_
    refine S.pass rfl rfl ?_
    refine S.pass rfl rfl ?_
    refine S.qg rfl rfl rfl (Qt.pick_f rfl (by conv => lhs; whnf)) ?_
    refine S.q rfl rfl (Qt.pick_f rfl (by conv => lhs; whnf)) ?_
    refine S.nil ?_
    refine S.if_f rfl ?_
    refine TC.skip ?_
    refine TC.seq ?_
    refine TC.seq ?_
    refine TC.region ?_
    refine S.mv ?_
    refine S.q rfl rfl (Qt.subi rfl rfl (IntWalk.i64_in _ (by omega))) ?_
    refine S.as ?_
    refine S.nil ?_
    refine TC.block ?_
    refine TC.loop (γ := Nat × Option Addr × Nat) [32, 33, 36, 37, 38, 39, 40, 41, 42, 43, 44, 45, 46, 47, 48, 49, 34, 35, 7] (fun g => [(7, .int .i64 ((s : Int) - 1 - (g.1 : Int)))]) (fun g => [Blk wb 297 [.nilIface, .slice g.2.1 (bs ++ (numB n s).take g.1).length g.2.2], OwnA 5 1 g.2.1 (bs ++ (numB n s).take g.1).length g.2.2 (bytesL (bs ++ (numB n s).take g.1))]) (fun g => g.1 ≤ s) (fun g => s - g.1) ((0, A, c))
      (Nat.zero_le _) ⟨Out.refl _ _, (List.forall_mem_cons.2 ⟨(by show Value.int .i64 ((s : Int) - 1) = Value.int .i64 ((s : Int) - 1 - ((0 : Nat) : Int)); congr 1; omega), (fun _ h => nomatch h)⟩)⟩ ((by dsimp only; rw [List.take_zero, List.append_nil]; exact Sub.refl _)) ?_
    rintro ⟨i, O, d⟩ u hi
    dsimp only at hi
    have hlen : (bs ++ (numB n s).take i).length ≤ bs.length + 8 := by rw [List.length_append, List.length_take, numB_length]; omega
    have hlen2 : (bs ++ (numB n s).take (i, O, d).fst).length ≤ bs.length + 8 := hlen
    refine TC.seq ?_
    refine TC.seq ?_
    refine TC.region ?_
    refine S.mv ?_
    refine S.dec rfl rfl (Qt.gei rfl rfl) (fun h33 => ?_) (fun h33 => ?_)
    · refine S.nil ?_
      refine S.if_t rfl ?_
      refine TC.skip ?_
      refine TC.seq ?_
      refine TC.block ?_
      refine S.draw ([11, 14], [10]) Tryz.mixed (Sub.nil _) ?_
      refine D.q (k := 0) rfl (by kernel_rfl) (by kernel_rfl) rfl rfl (Qt.move (by conv => lhs; whnf)) ?_
      refine D.qY 1 rfl (Qt.move (by conv => lhs; whnf)) ?_
      refine D.qY 2 rfl (Qt.nilCheck rfl) ?_
      refine D.qY 3 rfl (Qt.field Tryz.underlying297 rfl Tryz.cells112 rfl) ?_
      refine D.qY 4 rfl (Qt.load rfl (Ld.one (Has.at 0 rfl) Tryz.one112 (rfl))) ?_
      refine D.qY 5 rfl (Qt.move (by conv => lhs; whnf)) ?_
      refine D.qY 6 rfl (Qt.as (Qt.move rfl) (congrArg (Value.int .i64) (show ((s : Int) - 1 - (i : Int)) = ((s - 1 - i : Nat) : Int) by omega))) ?_
      refine D.qY 7 rfl (Qt.mul (a := 8) rfl rfl (by simp only [kmax]; omega)) ?_
      refine D.qY 8 rfl (Qt.shrN rfl rfl (by simp only [kmax]; omega)) ?_
      refine D.qY 9 rfl (Qt.toByte Tryz.underlying40 Tryz.underlying5 rfl) ?_
      refine D.nS (k := 10) (Sub.nil _) rfl (by kernel_rfl) (by kernel_rfl) rfl rfl (OpV.slice1 (bytes := 1) (v := .int .u8 (((UInt8.ofNat (n / 2 ^ (8 * (s - 1 - i)))).toNat : Nat) : Int)) Tryz.underlying112 Tryz.elem5 (by decide) rfl rfl (fun g46 => ⟨Sub.drop _ (Sub.keep _ (Sub.keep _ (Sub.nil []))), ?_⟩))
      refine D.opS (k := 11) (Sub.nil _) rfl (by kernel_rfl) (by kernel_rfl) rfl rfl (OpV.app2 (bytes := 1) (news := bytesL [UInt8.ofNat (n / 2 ^ (8 * (s - 1 - i)))]) Tryz.underlying112 Tryz.elem5 rfl rfl (Has.blk (Has.at 0 rfl)) (rfl) (bytesL_one _) (by simp only [maxLen]; omega) (by omega) (fun O2 d2 => ⟨Sub.nil _, ?_⟩))
      refine D.qY 12 rfl (Qt.nilCheck rfl) ?_
      refine D.qY 13 rfl (Qt.field Tryz.underlying297 rfl Tryz.cells112 rfl) ?_
      refine D.opN (k := 14) (Sub.nil _) rfl (by kernel_rfl) (by kernel_rfl) rfl (OpV.storeC1 rfl (by conv => lhs; whnf) Tryz.cells112 rfl rfl (Nat.le_of_ble_eq_true rfl) ⟨Sub.nil _, ?_⟩)
      refine D.done (Sub.nil _) (by kernel_rfl) ?_
      refine TC.region ?_
      refine S.mv ?_
      refine S.q rfl rfl (Qt.subi rfl rfl (IntWalk.i64_in _ (by omega))) ?_
      refine S.as ?_
      refine S.nil ?_
      refine ⟨(i + 1, O2, d2), ?_, ?_, ⟨?_, (List.forall_mem_cons.2 ⟨(by show Value.int .i64 ((s : Int) - 1 - (i : Int) - 1) = Value.int .i64 ((s : Int) - 1 - ((i + 1 : Nat) : Int)); congr 1; omega), (fun _ h => nomatch h)⟩)⟩, (by dsimp only; rw [num_len bs n (by omega), ← num_step bs n (by omega)]; exact Sub.drop _ (Sub.refl _))⟩
      · show _ ≤ _; dsimp only; omega
      · show _ < _; dsimp only; omega
      repeat (first | exact Out.refl _ _ | refine Out.put rfl ?_ | refine Out.puts rfl ?_ | refine Out.scr ?_ | refine Out.scr' rfl ?_)
    · refine S.nil ?_
      refine S.if_f rfl ?_
      refine TC.exit ?_
      refine TC.seq ?_
      refine TC.region ?_
      refine S.mv ?_
      refine S.as ?_
      refine S.nil ?_
      refine TC.ret ?_
      refine finQ.ret (RVs.tmp (by conv => lhs; whnf) RVs.nil) (Sub.refl _) ?_
      have e : (numB n s).take i = numB n s := by rw [show i = s by omega, numB_all]
      exact ⟨O, d, rfl, by simp only [e]⟩
set_option maxHeartbeats 400000 in
theorem raw_walk (wb : Nat) (A : Option Addr) (c : Nat) (bs : List UInt8) (B : Option Addr) (d : Nat) (ns : List UInt8) (hb : bs.length ≤ 70368744177664) (hn : ns.length ≤ 70368744177664) (w0 : World) (hL : Sat w0 [Blk wb 297 [.nilIface, .slice A bs.length c], OwnA 5 1 A bs.length c (bytesL bs)]) (hR : Ro w0 (fps [Blk wb 297 [.nilIface, .slice A bs.length c], OwnA 5 1 A bs.length c (bytesL bs)]) (SlA B (bytesL ns))) :
    Calls Tryz.prog 178 #[.pointer (some ⟨wb, 0, none⟩), .slice B ns.length d] w0 (Post w0 (fps [Blk wb 297 [.nilIface, .slice A bs.length c], OwnA 5 1 A bs.length c (bytesL bs)]) fun v L => ∃ O d, v = .pointer (some ⟨wb, 0, none⟩) ∧ L = [Blk wb 297 [.nilIface, .slice O (bs ++ ns).length d], OwnA 5 1 O (bs ++ ns).length d (bytesL (bs ++ ns))]) := by
  refine Calls.of (L := [Blk wb 297 [.nilIface, .slice A bs.length c], OwnA 5 1 A bs.length c (bytesL bs)]) (n := 17) (rs := [.tmp 4]) Tryz.func178 rfl rfl rfl (Nat.le_of_ble_eq_true rfl) (hL) ?_
  refine TC.seq ?_
  refine TC.region ?_
  refine S.as ?_
  refine S.nil ?_
  refine TC.seq ?_
  refine TC.seq ?_
  refine TC.region ?_
  refine S.mv ?_
  refine S.q rfl rfl (Qt.eqp_some Tryz.underlying293 rfl) ?_
  refine S.nil ?_
  refine S.if_f rfl ?_
  refine TC.skip ?_
  refine TC.seq ?_
  refine TC.region ?_
  refine S.mv ?_
  refine S.mv ?_
  refine S.q rfl rfl (Qt.nilCheck rfl) ?_
  refine S.q rfl rfl (Qt.field Tryz.underlying297 rfl Tryz.cells112 rfl) ?_
  refine S.q rfl rfl (Qt.load rfl (Ld.one (Has.at 0 rfl) Tryz.one112 (rfl))) ?_
  refine S.mv ?_
  refine S.opS rfl rfl (OpV.app1 (bytes := 1) (news := bytesL ns) Tryz.underlying112 Tryz.elem5 rfl rfl (Has.ro hR) (by rw [bytesL_length]; omega) (bytesL_one _) (by simp only [maxLen]; omega) (by omega) (fun O2 d2 => ?_))
  refine S.q rfl rfl (Qt.nilCheck rfl) ?_
  refine S.q rfl rfl (Qt.field Tryz.underlying297 rfl Tryz.cells112 rfl) ?_
  refine S.opN rfl (OpV.storeC0 rfl (by conv => lhs; whnf) Tryz.cells112 rfl rfl (Nat.le_of_ble_eq_true rfl) ?_)
  refine S.nil ?_
  refine TC.seq ?_
  refine TC.region ?_
  refine S.mv ?_
  refine S.as ?_
  refine S.nil ?_
  refine TC.ret ?_
  refine finQ.ret (RVs.tmp (by conv => lhs; whnf) RVs.nil) (Sub.refl _) ?_
  exact ⟨O2, d2, rfl, by rw [List.length_append, bytesL_append]; rfl⟩
set_option maxHeartbeats 400000 in
theorem whash_walk (wb : Nat) (A : Option Addr) (c : Nat) (bs : List UInt8) (h : H32) (hb : bs.length ≤ 70368744177664) (w0 : World) (hL : Sat w0 [Blk wb 297 [.nilIface, .slice A bs.length c], OwnA 5 1 A bs.length c (bytesL bs)]) :
    Calls Tryz.prog 200 #[.pointer (some ⟨wb, 0, none⟩), hv h] w0 (Post w0 (fps [Blk wb 297 [.nilIface, .slice A bs.length c], OwnA 5 1 A bs.length c (bytesL bs)]) fun v L => ∃ O d, v = .pointer (some ⟨wb, 0, none⟩) ∧ L = [Blk wb 297 [.nilIface, .slice O (bs ++ h.1).length d], OwnA 5 1 O (bs ++ h.1).length d (bytesL (bs ++ h.1))]) := by
  refine Calls.of (L := [Blk wb 297 [.nilIface, .slice A bs.length c], OwnA 5 1 A bs.length c (bytesL bs)]) (n := 8) (rs := [.tmp 4]) Tryz.func200 rfl rfl rfl (Nat.le_of_ble_eq_true rfl) (hL) ?_
  refine TC.seq ?_
  refine TC.region ?_
  refine S.opS rfl rfl (OpV.box (v := hv h) rfl (fun b3 => ?_))
  refine S.as ?_
  refine S.nil ?_
  refine TC.seq ?_
  refine TC.region ?_
  refine S.mv ?_
  refine S.q rfl rfl (Qt.as (v' := .slice (some ⟨b3, 0, none⟩) h.1.length 32) (Qt.sliceB_all Tryz.underlying49 Tryz.cells5 rfl) (by rw [h.2])) ?_
  refine S.opS rfl rfl (OpV.con (Pre := [Blk wb 297 [.nilIface, .slice A bs.length c], OwnA 5 1 A bs.length c (bytesL bs)]) (R := _) Tryz.ent178 rfl ((List.perm_middle (l₁ := [_])).trans (List.Perm.cons _ (List.perm_middle (l₁ := [_])))) (fun w hw => raw_walk wb A c bs (some ⟨b3, 0, none⟩) 32 h.1 hb (by rw [h.2]; decide) w hw.sat.left (Ro.blk (Ro.of_rest (A := Blk b3 49 (hvl h)) hw (List.mem_cons_self ..)))) ?_)
  rintro v L' ⟨O2, d2, rfl, rfl⟩
  refine S.as ?_
  refine S.nil ?_
  refine TC.ret ?_
  refine finQ.ret (RVs.tmp (by conv => lhs; whnf) RVs.nil) (Sub.keep _ (Sub.keep _ (Sub.nil _))) ?_
  exact ⟨O2, d2, rfl, rfl⟩
set_option maxHeartbeats 400000 in
theorem done_walk (wb : Nat) (A : Option Addr) (c : Nat) (bs : List UInt8) (hb : bs.length ≤ 70368744177664) (w0 : World) (hW : Ro w0 [] (Blk wb 297 [.nilIface, .slice A bs.length c])) (hO : Ro w0 [] (SlA A (bytesL bs))) :
    Calls Tryz.prog 180 #[.pointer (some ⟨wb, 0, none⟩)] w0 (Post w0 [] fun v L => ∃ O d, v = .tuple #[.slice O bs.length d, .nilIface] ∧ L = [OwnA 5 1 O bs.length d (bytesL bs)]) := by
  refine Calls.of (L := []) (n := 25) (rs := [.tmp 2, .tmp 3]) Tryz.func180 rfl rfl rfl (Nat.le_of_ble_eq_true rfl) (Sat.nil _) ?_
  refine TC.seq ?_
  refine TC.region ?_
  refine S.as ?_
  refine S.as ?_
  refine S.nil ?_
  refine TC.seq ?_
  refine TC.block ?_
  refine TC.seq ?_
  refine TC.region ?_
  refine S.mv ?_
  refine S.q rfl rfl (Qt.eqp_some Tryz.underlying293 rfl) ?_
  refine S.as ?_
  refine S.nil ?_
  refine S.if_f rfl ?_
  refine TC.seq ?_
  refine TC.region ?_
  refine S.mv ?_
  refine S.q rfl rfl (Qt.nilCheck rfl) ?_
  refine S.q rfl rfl (Qt.field Tryz.underlying297 rfl Tryz.cells295 rfl) ?_
  refine S.q rfl rfl (Qt.field Tryz.underlying295 rfl Tryz.cells51 rfl) ?_
  refine S.q rfl rfl (Qt.load rfl (Ld.one (Has.ro hW) Tryz.one51 rfl)) ?_
  refine S.q rfl rfl (Qt.nenil_nil Tryz.underlying51 rfl) ?_
  refine S.as ?_
  refine S.nil ?_
  refine S.if_f rfl ?_
  refine TC.skip ?_
  refine TC.seq ?_
  refine TC.region ?_
  refine S.mv ?_
  refine S.q rfl rfl (Qt.nilCheck rfl) ?_
  refine S.q rfl rfl (Qt.field Tryz.underlying297 rfl Tryz.cells112 rfl) ?_
  refine S.q rfl rfl (Qt.load rfl (Ld.one (Has.ro hW) Tryz.one112 rfl)) ?_
  refine S.opS rfl rfl (OpV.con (Pre := []) (R := _) Tryz.ent197 rfl (List.Perm.refl _) (fun w hw => clone_walk A c bs w (Rd.ro hO w hw) hb) ?_)
  rintro v L' ⟨O, d, rfl, rfl⟩
  refine S.as ?_
  refine S.as ?_
  refine S.nil ?_
  refine TC.ret ?_
  refine finQ.ret (RVs.tmp (by conv => lhs; whnf) (RVs.tmp (by conv => lhs; whnf) RVs.nil)) (Sub.refl _) ?_
  exact ⟨O, d, rfl, rfl⟩
set_option maxHeartbeats 400000 in
theorem jointext_walk (h : Nat) (h1 : 1 ≤ h) (h2 : h ≤ 32) (l r : H32) (w0 : World) :
    Calls Tryz.prog 176 #[.int .i64 (h : Int), hv l, hv r] w0 (Post w0 [] fun v L => ∃ O d, v = .tuple #[.slice O (joinT h l r).length d, .nilIface] ∧ L = [OwnA 5 1 O (joinT h l r).length d (bytesL (joinT h l r))]) := by
  refine Calls.of (L := []) (n := 30) (rs := [.tmp 6, .tmp 7]) Tryz.func176 rfl rfl rfl (Nat.le_of_ble_eq_true rfl) (Sat.nil _) ?_
  refine TC.ownNil 5 1 ?_
  refine TC.seq ?_
  refine TC.region ?_
  refine S.opS rfl rfl (OpV.box (v := hv l) rfl (fun b4 => ?_))
  refine S.opS rfl rfl (OpV.box (v := hv r) rfl (fun b5 => ?_))
  refine S.as ?_
  refine S.as ?_
  refine S.nil ?_
  refine TC.seq ?_
  refine TC.seq ?_
  refine TC.region ?_
  refine S.mv ?_
  refine S.q rfl rfl (Qt.dF (Qt.lt (b := 1) rfl rfl) (by omega)) ?_
  refine S.mv ?_
  refine S.qg rfl rfl rfl (Qt.move (by conv => lhs; whnf)) ?_
  refine S.qg rfl rfl rfl (Qt.dF (Qt.gt (b := 32) rfl rfl) (by omega)) ?_
  refine S.q rfl rfl (Qt.pick_f rfl (by conv => lhs; whnf)) ?_
  refine S.nil ?_
  refine S.if_f rfl ?_
  refine TC.skip ?_
  refine TC.seq ?_
  refine TC.region ?_
  refine S.q rfl rfl (Qt.build (v := .agg #[.nilIface, .slice none 0 0]) rfl (fun _ => by kernel_rfl)) ?_
  refine S.opS rfl rfl (OpV.box (by conv => lhs; whnf) (fun b17 => ?_))
  refine S.as ?_
  refine S.nil ?_
  refine TC.seq ?_
  refine S.draw ([1, 4, 6, 8], [9]) Tryz.mixed (Sub.drop _ (Sub.keep _ (Sub.keep _ (Sub.drop _ (Sub.nil []))))) ?_
  refine D.qY 0 rfl (Qt.move (by conv => lhs; whnf)) ?_
  refine D.q (k := 2) rfl (by kernel_rfl) (by kernel_rfl) rfl rfl (Qt.move (by conv => lhs; whnf)) ?_
  refine D.q (k := 3) rfl (by kernel_rfl) (by kernel_rfl) rfl rfl (Qt.convert Tryz.underlying3 Tryz.underlying40 rfl (by simp only [kmax]; omega)) ?_
  refine D.q (k := 5) rfl (by kernel_rfl) (by kernel_rfl) rfl rfl (Qt.load rfl (Ld.hash1 (x := l) (Has.at 1 rfl) Tryz.row49 Tryz.cells49)) ?_
  refine D.q (k := 7) rfl (by kernel_rfl) (by kernel_rfl) rfl rfl (Qt.load rfl (Ld.hash1 (x := r) (Has.at 0 rfl) Tryz.row49 Tryz.cells49)) ?_
  refine D.opS (k := 1) (Sub.drop _ (Sub.keep _ (Sub.keep _ (Sub.drop _ (Sub.nil []))))) rfl (by kernel_rfl) (by kernel_rfl) rfl rfl (OpV.con (Pre := [Blk b17 297 [.nilIface, .slice none ([] : List UInt8).length 0], OwnA 5 1 none ([] : List UInt8).length 0 (bytesL ([] : List UInt8))]) (R := _) Tryz.ent177 rfl (List.Perm.cons _ (List.perm_middle (l₁ := [_, _]))) (fun w hw => num_walk b17 none 0 [] 2 1 (.inl rfl) (by decide) (by decide) (by decide) w hw.sat.left) ?_)
  rintro v L' ⟨O1, d1, rfl, rfl⟩
  refine ⟨Sub.drop _ (Sub.drop _ (Sub.keep _ (Sub.keep _ (Sub.nil [])))), ?_⟩
  refine D.opS (k := 4) (Sub.drop _ (Sub.drop _ (Sub.keep _ (Sub.keep _ (Sub.nil []))))) rfl (by kernel_rfl) (by kernel_rfl) rfl rfl (OpV.con (Pre := [Blk b17 297 [.nilIface, .slice O1 (([] : List UInt8) ++ numB 2 1).length d1], OwnA 5 1 O1 (([] : List UInt8) ++ numB 2 1).length d1 (bytesL (([] : List UInt8) ++ numB 2 1))]) (R := _) Tryz.ent177 rfl (List.Perm.refl _) (fun w hw => num_walk b17 O1 d1 _ h 1 (.inl rfl) (by show h < 256; omega) (by omega) (by simp [numB_length, l.2, r.2]) w hw.sat.left) ?_)
  rintro v L' ⟨O2, d2, rfl, rfl⟩
  refine ⟨Sub.drop _ (Sub.drop _ (Sub.keep _ (Sub.keep _ (Sub.nil [])))), ?_⟩
  refine D.opS (k := 6) (Sub.drop _ (Sub.drop _ (Sub.keep _ (Sub.keep _ (Sub.nil []))))) rfl (by kernel_rfl) (by kernel_rfl) rfl rfl (OpV.con (Pre := [Blk b17 297 [.nilIface, .slice O2 ((([] : List UInt8) ++ numB 2 1) ++ numB h 1).length d2], OwnA 5 1 O2 ((([] : List UInt8) ++ numB 2 1) ++ numB h 1).length d2 (bytesL ((([] : List UInt8) ++ numB 2 1) ++ numB h 1))]) (R := _) Tryz.ent200 rfl (List.Perm.refl _) (fun w hw => whash_walk b17 O2 d2 _ l (by simp [numB_length, l.2, r.2]) w hw.sat.left) ?_)
  rintro v L' ⟨O3, d3, rfl, rfl⟩
  refine ⟨Sub.drop _ (Sub.drop _ (Sub.keep _ (Sub.keep _ (Sub.nil [])))), ?_⟩
  refine D.opS (k := 8) (Sub.drop _ (Sub.drop _ (Sub.keep _ (Sub.keep _ (Sub.nil []))))) rfl (by kernel_rfl) (by kernel_rfl) rfl rfl (OpV.con (Pre := [Blk b17 297 [.nilIface, .slice O3 (((([] : List UInt8) ++ numB 2 1) ++ numB h 1) ++ l.1).length d3], OwnA 5 1 O3 (((([] : List UInt8) ++ numB 2 1) ++ numB h 1) ++ l.1).length d3 (bytesL (((([] : List UInt8) ++ numB 2 1) ++ numB h 1) ++ l.1))]) (R := _) Tryz.ent200 rfl (List.Perm.refl _) (fun w hw => whash_walk b17 O3 d3 _ r (by simp [numB_length, l.2, r.2]) w hw.sat.left) ?_)
  rintro v L' ⟨O4, d4, rfl, rfl⟩
  refine ⟨Sub.drop _ (Sub.drop _ (Sub.keep _ (Sub.keep _ (Sub.nil [])))), ?_⟩
  refine D.nS (k := 9) (Sub.drop _ (Sub.drop _ (Sub.keep _ (Sub.keep _ (Sub.nil []))))) rfl (by kernel_rfl) (by kernel_rfl) rfl rfl (OpV.con (Pre := []) (R := _) Tryz.ent180 rfl (List.Perm.refl _) (fun w hw => done_walk b17 O4 d4 _ (by simp [numB_length, l.2, r.2]) w (Rd.at 0 rfl w hw) (Rd.own (Rd.at 1 rfl) w hw)) ?_)
  rintro v L' ⟨O5, d5, rfl, rfl⟩
  refine ⟨Sub.drop _ (Sub.keep _ (Sub.keep _ (Sub.keep _ (Sub.keep _ (Sub.nil []))))), ?_⟩
  refine D.qY 10 rfl (Qt.extract rfl rfl) ?_
  refine D.qY 11 rfl (Qt.extract rfl rfl) ?_
  refine D.qY 12 rfl (Qt.assign (by conv => lhs; whnf)) ?_
  refine D.qY 13 rfl (Qt.assign (by conv => lhs; whnf)) ?_
  refine D.done (Sub.drop _ (Sub.drop _ (Sub.drop _ (Sub.keep _ (Sub.keep _ (Sub.nil [])))))) (by kernel_rfl) ?_
  refine TC.ret ?_
  refine finQ.ret (RVs.tmp (by conv => lhs; whnf) (RVs.tmp (by conv => lhs; whnf) RVs.nil)) (Sub.keep _ (Sub.nil _)) ?_
  have e : ((((([] : List UInt8) ++ numB 2 1) ++ numB h 1) ++ l.1) ++ r.1) = joinT h l r := by rw [numB_one, numB_one, joinT]; rfl
  rw [e]
  exact ⟨O5, d5, rfl, rfl⟩
set_option maxHeartbeats 400000 in
theorem hashed_walk (A : Option Addr) (c : Nat) (b : List UInt8) (w0 : World) (hR : Ro w0 [] (SlA A (bytesL b))) (hl : b.length ≤ 70368744177664) (hT : Tabs 3 1 w0 []) :
    Calls Tryz.prog 118 #[.slice A b.length c, .nilIface] w0 (Post w0 [] fun v L => v = .tuple #[hv (shaH b), .nilIface] ∧ L = []) := by
  refine Calls.of (L := []) (n := 12) (rs := [.cell 4 49, .tmp 5]) Tryz.func118 rfl rfl rfl (Nat.le_of_ble_eq_true rfl) (Sat.nil _) ?_
  refine TC.seq ?_
  refine TC.region ?_
  refine S.opS rfl rfl (OpV.alloc Tryz.zero49 (fun b4 => ?_))
  refine S.as ?_
  refine S.nil ?_
  refine TC.seq ?_
  refine TC.seq ?_
  refine TC.region ?_
  refine S.mv ?_
  refine S.q rfl rfl (Qt.nenil_nil Tryz.underlying51 rfl) ?_
  refine S.nil ?_
  refine S.if_f rfl ?_
  refine TC.skip ?_
  refine TC.seq ?_
  refine TC.region ?_
  refine S.mv ?_
  refine S.opS rfl rfl (OpV.con0 Tryz.ent114 rfl (fun w hw => Calls.ret (sum_walk A c b w (Rd.ro hR w hw) hl (hT.at hw))) ?_)
  refine S.opN rfl (OpV.storeV0 (v := hv (shaH b)) rfl rfl (hv_size Tryz.cells49) (hv_all _) (hv_len _) ?_)
  refine S.as ?_
  refine S.nil ?_
  refine TC.ret ?_
  refine finQ.ret (RVs.cell rfl (Ld.all (Has.at 0 rfl) Tryz.row49 (hv_size Tryz.cells49)) (RVs.tmp (by conv => lhs; whnf) RVs.nil)) (Sub.nil _) ?_
  exact ⟨rfl, rfl⟩
set_option maxHeartbeats 400000 in
theorem join_walk (h : Nat) (h1 : 1 ≤ h) (h2 : h ≤ 32) (l r : H32) (w0 : World) (hT : Tabs 3 1 w0 []) :
    Calls Tryz.prog 117 #[.int .i64 (h : Int), hv l, hv r] w0 (Post w0 [] fun v L => v = .tuple #[hv (joinH h l r), .nilIface] ∧ L = []) := by
  refine Calls.of (L := []) (n := 17) (rs := [.cell 6 49, .tmp 7]) Tryz.func117 rfl rfl rfl (Nat.le_of_ble_eq_true rfl) (Sat.nil _) ?_
  refine TC.seq ?_
  refine TC.region ?_
  refine S.opS rfl rfl (OpV.box (v := hv l) rfl (fun b4 => ?_))
  refine S.opS rfl rfl (OpV.box (v := hv r) rfl (fun b5 => ?_))
  refine S.opS rfl rfl (OpV.alloc Tryz.zero49 (fun b6 => ?_))
  refine S.as ?_
  refine S.nil ?_
  refine TC.seq ?_
  refine TC.region ?_
  refine S.mv ?_
  refine S.q rfl rfl (Qt.load rfl (Ld.hash1 (x := l) (Has.at 2 rfl) Tryz.row49 Tryz.cells49)) ?_
  refine S.q rfl rfl (Qt.load rfl (Ld.hash1 (x := r) (Has.at 1 rfl) Tryz.row49 Tryz.cells49)) ?_
  refine S.opS rfl rfl (OpV.con (Pre := []) (R := _) Tryz.ent176 rfl (List.Perm.refl _) (fun w hw => jointext_walk h h1 h2 l r w) ?_)
  rintro v L' ⟨O, d, rfl, rfl⟩
  refine S.q rfl rfl (Qt.extract rfl rfl) ?_
  refine S.q rfl rfl (Qt.extract rfl rfl) ?_
  refine S.opS rfl rfl (OpV.con0 Tryz.ent118 rfl (fun w hw => Calls.ret (hashed_walk O d (joinT h l r) w (Rd.own (Rd.at 0 rfl) w hw) (by rw [joinT_length]; decide) (hT.at hw))) ?_)
  refine S.q rfl rfl (Qt.extract rfl rfl) ?_
  refine S.q rfl rfl (Qt.extract rfl rfl) ?_
  refine S.opN rfl (OpV.storeV1 (v := hv (joinH h l r)) rfl rfl (hv_size Tryz.cells49) (hv_all _) (hv_len _) ?_)
  refine S.as ?_
  refine S.nil ?_
  refine TC.ret ?_
  refine finQ.ret (RVs.cell rfl (Ld.all (Has.at 1 rfl) Tryz.row49 (hv_size Tryz.cells49)) (RVs.tmp (by conv => lhs; whnf) RVs.nil)) (Sub.nil _) ?_
  exact ⟨rfl, rfl⟩
theorem join_R (h : Nat) (h1 : 1 ≤ h) (h2 : h ≤ 32) (l r : H32) (w0 : World) (hT : Tabs 3 1 w0 []) : Calls Tryz.prog 117 #[.int .i64 (h : Int), hv l, hv r] w0 (Ret w0 (.tuple #[hv (joinH h l r), .nilIface])) := Calls.ret (join_walk h h1 h2 l r w0 hT)

set_option maxHeartbeats 400000 in
theorem empties_walk0 (E : Nat → H32) (hE0 : E 0 = shaH [0]) (hE : ∀ h, E (h + 1) = joinH (h + 1) (E h) (E h)) (w0 : World) (hT : Tabs 3 1 w0 []) :
    Calls Tryz.prog 55 #[] w0 (Post w0 [] fun v L => v = .agg (hcs (emptL E)).toArray ∧ L = []) := by
  refine Calls.of (L := []) (n := 31) (rs := [.cell 0 140]) Tryz.func55 rfl rfl rfl (Nat.le_of_ble_eq_true rfl) (Sat.nil _) ?_
  refine TC.seq ?_
  refine TC.region ?_
  refine S.opS rfl rfl (OpV.alloc Tryz.zero140 (fun b0 => ?_))
  refine S.nil ?_
  refine TC.seq ?_
  refine TC.region ?_
  refine S.opS rfl rfl (OpV.slice1 (bytes := 1) (v := .int .u8 (((0 : UInt8).toNat : Nat) : Int)) Tryz.underlying112 Tryz.elem5 (by decide) rfl rfl (fun g5 => ?_))
  refine S.opS rfl rfl (OpV.con0 Tryz.ent114 rfl (fun w hw => (by rw [hE0]; exact Calls.ret (sum_walk (some ⟨g5, 0, none⟩) 1 [0] w (Rd.bytesAll (bl := [0]) (Rd.at 0 rfl) w hw) (by decide) (hT.at hw)) : Calls Tryz.prog 114 #[.slice (some ⟨g5, 0, none⟩) 1 1] w (Ret w (hv (E 0))))) ?_)
  refine S.q rfl rfl (Qt.as (v' := .agg (hcs (emptA E 1)).toArray) (Qt.buildArr (vs := [hv (E 0)]) Tryz.underlying140 Tryz.cells49 Tryz.zero140 rfl (by intro v hv; rw [List.mem_singleton.1 hv]; exact hv_len _) (by rw [List.flatMap_singleton, hv_len, List.length_replicate]; decide)) (by rw [emptA_one, List.flatMap_singleton, vl_hv, hvl_length, List.drop_replicate])) ?_
  refine S.opS rfl rfl (OpV.alloc Tryz.zero140 (fun b1 => ?_))
  refine S.opN rfl (OpV.storeV0 (v := .agg (hcs (emptA E 1)).toArray) rfl rfl (by rw [vl_agg, hcs_length, emptA_length E (by omega)]; exact Tryz.cells140) (hcs_all _) (by rw [vl_agg, hcs_length, emptA_length E (by omega), List.length_replicate]) ?_)
  refine S.nil ?_
  refine TC.seq ?_
  refine TC.seq ?_
  refine TC.region ?_
  refine S.as ?_
  refine S.nil ?_
  refine TC.block ?_
  refine TC.loop (γ := Nat) [8, 9, 13, 14, 15, 16, 17, 18, 19, 20, 21, 22, 12, 23, 24, 3, 4, 25, 26, 27, 28, 29, 10, 11, 2] (fun k => [(2, .int .i64 (k : Int))]) (fun k => [Blk b1 140 (hcs (emptA E k)), Blk b0 140 (List.replicate 1056 (.int .u8 0))]) (fun k => 1 ≤ k ∧ k ≤ 33) (fun k => 33 - k) (1)
    ⟨Nat.le_refl _, by omega⟩ ⟨Out.refl _ _, (List.forall_mem_cons.2 ⟨rfl, (fun _ h => nomatch h)⟩)⟩ ((Sub.keep _ (Sub.drop _ (Sub.refl _)))) ?_
  rintro k u ⟨hk1, hk⟩
  refine TC.seq ?_
  refine TC.seq ?_
  refine TC.region ?_
  refine S.mv ?_
  refine S.dec rfl rfl (Qt.lt (b := 33) rfl rfl) (fun h9 => ?_) (fun h9 => ?_)
  · refine S.nil ?_
    refine S.if_t rfl ?_
    refine TC.skip ?_
    refine TC.seq ?_
    refine TC.block ?_
    refine TC.seq ?_
    refine S.draw ([14], [13]) Tryz.mixed (Sub.nil _) ?_
    refine D.qY 0 rfl (Qt.move (by conv => lhs; whnf)) ?_
    refine D.qY 1 rfl (Qt.move (by conv => lhs; whnf)) ?_
    refine D.qY 2 rfl (Qt.sub (b := 1) rfl rfl (by omega) (by simp only [kmax]; omega)) ?_
    refine D.qY 3 rfl (Qt.indexB Tryz.underlying140 Tryz.cells49 rfl rfl (by omega)) ?_
    refine D.qY 4 rfl (Qt.as (Qt.load rfl (Ld.hashB (Has.at 0 rfl) (k - 1) Tryz.row49 Tryz.cells49 (by rw [emptA_length E (by omega)]; omega) (by omega))) (by rw [emptA_get E (by omega)])) ?_
    refine D.qY 5 rfl (Qt.move (by conv => lhs; whnf)) ?_
    refine D.qY 6 rfl (Qt.sub (b := 1) rfl rfl (by omega) (by simp only [kmax]; omega)) ?_
    refine D.qY 7 rfl (Qt.indexB Tryz.underlying140 Tryz.cells49 rfl rfl (by omega)) ?_
    refine D.qY 8 rfl (Qt.as (Qt.load rfl (Ld.hashB (Has.at 0 rfl) (k - 1) Tryz.row49 Tryz.cells49 (by rw [emptA_length E (by omega)]; omega) (by omega))) (by rw [emptA_get E (by omega)])) ?_
    have hEk : E k = joinH k (E (k - 1)) (E (k - 1)) := by have := hE (k - 1); rwa [show k - 1 + 1 = k by omega] at this
    refine D.cX (k := 9) rfl (by kernel_rfl) (by kernel_rfl) (by kernel_rfl) rfl rfl (CalU.con0 Tryz.ent117 rfl (fun w hw => (by rw [hEk]; exact join_R k (by omega) (by omega) (E (k - 1)) (E (k - 1)) w (hT.at hw) : Calls Tryz.prog 117 #[.int .i64 (k : Int), hv (E (k - 1)), hv (E (k - 1))] w (Ret w (.tuple #[hv (E k), .nilIface]))))) ?_
    refine D.qY 10 rfl (Qt.move (by conv => lhs; whnf)) ?_
    refine D.qY 11 rfl (Qt.extract rfl rfl) ?_
    refine D.q (k := 12) rfl (by kernel_rfl) (by kernel_rfl) rfl rfl (Qt.extract rfl rfl) ?_
    refine D.nS (k := 13) (Sub.nil _) rfl (by kernel_rfl) (by kernel_rfl) rfl rfl (OpV.alloc Tryz.zero49 (fun b3 => ⟨Sub.drop _ (Sub.refl _), ?_⟩))
    refine D.opN (k := 14) (Sub.nil _) rfl (by kernel_rfl) (by kernel_rfl) rfl (OpV.storeV0 (v := hv (E k)) rfl rfl (hv_size Tryz.cells49) (hv_all _) (hv_len _) ⟨Sub.nil _, ?_⟩)
    refine D.qY 15 rfl (Qt.assign (by conv => lhs; whnf)) ?_
    refine D.done (Sub.nil _) (by kernel_rfl) ?_
    refine TC.seq ?_
    refine TC.seq ?_
    refine TC.region ?_
    refine S.mv ?_
    refine S.q rfl rfl (Qt.nenil_nil Tryz.underlying51 rfl) ?_
    refine S.nil ?_
    refine S.if_f rfl ?_
    refine TC.skip ?_
    refine TC.region ?_
    refine S.mv ?_
    refine S.q rfl rfl (Qt.load rfl (Ld.hash1 (x := E k) (Has.at 0 rfl) Tryz.row49 Tryz.cells49)) ?_
    refine S.q rfl rfl (Qt.indexB Tryz.underlying140 Tryz.cells49 rfl rfl (by omega)) ?_
    refine S.opN rfl (OpV.storeR1 (v := hv (E k)) rfl rfl (hv_size Tryz.cells49) (hv_all _) (by rw [hv_len, hcs_length, emptA_length E (by omega)]; omega) (by rw [Nat.zero_add, hcs_set _ _ _ (by rw [emptA_length E (by omega)]; omega), emptA_set E (by omega)]) ?_)
    refine S.nil ?_
    refine TC.region ?_
    refine S.mv ?_
    refine S.q rfl rfl (Qt.add (b := 1) rfl rfl (by simp only [kmax]; omega)) ?_
    refine S.as ?_
    refine S.nil ?_
    refine ⟨k + 1, ?_, ?_, ⟨?_, (List.forall_mem_cons.2 ⟨rfl, (fun _ h => nomatch h)⟩)⟩, (Sub.drop _ (Sub.refl _))⟩
    · exact ⟨by omega, by omega⟩
    · show _ < _; dsimp only; omega
    repeat (first | exact Out.refl _ _ | refine Out.put rfl ?_ | refine Out.puts rfl ?_ | refine Out.scr ?_ | refine Out.scr' rfl ?_)
  · refine S.nil ?_
    refine S.if_f rfl ?_
    refine TC.exit ?_
    refine TC.seq ?_
    refine TC.region ?_
    refine S.q rfl rfl (Qt.load rfl (Ld.all (Has.at 0 rfl) Tryz.row140 (by rw [hcs_length, emptA_length E (by omega)]; exact Tryz.cells140))) ?_
    refine S.opN rfl (OpV.storeV1 (v := .agg (hcs (emptA E k)).toArray) rfl rfl (by rw [vl_agg, hcs_length, emptA_length E (by omega)]; exact Tryz.cells140) (hcs_all _) (by rw [vl_agg, hcs_length, emptA_length E (by omega), List.length_replicate]) ?_)
    refine S.nil ?_
    refine TC.ret ?_
    refine finQ.ret (RVs.cell rfl (Ld.all (Has.at 1 rfl) Tryz.row140 (by rw [vl_agg, hcs_length, emptA_length E (by omega)]; exact Tryz.cells140)) RVs.nil) (Sub.nil _) ?_
    have e : emptA E k = emptL E := by rw [show k = 33 by omega, emptA_all]
    rw [← e]
    exact ⟨rfl, rfl⟩
theorem empties_R (w0 : World) (hT : Tabs 3 1 w0 []) : Calls Tryz.prog 55 #[] w0 (Ret w0 (.agg (hcs (emptL emptyH)).toArray)) := Calls.ret (empties_walk0 emptyH rfl (fun _ => rfl) w0 hT)

set_option maxHeartbeats 400000 in
theorem rjointext_walk (h : Nat) (h2 : h ≤ 32) (l r : H32) (w0 : World) :
    Calls Tryz.prog 126 #[.int .i64 (h : Int), hv l, hv r] w0 (Post w0 [] fun v L => ∃ O d, v = .slice O (joinT h l r).length d ∧ L = [OwnA 5 1 O (joinT h l r).length d (bytesL (joinT h l r))]) := by
  refine Calls.of (L := []) (n := 16) (rs := [.tmp 6]) Tryz.func126 rfl rfl rfl (Nat.le_of_ble_eq_true rfl) (Sat.nil _) ?_
  refine TC.seq ?_
  refine TC.region ?_
  refine S.opS rfl rfl (OpV.box (v := hv l) rfl (fun b4 => ?_))
  refine S.opS rfl rfl (OpV.box (v := hv r) rfl (fun b5 => ?_))
  refine S.as ?_
  refine S.nil ?_
  refine TC.seq ?_
  refine TC.region ?_
  refine S.mv ?_
  refine S.q rfl rfl (Qt.toByte Tryz.underlying3 Tryz.underlying5 rfl) ?_
  refine S.opS rfl rfl (OpV.sliceLO (vs := bytesL [2, UInt8.ofNat h]) Tryz.underlying112 Tryz.elem5 rfl (by decide) rfl (fun v hv => (bytesL_vl hv)) (fun g10 => ?_))
  refine S.q rfl rfl (Qt.sliceB_all Tryz.underlying49 Tryz.cells5 rfl) ?_
  refine S.opS rfl rfl (OpV.app0 (bytes := 1) (news := bytesL l.1) Tryz.underlying112 Tryz.elem5 rfl rfl (Has.blk (cs := hvl l) (Has.at 2 rfl)) (by rw [bytesL_length, l.2]) (bytesL_one _) (by simp only [maxLen]; omega) (by omega) (fun O d => ?_))
  refine S.as ?_
  refine S.nil ?_
  refine TC.seq ?_
  refine TC.region ?_
  refine S.mv ?_
  refine S.q rfl rfl (Qt.sliceB_all Tryz.underlying49 Tryz.cells5 rfl) ?_
  refine S.opS rfl rfl (OpV.app0 (bytes := 1) (news := bytesL r.1) Tryz.underlying112 Tryz.elem5 rfl rfl (Has.blk (cs := hvl r) (Has.at 1 rfl)) (by rw [bytesL_length, r.2]) (bytesL_one _) (by simp only [maxLen]; omega) (by omega) (fun O2 d2 => ?_))
  refine S.as ?_
  refine S.nil ?_
  refine TC.ret ?_
  refine finQ.ret (RVs.tmp (by conv => lhs; whnf) RVs.nil) (Sub.keep _ (Sub.nil _)) ?_
  have e : (List.flatMap vl (bytesL [2, UInt8.ofNat h]) ++ bytesL l.1 ++ bytesL r.1) = bytesL (joinT h l r) := by rw [joinT, bytesL_append, bytesL_append]; rfl
  rw [e, joinT_length]
  exact ⟨O2, d2, rfl, rfl⟩
end Go.Proofs.YtgdjcmehlhebdaaGreatDoor
