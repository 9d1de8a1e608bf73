/-
  Walks: climbing and cutting. Printed by a program of ours.
-/
import Derived.Test.YtgdjcmehlhebdaaGreatDoorYZs
import Derived.Test.YtgdjcmehlhebdaaGreatDoorP2
namespace Go.Proofs.YtgdjcmehlhebdaaGreatDoor
open Go.E
set_option linter.unusedVariables false
set_option maxRecDepth 4000

set_option maxHeartbeats 800000 in
theorem climb_walk (x : H32) (i : Nat) (A : Option Addr) (n c : Nat) (ps : List H32) (hn : ps.length = n) (hi : i < 18446744073709551616) (hf : fitsP i n) (w0 : World) (hR : Ro w0 [] (SlA A (hcs ps))) (hT : Tabs 3 1 w0 []) :
    Calls Tryz.prog 170 #[hv x, .int .u64 (i : Int), .slice A n c] w0 (Post w0 [] fun v L => v = .tuple #[hv (climbH x i ps), .nilIface] ∧ L = []) := by
  refine Calls.of (L := []) (n := 57) (rs := [.cell 6 49, .tmp 7]) Tryz.func170 rfl rfl rfl (Nat.le_of_ble_eq_true rfl) (Sat.nil _) ?_
  have hf1 := hf.1
  refine TC.seq ?_
  refine TC.region ?_
  refine S.opS rfl rfl (OpV.box (v := hv x) rfl (fun b3 => ?_))
  refine S.opS rfl rfl (OpV.alloc Tryz.zero49 (fun b6 => ?_))
  refine S.as ?_
  refine S.nil ?_
  refine TC.seq ?_
  refine TC.seq ?_
  refine TC.region ?_
  refine S.mv ?_
  refine S.q rfl rfl (Qt.len_slice Tryz.underlying33 rfl) ?_
  refine S.q rfl rfl (Qt.dF (Qt.gt (b := 32) rfl rfl) (by omega)) ?_
  refine S.mv ?_
  refine S.qg rfl rfl rfl (Qt.move (by conv => lhs; whnf)) ?_
  refine S.qg rfl rfl rfl (Qt.move (by conv => lhs; whnf)) ?_
  refine S.qg rfl rfl rfl (Qt.len_slice Tryz.underlying33 rfl) ?_
  refine S.qg rfl rfl rfl (Qt.shrN rfl rfl (by simp only [kmax]; omega)) ?_
  refine S.qg rfl rfl rfl (Qt.dF (Qt.ne (b := 0) rfl rfl) (fun h => h hf.2)) ?_
  refine S.q rfl rfl (Qt.pick_f rfl (by conv => lhs; whnf)) ?_
  refine S.nil ?_
  refine S.if_f rfl ?_
  refine TC.skip ?_
  refine TC.seq ?_
  refine TC.seq ?_
  refine TC.region ?_
  refine S.mv ?_
  refine S.q rfl rfl (Qt.len_slice Tryz.underlying33 rfl) ?_
  refine S.mv ?_
  refine S.nil ?_
  refine TC.block ?_
  refine TC.loop (γ := Nat) [29, 30, 31, 32, 9, 8, 33, 34, 10, 11, 35, 36, 37, 38, 39, 40, 41, 43, 44, 45, 46, 47, 42, 48, 49, 12, 13, 50, 51, 52, 53, 7, 54, 55, 28] (fun k => [(28, .int .i64 (k : Int))]) (fun k => [Blk b6 49 (List.replicate 32 (.int .u8 0)), Blk b3 49 (hvl (climbK x i ps k))]) (fun k => k ≤ n) (fun k => n - k) (0)
    (Nat.zero_le _) ⟨Out.refl _ _, (List.forall_mem_cons.2 ⟨rfl, (fun _ h => nomatch h)⟩)⟩ (Sub.refl _) ?_
  rintro k u hk
  refine TC.seq ?_
  refine TC.region ?_
  refine S.dec rfl rfl (Qt.lt rfl rfl) (fun h29 => ?_) (fun h29 => ?_)
  · refine S.nil ?_
    refine TC.seq ?_
    refine S.if_t rfl ?_
    refine TC.skip ?_
    refine TC.seq ?_
    refine TC.block ?_
    refine TC.seq ?_
    refine TC.region ?_
    refine S.mv ?_
    refine S.q rfl rfl (Qt.index Tryz.underlying33 Tryz.cells49 rfl rfl (by omega) (Has.ro hR) (by rw [hcs_length]; omega)) ?_
    refine S.q rfl rfl (Qt.load rfl (Ld.hashS (Has.ro hR) k Tryz.row49 Tryz.cells49 (by omega) rfl)) ?_
    refine S.opS rfl rfl (OpV.alloc Tryz.zero49 (fun b9 => ?_))
    refine S.as ?_
    refine S.opN rfl (OpV.storeV0 (v := hv (ps.getD k zeroH)) rfl rfl (hv_size Tryz.cells49) (hv_all _) (hv_len _) ?_)
    refine S.nil ?_
    refine TC.seq ?_
    refine S.draw ([4, 5], [2, 3]) Tryz.mixed (Sub.refl _) ?_
    refine D.qY 0 rfl (Qt.load rfl (Ld.hash1 (x := climbK x i ps k) (Has.at 2 rfl) Tryz.row49 Tryz.cells49)) ?_
    refine D.q (k := 1) rfl (by kernel_rfl) (by kernel_rfl) rfl rfl (Qt.load rfl (Ld.hash1 (x := ps.getD k zeroH) (Has.at 0 rfl) Tryz.row49 Tryz.cells49)) ?_
    refine D.two (k1 := 2) (k2 := 3) (Sub.refl _) rfl rfl (by kernel_rfl) (by kernel_rfl) (by kernel_rfl) (by kernel_rfl) (by kernel_rfl) (by kernel_rfl) rfl rfl rfl Tryz.zero49 Tryz.zero49 (fun b10 b11 => ?_)
    refine D.opN (k := 4) (Sub.drop _ (Sub.drop _ (Sub.keep _ (Sub.keep _ (Sub.keep _ (Sub.nil [])))))) rfl (by kernel_rfl) (by kernel_rfl) rfl (OpV.storeV1 (v := hv (climbK x i ps k)) rfl rfl (hv_size Tryz.cells49) (hv_all _) (hv_len _) ⟨Sub.drop _ (Sub.drop _ (Sub.keep _ (Sub.keep _ (Sub.keep _ (Sub.nil []))))), ?_⟩)
    refine D.opN (k := 5) (Sub.drop _ (Sub.drop _ (Sub.keep _ (Sub.keep _ (Sub.keep _ (Sub.nil [])))))) rfl (by kernel_rfl) (by kernel_rfl) rfl (OpV.storeV0 (v := hv (ps.getD k zeroH)) rfl rfl (hv_size Tryz.cells49) (hv_all _) (hv_len _) ⟨Sub.drop _ (Sub.drop _ (Sub.keep _ (Sub.keep _ (Sub.keep _ (Sub.nil []))))), ?_⟩)
    refine D.done (Sub.drop _ (Sub.drop _ (Sub.keep _ (Sub.keep _ (Sub.keep _ (Sub.nil [])))))) (by kernel_rfl) ?_
    refine TC.seq ?_
    refine TC.seq ?_
    refine TC.region ?_
    refine S.mv ?_
    refine S.mv ?_
    refine S.q rfl rfl (Qt.shrN rfl rfl (by simp only [kmax]; omega)) ?_
    refine S.q rfl rfl (Qt.as (Qt.andN (b := 1) rfl rfl (by have := Nat.div_le_self i (2 ^ k); simp only [kmax]; omega) (by simp only [kmax]; omega)) (by rw [Nat.and_one_is_mod])) ?_
    refine S.dec rfl rfl (Qt.eq (b := 1) rfl rfl) (fun h39 => ?_) (fun h39 => ?_)
    · refine S.nil ?_
      refine S.if_t rfl ?_
      refine S.draw ([2, 3], []) Tryz.mixed (Sub.drop _ (Sub.drop _ (Sub.keep _ (Sub.keep _ (Sub.keep _ (Sub.nil [])))))) ?_
      refine D.qY 0 rfl (Qt.load rfl (Ld.hash1 (x := ps.getD k zeroH) (Has.at 2 rfl) Tryz.row49 Tryz.cells49)) ?_
      refine D.q (k := 1) rfl (by kernel_rfl) (by kernel_rfl) rfl rfl (Qt.load rfl (Ld.hash1 (x := climbK x i ps k) (Has.at 2 rfl) Tryz.row49 Tryz.cells49)) ?_
      refine D.opN (k := 2) (Sub.drop _ (Sub.drop _ (Sub.keep _ (Sub.keep _ (Sub.keep _ (Sub.nil [])))))) rfl (by kernel_rfl) (by kernel_rfl) rfl (OpV.storeV1 (v := hv (ps.getD k zeroH)) rfl rfl (hv_size Tryz.cells49) (hv_all _) (by rw [hv_len, hv_len]) ⟨Sub.drop _ (Sub.drop _ (Sub.keep _ (Sub.keep _ (Sub.keep _ (Sub.nil []))))), ?_⟩)
      refine D.opN (k := 3) (Sub.drop _ (Sub.drop _ (Sub.keep _ (Sub.keep _ (Sub.keep _ (Sub.nil [])))))) rfl (by kernel_rfl) (by kernel_rfl) rfl (OpV.storeV0 (v := hv (climbK x i ps k)) rfl rfl (hv_size Tryz.cells49) (hv_all _) (by rw [hv_len, hv_len]) ⟨Sub.drop _ (Sub.drop _ (Sub.keep _ (Sub.keep _ (Sub.keep _ (Sub.nil []))))), ?_⟩)
      refine D.done (Sub.drop _ (Sub.drop _ (Sub.keep _ (Sub.keep _ (Sub.keep _ (Sub.nil [])))))) (by kernel_rfl) ?_
      refine TC.seq ?_
      refine TC.region ?_
      refine S.mv ?_
      refine S.q rfl rfl (Qt.add (b := 1) rfl rfl (by simp only [kmax]; omega)) ?_
      refine S.q rfl rfl (Qt.load rfl (Ld.hash1 (x := ps.getD k zeroH) (Has.at 1 rfl) Tryz.row49 Tryz.cells49)) ?_
      refine S.q rfl rfl (Qt.load rfl (Ld.hash1 (x := climbK x i ps k) (Has.at 0 rfl) Tryz.row49 Tryz.cells49)) ?_
      refine S.opS rfl rfl (OpV.con0 Tryz.ent117 rfl (fun w hw => (by rw [climb_odd h39]; exact join_R (k + 1) (by omega) (by omega) _ _ w (hT.at hw) : Calls Tryz.prog 117 #[.int .i64 ((k + 1 : Nat) : Int), hv (ps.getD k zeroH), hv (climbK x i ps k)] w (Ret w (.tuple #[hv (climbK x i ps (k + 1)), .nilIface])))) ?_)
      refine S.mv ?_
      refine S.q rfl rfl (Qt.extract rfl rfl) ?_
      refine S.q rfl rfl (Qt.extract rfl rfl) ?_
      refine S.opS rfl rfl (OpV.alloc Tryz.zero49 (fun b12 => ?_))
      refine S.opN rfl (OpV.storeV0 (v := hv (climbK x i ps (k + 1))) rfl rfl (hv_size Tryz.cells49) (hv_all _) (hv_len _) ?_)
      refine S.as ?_
      refine S.nil ?_
      refine TC.seq ?_
      refine TC.seq ?_
      refine TC.region ?_
      refine S.mv ?_
      refine S.q rfl rfl (Qt.nenil_nil Tryz.underlying51 rfl) ?_
      refine S.nil ?_
      refine S.if_f rfl ?_
      refine TC.skip ?_
      refine TC.region ?_
      refine S.q rfl rfl (Qt.load rfl (Ld.hash1 (x := climbK x i ps (k + 1)) (Has.at 0 rfl) Tryz.row49 Tryz.cells49)) ?_
      refine S.opN rfl (OpV.storeV5 (v := hv (climbK x i ps (k + 1))) rfl rfl (hv_size Tryz.cells49) (hv_all _) (by rw [hv_len, hvl_length]) ?_)
      refine S.nil ?_
      refine TC.region ?_
      refine S.q rfl rfl (Qt.add (b := 1) rfl rfl (by simp only [kmax]; omega)) ?_
      refine S.mv ?_
      refine S.nil ?_
      refine ⟨k + 1, ?_, ?_, ⟨?_, (List.forall_mem_cons.2 ⟨rfl, (fun _ h => nomatch h)⟩)⟩, Sub.trans (Sub.keep _ (Sub.keep _ (Sub.drop _ (Sub.drop _ (Sub.drop _ (Sub.drop _ (Sub.nil []))))))) (Sub.trans (Sub.keep _ (Sub.trans (Sub.keep _ (Sub.refl _)) (Sub.of_perm (List.perm_middle (l₁ := [_, _, _, _]))))) (Sub.of_perm (List.perm_middle (l₁ := [_, _, _, _]))))⟩
      · show _ ≤ _; omega
      · show _ < _; dsimp only; omega
      repeat (first | exact Out.refl _ _ | refine Out.put rfl ?_ | refine Out.puts rfl ?_ | refine Out.scr ?_ | refine Out.scr' rfl ?_)
    · refine S.nil ?_
      refine S.if_f rfl ?_
      refine TC.skip ?_
      refine TC.seq ?_
      refine TC.region ?_
      refine S.mv ?_
      refine S.q rfl rfl (Qt.add (b := 1) rfl rfl (by simp only [kmax]; omega)) ?_
      refine S.q rfl rfl (Qt.load rfl (Ld.hash1 (x := climbK x i ps k) (Has.at 1 rfl) Tryz.row49 Tryz.cells49)) ?_
      refine S.q rfl rfl (Qt.load rfl (Ld.hash1 (x := ps.getD k zeroH) (Has.at 0 rfl) Tryz.row49 Tryz.cells49)) ?_
      refine S.opS rfl rfl (OpV.con0 Tryz.ent117 rfl (fun w hw => (by rw [climb_even h39]; exact join_R (k + 1) (by omega) (by omega) _ _ w (hT.at hw) : Calls Tryz.prog 117 #[.int .i64 ((k + 1 : Nat) : Int), hv (climbK x i ps k), hv (ps.getD k zeroH)] w (Ret w (.tuple #[hv (climbK x i ps (k + 1)), .nilIface])))) ?_)
      refine S.mv ?_
      refine S.q rfl rfl (Qt.extract rfl rfl) ?_
      refine S.q rfl rfl (Qt.extract rfl rfl) ?_
      refine S.opS rfl rfl (OpV.alloc Tryz.zero49 (fun b12 => ?_))
      refine S.opN rfl (OpV.storeV0 (v := hv (climbK x i ps (k + 1))) rfl rfl (hv_size Tryz.cells49) (hv_all _) (hv_len _) ?_)
      refine S.as ?_
      refine S.nil ?_
      refine TC.seq ?_
      refine TC.seq ?_
      refine TC.region ?_
      refine S.mv ?_
      refine S.q rfl rfl (Qt.nenil_nil Tryz.underlying51 rfl) ?_
      refine S.nil ?_
      refine S.if_f rfl ?_
      refine TC.skip ?_
      refine TC.region ?_
      refine S.q rfl rfl (Qt.load rfl (Ld.hash1 (x := climbK x i ps (k + 1)) (Has.at 0 rfl) Tryz.row49 Tryz.cells49)) ?_
      refine S.opN rfl (OpV.storeV5 (v := hv (climbK x i ps (k + 1))) rfl rfl (hv_size Tryz.cells49) (hv_all _) (by rw [hv_len, hvl_length]) ?_)
      refine S.nil ?_
      refine TC.region ?_
      refine S.q rfl rfl (Qt.add (b := 1) rfl rfl (by simp only [kmax]; omega)) ?_
      refine S.mv ?_
      refine S.nil ?_
      refine ⟨k + 1, ?_, ?_, ⟨?_, (List.forall_mem_cons.2 ⟨rfl, (fun _ h => nomatch h)⟩)⟩, Sub.trans (Sub.keep _ (Sub.keep _ (Sub.drop _ (Sub.drop _ (Sub.drop _ (Sub.drop _ (Sub.nil []))))))) (Sub.trans (Sub.keep _ (Sub.trans (Sub.keep _ (Sub.refl _)) (Sub.of_perm (List.perm_middle (l₁ := [_, _, _, _]))))) (Sub.of_perm (List.perm_middle (l₁ := [_, _, _, _]))))⟩
      · show _ ≤ _; omega
      · show _ < _; dsimp only; omega
      repeat (first | exact Out.refl _ _ | refine Out.put rfl ?_ | refine Out.puts rfl ?_ | refine Out.scr ?_ | refine Out.scr' rfl ?_)
  · refine S.nil ?_
    refine TC.seq ?_
    refine S.if_f rfl ?_
    refine TC.exit ?_
    refine TC.seq ?_
    refine TC.region ?_
    obtain rfl : k = n := by omega
    refine S.q rfl rfl (Qt.load rfl (Ld.hash1 (x := climbK x i ps k) (Has.at 1 rfl) Tryz.row49 Tryz.cells49)) ?_
    refine S.opN rfl (OpV.storeV0 (v := hv (_)) rfl rfl (hv_size Tryz.cells49) (hv_all _) (hv_len _) ?_)
    refine S.as ?_
    refine S.nil ?_
    refine TC.ret ?_
    refine finQ.ret (RVs.cell rfl (Ld.all (Has.at 0 rfl) Tryz.row49 (hv_size Tryz.cells49)) (RVs.tmp (by conv => lhs; whnf) RVs.nil)) (Sub.nil _) ?_
    subst hn
    exact ⟨rfl, rfl⟩
theorem climb_R (x : H32) (i : Nat) (A : Option Addr) (n c : Nat) (ps : List H32) (hn : ps.length = n) (hi : i < 18446744073709551616) (hf : fitsP i n) (w0 : World) (hR : Ro w0 [] (SlA A (hcs ps))) (hT : Tabs 3 1 w0 []) : Calls Tryz.prog 170 #[hv x, .int .u64 (i : Int), .slice A n c] w0 (Ret w0 (.tuple #[hv (climbH x i ps), .nilIface])) := Calls.ret (climb_walk x i A n c ps hn hi hf w0 hR hT)

set_option maxHeartbeats 400000 in
theorem climb_walkF (x : H32) (i : Nat) (A : Option Addr) (n c : Nat) (hi : i < 18446744073709551616) (hf : ¬ fitsP i n) (w0 : World) :
    Calls Tryz.prog 170 #[hv x, .int .u64 (i : Int), .slice A n c] w0 (Post w0 [] fun v L => v = .tuple #[hv zeroH, .iface 73 (.int .i64 1)] ∧ L = []) := by
  refine Calls.of (L := []) (n := 57) (rs := [.cell 6 49, .tmp 7]) Tryz.func170 rfl rfl rfl (Nat.le_of_ble_eq_true rfl) (Sat.nil _) ?_
  refine TC.seq ?_
  refine TC.region ?_
  refine S.opS rfl rfl (OpV.box (v := hv x) rfl (fun b3 => ?_))
  refine S.opS rfl rfl (OpV.alloc Tryz.zero49 (fun b6 => ?_))
  refine S.as ?_
  refine S.nil ?_
  refine TC.seq ?_
  refine TC.seq ?_
  refine TC.region ?_
  refine S.mv ?_
  refine S.q rfl rfl (Qt.len_slice Tryz.underlying33 rfl) ?_
  refine S.dec rfl rfl (Qt.gt (b := 32) rfl rfl) (fun h16 => ?_) (fun h16 => ?_)
  · refine S.mv ?_
    refine S.pass rfl rfl ?_
    refine S.pass rfl rfl ?_
    refine S.pass rfl rfl ?_
    refine S.pass rfl rfl ?_
    refine S.pass rfl rfl ?_
    refine S.q rfl rfl (Qt.pick_t rfl (by conv => lhs; whnf)) ?_
    refine S.nil ?_
    refine S.if_t rfl ?_
    refine TC.seq ?_
    refine TC.region ?_
    refine S.q rfl rfl (Qt.build (v := hv zeroH) rfl (fun _ => by kernel_rfl)) ?_
    refine S.q rfl rfl (Qt.makeInterface Tryz.underlying73 (fun _ h => nomatch h) (by conv => lhs; whnf)) ?_
    refine S.opN rfl (OpV.storeV0 (v := hv (zeroH)) rfl rfl (hv_size Tryz.cells49) (hv_all _) (hv_len _) ?_)
    refine S.as ?_
    refine S.nil ?_
    refine TC.ret ?_
    refine finQ.ret (RVs.cell rfl (Ld.all (Has.at 0 rfl) Tryz.row49 (hv_size Tryz.cells49)) (RVs.tmp (by conv => lhs; whnf) RVs.nil)) (Sub.nil _) ?_
    exact ⟨rfl, rfl⟩
  · refine S.mv ?_
    refine S.qg rfl rfl rfl (Qt.move (by conv => lhs; whnf)) ?_
    refine S.qg rfl rfl rfl (Qt.move (by conv => lhs; whnf)) ?_
    refine S.qg rfl rfl rfl (Qt.len_slice Tryz.underlying33 rfl) ?_
    refine S.qg rfl rfl rfl (Qt.shrN rfl rfl (by simp only [kmax]; omega)) ?_
    refine S.qg rfl rfl rfl (Qt.dT (Qt.ne (b := 0) rfl rfl) (fun h0 => hf ⟨Nat.le_of_not_lt h16, h0⟩)) ?_
    refine S.q rfl rfl (Qt.pick_f rfl (by conv => lhs; whnf)) ?_
    refine S.nil ?_
    refine S.if_t rfl ?_
    refine TC.seq ?_
    refine TC.region ?_
    refine S.q rfl rfl (Qt.build (v := hv zeroH) rfl (fun _ => by kernel_rfl)) ?_
    refine S.q rfl rfl (Qt.makeInterface Tryz.underlying73 (fun _ h => nomatch h) (by conv => lhs; whnf)) ?_
    refine S.opN rfl (OpV.storeV0 (v := hv (zeroH)) rfl rfl (hv_size Tryz.cells49) (hv_all _) (hv_len _) ?_)
    refine S.as ?_
    refine S.nil ?_
    refine TC.ret ?_
    refine finQ.ret (RVs.cell rfl (Ld.all (Has.at 0 rfl) Tryz.row49 (hv_size Tryz.cells49)) (RVs.tmp (by conv => lhs; whnf) RVs.nil)) (Sub.nil _) ?_
    exact ⟨rfl, rfl⟩
theorem climbF_R (x : H32) (i : Nat) (A : Option Addr) (n c : Nat) (hi : i < 18446744073709551616) (hf : ¬ fitsP i n) (w0 : World) : Calls Tryz.prog 170 #[hv x, .int .u64 (i : Int), .slice A n c] w0 (Ret w0 (.tuple #[hv zeroH, .iface 73 (.int .i64 1)])) := Calls.ret (climb_walkF x i A n c hi hf w0)

end Go.Proofs.YtgdjcmehlhebdaaGreatDoor
