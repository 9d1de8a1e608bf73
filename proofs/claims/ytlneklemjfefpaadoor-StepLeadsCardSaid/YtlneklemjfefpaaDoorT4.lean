/-
  Walks: climbing and cutting. Printed by a program of ours. Walks: the law of cuts. Printed by a program of ours.
-/
import Derived.Test.YtlneklemjfefpaaDoorTI
import Derived.Test.YtlneklemjfefpaaDoorP2
namespace Go.Proofs.YtlneklemjfefpaaDoor
open Go.E
set_option linter.unusedVariables false
set_option maxRecDepth 4000

set_option maxHeartbeats 400000 in
theorem cloneh_walk (A : Option Addr) (n c : Nat) (ps : List H32) (hn : ps.length = n) (hx : n ≤ 4096) (w0 : World) (hR : Ro w0 [] (SlA A (hcs ps))) :
    Calls Tryd.prog 100 #[.slice A n c] w0 (Post w0 [] fun v L => ∃ O d, v = .slice O n d ∧ L = [OwnA 23 32 O n d (hcs ps)]) := by
  refine Calls.of (L := []) (n := 8) (rs := [.tmp 2]) Tryd.func100 rfl rfl rfl (Nat.le_of_ble_eq_true rfl) (Sat.nil _) ?_
  refine TC.ownNil 23 32 ?_
  refine TC.seq ?_
  refine TC.region ?_
  refine S.q rfl rfl (Qt.assign (by conv => lhs; whnf)) ?_
  refine S.nil ?_
  refine TC.seq ?_
  refine TC.seq ?_
  refine TC.region ?_
  refine S.q rfl rfl (Qt.move (by conv => lhs; whnf)) ?_
  refine S.q rfl rfl (Qt.eqsl Tryd.underlying44 rfl) ?_
  refine S.nil ?_
  refine TC.ifb rfl (fun hnl => ?_) (fun hnl => ?_)
  · refine TC.seq ?_
    refine TC.region ?_
    refine S.q rfl rfl (Qt.assign (by conv => lhs; whnf)) ?_
    refine S.nil ?_
    refine TC.ret ?_
    refine finQ.ret (RVs.tmp (by conv => lhs; whnf) RVs.nil) (Sub.refl _) ?_
    obtain rfl : A = none := Option.isNone_iff_eq_none.1 hnl
    obtain rfl : ps = [] := hcs_nil_of (SlA.none_nil hR.1)
    obtain rfl : n = 0 := hn.symm
    exact ⟨none, 0, rfl, rfl⟩
  · refine TC.skip ?_
    refine TC.seq ?_
    refine TC.region ?_
    refine S.opS rfl rfl (OpV.slice0 Tryd.underlying44 ⟨_, Tryd.elem23⟩ (fun g5 => ?_))
    refine S.q rfl rfl (Qt.move (by conv => lhs; whnf)) ?_
    refine S.opS rfl rfl (OpV.app0 (bytes := 32) (news := hcs ps) Tryd.underlying44 Tryd.elem23 rfl rfl (Has.ro hR) (by rw [hcs_length, hn]) (hcs_one _) (by simp only [maxLen]; omega) (by omega) (fun O d => ?_))
    refine S.q rfl rfl (Qt.assign (by conv => lhs; whnf)) ?_
    refine S.nil ?_
    refine TC.ret ?_
    refine finQ.ret (RVs.tmp (by conv => lhs; whnf) RVs.nil) (Sub.keep _ (Sub.drop _ (Sub.nil _))) ?_
    exact ⟨O, d, by rw [Nat.zero_add]; rfl, by rw [Nat.zero_add, List.nil_append]⟩
set_option maxHeartbeats 800000 in
theorem climb_walk (x : H32) (i : Nat) (A : Option Addr) (n c : Nat) (ps : List H32) (hn : ps.length = n) (hi : i < 18446744073709551616) (hf : fitsP i n) (w0 : World) (hR : Ro w0 [] (SlA A (hcs ps))) (hT : Tabs 2 0 w0 []) :
    Calls Tryd.prog 43 #[hv x, .int .u64 (i : Int), .slice A n c] w0 (Post w0 [] fun v L => v = .tuple #[hv (climbH x i ps), .nilIface] ∧ L = []) := by
  refine Calls.of (L := []) (n := 57) (rs := [.cell 6 23, .tmp 7]) Tryd.func43 rfl rfl rfl (Nat.le_of_ble_eq_true rfl) (Sat.nil _) ?_
  have hf1 := hf.1
  refine TC.seq ?_
  refine TC.region ?_
  refine S.opS rfl rfl (OpV.box (v := hv x) rfl (fun b3 => ?_))
  refine S.opS rfl rfl (OpV.alloc Tryd.zero23 (fun b6 => ?_))
  refine S.q rfl rfl (Qt.assign (by conv => lhs; whnf)) ?_
  refine S.nil ?_
  refine TC.seq ?_
  refine TC.seq ?_
  refine TC.region ?_
  refine S.q rfl rfl (Qt.move (by conv => lhs; whnf)) ?_
  refine S.q rfl rfl (Qt.len_slice Tryd.underlying44 rfl) ?_
  refine S.q rfl rfl (Qt.dF (Qt.gt (b := 32) rfl rfl) (by omega)) ?_
  refine S.q rfl rfl (Qt.move (by conv => lhs; whnf)) ?_
  refine S.qg rfl rfl rfl (Qt.move (by conv => lhs; whnf)) ?_
  refine S.qg rfl rfl rfl (Qt.move (by conv => lhs; whnf)) ?_
  refine S.qg rfl rfl rfl (Qt.len_slice Tryd.underlying44 rfl) ?_
  refine S.qg rfl rfl rfl (Qt.shrN rfl rfl (by simp only [kmax]; omega)) ?_
  refine S.qg rfl rfl rfl (Qt.dF (Qt.ne (b := 0) rfl rfl) (fun h => h hf.2)) ?_
  refine S.q rfl rfl (Qt.pick_f rfl (by conv => lhs; whnf)) ?_
  refine S.nil ?_
  refine S.if_f rfl ?_
  refine TC.skip ?_
  refine TC.seq ?_
  refine TC.seq ?_
  refine TC.region ?_
  refine S.q rfl rfl (Qt.move (by conv => lhs; whnf)) ?_
  refine S.q rfl rfl (Qt.len_slice Tryd.underlying44 rfl) ?_
  refine S.q rfl rfl (Qt.move (by conv => lhs; whnf)) ?_
  refine S.nil ?_
  refine TC.block ?_
  refine TC.loop (γ := Nat) [29, 30, 31, 32, 9, 8, 33, 34, 10, 11, 35, 36, 37, 38, 39, 40, 41, 43, 44, 45, 46, 47, 42, 48, 49, 12, 13, 50, 51, 52, 53, 7, 54, 55, 28] (fun k => [(28, .int .i64 (k : Int))]) (fun k => [Blk b6 23 (List.replicate 32 (.int .u8 0)), Blk b3 23 (hvl (climbK x i ps k))]) (fun k => k ≤ n) (fun k => n - k) (0)
    (Nat.zero_le _) ⟨Out.refl _ _, (List.forall_mem_cons.2 ⟨rfl, (fun _ h => nomatch h)⟩)⟩ (Sub.refl _) ?_
  rintro k u hk
  refine TC.seq ?_
  refine TC.region ?_
  refine S.dec rfl rfl (Qt.lt rfl rfl) (fun h29 => ?_) (fun h29 => ?_)
  · refine S.nil ?_
    refine TC.seq ?_
    refine S.if_t rfl ?_
    refine TC.skip ?_
    refine TC.seq ?_
    refine TC.block ?_
    refine TC.seq ?_
    refine TC.region ?_
    refine S.q rfl rfl (Qt.move (by conv => lhs; whnf)) ?_
    refine S.q rfl rfl (Qt.index Tryd.underlying44 Tryd.cells23 rfl rfl (by omega) (Has.ro hR) (by rw [hcs_length]; omega)) ?_
    refine S.q rfl rfl (Qt.load rfl (Ld.hashS (Has.ro hR) k Tryd.row23 Tryd.cells23 (by omega) rfl)) ?_
    refine S.opS rfl rfl (OpV.alloc Tryd.zero23 (fun b9 => ?_))
    refine S.q rfl rfl (Qt.assign (by conv => lhs; whnf)) ?_
    refine S.opN rfl (OpV.storeV0 (v := hv (ps.getD k zeroH)) rfl rfl (hv_size Tryd.cells23) (hv_all _) (hv_len _) ?_)
    refine S.nil ?_
    refine TC.seq ?_
    refine S.draw ([4, 5], [2, 3]) Tryd.mixed (Sub.refl _) ?_
    refine D.qX (k := 0) rfl (by kernel_rfl) (by kernel_rfl) (by kernel_rfl) rfl rfl (Qt.load rfl (Ld.hash1 (x := climbK x i ps k) (Has.at 2 rfl) Tryd.row23 Tryd.cells23)) ?_
    refine D.q (k := 1) rfl (by kernel_rfl) (by kernel_rfl) rfl rfl (Qt.load rfl (Ld.hash1 (x := ps.getD k zeroH) (Has.at 0 rfl) Tryd.row23 Tryd.cells23)) ?_
    refine D.two (k1 := 2) (k2 := 3) (Sub.refl _) rfl rfl (by kernel_rfl) (by kernel_rfl) (by kernel_rfl) (by kernel_rfl) (by kernel_rfl) (by kernel_rfl) rfl rfl rfl Tryd.zero23 Tryd.zero23 (fun b10 b11 => ?_)
    refine D.opN (k := 4) (Sub.drop _ (Sub.drop _ (Sub.keep _ (Sub.keep _ (Sub.keep _ (Sub.nil [])))))) rfl (by kernel_rfl) (by kernel_rfl) rfl (OpV.storeV1 (v := hv (climbK x i ps k)) rfl rfl (hv_size Tryd.cells23) (hv_all _) (hv_len _) ⟨Sub.drop _ (Sub.drop _ (Sub.keep _ (Sub.keep _ (Sub.keep _ (Sub.nil []))))), ?_⟩)
    refine D.opN (k := 5) (Sub.drop _ (Sub.drop _ (Sub.keep _ (Sub.keep _ (Sub.keep _ (Sub.nil [])))))) rfl (by kernel_rfl) (by kernel_rfl) rfl (OpV.storeV0 (v := hv (ps.getD k zeroH)) rfl rfl (hv_size Tryd.cells23) (hv_all _) (hv_len _) ⟨Sub.drop _ (Sub.drop _ (Sub.keep _ (Sub.keep _ (Sub.keep _ (Sub.nil []))))), ?_⟩)
    refine D.done (Sub.drop _ (Sub.drop _ (Sub.keep _ (Sub.keep _ (Sub.keep _ (Sub.nil [])))))) (by kernel_rfl) ?_
    refine TC.seq ?_
    refine TC.seq ?_
    refine TC.region ?_
    refine S.q rfl rfl (Qt.move (by conv => lhs; whnf)) ?_
    refine S.q rfl rfl (Qt.move (by conv => lhs; whnf)) ?_
    refine S.q rfl rfl (Qt.shrN rfl rfl (by simp only [kmax]; omega)) ?_
    refine S.q rfl rfl (Qt.as (Qt.andN (b := 1) rfl rfl (by have := Nat.div_le_self i (2 ^ k); simp only [kmax]; omega) (by simp only [kmax]; omega)) (by rw [Nat.and_one_is_mod])) ?_
    refine S.dec rfl rfl (Qt.eq (b := 1) rfl rfl) (fun h39 => ?_) (fun h39 => ?_)
    · refine S.nil ?_
      refine S.if_t rfl ?_
      refine S.draw ([2, 3], []) Tryd.mixed (Sub.drop _ (Sub.drop _ (Sub.keep _ (Sub.keep _ (Sub.keep _ (Sub.nil [])))))) ?_
      refine D.qX (k := 0) rfl (by kernel_rfl) (by kernel_rfl) (by kernel_rfl) rfl rfl (Qt.load rfl (Ld.hash1 (x := ps.getD k zeroH) (Has.at 2 rfl) Tryd.row23 Tryd.cells23)) ?_
      refine D.q (k := 1) rfl (by kernel_rfl) (by kernel_rfl) rfl rfl (Qt.load rfl (Ld.hash1 (x := climbK x i ps k) (Has.at 2 rfl) Tryd.row23 Tryd.cells23)) ?_
      refine D.opN (k := 2) (Sub.drop _ (Sub.drop _ (Sub.keep _ (Sub.keep _ (Sub.keep _ (Sub.nil [])))))) rfl (by kernel_rfl) (by kernel_rfl) rfl (OpV.storeV1 (v := hv (ps.getD k zeroH)) rfl rfl (hv_size Tryd.cells23) (hv_all _) (by rw [hv_len, hv_len]) ⟨Sub.drop _ (Sub.drop _ (Sub.keep _ (Sub.keep _ (Sub.keep _ (Sub.nil []))))), ?_⟩)
      refine D.opN (k := 3) (Sub.drop _ (Sub.drop _ (Sub.keep _ (Sub.keep _ (Sub.keep _ (Sub.nil [])))))) rfl (by kernel_rfl) (by kernel_rfl) rfl (OpV.storeV0 (v := hv (climbK x i ps k)) rfl rfl (hv_size Tryd.cells23) (hv_all _) (by rw [hv_len, hv_len]) ⟨Sub.drop _ (Sub.drop _ (Sub.keep _ (Sub.keep _ (Sub.keep _ (Sub.nil []))))), ?_⟩)
      refine D.done (Sub.drop _ (Sub.drop _ (Sub.keep _ (Sub.keep _ (Sub.keep _ (Sub.nil [])))))) (by kernel_rfl) ?_
      refine TC.seq ?_
      refine TC.region ?_
      refine S.q rfl rfl (Qt.move (by conv => lhs; whnf)) ?_
      refine S.q rfl rfl (Qt.add (b := 1) rfl rfl (by simp only [kmax]; omega)) ?_
      refine S.q rfl rfl (Qt.load rfl (Ld.hash1 (x := ps.getD k zeroH) (Has.at 1 rfl) Tryd.row23 Tryd.cells23)) ?_
      refine S.q rfl rfl (Qt.load rfl (Ld.hash1 (x := climbK x i ps k) (Has.at 0 rfl) Tryd.row23 Tryd.cells23)) ?_
      refine S.opS rfl rfl (OpV.con0 Tryd.ent31 rfl (fun w hw => (by rw [climb_odd h39]; exact join_R (k + 1) (by omega) (by omega) _ _ w (hT.at hw) : Calls Tryd.prog 31 #[.int .i64 ((k + 1 : Nat) : Int), hv (ps.getD k zeroH), hv (climbK x i ps k)] w (Ret w (.tuple #[hv (climbK x i ps (k + 1)), .nilIface])))) ?_)
      refine S.q rfl rfl (Qt.move (by conv => lhs; whnf)) ?_
      refine S.q rfl rfl (Qt.extract rfl rfl) ?_
      refine S.q rfl rfl (Qt.extract rfl rfl) ?_
      refine S.opS rfl rfl (OpV.alloc Tryd.zero23 (fun b12 => ?_))
      refine S.opN rfl (OpV.storeV0 (v := hv (climbK x i ps (k + 1))) rfl rfl (hv_size Tryd.cells23) (hv_all _) (hv_len _) ?_)
      refine S.q rfl rfl (Qt.assign (by conv => lhs; whnf)) ?_
      refine S.nil ?_
      refine TC.seq ?_
      refine TC.seq ?_
      refine TC.region ?_
      refine S.q rfl rfl (Qt.move (by conv => lhs; whnf)) ?_
      refine S.q rfl rfl (Qt.nenil_nil Tryd.underlying27 rfl) ?_
      refine S.nil ?_
      refine S.if_f rfl ?_
      refine TC.skip ?_
      refine TC.region ?_
      refine S.q rfl rfl (Qt.load rfl (Ld.hash1 (x := climbK x i ps (k + 1)) (Has.at 0 rfl) Tryd.row23 Tryd.cells23)) ?_
      refine S.opN rfl (OpV.storeV5 (v := hv (climbK x i ps (k + 1))) rfl rfl (hv_size Tryd.cells23) (hv_all _) (by rw [hv_len, hvl_length]) ?_)
      refine S.nil ?_
      refine TC.region ?_
      refine S.q rfl rfl (Qt.add (b := 1) rfl rfl (by simp only [kmax]; omega)) ?_
      refine S.q rfl rfl (Qt.move (by conv => lhs; whnf)) ?_
      refine S.nil ?_
      refine ⟨k + 1, ?_, ?_, ⟨?_, (List.forall_mem_cons.2 ⟨rfl, (fun _ h => nomatch h)⟩)⟩, Sub.trans (Sub.keep _ (Sub.keep _ (Sub.drop _ (Sub.drop _ (Sub.drop _ (Sub.drop _ (Sub.nil []))))))) (Sub.trans (Sub.keep _ (Sub.trans (Sub.keep _ (Sub.refl _)) (Sub.of_perm (List.perm_middle (l₁ := [_, _, _, _]))))) (Sub.of_perm (List.perm_middle (l₁ := [_, _, _, _]))))⟩
      · show _ ≤ _; omega
      · show _ < _; dsimp only; omega
      repeat (first | exact Out.refl _ _ | refine Out.put rfl ?_ | refine Out.puts rfl ?_ | refine Out.scr ?_ | refine Out.scr' rfl ?_)
    · refine S.nil ?_
      refine S.if_f rfl ?_
      refine TC.skip ?_
      refine TC.seq ?_
      refine TC.region ?_
      refine S.q rfl rfl (Qt.move (by conv => lhs; whnf)) ?_
      refine S.q rfl rfl (Qt.add (b := 1) rfl rfl (by simp only [kmax]; omega)) ?_
      refine S.q rfl rfl (Qt.load rfl (Ld.hash1 (x := climbK x i ps k) (Has.at 1 rfl) Tryd.row23 Tryd.cells23)) ?_
      refine S.q rfl rfl (Qt.load rfl (Ld.hash1 (x := ps.getD k zeroH) (Has.at 0 rfl) Tryd.row23 Tryd.cells23)) ?_
      refine S.opS rfl rfl (OpV.con0 Tryd.ent31 rfl (fun w hw => (by rw [climb_even h39]; exact join_R (k + 1) (by omega) (by omega) _ _ w (hT.at hw) : Calls Tryd.prog 31 #[.int .i64 ((k + 1 : Nat) : Int), hv (climbK x i ps k), hv (ps.getD k zeroH)] w (Ret w (.tuple #[hv (climbK x i ps (k + 1)), .nilIface])))) ?_)
      refine S.q rfl rfl (Qt.move (by conv => lhs; whnf)) ?_
      refine S.q rfl rfl (Qt.extract rfl rfl) ?_
      refine S.q rfl rfl (Qt.extract rfl rfl) ?_
      refine S.opS rfl rfl (OpV.alloc Tryd.zero23 (fun b12 => ?_))
      refine S.opN rfl (OpV.storeV0 (v := hv (climbK x i ps (k + 1))) rfl rfl (hv_size Tryd.cells23) (hv_all _) (hv_len _) ?_)
      refine S.q rfl rfl (Qt.assign (by conv => lhs; whnf)) ?_
      refine S.nil ?_
      refine TC.seq ?_
      refine TC.seq ?_
      refine TC.region ?_
      refine S.q rfl rfl (Qt.move (by conv => lhs; whnf)) ?_
      refine S.q rfl rfl (Qt.nenil_nil Tryd.underlying27 rfl) ?_
      refine S.nil ?_
      refine S.if_f rfl ?_
      refine TC.skip ?_
      refine TC.region ?_
      refine S.q rfl rfl (Qt.load rfl (Ld.hash1 (x := climbK x i ps (k + 1)) (Has.at 0 rfl) Tryd.row23 Tryd.cells23)) ?_
      refine S.opN rfl (OpV.storeV5 (v := hv (climbK x i ps (k + 1))) rfl rfl (hv_size Tryd.cells23) (hv_all _) (by rw [hv_len, hvl_length]) ?_)
      refine S.nil ?_
      refine TC.region ?_
      refine S.q rfl rfl (Qt.add (b := 1) rfl rfl (by simp only [kmax]; omega)) ?_
      refine S.q rfl rfl (Qt.move (by conv => lhs; whnf)) ?_
      refine S.nil ?_
      refine ⟨k + 1, ?_, ?_, ⟨?_, (List.forall_mem_cons.2 ⟨rfl, (fun _ h => nomatch h)⟩)⟩, Sub.trans (Sub.keep _ (Sub.keep _ (Sub.drop _ (Sub.drop _ (Sub.drop _ (Sub.drop _ (Sub.nil []))))))) (Sub.trans (Sub.keep _ (Sub.trans (Sub.keep _ (Sub.refl _)) (Sub.of_perm (List.perm_middle (l₁ := [_, _, _, _]))))) (Sub.of_perm (List.perm_middle (l₁ := [_, _, _, _]))))⟩
      · show _ ≤ _; omega
      · show _ < _; dsimp only; omega
      repeat (first | exact Out.refl _ _ | refine Out.put rfl ?_ | refine Out.puts rfl ?_ | refine Out.scr ?_ | refine Out.scr' rfl ?_)
  · refine S.nil ?_
    refine TC.seq ?_
    refine S.if_f rfl ?_
    refine TC.exit ?_
    refine TC.seq ?_
    refine TC.region ?_
    obtain rfl : k = n := by omega
    refine S.q rfl rfl (Qt.load rfl (Ld.hash1 (x := climbK x i ps k) (Has.at 1 rfl) Tryd.row23 Tryd.cells23)) ?_
    refine S.opN rfl (OpV.storeV0 (v := hv (_)) rfl rfl (hv_size Tryd.cells23) (hv_all _) (hv_len _) ?_)
    refine S.q rfl rfl (Qt.assign (by conv => lhs; whnf)) ?_
    refine S.nil ?_
    refine TC.ret ?_
    refine finQ.ret (RVs.cell rfl (Ld.all (Has.at 0 rfl) Tryd.row23 (hv_size Tryd.cells23)) (RVs.tmp (by conv => lhs; whnf) RVs.nil)) (Sub.nil _) ?_
    subst hn
    exact ⟨rfl, rfl⟩
theorem climb_R (x : H32) (i : Nat) (A : Option Addr) (n c : Nat) (ps : List H32) (hn : ps.length = n) (hi : i < 18446744073709551616) (hf : fitsP i n) (w0 : World) (hR : Ro w0 [] (SlA A (hcs ps))) (hT : Tabs 2 0 w0 []) : Calls Tryd.prog 43 #[hv x, .int .u64 (i : Int), .slice A n c] w0 (Ret w0 (.tuple #[hv (climbH x i ps), .nilIface])) := Calls.ret (climb_walk x i A n c ps hn hi hf w0 hR hT)

set_option maxHeartbeats 400000 in
theorem after_walk1 (E : Nat → H32) (root x : H32) (a b : Nat) (A : Option Addr) (c : Nat) (ps : List H32) (hc : ps.length ≤ c) (h : ¬ (okN a ∧ okN b ∧ b ≤ a)) (w0 : World)  :
    Calls Tryd.prog 41 #[.agg (hvl x ++ [Value.slice A ps.length c]).toArray, hv root, .int .u64 (a : Int), .int .u64 (b : Int)] w0 (Post w0 [] fun v L => v = .tuple #[hv zeroH, .iface 58 (.int .i64 1)] ∧ L = []) := by
  refine Calls.of (L := []) (n := 95) (rs := [.cell 8 23, .tmp 9]) Tryd.func41 rfl rfl rfl (Nat.le_of_ble_eq_true rfl) (Sat.nil _) ?_
  refine TC.seq ?_
  refine TC.region ?_
  refine S.opS rfl rfl (OpV.box (v := .agg (hvl x ++ [Value.slice A ps.length c]).toArray) rfl (fun b4 => ?_))
  refine S.opS rfl rfl (OpV.box (v := hv root) rfl (fun b5 => ?_))
  refine S.opS rfl rfl (OpV.alloc Tryd.zero23 (fun b8 => ?_))
  refine S.q rfl rfl (Qt.assign (by conv => lhs; whnf)) ?_
  refine S.nil ?_
  refine TC.seq ?_
  refine TC.region ?_
  refine S.q rfl rfl (Qt.move (by conv => lhs; whnf)) ?_
  refine S.q rfl rfl (Qt.move (by conv => lhs; whnf)) ?_
  rcases grow_cases h with ha | ⟨ha, hb⟩ | ⟨ha, hb, hc2⟩
  · refine S.opS rfl rfl (OpV.con0 Tryd.ent89 rfl (fun w hw => hts_F a b ha w) ?_)
    refine S.q rfl rfl (Qt.move (by conv => lhs; whnf)) ?_
    refine S.q rfl rfl (Qt.extract rfl rfl) ?_
    refine S.q rfl rfl (Qt.extract rfl rfl) ?_
    refine S.q rfl rfl (Qt.extract rfl rfl) ?_
    refine S.q rfl rfl (Qt.assign (by conv => lhs; whnf)) ?_
    refine S.q rfl rfl (Qt.assign (by conv => lhs; whnf)) ?_
    refine S.q rfl rfl (Qt.assign (by conv => lhs; whnf)) ?_
    refine S.nil ?_
    refine TC.seq ?_
    refine TC.block ?_
    refine TC.seq ?_
    refine TC.region ?_
    refine S.q rfl rfl (Qt.move (by conv => lhs; whnf)) ?_
    refine S.q rfl rfl (Qt.nenil_iface Tryd.underlying27 rfl) ?_
    refine S.q rfl rfl (Qt.move (by conv => lhs; whnf)) ?_
    refine S.pass rfl rfl ?_
    refine S.pass rfl rfl ?_
    refine S.pass rfl rfl ?_
    refine S.q rfl rfl (Qt.pick_t rfl (by conv => lhs; whnf)) ?_
    refine S.q rfl rfl (Qt.assign (by conv => lhs; whnf)) ?_
    refine S.nil ?_
    refine S.if_t rfl ?_
    refine TC.seq ?_
    refine TC.region ?_
    refine S.q rfl rfl (Qt.build (v := hv zeroH) rfl (fun _ => by kernel_rfl)) ?_
    refine S.q rfl rfl (Qt.makeInterface Tryd.underlying58 (fun _ h => nomatch h) (by conv => lhs; whnf)) ?_
    refine S.opN rfl (OpV.storeV0 (v := hv (zeroH)) rfl rfl (hv_size Tryd.cells23) (hv_all _) (hv_len _) ?_)
    refine S.q rfl rfl (Qt.assign (by conv => lhs; whnf)) ?_
    refine S.nil ?_
    refine TC.ret ?_
    refine finQ.ret (RVs.cell rfl (Ld.all (Has.at 0 rfl) Tryd.row23 (hv_size Tryd.cells23)) (RVs.tmp (by conv => lhs; whnf) RVs.nil)) (Sub.nil _) ?_
    exact ⟨rfl, rfl⟩
  · refine S.opS rfl rfl (OpV.con0 Tryd.ent89 rfl (fun w hw => hts_TF a b ha hb w) ?_)
    refine S.q rfl rfl (Qt.move (by conv => lhs; whnf)) ?_
    refine S.q rfl rfl (Qt.extract rfl rfl) ?_
    refine S.q rfl rfl (Qt.extract rfl rfl) ?_
    refine S.q rfl rfl (Qt.extract rfl rfl) ?_
    refine S.q rfl rfl (Qt.assign (by conv => lhs; whnf)) ?_
    refine S.q rfl rfl (Qt.assign (by conv => lhs; whnf)) ?_
    refine S.q rfl rfl (Qt.assign (by conv => lhs; whnf)) ?_
    refine S.nil ?_
    refine TC.seq ?_
    refine TC.block ?_
    refine TC.seq ?_
    refine TC.region ?_
    refine S.q rfl rfl (Qt.move (by conv => lhs; whnf)) ?_
    refine S.q rfl rfl (Qt.nenil_iface Tryd.underlying27 rfl) ?_
    refine S.q rfl rfl (Qt.move (by conv => lhs; whnf)) ?_
    refine S.pass rfl rfl ?_
    refine S.pass rfl rfl ?_
    refine S.pass rfl rfl ?_
    refine S.q rfl rfl (Qt.pick_t rfl (by conv => lhs; whnf)) ?_
    refine S.q rfl rfl (Qt.assign (by conv => lhs; whnf)) ?_
    refine S.nil ?_
    refine S.if_t rfl ?_
    refine TC.seq ?_
    refine TC.region ?_
    refine S.q rfl rfl (Qt.build (v := hv zeroH) rfl (fun _ => by kernel_rfl)) ?_
    refine S.q rfl rfl (Qt.makeInterface Tryd.underlying58 (fun _ h => nomatch h) (by conv => lhs; whnf)) ?_
    refine S.opN rfl (OpV.storeV0 (v := hv (zeroH)) rfl rfl (hv_size Tryd.cells23) (hv_all _) (hv_len _) ?_)
    refine S.q rfl rfl (Qt.assign (by conv => lhs; whnf)) ?_
    refine S.nil ?_
    refine TC.ret ?_
    refine finQ.ret (RVs.cell rfl (Ld.all (Has.at 0 rfl) Tryd.row23 (hv_size Tryd.cells23)) (RVs.tmp (by conv => lhs; whnf) RVs.nil)) (Sub.nil _) ?_
    exact ⟨rfl, rfl⟩
  · refine S.opS rfl rfl (OpV.con0 Tryd.ent89 rfl (fun w hw => hts_TT a b ha hb w) ?_)
    refine S.q rfl rfl (Qt.move (by conv => lhs; whnf)) ?_
    refine S.q rfl rfl (Qt.extract rfl rfl) ?_
    refine S.q rfl rfl (Qt.extract rfl rfl) ?_
    refine S.q rfl rfl (Qt.extract rfl rfl) ?_
    refine S.q rfl rfl (Qt.assign (by conv => lhs; whnf)) ?_
    refine S.q rfl rfl (Qt.assign (by conv => lhs; whnf)) ?_
    refine S.q rfl rfl (Qt.assign (by conv => lhs; whnf)) ?_
    refine S.nil ?_
    refine TC.seq ?_
    refine TC.block ?_
    refine TC.seq ?_
    refine TC.region ?_
    refine S.q rfl rfl (Qt.move (by conv => lhs; whnf)) ?_
    refine S.q rfl rfl (Qt.nenil_nil Tryd.underlying27 rfl) ?_
    refine S.q rfl rfl (Qt.move (by conv => lhs; whnf)) ?_
    refine S.qg rfl rfl rfl (Qt.move (by conv => lhs; whnf)) ?_
    refine S.qg rfl rfl rfl (Qt.move (by conv => lhs; whnf)) ?_
    refine S.qg rfl rfl rfl (Qt.dT (Qt.gt rfl rfl) (by omega)) ?_
    refine S.q rfl rfl (Qt.pick_f rfl (by conv => lhs; whnf)) ?_
    refine S.q rfl rfl (Qt.assign (by conv => lhs; whnf)) ?_
    refine S.nil ?_
    refine S.if_t rfl ?_
    refine TC.seq ?_
    refine TC.region ?_
    refine S.q rfl rfl (Qt.build (v := hv zeroH) rfl (fun _ => by kernel_rfl)) ?_
    refine S.q rfl rfl (Qt.makeInterface Tryd.underlying58 (fun _ h => nomatch h) (by conv => lhs; whnf)) ?_
    refine S.opN rfl (OpV.storeV0 (v := hv (zeroH)) rfl rfl (hv_size Tryd.cells23) (hv_all _) (hv_len _) ?_)
    refine S.q rfl rfl (Qt.assign (by conv => lhs; whnf)) ?_
    refine S.nil ?_
    refine TC.ret ?_
    refine finQ.ret (RVs.cell rfl (Ld.all (Has.at 0 rfl) Tryd.row23 (hv_size Tryd.cells23)) (RVs.tmp (by conv => lhs; whnf) RVs.nil)) (Sub.nil _) ?_
    exact ⟨rfl, rfl⟩
set_option maxHeartbeats 400000 in
theorem after_walk2 (E : Nat → H32) (root x : H32) (a b : Nat) (A : Option Addr) (c : Nat) (ps : List H32) (hc : ps.length ≤ c) (h : okN a ∧ okN b ∧ b ≤ a) (h2 : ps.length ≠ hgt a) (w0 : World)  :
    Calls Tryd.prog 41 #[.agg (hvl x ++ [Value.slice A ps.length c]).toArray, hv root, .int .u64 (a : Int), .int .u64 (b : Int)] w0 (Post w0 [] fun v L => v = .tuple #[hv zeroH, .iface 58 (.int .i64 2)] ∧ L = []) := by
  refine Calls.of (L := []) (n := 95) (rs := [.cell 8 23, .tmp 9]) Tryd.func41 rfl rfl rfl (Nat.le_of_ble_eq_true rfl) (Sat.nil _) ?_
  obtain ⟨ha, hb, hab⟩ := id h
  have hb1 := hb.1
  have hb2 := hb.2
  refine TC.seq ?_
  refine TC.region ?_
  refine S.opS rfl rfl (OpV.box (v := .agg (hvl x ++ [Value.slice A ps.length c]).toArray) rfl (fun b4 => ?_))
  refine S.opS rfl rfl (OpV.box (v := hv root) rfl (fun b5 => ?_))
  refine S.opS rfl rfl (OpV.alloc Tryd.zero23 (fun b8 => ?_))
  refine S.q rfl rfl (Qt.assign (by conv => lhs; whnf)) ?_
  refine S.nil ?_
  refine TC.seq ?_
  refine TC.region ?_
  refine S.q rfl rfl (Qt.move (by conv => lhs; whnf)) ?_
  refine S.q rfl rfl (Qt.move (by conv => lhs; whnf)) ?_
  refine S.opS rfl rfl (OpV.con0 Tryd.ent89 rfl (fun w hw => hts_TT a b ha hb w) ?_)
  refine S.q rfl rfl (Qt.move (by conv => lhs; whnf)) ?_
  refine S.q rfl rfl (Qt.extract rfl rfl) ?_
  refine S.q rfl rfl (Qt.extract rfl rfl) ?_
  refine S.q rfl rfl (Qt.extract rfl rfl) ?_
  refine S.q rfl rfl (Qt.assign (by conv => lhs; whnf)) ?_
  refine S.q rfl rfl (Qt.assign (by conv => lhs; whnf)) ?_
  refine S.q rfl rfl (Qt.assign (by conv => lhs; whnf)) ?_
  refine S.nil ?_
  refine TC.seq ?_
  refine TC.block ?_
  refine TC.seq ?_
  refine TC.region ?_
  refine S.q rfl rfl (Qt.move (by conv => lhs; whnf)) ?_
  refine S.q rfl rfl (Qt.nenil_nil Tryd.underlying27 rfl) ?_
  refine S.q rfl rfl (Qt.move (by conv => lhs; whnf)) ?_
  refine S.qg rfl rfl rfl (Qt.move (by conv => lhs; whnf)) ?_
  refine S.qg rfl rfl rfl (Qt.move (by conv => lhs; whnf)) ?_
  refine S.qg rfl rfl rfl (Qt.dF (Qt.gt rfl rfl) (by omega)) ?_
  refine S.q rfl rfl (Qt.pick_f rfl (by conv => lhs; whnf)) ?_
  refine S.q rfl rfl (Qt.assign (by conv => lhs; whnf)) ?_
  refine S.nil ?_
  refine S.if_f rfl ?_
  refine TC.seq ?_
  refine TC.region ?_
  refine S.q rfl rfl (Qt.field Tryd.underlying64 rfl Tryd.cells44 rfl) ?_
  refine S.q rfl rfl (Qt.load rfl (Ld.one (v := .slice A ps.length c) (Has.at 2 rfl) Tryd.one44 (cut_path x _))) ?_
  refine S.q rfl rfl (Qt.len_slice Tryd.underlying44 rfl) ?_
  refine S.q rfl rfl (Qt.move (by conv => lhs; whnf)) ?_
  refine S.q rfl rfl (Qt.dT (Qt.ne rfl rfl) (h2)) ?_
  refine S.q rfl rfl (Qt.assign (by conv => lhs; whnf)) ?_
  refine S.nil ?_
  refine S.if_t rfl ?_
  refine TC.seq ?_
  refine TC.region ?_
  refine S.q rfl rfl (Qt.build (v := hv zeroH) rfl (fun _ => by kernel_rfl)) ?_
  refine S.q rfl rfl (Qt.makeInterface Tryd.underlying58 (fun _ h => nomatch h) (by conv => lhs; whnf)) ?_
  refine S.opN rfl (OpV.storeV0 (v := hv (zeroH)) rfl rfl (hv_size Tryd.cells23) (hv_all _) (hv_len _) ?_)
  refine S.q rfl rfl (Qt.assign (by conv => lhs; whnf)) ?_
  refine S.nil ?_
  refine TC.ret ?_
  refine finQ.ret (RVs.cell rfl (Ld.all (Has.at 0 rfl) Tryd.row23 (hv_size Tryd.cells23)) (RVs.tmp (by conv => lhs; whnf) RVs.nil)) (Sub.nil _) ?_
  exact ⟨rfl, rfl⟩
set_option maxHeartbeats 400000 in
theorem after_walk5 (E : Nat → H32) (root x : H32) (a b : Nat) (A : Option Addr) (c : Nat) (ps : List H32) (hc : ps.length ≤ c) (h : okN a ∧ okN b ∧ b ≤ a) (h2 : ps.length = hgt a) (h3 : climbH x (b - 1) ps ≠ root) (w0 : World) (hR : Ro w0 [] (SlA A (hcs ps))) (hT : Tabs 2 0 w0 []) :
    Calls Tryd.prog 41 #[.agg (hvl x ++ [Value.slice A ps.length c]).toArray, hv root, .int .u64 (a : Int), .int .u64 (b : Int)] w0 (Post w0 [] fun v L => v = .tuple #[hv zeroH, .iface 58 (.int .i64 5)] ∧ L = []) := by
  refine Calls.of (L := []) (n := 95) (rs := [.cell 8 23, .tmp 9]) Tryd.func41 rfl rfl rfl (Nat.le_of_ble_eq_true rfl) (Sat.nil _) ?_
  obtain ⟨ha, hb, hab⟩ := id h
  have hb1 := hb.1
  have hb2 := hb.2
  refine TC.seq ?_
  refine TC.region ?_
  refine S.opS rfl rfl (OpV.box (v := .agg (hvl x ++ [Value.slice A ps.length c]).toArray) rfl (fun b4 => ?_))
  refine S.opS rfl rfl (OpV.box (v := hv root) rfl (fun b5 => ?_))
  refine S.opS rfl rfl (OpV.alloc Tryd.zero23 (fun b8 => ?_))
  refine S.q rfl rfl (Qt.assign (by conv => lhs; whnf)) ?_
  refine S.nil ?_
  refine TC.seq ?_
  refine TC.region ?_
  refine S.q rfl rfl (Qt.move (by conv => lhs; whnf)) ?_
  refine S.q rfl rfl (Qt.move (by conv => lhs; whnf)) ?_
  refine S.opS rfl rfl (OpV.con0 Tryd.ent89 rfl (fun w hw => hts_TT a b ha hb w) ?_)
  refine S.q rfl rfl (Qt.move (by conv => lhs; whnf)) ?_
  refine S.q rfl rfl (Qt.extract rfl rfl) ?_
  refine S.q rfl rfl (Qt.extract rfl rfl) ?_
  refine S.q rfl rfl (Qt.extract rfl rfl) ?_
  refine S.q rfl rfl (Qt.assign (by conv => lhs; whnf)) ?_
  refine S.q rfl rfl (Qt.assign (by conv => lhs; whnf)) ?_
  refine S.q rfl rfl (Qt.assign (by conv => lhs; whnf)) ?_
  refine S.nil ?_
  refine TC.seq ?_
  refine TC.block ?_
  refine TC.seq ?_
  refine TC.region ?_
  refine S.q rfl rfl (Qt.move (by conv => lhs; whnf)) ?_
  refine S.q rfl rfl (Qt.nenil_nil Tryd.underlying27 rfl) ?_
  refine S.q rfl rfl (Qt.move (by conv => lhs; whnf)) ?_
  refine S.qg rfl rfl rfl (Qt.move (by conv => lhs; whnf)) ?_
  refine S.qg rfl rfl rfl (Qt.move (by conv => lhs; whnf)) ?_
  refine S.qg rfl rfl rfl (Qt.dF (Qt.gt rfl rfl) (by omega)) ?_
  refine S.q rfl rfl (Qt.pick_f rfl (by conv => lhs; whnf)) ?_
  refine S.q rfl rfl (Qt.assign (by conv => lhs; whnf)) ?_
  refine S.nil ?_
  refine S.if_f rfl ?_
  refine TC.seq ?_
  refine TC.region ?_
  refine S.q rfl rfl (Qt.field Tryd.underlying64 rfl Tryd.cells44 rfl) ?_
  refine S.q rfl rfl (Qt.load rfl (Ld.one (v := .slice A ps.length c) (Has.at 2 rfl) Tryd.one44 (cut_path x _))) ?_
  refine S.q rfl rfl (Qt.len_slice Tryd.underlying44 rfl) ?_
  refine S.q rfl rfl (Qt.move (by conv => lhs; whnf)) ?_
  refine S.q rfl rfl (Qt.dF (Qt.ne rfl rfl) (fun k => k h2)) ?_
  refine S.q rfl rfl (Qt.assign (by conv => lhs; whnf)) ?_
  refine S.nil ?_
  refine S.if_f rfl ?_
  refine TC.skip ?_
  refine TC.seq ?_
  refine TC.region ?_
  refine S.q rfl rfl (Qt.field Tryd.underlying64 rfl Tryd.cells23 rfl) ?_
  refine S.q rfl rfl (Qt.load rfl (Ld.row (vs := hvl x) (Has.at 2 rfl) Tryd.row23 (by rw [hvl_length]; exact Tryd.cells23) (cut_leaf x _))) ?_
  refine S.q rfl rfl (Qt.move (by conv => lhs; whnf)) ?_
  refine S.q rfl rfl (Qt.sub (b := 1) rfl rfl (by omega) (by simp only [kmax]; omega)) ?_
  refine S.q rfl rfl (Qt.field Tryd.underlying64 rfl Tryd.cells44 rfl) ?_
  refine S.q rfl rfl (Qt.load rfl (Ld.one (v := .slice A ps.length c) (Has.at 2 rfl) Tryd.one44 (cut_path x _))) ?_
  refine S.opS rfl rfl (OpV.con0 Tryd.ent43 rfl (fun w hw => climb_R x (b - 1) A ps.length c ps rfl (by omega) (by rw [h2]; exact fits_hgt hb ha hab) w (Rd.ro hR w hw) (hT.at hw)) ?_)
  refine S.q rfl rfl (Qt.move (by conv => lhs; whnf)) ?_
  refine S.q rfl rfl (Qt.extract rfl rfl) ?_
  refine S.q rfl rfl (Qt.extract rfl rfl) ?_
  refine S.opS rfl rfl (OpV.alloc Tryd.zero23 (fun b13 => ?_))
  refine S.opN rfl (OpV.storeV0 (v := hv (_)) rfl rfl (hv_size Tryd.cells23) (hv_all _) (hv_len _) ?_)
  refine S.q rfl rfl (Qt.assign (by conv => lhs; whnf)) ?_
  refine S.nil ?_
  refine TC.seq ?_
  refine TC.block ?_
  refine TC.seq ?_
  refine TC.region ?_
  refine S.q rfl rfl (Qt.move (by conv => lhs; whnf)) ?_
  refine S.q rfl rfl (Qt.nenil_nil Tryd.underlying27 rfl) ?_
  refine S.q rfl rfl (Qt.assign (by conv => lhs; whnf)) ?_
  refine S.nil ?_
  refine S.if_f rfl ?_
  refine TC.seq ?_
  refine TC.region ?_
  refine S.q rfl rfl (Qt.load rfl (Ld.hash1 (x := climbH x (b - 1) ps) (Has.at 0 rfl) Tryd.row23 Tryd.cells23)) ?_
  refine S.q rfl rfl (Qt.load rfl (Ld.hash1 (x := root) (Has.at 2 rfl) Tryd.row23 Tryd.cells23)) ?_
  refine S.q rfl rfl (Qt.dT (Qt.neH (a := climbH x (b - 1) ps) (b := root) Tryd.guard23 Tryd.underlying23 Tryd.underlying5 Tryd.cells5 rfl rfl) h3) ?_
  refine S.q rfl rfl (Qt.assign (by conv => lhs; whnf)) ?_
  refine S.nil ?_
  refine S.if_t rfl ?_
  refine TC.seq ?_
  refine TC.region ?_
  refine S.q rfl rfl (Qt.build (v := hv zeroH) rfl (fun _ => by kernel_rfl)) ?_
  refine S.q rfl rfl (Qt.makeInterface Tryd.underlying58 (fun _ h => nomatch h) (by conv => lhs; whnf)) ?_
  refine S.opN rfl (OpV.storeV1 (v := hv (zeroH)) rfl rfl (hv_size Tryd.cells23) (hv_all _) (hv_len _) ?_)
  refine S.q rfl rfl (Qt.assign (by conv => lhs; whnf)) ?_
  refine S.nil ?_
  refine TC.ret ?_
  refine finQ.ret (RVs.cell rfl (Ld.all (Has.at 1 rfl) Tryd.row23 (hv_size Tryd.cells23)) (RVs.tmp (by conv => lhs; whnf) RVs.nil)) (Sub.nil _) ?_
  exact ⟨rfl, rfl⟩
set_option maxHeartbeats 800000 in
theorem after_walk0 (E : Nat → H32) (hEm : ∀ w, Tabs 2 0 w [] → Calls Tryd.prog 88 #[] w (Ret w (.agg (hcs (emptL E)).toArray))) (root x : H32) (a b : Nat) (A : Option Addr) (c : Nat) (ps : List H32) (hc : ps.length ≤ c) (h : okN a ∧ okN b ∧ b ≤ a) (h2 : ps.length = hgt a) (h3 : climbH x (b - 1) ps = root) (h0 : 0 < hgt b) (w0 : World) (hR : Ro w0 [] (SlA A (hcs ps))) (hT : Tabs 2 0 w0 []) :
    Calls Tryd.prog 41 #[.agg (hvl x ++ [Value.slice A ps.length c]).toArray, hv root, .int .u64 (a : Int), .int .u64 (b : Int)] w0 (Post w0 [] fun v L => v = .tuple #[hv (climbH x (b - 1) (cutP E ps (b - 1) (hgt b) (hgt b))), .nilIface] ∧ L = []) := by
  refine Calls.of (L := []) (n := 95) (rs := [.cell 8 23, .tmp 9]) Tryd.func41 rfl rfl rfl (Nat.le_of_ble_eq_true rfl) (Sat.nil _) ?_
  obtain ⟨ha, hb, hab⟩ := id h
  have hb1 := hb.1
  have hb2 := hb.2
  have hm := hgt_mono hb ha hab
  have h32 := hgt_le ha
  have h32b := hgt_le hb
  refine TC.seq ?_
  refine TC.region ?_
  refine S.opS rfl rfl (OpV.box (v := .agg (hvl x ++ [Value.slice A ps.length c]).toArray) rfl (fun b4 => ?_))
  refine S.opS rfl rfl (OpV.box (v := hv root) rfl (fun b5 => ?_))
  refine S.opS rfl rfl (OpV.alloc Tryd.zero23 (fun b8 => ?_))
  refine S.q rfl rfl (Qt.assign (by conv => lhs; whnf)) ?_
  refine S.nil ?_
  refine TC.seq ?_
  refine TC.region ?_
  refine S.q rfl rfl (Qt.move (by conv => lhs; whnf)) ?_
  refine S.q rfl rfl (Qt.move (by conv => lhs; whnf)) ?_
  refine S.opS rfl rfl (OpV.con0 Tryd.ent89 rfl (fun w hw => hts_TT a b ha hb w) ?_)
  refine S.q rfl rfl (Qt.move (by conv => lhs; whnf)) ?_
  refine S.q rfl rfl (Qt.extract rfl rfl) ?_
  refine S.q rfl rfl (Qt.extract rfl rfl) ?_
  refine S.q rfl rfl (Qt.extract rfl rfl) ?_
  refine S.q rfl rfl (Qt.assign (by conv => lhs; whnf)) ?_
  refine S.q rfl rfl (Qt.assign (by conv => lhs; whnf)) ?_
  refine S.q rfl rfl (Qt.assign (by conv => lhs; whnf)) ?_
  refine S.nil ?_
  refine TC.seq ?_
  refine TC.block ?_
  refine TC.seq ?_
  refine TC.region ?_
  refine S.q rfl rfl (Qt.move (by conv => lhs; whnf)) ?_
  refine S.q rfl rfl (Qt.nenil_nil Tryd.underlying27 rfl) ?_
  refine S.q rfl rfl (Qt.move (by conv => lhs; whnf)) ?_
  refine S.qg rfl rfl rfl (Qt.move (by conv => lhs; whnf)) ?_
  refine S.qg rfl rfl rfl (Qt.move (by conv => lhs; whnf)) ?_
  refine S.qg rfl rfl rfl (Qt.dF (Qt.gt rfl rfl) (by omega)) ?_
  refine S.q rfl rfl (Qt.pick_f rfl (by conv => lhs; whnf)) ?_
  refine S.q rfl rfl (Qt.assign (by conv => lhs; whnf)) ?_
  refine S.nil ?_
  refine S.if_f rfl ?_
  refine TC.seq ?_
  refine TC.region ?_
  refine S.q rfl rfl (Qt.field Tryd.underlying64 rfl Tryd.cells44 rfl) ?_
  refine S.q rfl rfl (Qt.load rfl (Ld.one (v := .slice A ps.length c) (Has.at 2 rfl) Tryd.one44 (cut_path x _))) ?_
  refine S.q rfl rfl (Qt.len_slice Tryd.underlying44 rfl) ?_
  refine S.q rfl rfl (Qt.move (by conv => lhs; whnf)) ?_
  refine S.q rfl rfl (Qt.dF (Qt.ne rfl rfl) (fun k => k h2)) ?_
  refine S.q rfl rfl (Qt.assign (by conv => lhs; whnf)) ?_
  refine S.nil ?_
  refine S.if_f rfl ?_
  refine TC.skip ?_
  refine TC.seq ?_
  refine TC.region ?_
  refine S.q rfl rfl (Qt.field Tryd.underlying64 rfl Tryd.cells23 rfl) ?_
  refine S.q rfl rfl (Qt.load rfl (Ld.row (vs := hvl x) (Has.at 2 rfl) Tryd.row23 (by rw [hvl_length]; exact Tryd.cells23) (cut_leaf x _))) ?_
  refine S.q rfl rfl (Qt.move (by conv => lhs; whnf)) ?_
  refine S.q rfl rfl (Qt.sub (b := 1) rfl rfl (by omega) (by simp only [kmax]; omega)) ?_
  refine S.q rfl rfl (Qt.field Tryd.underlying64 rfl Tryd.cells44 rfl) ?_
  refine S.q rfl rfl (Qt.load rfl (Ld.one (v := .slice A ps.length c) (Has.at 2 rfl) Tryd.one44 (cut_path x _))) ?_
  refine S.opS rfl rfl (OpV.con0 Tryd.ent43 rfl (fun w hw => climb_R x (b - 1) A ps.length c ps rfl (by omega) (by rw [h2]; exact fits_hgt hb ha hab) w (Rd.ro hR w hw) (hT.at hw)) ?_)
  refine S.q rfl rfl (Qt.move (by conv => lhs; whnf)) ?_
  refine S.q rfl rfl (Qt.extract rfl rfl) ?_
  refine S.q rfl rfl (Qt.extract rfl rfl) ?_
  refine S.opS rfl rfl (OpV.alloc Tryd.zero23 (fun b13 => ?_))
  refine S.opN rfl (OpV.storeV0 (v := hv (_)) rfl rfl (hv_size Tryd.cells23) (hv_all _) (hv_len _) ?_)
  refine S.q rfl rfl (Qt.assign (by conv => lhs; whnf)) ?_
  refine S.nil ?_
  refine TC.seq ?_
  refine TC.block ?_
  refine TC.seq ?_
  refine TC.region ?_
  refine S.q rfl rfl (Qt.move (by conv => lhs; whnf)) ?_
  refine S.q rfl rfl (Qt.nenil_nil Tryd.underlying27 rfl) ?_
  refine S.q rfl rfl (Qt.assign (by conv => lhs; whnf)) ?_
  refine S.nil ?_
  refine S.if_f rfl ?_
  refine TC.seq ?_
  refine TC.region ?_
  refine S.q rfl rfl (Qt.load rfl (Ld.hash1 (x := climbH x (b - 1) ps) (Has.at 0 rfl) Tryd.row23 Tryd.cells23)) ?_
  refine S.q rfl rfl (Qt.load rfl (Ld.hash1 (x := root) (Has.at 2 rfl) Tryd.row23 Tryd.cells23)) ?_
  refine S.q rfl rfl (Qt.dF (Qt.neH (a := climbH x (b - 1) ps) (b := root) Tryd.guard23 Tryd.underlying23 Tryd.underlying5 Tryd.cells5 rfl rfl) (fun k => k h3)) ?_
  refine S.q rfl rfl (Qt.assign (by conv => lhs; whnf)) ?_
  refine S.nil ?_
  refine S.if_f rfl ?_
  refine TC.skip ?_
  refine TC.seq ?_
  refine TC.region ?_
  refine S.opS rfl rfl (OpV.con0 Tryd.ent88 rfl (fun w hw => hEm w (hT.at hw)) ?_)
  refine S.opS rfl rfl (OpV.alloc Tryd.zero142 (fun b14 => ?_))
  refine S.opN rfl (OpV.storeV0 (v := .agg (hcs (emptL E)).toArray) rfl rfl (by rw [vl_agg, hcs_length, emptL_length]; exact Tryd.cells142) (hcs_all _) (by rw [vl_agg, hcs_length, emptL_length, List.length_replicate]) ?_)
  refine S.nil ?_
  refine TC.seq ?_
  refine TC.region ?_
  refine S.q rfl rfl (Qt.field Tryd.underlying64 rfl Tryd.cells44 rfl) ?_
  refine S.q rfl rfl (Qt.load rfl (Ld.one (v := .slice A ps.length c) (Has.at 4 rfl) Tryd.one44 (cut_path x _))) ?_
  refine S.q rfl rfl (Qt.move (by conv => lhs; whnf)) ?_
  refine S.q rfl rfl (Qt.slice_hi Tryd.underlying44 Tryd.cells23 rfl rfl (by omega)) ?_
  refine S.opS rfl rfl (OpV.con (Pre := []) (R := _) Tryd.ent100 rfl (List.Perm.refl _) (fun w hw => cloneh_walk A (hgt b) c (ps.take (hgt b)) (by rw [List.length_take]; omega) (by omega) w (by have h := (Rd.take (Rd.ro hR) (hgt b * 32)) w hw; rwa [hcs_take] at h)) ?_)
  rintro v L' ⟨O, d, rfl, rfl⟩
  refine S.q rfl rfl (Qt.assign (by conv => lhs; whnf)) ?_
  refine S.nil ?_
  refine TC.seq ?_
  refine TC.seq ?_
  refine TC.region ?_
  refine TL.openOwnP h0 (fun g cs hO hct hcl hnc hcm => ?_)
  subst hO
  obtain ⟨rest, rfl⟩ : ∃ rest, cs = hcs (cutP E ps (b - 1) (hgt b) 0) ++ rest := ⟨_, by rw [cutP_zero E (b - 1) (by omega)]; exact own_split hct⟩
  refine S.q rfl rfl (Qt.move (by conv => lhs; whnf)) ?_
  refine S.q rfl rfl (Qt.len_slice Tryd.underlying44 rfl) ?_
  refine S.q rfl rfl (Qt.move (by conv => lhs; whnf)) ?_
  refine S.nil ?_
  refine TC.block ?_
  refine TC.loop (γ := Nat) [72, 73, 16, 74, 75, 76, 77, 78, 79, 80, 81, 82, 83, 84, 85, 86, 71] (fun k => [(71, .int .i64 (k : Int))]) (fun k => [Blk g 23 (hcs (cutP E ps (b - 1) (hgt b) k) ++ rest), Blk b14 142 (hcs (emptL E)), Blk b13 23 (hvl (climbH x (b - 1) ps)), Blk b8 23 (List.replicate 32 (.int .u8 0)), Blk b5 23 (hvl root), Blk b4 64 (vl (.agg (hvl x ++ [Value.slice A ps.length c]).toArray))]) (fun k => k ≤ hgt b) (fun k => hgt b - k) (0)
    (Nat.zero_le _) ⟨Out.refl _ _, (List.forall_mem_cons.2 ⟨rfl, (fun _ h => nomatch h)⟩)⟩ (Sub.refl _) ?_
  rintro k u hk
  refine TC.seq ?_
  refine TC.region ?_
  refine S.dec rfl rfl (Qt.lt rfl rfl) (fun h72 => ?_) (fun h72 => ?_)
  · refine S.nil ?_
    refine TC.seq ?_
    refine S.if_t rfl ?_
    refine TC.skip ?_
    refine TC.seq ?_
    refine TC.block ?_
    refine TC.seq ?_
    refine TC.region ?_
    refine S.q rfl rfl (Qt.move (by conv => lhs; whnf)) ?_
    refine S.q rfl rfl (Qt.assign (by conv => lhs; whnf)) ?_
    refine S.nil ?_
    refine TC.seq ?_
    refine TC.region ?_
    refine S.q rfl rfl (Qt.move (by conv => lhs; whnf)) ?_
    refine S.q rfl rfl (Qt.sub (b := 1) rfl rfl (by omega) (by simp only [kmax]; omega)) ?_
    refine S.q rfl rfl (Qt.move (by conv => lhs; whnf)) ?_
    refine S.q rfl rfl (Qt.shrN rfl rfl (by simp only [kmax]; omega)) ?_
    refine S.q rfl rfl (Qt.as (Qt.andN (b := 1) rfl rfl (by have := Nat.div_le_self (b - 1) (2 ^ k); simp only [kmax]; omega) (by simp only [kmax]; omega)) (by rw [Nat.and_one_is_mod])) ?_
    refine S.dec rfl rfl (Qt.eq (b := 0) rfl rfl) (fun h79 => ?_) (fun h79 => ?_)
    · refine S.nil ?_
      refine S.if_t rfl ?_
      refine TC.region ?_
      refine S.q rfl rfl (Qt.move (by conv => lhs; whnf)) ?_
      refine S.q rfl rfl (Qt.move (by conv => lhs; whnf)) ?_
      refine S.q rfl rfl (Qt.move (by conv => lhs; whnf)) ?_
      refine S.q rfl rfl (Qt.indexB Tryd.underlying142 Tryd.cells23 rfl rfl (by omega)) ?_
      refine S.q rfl rfl (Qt.as (Qt.load rfl (Ld.hashB (Has.at 1 rfl) k Tryd.row23 Tryd.cells23 (by rw [emptL_length]; omega) (by omega))) (by rw [emptL_get E (by omega)])) ?_
      refine S.q rfl rfl (Qt.indexS Tryd.underlying44 Tryd.cells23 rfl rfl (by omega)) ?_
      refine S.opN rfl (OpV.storeR0 (v := hv (E k)) rfl rfl (hv_size Tryd.cells23) (hv_all _) (by rw [hv_len, List.length_append, hcs_length, cutP_length]; omega) (by rw [Nat.zero_add, hcs_set_app _ _ _ _ (by rw [cutP_length]; omega), cutP_even E ps (by omega) h79]) ?_)
      refine S.nil ?_
      refine TC.region ?_
      refine S.q rfl rfl (Qt.add (b := 1) rfl rfl (by simp only [kmax]; omega)) ?_
      refine S.q rfl rfl (Qt.move (by conv => lhs; whnf)) ?_
      refine S.nil ?_
      refine ⟨k + 1, ?_, ?_, ⟨?_, (List.forall_mem_cons.2 ⟨rfl, (fun _ h => nomatch h)⟩)⟩, Sub.refl _⟩
      · show _ ≤ _; omega
      · show _ < _; dsimp only; omega
      repeat (first | exact Out.refl _ _ | refine Out.put rfl ?_ | refine Out.puts rfl ?_ | refine Out.scr ?_ | refine Out.scr' rfl ?_)
    · refine S.nil ?_
      refine S.if_f rfl ?_
      refine TC.skip ?_
      refine TC.region ?_
      refine S.q rfl rfl (Qt.add (b := 1) rfl rfl (by simp only [kmax]; omega)) ?_
      refine S.q rfl rfl (Qt.move (by conv => lhs; whnf)) ?_
      refine S.nil ?_
      refine ⟨k + 1, ?_, ?_, ⟨?_, (List.forall_mem_cons.2 ⟨rfl, (fun _ h => nomatch h)⟩)⟩, (by dsimp only; rw [← cutP_odd E ps h79]; exact Sub.refl _)⟩
      · show _ ≤ _; omega
      · show _ < _; dsimp only; omega
      repeat (first | exact Out.refl _ _ | refine Out.put rfl ?_ | refine Out.puts rfl ?_ | refine Out.scr ?_ | refine Out.scr' rfl ?_)
  · refine S.nil ?_
    refine TC.seq ?_
    refine S.if_f rfl ?_
    refine TC.exit ?_
    refine TC.seq ?_
    refine TC.region ?_
    obtain rfl : k = hgt b := by omega
    refine S.q rfl rfl (Qt.field Tryd.underlying64 rfl Tryd.cells23 rfl) ?_
    refine S.q rfl rfl (Qt.load rfl (Ld.row (vs := hvl x) (Has.at 5 rfl) Tryd.row23 (by rw [hvl_length]; exact Tryd.cells23) (cut_leaf x _))) ?_
    refine S.q rfl rfl (Qt.move (by conv => lhs; whnf)) ?_
    refine S.q rfl rfl (Qt.sub (b := 1) rfl rfl (by omega) (by simp only [kmax]; omega)) ?_
    refine S.q rfl rfl (Qt.move (by conv => lhs; whnf)) ?_
    refine S.opS rfl rfl (OpV.con0 Tryd.ent43 rfl (fun w hw => climb_R x (b - 1) (some ⟨g, 0, none⟩) (hgt b) d (cutP E ps (b - 1) (hgt b) (hgt b)) (cutP_length ..) (by omega) (fits_hgt hb hb (Nat.le_refl _)) w (by have h := (Rd.take (Rd.blk (Rd.at 0 rfl)) (hgt b * 32)) w hw; rwa [List.take_left' (by rw [hcs_length, cutP_length])] at h) (hT.at hw)) ?_)
    refine S.q rfl rfl (Qt.extract rfl rfl) ?_
    refine S.q rfl rfl (Qt.extract rfl rfl) ?_
    refine S.opN rfl (OpV.storeV3 (v := hv (_)) rfl rfl (hv_size Tryd.cells23) (hv_all _) (hv_len _) ?_)
    refine S.q rfl rfl (Qt.assign (by conv => lhs; whnf)) ?_
    refine S.nil ?_
    refine TC.ret ?_
    refine finQ.ret (RVs.cell rfl (Ld.all (Has.at 3 rfl) Tryd.row23 (hv_size Tryd.cells23)) (RVs.tmp (by conv => lhs; whnf) RVs.nil)) (Sub.nil _) ?_
    exact ⟨rfl, rfl⟩
set_option maxHeartbeats 400000 in
theorem after_walk0z (E : Nat → H32) (hEm : ∀ w, Tabs 2 0 w [] → Calls Tryd.prog 88 #[] w (Ret w (.agg (hcs (emptL E)).toArray))) (root x : H32) (a b : Nat) (A : Option Addr) (c : Nat) (ps : List H32) (hc : ps.length ≤ c) (h : okN a ∧ okN b ∧ b ≤ a) (h2 : ps.length = hgt a) (h3 : climbH x (b - 1) ps = root) (h0 : hgt b = 0) (w0 : World) (hR : Ro w0 [] (SlA A (hcs ps))) (hT : Tabs 2 0 w0 []) :
    Calls Tryd.prog 41 #[.agg (hvl x ++ [Value.slice A ps.length c]).toArray, hv root, .int .u64 (a : Int), .int .u64 (b : Int)] w0 (Post w0 [] fun v L => v = .tuple #[hv (climbH x (b - 1) (cutP E ps (b - 1) (hgt b) (hgt b))), .nilIface] ∧ L = []) := by
  refine Calls.of (L := []) (n := 95) (rs := [.cell 8 23, .tmp 9]) Tryd.func41 rfl rfl rfl (Nat.le_of_ble_eq_true rfl) (Sat.nil _) ?_
  obtain ⟨ha, hb, hab⟩ := id h
  have hb1 := hb.1
  have hb2 := hb.2
  have hm := hgt_mono hb ha hab
  have h32 := hgt_le ha
  have h32b := hgt_le hb
  refine TC.seq ?_
  refine TC.region ?_
  refine S.opS rfl rfl (OpV.box (v := .agg (hvl x ++ [Value.slice A ps.length c]).toArray) rfl (fun b4 => ?_))
  refine S.opS rfl rfl (OpV.box (v := hv root) rfl (fun b5 => ?_))
  refine S.opS rfl rfl (OpV.alloc Tryd.zero23 (fun b8 => ?_))
  refine S.q rfl rfl (Qt.assign (by conv => lhs; whnf)) ?_
  refine S.nil ?_
  refine TC.seq ?_
  refine TC.region ?_
  refine S.q rfl rfl (Qt.move (by conv => lhs; whnf)) ?_
  refine S.q rfl rfl (Qt.move (by conv => lhs; whnf)) ?_
  refine S.opS rfl rfl (OpV.con0 Tryd.ent89 rfl (fun w hw => hts_TT a b ha hb w) ?_)
  refine S.q rfl rfl (Qt.move (by conv => lhs; whnf)) ?_
  refine S.q rfl rfl (Qt.extract rfl rfl) ?_
  refine S.q rfl rfl (Qt.extract rfl rfl) ?_
  refine S.q rfl rfl (Qt.extract rfl rfl) ?_
  refine S.q rfl rfl (Qt.assign (by conv => lhs; whnf)) ?_
  refine S.q rfl rfl (Qt.assign (by conv => lhs; whnf)) ?_
  refine S.q rfl rfl (Qt.assign (by conv => lhs; whnf)) ?_
  refine S.nil ?_
  refine TC.seq ?_
  refine TC.block ?_
  refine TC.seq ?_
  refine TC.region ?_
  refine S.q rfl rfl (Qt.move (by conv => lhs; whnf)) ?_
  refine S.q rfl rfl (Qt.nenil_nil Tryd.underlying27 rfl) ?_
  refine S.q rfl rfl (Qt.move (by conv => lhs; whnf)) ?_
  refine S.qg rfl rfl rfl (Qt.move (by conv => lhs; whnf)) ?_
  refine S.qg rfl rfl rfl (Qt.move (by conv => lhs; whnf)) ?_
  refine S.qg rfl rfl rfl (Qt.dF (Qt.gt rfl rfl) (by omega)) ?_
  refine S.q rfl rfl (Qt.pick_f rfl (by conv => lhs; whnf)) ?_
  refine S.q rfl rfl (Qt.assign (by conv => lhs; whnf)) ?_
  refine S.nil ?_
  refine S.if_f rfl ?_
  refine TC.seq ?_
  refine TC.region ?_
  refine S.q rfl rfl (Qt.field Tryd.underlying64 rfl Tryd.cells44 rfl) ?_
  refine S.q rfl rfl (Qt.load rfl (Ld.one (v := .slice A ps.length c) (Has.at 2 rfl) Tryd.one44 (cut_path x _))) ?_
  refine S.q rfl rfl (Qt.len_slice Tryd.underlying44 rfl) ?_
  refine S.q rfl rfl (Qt.move (by conv => lhs; whnf)) ?_
  refine S.q rfl rfl (Qt.dF (Qt.ne rfl rfl) (fun k => k h2)) ?_
  refine S.q rfl rfl (Qt.assign (by conv => lhs; whnf)) ?_
  refine S.nil ?_
  refine S.if_f rfl ?_
  refine TC.skip ?_
  refine TC.seq ?_
  refine TC.region ?_
  refine S.q rfl rfl (Qt.field Tryd.underlying64 rfl Tryd.cells23 rfl) ?_
  refine S.q rfl rfl (Qt.load rfl (Ld.row (vs := hvl x) (Has.at 2 rfl) Tryd.row23 (by rw [hvl_length]; exact Tryd.cells23) (cut_leaf x _))) ?_
  refine S.q rfl rfl (Qt.move (by conv => lhs; whnf)) ?_
  refine S.q rfl rfl (Qt.sub (b := 1) rfl rfl (by omega) (by simp only [kmax]; omega)) ?_
  refine S.q rfl rfl (Qt.field Tryd.underlying64 rfl Tryd.cells44 rfl) ?_
  refine S.q rfl rfl (Qt.load rfl (Ld.one (v := .slice A ps.length c) (Has.at 2 rfl) Tryd.one44 (cut_path x _))) ?_
  refine S.opS rfl rfl (OpV.con0 Tryd.ent43 rfl (fun w hw => climb_R x (b - 1) A ps.length c ps rfl (by omega) (by rw [h2]; exact fits_hgt hb ha hab) w (Rd.ro hR w hw) (hT.at hw)) ?_)
  refine S.q rfl rfl (Qt.move (by conv => lhs; whnf)) ?_
  refine S.q rfl rfl (Qt.extract rfl rfl) ?_
  refine S.q rfl rfl (Qt.extract rfl rfl) ?_
  refine S.opS rfl rfl (OpV.alloc Tryd.zero23 (fun b13 => ?_))
  refine S.opN rfl (OpV.storeV0 (v := hv (_)) rfl rfl (hv_size Tryd.cells23) (hv_all _) (hv_len _) ?_)
  refine S.q rfl rfl (Qt.assign (by conv => lhs; whnf)) ?_
  refine S.nil ?_
  refine TC.seq ?_
  refine TC.block ?_
  refine TC.seq ?_
  refine TC.region ?_
  refine S.q rfl rfl (Qt.move (by conv => lhs; whnf)) ?_
  refine S.q rfl rfl (Qt.nenil_nil Tryd.underlying27 rfl) ?_
  refine S.q rfl rfl (Qt.assign (by conv => lhs; whnf)) ?_
  refine S.nil ?_
  refine S.if_f rfl ?_
  refine TC.seq ?_
  refine TC.region ?_
  refine S.q rfl rfl (Qt.load rfl (Ld.hash1 (x := climbH x (b - 1) ps) (Has.at 0 rfl) Tryd.row23 Tryd.cells23)) ?_
  refine S.q rfl rfl (Qt.load rfl (Ld.hash1 (x := root) (Has.at 2 rfl) Tryd.row23 Tryd.cells23)) ?_
  refine S.q rfl rfl (Qt.dF (Qt.neH (a := climbH x (b - 1) ps) (b := root) Tryd.guard23 Tryd.underlying23 Tryd.underlying5 Tryd.cells5 rfl rfl) (fun k => k h3)) ?_
  refine S.q rfl rfl (Qt.assign (by conv => lhs; whnf)) ?_
  refine S.nil ?_
  refine S.if_f rfl ?_
  refine TC.skip ?_
  refine TC.seq ?_
  refine TC.region ?_
  refine S.opS rfl rfl (OpV.con0 Tryd.ent88 rfl (fun w hw => hEm w (hT.at hw)) ?_)
  refine S.opS rfl rfl (OpV.alloc Tryd.zero142 (fun b14 => ?_))
  refine S.opN rfl (OpV.storeV0 (v := .agg (hcs (emptL E)).toArray) rfl rfl (by rw [vl_agg, hcs_length, emptL_length]; exact Tryd.cells142) (hcs_all _) (by rw [vl_agg, hcs_length, emptL_length, List.length_replicate]) ?_)
  refine S.nil ?_
  refine TC.seq ?_
  refine TC.region ?_
  refine S.q rfl rfl (Qt.field Tryd.underlying64 rfl Tryd.cells44 rfl) ?_
  refine S.q rfl rfl (Qt.load rfl (Ld.one (v := .slice A ps.length c) (Has.at 4 rfl) Tryd.one44 (cut_path x _))) ?_
  refine S.q rfl rfl (Qt.move (by conv => lhs; whnf)) ?_
  refine S.q rfl rfl (Qt.slice_hi Tryd.underlying44 Tryd.cells23 rfl rfl (by omega)) ?_
  refine S.opS rfl rfl (OpV.con (Pre := []) (R := _) Tryd.ent100 rfl (List.Perm.refl _) (fun w hw => cloneh_walk A (hgt b) c (ps.take (hgt b)) (by rw [List.length_take]; omega) (by omega) w (by have h := (Rd.take (Rd.ro hR) (hgt b * 32)) w hw; rwa [hcs_take] at h)) ?_)
  rintro v L' ⟨O, d, rfl, rfl⟩
  refine S.q rfl rfl (Qt.assign (by conv => lhs; whnf)) ?_
  refine S.nil ?_
  refine TC.seq ?_
  refine TC.seq ?_
  refine TC.region ?_
  refine S.q rfl rfl (Qt.move (by conv => lhs; whnf)) ?_
  refine S.q rfl rfl (Qt.len_slice Tryd.underlying44 rfl) ?_
  refine S.q rfl rfl (Qt.move (by conv => lhs; whnf)) ?_
  refine S.nil ?_
  refine TC.block ?_
  refine TC.loop (γ := Nat) [72, 73, 16, 74, 75, 76, 77, 78, 79, 80, 81, 82, 83, 84, 85, 86, 71] (fun k => [(71, .int .i64 (k : Int))]) (fun _ => _) (fun k => k ≤ hgt b) (fun k => hgt b - k) (0)
    (Nat.zero_le _) ⟨Out.refl _ _, (List.forall_mem_cons.2 ⟨rfl, (fun _ h => nomatch h)⟩)⟩ (Sub.refl _) ?_
  rintro k u hk
  refine TC.seq ?_
  refine TC.region ?_
  refine S.q rfl rfl (Qt.dF (Qt.lt rfl rfl) (by omega)) ?_
  refine S.nil ?_
  refine TC.seq ?_
  refine S.if_f rfl ?_
  refine TC.exit ?_
  refine TC.seq ?_
  refine TC.region ?_
  refine S.q rfl rfl (Qt.field Tryd.underlying64 rfl Tryd.cells23 rfl) ?_
  refine S.q rfl rfl (Qt.load rfl (Ld.row (vs := hvl x) (Has.at 5 rfl) Tryd.row23 (by rw [hvl_length]; exact Tryd.cells23) (cut_leaf x _))) ?_
  refine S.q rfl rfl (Qt.move (by conv => lhs; whnf)) ?_
  refine S.q rfl rfl (Qt.sub (b := 1) rfl rfl (by omega) (by simp only [kmax]; omega)) ?_
  refine S.q rfl rfl (Qt.move (by conv => lhs; whnf)) ?_
  refine S.opS rfl rfl (OpV.con0 Tryd.ent43 rfl (fun w hw => climb_R x (b - 1) O (hgt b) d (cutP E ps (b - 1) (hgt b) (hgt b)) (cutP_length ..) (by omega) (fits_hgt hb hb (Nat.le_refl _)) w (by have h := Rd.own (Rd.at 0 rfl) w hw; rwa [show hcs (ps.take (hgt b)) = hcs (cutP E ps (b - 1) (hgt b) (hgt b)) by rw [h0]; rfl] at h) (hT.at hw)) ?_)
  refine S.q rfl rfl (Qt.extract rfl rfl) ?_
  refine S.q rfl rfl (Qt.extract rfl rfl) ?_
  refine S.opN rfl (OpV.storeV3 (v := hv (_)) rfl rfl (hv_size Tryd.cells23) (hv_all _) (hv_len _) ?_)
  refine S.q rfl rfl (Qt.assign (by conv => lhs; whnf)) ?_
  refine S.nil ?_
  refine TC.ret ?_
  refine finQ.ret (RVs.cell rfl (Ld.all (Has.at 3 rfl) Tryd.row23 (hv_size Tryd.cells23)) (RVs.tmp (by conv => lhs; whnf) RVs.nil)) (Sub.nil _) ?_
  exact ⟨rfl, rfl⟩
theorem after_R (E : Nat → H32) (hEm : ∀ w, Tabs 2 0 w [] → Calls Tryd.prog 88 #[] w (Ret w (.agg (hcs (emptL E)).toArray))) (root x : H32) (a b : Nat) (A : Option Addr) (c : Nat) (ps : List H32) (hc : ps.length ≤ c)  (w0 : World) (hR : Ro w0 [] (SlA A (hcs ps))) (hT : Tabs 2 0 w0 []) : Calls Tryd.prog 41 #[.agg (hvl x ++ [Value.slice A ps.length c]).toArray, hv root, .int .u64 (a : Int), .int .u64 (b : Int)] w0 (Ret w0 (.tuple #[hv (cutR E root x ps a b).1, errv 58 (cutR E root x ps a b).2])) := by
  by_cases h : okN a ∧ okN b ∧ b ≤ a
  · by_cases h2 : ps.length = hgt a
    · by_cases h3 : climbH x (b - 1) ps = root
      · rw [cutR_0 h h2 h3]
        rcases Nat.eq_zero_or_pos (hgt b) with h0 | h0
        · exact Calls.ret (after_walk0z E hEm root x a b A c ps hc h h2 h3 h0 w0 hR hT)
        · exact Calls.ret (after_walk0 E hEm root x a b A c ps hc h h2 h3 h0 w0 hR hT)
      · rw [cutR_5 h h2 h3]; exact Calls.ret (after_walk5 E root x a b A c ps hc h h2 h3 w0 hR hT)
    · rw [cutR_2 h h2]; exact Calls.ret (after_walk2 E root x a b A c ps hc h h2 w0)
  · rw [cutR_1 h]; exact Calls.ret (after_walk1 E root x a b A c ps hc h w0)

end Go.Proofs.YtlneklemjfefpaaDoor
namespace Go.Proofs.YtlneklemjfefpaaDoor
open Go.E
set_option linter.unusedVariables false
set_option maxRecDepth 4000

end Go.Proofs.YtlneklemjfefpaaDoor
