/-
  Walks: a tree that is nil. Printed by a program of ours.
-/
import Derived.Test.YtlneklemjfefpaaDoorTH
import Derived.Test.YtlneklemjfefpaaDoorE2
namespace Go.Proofs.YtlneklemjfefpaaDoor
open Go.E
set_option linter.unusedVariables false
set_option maxRecDepth 4000

def encE (x : Empty) : List Value := nomatch x
theorem is11 (w : World) : Calls Tryd.prog 35 #[.iface 58 (.int .i64 11), .int .i64 11] w (Ret w (.bool true)) := is_R 11 11 w
set_option maxHeartbeats 400000 in
theorem nodeNil_walk (i : Nat) (h : H32) (w0 : World) :
    Calls Tryd.prog 33 #[.pointer none, .int .i64 0, .int .u64 (i : Int)] w0 (Post w0 [] fun v L => v = .tuple #[hv zeroH, .iface 58 (.int .i64 11)] ∧ L = []) := by
  refine Calls.of (L := []) (n := 27) (rs := [.cell 6 23, .tmp 7]) Tryd.func33 rfl rfl rfl (Nat.le_of_ble_eq_true rfl) (Sat.nil _) ?_
  refine TC.seq ?_
  refine TC.region ?_
  refine S.opS rfl rfl (OpV.alloc Tryd.zero23 (fun b6 => ?_))
  refine S.q rfl rfl (Qt.assign (by conv => lhs; whnf)) ?_
  refine S.nil ?_
  refine TC.seq ?_
  refine TC.block ?_
  refine TC.seq ?_
  refine TC.region ?_
  refine S.q rfl rfl (Qt.move (by conv => lhs; whnf)) ?_
  refine S.q rfl rfl (Qt.eqp_none Tryd.underlying35 rfl) ?_
  refine S.q rfl rfl (Qt.assign (by conv => lhs; whnf)) ?_
  refine S.nil ?_
  refine S.if_t rfl ?_
  refine TC.seq ?_
  refine TC.region ?_
  refine S.q rfl rfl (Qt.build (v := hv zeroH) rfl (fun _ => by kernel_rfl)) ?_
  refine S.q rfl rfl (Qt.makeInterface Tryd.underlying58 (fun _ h => nomatch h) (by conv => lhs; whnf)) ?_
  refine S.opN rfl (OpV.storeV0 (v := hv (zeroH)) rfl rfl (hv_size Tryd.cells23) (hv_all _) (hv_len _) ?_)
  refine S.q rfl rfl (Qt.assign (by conv => lhs; whnf)) ?_
  refine S.nil ?_
  refine TC.ret ?_
  refine finQ.ret (RVs.cell rfl (Ld.all (Has.at 0 rfl) Tryd.row23 (hv_size Tryd.cells23)) (RVs.tmp (by conv => lhs; whnf) RVs.nil)) (Sub.nil _) ?_
  exact ⟨rfl, rfl⟩
set_option maxHeartbeats 400000 in
theorem leafNil_walk (i : Nat) (h : H32) (w0 : World) :
    Calls Tryd.prog 30 #[.pointer none, .int .u64 (i : Int)] w0 (Post w0 [] fun v L => v = .tuple #[hv zeroH, .iface 58 (.int .i64 11)] ∧ L = []) := by
  refine Calls.of (L := []) (n := 11) (rs := [.cell 4 23, .tmp 5]) Tryd.func30 rfl rfl rfl (Nat.le_of_ble_eq_true rfl) (Sat.nil _) ?_
  refine TC.seq ?_
  refine TC.region ?_
  refine S.opS rfl rfl (OpV.alloc Tryd.zero23 (fun b4 => ?_))
  refine S.q rfl rfl (Qt.assign (by conv => lhs; whnf)) ?_
  refine S.nil ?_
  refine TC.seq ?_
  refine TC.region ?_
  refine S.q rfl rfl (Qt.move (by conv => lhs; whnf)) ?_
  refine S.q rfl rfl (Qt.move (by conv => lhs; whnf)) ?_
  refine S.opS rfl rfl (OpV.con0 Tryd.ent33 rfl (fun w hw => Calls.ret (nodeNil_walk i h w)) ?_)
  refine S.q rfl rfl (Qt.extract rfl rfl) ?_
  refine S.q rfl rfl (Qt.extract rfl rfl) ?_
  refine S.opN rfl (OpV.storeV0 (v := hv (zeroH)) rfl rfl (hv_size Tryd.cells23) (hv_all _) (hv_len _) ?_)
  refine S.q rfl rfl (Qt.assign (by conv => lhs; whnf)) ?_
  refine S.nil ?_
  refine TC.ret ?_
  refine finQ.ret (RVs.cell rfl (Ld.all (Has.at 0 rfl) Tryd.row23 (hv_size Tryd.cells23)) (RVs.tmp (by conv => lhs; whnf) RVs.nil)) (Sub.nil _) ?_
  exact ⟨rfl, rfl⟩
set_option maxHeartbeats 400000 in
theorem pathNil_walk (i : Nat) (h : H32) (w0 : World) :
    Calls Tryd.prog 29 #[.pointer none, .int .u64 (i : Int)] w0 (Post w0 [] fun v L => v = .tuple #[.slice none 0 0, .iface 58 (.int .i64 11)] ∧ L = []) := by
  refine Calls.of (L := []) (n := 39) (rs := [.tmp 4, .tmp 5]) Tryd.func29 rfl rfl rfl (Nat.le_of_ble_eq_true rfl) (Sat.nil _) ?_
  refine TC.seq ?_
  refine TC.region ?_
  refine S.q rfl rfl (Qt.assign (by conv => lhs; whnf)) ?_
  refine S.q rfl rfl (Qt.assign (by conv => lhs; whnf)) ?_
  refine S.nil ?_
  refine TC.seq ?_
  refine TC.block ?_
  refine TC.seq ?_
  refine TC.region ?_
  refine S.q rfl rfl (Qt.move (by conv => lhs; whnf)) ?_
  refine S.q rfl rfl (Qt.eqp_none Tryd.underlying35 rfl) ?_
  refine S.q rfl rfl (Qt.assign (by conv => lhs; whnf)) ?_
  refine S.nil ?_
  refine S.if_t rfl ?_
  refine TC.seq ?_
  refine TC.region ?_
  refine S.q rfl rfl (Qt.makeInterface Tryd.underlying58 (fun _ h => nomatch h) (by conv => lhs; whnf)) ?_
  refine S.q rfl rfl (Qt.assign (by conv => lhs; whnf)) ?_
  refine S.q rfl rfl (Qt.assign (by conv => lhs; whnf)) ?_
  refine S.nil ?_
  refine TC.ret ?_
  refine finQ.ret (RVs.tmp (by conv => lhs; whnf) (RVs.tmp (by conv => lhs; whnf) RVs.nil)) (Sub.nil _) ?_
  exact ⟨rfl, rfl⟩
set_option maxHeartbeats 400000 in
theorem resizeNil_walk (i : Nat) (h : H32) (w0 : World) :
    Calls Tryd.prog 82 #[.pointer none, .int .u64 (i : Int)] w0 (Post w0 [] fun v L => v = .tuple #[.pointer none, .iface 58 (.int .i64 11)] ∧ L = []) := by
  refine Calls.of (L := []) (n := 46) (rs := [.cell 4 35, .cell 5 27]) Tryd.func82 rfl rfl rfl (Nat.le_of_ble_eq_true rfl) (Sat.nil _) ?_
  refine TC.seq ?_
  refine TC.region ?_
  refine S.opS rfl rfl (OpV.box (by conv => lhs; whnf) (fun b3 => ?_))
  refine S.opS rfl rfl (OpV.alloc Tryd.zero35 (fun b4 => ?_))
  refine S.opS rfl rfl (OpV.alloc Tryd.zero27 (fun b5 => ?_))
  refine S.nil ?_
  refine TC.seq ?_
  refine TC.seq ?_
  refine TC.region ?_
  refine S.q rfl rfl (Qt.move (by conv => lhs; whnf)) ?_
  refine S.q rfl rfl (Qt.eqp_none Tryd.underlying35 rfl) ?_
  refine S.nil ?_
  refine S.if_t rfl ?_
  refine TC.seq ?_
  refine TC.region ?_
  refine S.q rfl rfl (Qt.makeInterface Tryd.underlying58 (fun _ h => nomatch h) (by conv => lhs; whnf)) ?_
  refine S.opN rfl (OpV.storeV1 rfl (by conv => lhs; whnf) (by exact Tryd.cells35) (by rfl) (by rfl) ?_)
  refine S.opN rfl (OpV.storeV0 rfl (by conv => lhs; whnf) (by exact Tryd.cells27) (by rfl) (by rfl) ?_)
  refine S.nil ?_
  refine TC.ret ?_
  refine finQ.ret (RVs.cell rfl (Ld.one (Has.at 1 rfl) Tryd.one35 (rfl)) (RVs.cell rfl (Ld.one (Has.at 0 rfl) Tryd.one27 (rfl)) RVs.nil)) (Sub.nil _) ?_
  exact ⟨rfl, rfl⟩
set_option maxHeartbeats 400000 in
theorem dropNil_walk (i : Nat) (h : H32) (w0 : World) :
    Calls Tryd.prog 78 #[.pointer none, .int .u64 (i : Int)] w0 (Post w0 [] fun v L => v = .iface 58 (.int .i64 11) ∧ L = []) := by
  refine Calls.of (L := []) (n := 16) (rs := [.tmp 4]) Tryd.func78 rfl rfl rfl (Nat.le_of_ble_eq_true rfl) (Sat.nil _) ?_
  refine TC.seq ?_
  refine TC.region ?_
  refine S.q rfl rfl (Qt.assign (by conv => lhs; whnf)) ?_
  refine S.nil ?_
  refine TC.seq ?_
  refine TC.seq ?_
  refine TC.region ?_
  refine S.q rfl rfl (Qt.move (by conv => lhs; whnf)) ?_
  refine S.q rfl rfl (Qt.eqp_none Tryd.underlying35 rfl) ?_
  refine S.nil ?_
  refine S.if_t rfl ?_
  refine TC.seq ?_
  refine TC.region ?_
  refine S.q rfl rfl (Qt.makeInterface Tryd.underlying58 (fun _ h => nomatch h) (by conv => lhs; whnf)) ?_
  refine S.q rfl rfl (Qt.assign (by conv => lhs; whnf)) ?_
  refine S.nil ?_
  refine TC.ret ?_
  refine finQ.ret (RVs.tmp (by conv => lhs; whnf) RVs.nil) (Sub.nil _) ?_
  exact ⟨rfl, rfl⟩
set_option maxHeartbeats 400000 in
theorem rootNil_walk (i : Nat) (h : H32) (w0 : World) :
    Calls Tryd.prog 28 #[.pointer none] w0 (Post w0 [] fun v L => v = hv zeroH ∧ L = []) := by
  refine Calls.of (L := []) (n := 13) (rs := [.cell 2 23]) Tryd.func28 rfl rfl rfl (Nat.le_of_ble_eq_true rfl) (Sat.nil _) ?_
  refine TC.seq ?_
  refine TC.region ?_
  refine S.opS rfl rfl (OpV.alloc Tryd.zero23 (fun b2 => ?_))
  refine S.nil ?_
  refine TC.seq ?_
  refine TC.seq ?_
  refine TC.region ?_
  refine S.q rfl rfl (Qt.move (by conv => lhs; whnf)) ?_
  refine S.q rfl rfl (Qt.eqp_none Tryd.underlying35 rfl) ?_
  refine S.nil ?_
  refine S.if_t rfl ?_
  refine TC.seq ?_
  refine TC.region ?_
  refine S.q rfl rfl (Qt.build (v := hv zeroH) rfl (fun _ => by kernel_rfl)) ?_
  refine S.opN rfl (OpV.storeV0 (v := hv (zeroH)) rfl rfl (hv_size Tryd.cells23) (hv_all _) (hv_len _) ?_)
  refine S.nil ?_
  refine TC.ret ?_
  refine finQ.ret (RVs.cell rfl (Ld.all (Has.at 0 rfl) Tryd.row23 (hv_size Tryd.cells23)) RVs.nil) (Sub.nil _) ?_
  exact ⟨rfl, rfl⟩
set_option maxHeartbeats 400000 in
theorem heightNil_walk (i : Nat) (h : H32) (w0 : World) :
    Calls Tryd.prog 85 #[.pointer none] w0 (Post w0 [] fun v L => v = .int .i64 ((0 : Nat) : Int) ∧ L = []) := by
  refine Calls.of (L := []) (n := 9) (rs := [.tmp 2]) Tryd.func85 rfl rfl rfl (Nat.le_of_ble_eq_true rfl) (Sat.nil _) ?_
  refine TC.seq ?_
  refine TC.region ?_
  refine S.q rfl rfl (Qt.assign (by conv => lhs; whnf)) ?_
  refine S.nil ?_
  refine TC.seq ?_
  refine TC.seq ?_
  refine TC.region ?_
  refine S.q rfl rfl (Qt.move (by conv => lhs; whnf)) ?_
  refine S.q rfl rfl (Qt.eqp_none Tryd.underlying35 rfl) ?_
  refine S.nil ?_
  refine S.if_t rfl ?_
  refine TC.seq ?_
  refine TC.region ?_
  refine S.q rfl rfl (Qt.assign (by conv => lhs; whnf)) ?_
  refine S.nil ?_
  refine TC.ret ?_
  refine finQ.ret (RVs.tmp (by conv => lhs; whnf) RVs.nil) (Sub.nil _) ?_
  exact ⟨rfl, rfl⟩
set_option maxHeartbeats 400000 in
theorem leavesNil_walk (i : Nat) (h : H32) (w0 : World) :
    Calls Tryd.prog 119 #[.pointer none] w0 (Post w0 [] fun v L => v = .slice none 0 0 ∧ L = []) := by
  refine Calls.of (L := []) (n := 27) (rs := [.tmp 2]) Tryd.func119 rfl rfl rfl (Nat.le_of_ble_eq_true rfl) (Sat.nil _) ?_
  refine TC.seq ?_
  refine TC.region ?_
  refine S.q rfl rfl (Qt.assign (by conv => lhs; whnf)) ?_
  refine S.nil ?_
  refine TC.seq ?_
  refine TC.seq ?_
  refine TC.region ?_
  refine S.q rfl rfl (Qt.move (by conv => lhs; whnf)) ?_
  refine S.q rfl rfl (Qt.eqp_none Tryd.underlying35 rfl) ?_
  refine S.nil ?_
  refine S.if_t rfl ?_
  refine TC.seq ?_
  refine TC.region ?_
  refine S.q rfl rfl (Qt.assign (by conv => lhs; whnf)) ?_
  refine S.nil ?_
  refine TC.ret ?_
  refine finQ.ret (RVs.tmp (by conv => lhs; whnf) RVs.nil) (Sub.nil _) ?_
  exact ⟨rfl, rfl⟩
set_option maxHeartbeats 400000 in
theorem lenNil_walk (i : Nat) (h : H32) (w0 : World) :
    Calls Tryd.prog 79 #[.pointer none] w0 (Post w0 [] fun v L => v = .int .i64 ((0 : Nat) : Int) ∧ L = []) := by
  refine Calls.of (L := []) (n := 6) (rs := [.tmp 2]) Tryd.func79 rfl rfl rfl (Nat.le_of_ble_eq_true rfl) (Sat.nil _) ?_
  refine TC.seq ?_
  refine TC.region ?_
  refine S.q rfl rfl (Qt.assign (by conv => lhs; whnf)) ?_
  refine S.nil ?_
  refine TC.seq ?_
  refine TC.region ?_
  refine S.q rfl rfl (Qt.move (by conv => lhs; whnf)) ?_
  refine S.opS rfl rfl (OpV.con0 Tryd.ent119 rfl (fun w hw => Calls.ret (leavesNil_walk i h w)) ?_)
  refine S.q rfl rfl (Qt.len_slice Tryd.underlying71 rfl) ?_
  refine S.q rfl rfl (Qt.assign (by conv => lhs; whnf)) ?_
  refine S.nil ?_
  refine TC.ret ?_
  refine finQ.ret (RVs.tmp (by conv => lhs; whnf) RVs.nil) (Sub.nil _) ?_
  exact ⟨rfl, rfl⟩
set_option maxHeartbeats 400000 in
theorem copyNil_walk (i : Nat) (h : H32) (w0 : World) :
    Calls Tryd.prog 76 #[.pointer none] w0 (Post w0 [] fun v L => v = .pointer none ∧ L = []) := by
  refine Calls.of (L := []) (n := 20) (rs := [.tmp 2]) Tryd.func76 rfl rfl rfl (Nat.le_of_ble_eq_true rfl) (Sat.nil _) ?_
  refine TC.seq ?_
  refine TC.region ?_
  refine S.q rfl rfl (Qt.assign (by conv => lhs; whnf)) ?_
  refine S.nil ?_
  refine TC.seq ?_
  refine TC.seq ?_
  refine TC.region ?_
  refine S.q rfl rfl (Qt.move (by conv => lhs; whnf)) ?_
  refine S.q rfl rfl (Qt.eqp_none Tryd.underlying35 rfl) ?_
  refine S.nil ?_
  refine S.if_t rfl ?_
  refine TC.seq ?_
  refine TC.region ?_
  refine S.q rfl rfl (Qt.assign (by conv => lhs; whnf)) ?_
  refine S.nil ?_
  refine TC.ret ?_
  refine finQ.ret (RVs.tmp (by conv => lhs; whnf) RVs.nil) (Sub.nil _) ?_
  exact ⟨rfl, rfl⟩
set_option maxHeartbeats 400000 in
theorem allNil_walk (w0 : World) :
    Calls Tryd.prog 84 #[.pointer none] w0 (Post w0 [] fun v L => ∃ b, v = .func (.func 121) #[] #[.pointer (some ⟨b, 0, none⟩)] ∧ L = [Blk b 35 [.pointer none]]) := by
  refine Calls.of (L := []) (n := 4) (rs := [.tmp 2]) Tryd.func84 rfl rfl rfl (Nat.le_of_ble_eq_true rfl) (Sat.nil _) ?_
  refine TC.seq ?_
  refine TC.region ?_
  refine S.opS rfl rfl (OpV.box (by conv => lhs; whnf) (fun b1 => ?_))
  refine S.q rfl rfl (Qt.assign (by conv => lhs; whnf)) ?_
  refine S.nil ?_
  refine TC.seq ?_
  refine TC.region ?_
  refine S.q rfl rfl (Qt.makeFuncL (fs := []) (cs := [.pointer (some ⟨b1, 0, none⟩)]) rfl rfl) ?_
  refine S.q rfl rfl (Qt.assign (by conv => lhs; whnf)) ?_
  refine S.nil ?_
  refine TC.ret ?_
  refine finQ.ret (RVs.tmp (by conv => lhs; whnf) RVs.nil) (Sub.refl _) ?_
  exact ⟨_, rfl, rfl⟩
set_option maxHeartbeats 400000 in
theorem genNil_walk (b l : Nat) (L0 : List Assn) (w0 : World) (h0 : Sat w0 L0) (hB : Ro w0 (fps L0) (Blk b 35 [.pointer none])) :
    Calls Tryd.prog 121 #[.func (.yield l) #[] #[], .pointer (some ⟨b, 0, none⟩)] w0 (Post w0 (fps L0) fun v L => L = L0) := by
  refine Calls.of (L := L0) (n := 21) (rs := []) Tryd.func121 rfl rfl rfl (Nat.le_of_ble_eq_true rfl) (h0) ?_
  refine TC.seq ?_
  refine TC.region ?_
  refine S.q rfl rfl (Qt.load rfl (Ld.one (Has.ro hB) Tryd.one35 rfl)) ?_
  refine S.opS rfl rfl (OpV.con0 Tryd.ent119 rfl (fun w hw => Calls.ret (leavesNil_walk 0 zeroH w)) ?_)
  refine S.q rfl rfl (Qt.len_slice Tryd.underlying71 rfl) ?_
  refine S.q rfl rfl (Qt.move (by conv => lhs; whnf)) ?_
  refine S.nil ?_
  refine TC.block ?_
  refine TC.loop (γ := Nat) [9, 10, 11, 4, 12, 13, 14, 15, 16, 17, 18, 19, 20, 8] (fun k => [(8, .int .i64 (k : Int))]) (fun _ => _) (fun k => k ≤ 0) (fun k => 0 - k) (0)
    (Nat.zero_le _) ⟨Out.refl _ _, (List.forall_mem_cons.2 ⟨rfl, (fun _ h => nomatch h)⟩)⟩ (Sub.refl _) ?_
  rintro k u hk
  refine TC.seq ?_
  refine TC.region ?_
  refine S.q rfl rfl (Qt.dF (Qt.lt rfl rfl) (by omega)) ?_
  refine S.nil ?_
  refine TC.seq ?_
  refine S.if_f rfl ?_
  refine TC.exit ?_
  refine finQ.normal RVs.nil (Sub.refl _) ?_
  rfl
theorem genNil (b : Nat) (w : World) (L0 : List Assn) (h0 : Sat w L0) (hB : Ro w (fps L0) (Blk b 35 [.pointer none])) : Gen Tryd.prog 121 #[.pointer (some ⟨b, 0, none⟩)] (fun x : Empty => nomatch x) (fun _ => True) (fun _ => False) w L0 := fun l J hJ _ =>
  (genNil_walk b l L0 w h0 hB).mono fun e w' ⟨v, L', h1, h2, h3⟩ => ⟨v, L', h1, h2, by subst h3; exact .inl ⟨[], trivial, hJ⟩⟩

set_option maxHeartbeats 400000 in
theorem law18_walk (E : Nat → H32) (hEm : ∀ w, Tabs 2 0 w [] → Calls Tryd.prog 88 #[] w (Ret w (.agg (hcs (emptL E)).toArray))) (i : Nat) (h : H32) (w0 : World) (hT : Tabs 2 0 w0 []) :
    Calls Tryd.prog 18 #[.int .u64 (i : Int), hv h] w0 (Post w0 [] fun v L => v = .bool true ∧ L = []) := by
  refine Calls.of (L := []) (n := 78) (rs := [.cell 4 4]) Tryd.func18 rfl rfl rfl (Nat.le_of_ble_eq_true rfl) (Sat.nil _) ?_
  refine TC.seq ?_
  refine TC.region ?_
  refine S.opS rfl rfl (OpV.box (v := hv h) rfl (fun b3 => ?_))
  refine S.opS rfl rfl (OpV.alloc Tryd.zero4 (fun b4 => ?_))
  refine S.nil ?_
  refine TC.seq ?_
  refine TC.seq ?_
  refine TC.region ?_
  refine S.opS rfl rfl (OpV.con0 Tryd.ent25 rfl (fun w hw => Calls.ret (alive09_walk E hEm w (hT.at hw))) ?_)
  refine S.q rfl rfl (Qt.not_t rfl) ?_
  refine S.nil ?_
  refine S.if_f rfl ?_
  refine TC.skip ?_
  refine TC.seq ?_
  refine TC.region ?_
  refine S.q rfl rfl (Qt.assign (by conv => lhs; whnf)) ?_
  refine S.nil ?_
  refine TC.seq ?_
  refine TC.seq ?_
  refine TC.region ?_
  refine S.q rfl rfl (Qt.move (by conv => lhs; whnf)) ?_
  refine S.opS rfl rfl (OpV.con (Pre := []) (R := _) Tryd.ent84 rfl (List.Perm.refl _) (fun w hw => allNil_walk w) ?_)
  rintro v L' ⟨b15, rfl, rfl⟩
  refine S.nil ?_
  refine TC.block ?_
  refine TC.rangeFunc (α := Empty) encE (fun _ => True) (fun _ => False) (fun _ L' => L' = []) (fun _ _ _ => False) (L0 := []) rfl rfl Tryd.ent121 rfl (fun x => nomatch x) (List.Perm.refl _) rfl (fun w L' hw => genNil b15 w L' hw.sat.left (Ro.of_rest hw (List.mem_cons_self ..))) (fun _ _ _ _ _ _ x => nomatch x) ?_ (fun _ _ _ _ h => h.elim)
  rintro D xs L' - rfl
  refine TC.seq ?_
  refine TC.region ?_
  refine S.q rfl rfl (Qt.move (by conv => lhs; whnf)) ?_
  refine S.q rfl rfl (Qt.move (by conv => lhs; whnf)) ?_
  refine S.opS rfl rfl (OpV.con0 Tryd.ent30 rfl (fun w hw => Calls.ret (leafNil_walk i h w)) ?_)
  refine S.q rfl rfl (Qt.move (by conv => lhs; whnf)) ?_
  refine S.q rfl rfl (Qt.extract rfl rfl) ?_
  refine S.q rfl rfl (Qt.extract rfl rfl) ?_
  refine S.opS rfl rfl (OpV.alloc Tryd.zero23 (fun b6 => ?_))
  refine S.opN rfl (OpV.storeV0 (v := hv (zeroH)) rfl rfl (hv_size Tryd.cells23) (hv_all _) (hv_len _) ?_)
  refine S.q rfl rfl (Qt.assign (by conv => lhs; whnf)) ?_
  refine S.nil ?_
  refine TC.seq ?_
  refine TC.region ?_
  refine S.q rfl rfl (Qt.move (by conv => lhs; whnf)) ?_
  refine S.q rfl rfl (Qt.move (by conv => lhs; whnf)) ?_
  refine S.opS rfl rfl (OpV.con0 Tryd.ent29 rfl (fun w hw => Calls.ret (pathNil_walk i h w)) ?_)
  refine S.q rfl rfl (Qt.move (by conv => lhs; whnf)) ?_
  refine S.q rfl rfl (Qt.extract rfl rfl) ?_
  refine S.q rfl rfl (Qt.extract rfl rfl) ?_
  refine S.q rfl rfl (Qt.assign (by conv => lhs; whnf)) ?_
  refine S.q rfl rfl (Qt.assign (by conv => lhs; whnf)) ?_
  refine S.nil ?_
  refine TC.seq ?_
  refine TC.region ?_
  refine S.q rfl rfl (Qt.move (by conv => lhs; whnf)) ?_
  refine S.q rfl rfl (Qt.move (by conv => lhs; whnf)) ?_
  refine S.opS rfl rfl (OpV.con0 Tryd.ent82 rfl (fun w hw => Calls.ret (resizeNil_walk i h w)) ?_)
  refine S.q rfl rfl (Qt.move (by conv => lhs; whnf)) ?_
  refine S.q rfl rfl (Qt.extract rfl rfl) ?_
  refine S.q rfl rfl (Qt.extract rfl rfl) ?_
  refine S.q rfl rfl (Qt.assign (by conv => lhs; whnf)) ?_
  refine S.q rfl rfl (Qt.assign (by conv => lhs; whnf)) ?_
  refine S.nil ?_
  refine TC.seq ?_
  refine TC.region ?_
  refine S.q rfl rfl (Qt.move (by conv => lhs; whnf)) ?_
  refine S.q rfl rfl (Qt.move (by conv => lhs; whnf)) ?_
  refine S.q rfl rfl (Qt.load rfl (Ld.hash1 (x := h) (Has.at 4 rfl) Tryd.row23 Tryd.cells23)) ?_
  refine S.opS rfl rfl (OpV.con0 Tryd.ent27 rfl (fun w hw => setN_R i h w) ?_)
  refine S.opS rfl rfl (OpV.con0 Tryd.ent35 rfl (fun w hw => is11 w) ?_)
  refine S.q rfl rfl (Qt.move (by conv => lhs; whnf)) ?_
  refine S.qg rfl rfl rfl (Qt.move (by conv => lhs; whnf)) ?_
  refine S.qg rfl rfl rfl (Qt.move (by conv => lhs; whnf)) ?_
  refine S.opg rfl rfl rfl (OpV.con0 Tryd.ent78 rfl (fun w hw => Calls.ret (dropNil_walk i h w)) ?_)
  refine S.opg rfl rfl rfl (OpV.con0 Tryd.ent35 rfl (fun w hw => is11 w) ?_)
  refine S.q rfl rfl (Qt.pick_t rfl (by conv => lhs; whnf)) ?_
  refine S.q rfl rfl (Qt.move (by conv => lhs; whnf)) ?_
  refine S.qg rfl rfl rfl (Qt.move (by conv => lhs; whnf)) ?_
  refine S.opg rfl rfl rfl (OpV.con0 Tryd.ent35 rfl (fun w hw => is11 w) ?_)
  refine S.q rfl rfl (Qt.pick_t rfl (by conv => lhs; whnf)) ?_
  refine S.q rfl rfl (Qt.move (by conv => lhs; whnf)) ?_
  refine S.qg rfl rfl rfl (Qt.move (by conv => lhs; whnf)) ?_
  refine S.opg rfl rfl rfl (OpV.con0 Tryd.ent35 rfl (fun w hw => is11 w) ?_)
  refine S.q rfl rfl (Qt.pick_t rfl (by conv => lhs; whnf)) ?_
  refine S.q rfl rfl (Qt.move (by conv => lhs; whnf)) ?_
  refine S.qg rfl rfl rfl (Qt.move (by conv => lhs; whnf)) ?_
  refine S.opg rfl rfl rfl (OpV.con0 Tryd.ent35 rfl (fun w hw => is11 w) ?_)
  refine S.q rfl rfl (Qt.pick_t rfl (by conv => lhs; whnf)) ?_
  refine S.q rfl rfl (Qt.move (by conv => lhs; whnf)) ?_
  refine S.qg rfl rfl rfl (Qt.move (by conv => lhs; whnf)) ?_
  refine S.opg rfl rfl rfl (OpV.con0 Tryd.ent28 rfl (fun w hw => Calls.ret (rootNil_walk i h w)) ?_)
  refine S.qg rfl rfl rfl (Qt.build (v := hv zeroH) rfl (fun _ => by kernel_rfl)) ?_
  refine S.qg rfl rfl rfl (Qt.dT (Qt.eqH (a := zeroH) (b := zeroH) Tryd.guard23 Tryd.underlying23 Tryd.underlying5 Tryd.cells5 rfl rfl) rfl) ?_
  refine S.q rfl rfl (Qt.pick_t rfl (by conv => lhs; whnf)) ?_
  refine S.q rfl rfl (Qt.move (by conv => lhs; whnf)) ?_
  refine S.qg rfl rfl rfl (Qt.move (by conv => lhs; whnf)) ?_
  refine S.opg rfl rfl rfl (OpV.con0 Tryd.ent85 rfl (fun w hw => Calls.ret (heightNil_walk i h w)) ?_)
  refine S.qg rfl rfl rfl (Qt.move (by conv => lhs; whnf)) ?_
  refine S.opg rfl rfl rfl (OpV.con0 Tryd.ent79 rfl (fun w hw => Calls.ret (lenNil_walk i h w)) ?_)
  refine S.qg rfl rfl rfl (Qt.add rfl rfl (by simp only [kmax]; omega)) ?_
  refine S.qg rfl rfl rfl (Qt.dT (Qt.eq (b := 0) rfl rfl) (rfl)) ?_
  refine S.q rfl rfl (Qt.pick_t rfl (by conv => lhs; whnf)) ?_
  refine S.q rfl rfl (Qt.move (by conv => lhs; whnf)) ?_
  refine S.qg rfl rfl rfl (Qt.move (by conv => lhs; whnf)) ?_
  refine S.opg rfl rfl rfl (OpV.con0 Tryd.ent76 rfl (fun w hw => Calls.ret (copyNil_walk i h w)) ?_)
  refine S.qg rfl rfl rfl (Qt.eqp_none Tryd.underlying35 rfl) ?_
  refine S.q rfl rfl (Qt.pick_t rfl (by conv => lhs; whnf)) ?_
  refine S.opN rfl (OpV.storeV3 rfl (by conv => lhs; whnf) (by exact Tryd.cells4) (by rfl) (by rfl) ?_)
  refine S.nil ?_
  refine TC.ret ?_
  refine finQ.retM rfl (Sub.trans (Sub.keep _ (Sub.refl _)) (Sub.of_perm (List.perm_middle (l₁ := [_])))) (RVs.cell rfl (Ld.one (Has.at 2 rfl) Tryd.one4 (rfl)) RVs.nil) (Sub.nil _) ?_
  exact ⟨rfl, rfl⟩
theorem treeNil_R (i : Nat) (h : H32) (w0 : World) (hT : Tabs 2 0 w0 []) : Calls Tryd.prog 18 #[.int .u64 (i : Int), hv h] w0 (Post w0 [] fun v L => v = .bool true ∧ L = []) :=
  law18_walk emptyH (fun w h => empties_R w h) i h w0 hT

end Go.Proofs.YtlneklemjfefpaaDoor
