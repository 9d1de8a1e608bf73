/-
  Walks: the law of a span of a tree. Printed by a program of ours.
-/
import Derived.Test.YtlneklemjfefpaaDoorVD
import Derived.Test.YtlneklemjfefpaaDoorUC
import Derived.Test.YtlneklemjfefpaaDoorSB
namespace Go.Proofs.YtlneklemjfefpaaDoor
open Go.E
set_option linter.unusedVariables false
set_option maxRecDepth 4000

theorem idxF_at {f n : Nat} (h : 0 < n) : (u64s (idxF f n))[0 * 1]? = some (.int .u64 (f : Int)) := by simp [u64s, idxF, h]
theorem idxF_u64 (f n : Nat) : (u64s (idxF f n)).length = n := by rw [u64s_len, idxF_len]
set_option maxHeartbeats 400000 in
theorem make_walkF2 (E : Nat → H32) (tb mb height f : Nat) (z : Int) (hr : ∀ w, Calls Tryd.prog 49 #[.int .i64 (height : Int), .int .u64 (f : Int), .int .i64 z] w (Ret w (.bool false))) (w0 : World) (hB : Ro w0 [] (Blk tb 150 (treeCs E height mb))) :
    Calls Tryd.prog 47 #[.pointer (some ⟨tb, 0, none⟩), .int .u64 (f : Int), .int .i64 z] w0 (Post w0 [] fun v L => v = .tuple #[.agg #[.slice none 0 0, .slice none 0 0], .iface 58 (.int .i64 1)] ∧ L = []) := by
  refine Calls.of (L := []) (n := 42) (rs := [.cell 6 77, .tmp 7]) Tryd.func47 rfl rfl rfl (Nat.le_of_ble_eq_true rfl) (Sat.nil _) ?_
  refine TC.seq ?_
  refine TC.region ?_
  refine S.opS rfl rfl (OpV.box (by conv => lhs; whnf) (fun b3 => ?_))
  refine S.opS rfl rfl (OpV.alloc Tryd.zero77 (fun b6 => ?_))
  refine S.q rfl rfl (Qt.assign (by conv => lhs; whnf)) ?_
  refine S.nil ?_
  refine TC.seq ?_
  refine TC.block ?_
  refine TC.seq ?_
  refine TC.region ?_
  refine S.q rfl rfl (Qt.load rfl (Ld.one (Has.at 1 rfl) Tryd.one35 rfl)) ?_
  refine S.q rfl rfl (Qt.eqp_some Tryd.underlying35 rfl) ?_
  refine S.q rfl rfl (Qt.assign (by conv => lhs; whnf)) ?_
  refine S.nil ?_
  refine S.if_f rfl ?_
  refine TC.seq ?_
  refine TC.region ?_
  refine S.q rfl rfl (Qt.load rfl (Ld.one (Has.at 1 rfl) Tryd.one35 rfl)) ?_
  refine S.opS rfl rfl (OpV.con0 Tryd.ent85 rfl (fun w hw => height85_R E tb mb height w (Rd.ro hB w hw)) ?_)
  refine S.q rfl rfl (Qt.move (by conv => lhs; whnf)) ?_
  refine S.q rfl rfl (Qt.move (by conv => lhs; whnf)) ?_
  refine S.opS rfl rfl (OpV.con0 Tryd.ent49 rfl (fun w hw => hr w) ?_)
  refine S.q rfl rfl (Qt.not_f rfl) ?_
  refine S.q rfl rfl (Qt.assign (by conv => lhs; whnf)) ?_
  refine S.nil ?_
  refine S.if_t rfl ?_
  refine TC.seq ?_
  refine TC.region ?_
  refine S.q rfl rfl (Qt.build (v := .agg #[.slice none 0 0, .slice none 0 0]) rfl (fun _ => by kernel_rfl)) ?_
  refine S.q rfl rfl (Qt.makeInterface Tryd.underlying58 (fun _ h => nomatch h) (by conv => lhs; whnf)) ?_
  refine S.opN rfl (OpV.storeV0 rfl (by conv => lhs; whnf) (by exact Tryd.cells77) (by rfl) (by rfl) ?_)
  refine S.q rfl rfl (Qt.assign (by conv => lhs; whnf)) ?_
  refine S.nil ?_
  refine TC.ret ?_
  refine finQ.ret (RVs.cell rfl (Ld.all (Has.at 0 rfl) Tryd.row77 (Tryd.cells77)) (RVs.tmp (by conv => lhs; whnf) RVs.nil)) (Sub.nil _) ?_
  exact ⟨rfl, rfl⟩
set_option maxHeartbeats 1600000 in
theorem law15_walkE1 (E : Nat → H32) (hEm : ∀ w, Tabs 2 0 w [] → Calls Tryd.prog 88 #[] w (Ret w (.agg (hcs (emptL E)).toArray))) (hE : ∀ h, E (h + 1) = joinH (h + 1) (E h) (E h)) (y : Int) (A : Option Addr) (c : Nat) (xs : List Go.E.Act) (f : Nat) (z : Int) (hx : 25 < xs.length) (w0 : World) (hT : Tabs 2 0 w0 []) :
    Calls Tryd.prog 15 #[.int .i64 y, .slice A xs.length c, .agg #[.int .u64 (f : Int), .int .i64 z]] w0 (Post w0 [] fun v L => v = .bool true ∧ L = []) := by
  refine Calls.of (L := []) (n := 126) (rs := [.tmp 6]) Tryd.func15 rfl rfl rfl (Nat.le_of_ble_eq_true rfl) (Sat.nil _) ?_
  refine TC.seq ?_
  refine TC.region ?_
  refine S.opS rfl rfl (OpV.box (v := .agg #[.int .u64 (f : Int), .int .i64 z]) rfl (fun b5 => ?_))
  refine S.q rfl rfl (Qt.assign (by conv => lhs; whnf)) ?_
  refine S.nil ?_
  refine TC.seq ?_
  refine TC.seq ?_
  refine TC.region ?_
  refine S.opS rfl rfl (OpV.con0 Tryd.ent44 rfl (fun w hw => Calls.ret (alive11_walk E hEm hE w (hT.at hw))) ?_)
  refine S.q rfl rfl (Qt.not_t rfl) ?_
  refine S.nil ?_
  refine S.if_f rfl ?_
  refine TC.skip ?_
  refine TC.seq ?_
  refine TC.seq ?_
  refine TC.region ?_
  refine S.q rfl rfl (Qt.move (by conv => lhs; whnf)) ?_
  refine S.q rfl rfl (Qt.len_slice Tryd.underlying34 rfl) ?_
  refine S.q rfl rfl (Qt.dT (Qt.gt (b := 25) rfl rfl) (by omega)) ?_
  refine S.q rfl rfl (Qt.move (by conv => lhs; whnf)) ?_
  refine S.pass rfl rfl ?_
  refine S.pass rfl rfl ?_
  refine S.pass rfl rfl ?_
  refine S.pass rfl rfl ?_
  refine S.pass rfl rfl ?_
  refine S.pass rfl rfl ?_
  refine S.pass rfl rfl ?_
  refine S.pass rfl rfl ?_
  refine S.q rfl rfl (Qt.pick_t rfl (by conv => lhs; whnf)) ?_
  refine S.nil ?_
  refine S.if_t rfl ?_
  refine TC.seq ?_
  refine TC.region ?_
  refine S.q rfl rfl (Qt.assign (by conv => lhs; whnf)) ?_
  refine S.nil ?_
  refine TC.ret ?_
  refine finQ.ret (RVs.tmp (by conv => lhs; whnf) RVs.nil) (Sub.nil _) ?_
  exact ⟨rfl, rfl⟩
set_option maxHeartbeats 1600000 in
theorem law15_walkE2 (E : Nat → H32) (hEm : ∀ w, Tabs 2 0 w [] → Calls Tryd.prog 88 #[] w (Ret w (.agg (hcs (emptL E)).toArray))) (hE : ∀ h, E (h + 1) = joinH (h + 1) (E h) (E h)) (y : Int) (A : Option Addr) (c : Nat) (xs : List Go.E.Act) (f : Nat) (n : Nat) (hx : xs.length ≤ 25) (hn : 60 < n) (hn2 : n ≤ 256) (w0 : World) (hT : Tabs 2 0 w0 []) :
    Calls Tryd.prog 15 #[.int .i64 y, .slice A xs.length c, .agg #[.int .u64 (f : Int), .int .i64 (n : Int)]] w0 (Post w0 [] fun v L => v = .bool true ∧ L = []) := by
  refine Calls.of (L := []) (n := 126) (rs := [.tmp 6]) Tryd.func15 rfl rfl rfl (Nat.le_of_ble_eq_true rfl) (Sat.nil _) ?_
  refine TC.seq ?_
  refine TC.region ?_
  refine S.opS rfl rfl (OpV.box (v := .agg #[.int .u64 (f : Int), .int .i64 (n : Int)]) rfl (fun b5 => ?_))
  refine S.q rfl rfl (Qt.assign (by conv => lhs; whnf)) ?_
  refine S.nil ?_
  refine TC.seq ?_
  refine TC.seq ?_
  refine TC.region ?_
  refine S.opS rfl rfl (OpV.con0 Tryd.ent44 rfl (fun w hw => Calls.ret (alive11_walk E hEm hE w (hT.at hw))) ?_)
  refine S.q rfl rfl (Qt.not_t rfl) ?_
  refine S.nil ?_
  refine S.if_f rfl ?_
  refine TC.skip ?_
  refine TC.seq ?_
  refine TC.seq ?_
  refine TC.region ?_
  refine S.q rfl rfl (Qt.move (by conv => lhs; whnf)) ?_
  refine S.q rfl rfl (Qt.len_slice Tryd.underlying34 rfl) ?_
  refine S.q rfl rfl (Qt.dF (Qt.gt (b := 25) rfl rfl) (by omega)) ?_
  refine S.q rfl rfl (Qt.move (by conv => lhs; whnf)) ?_
  refine S.qg rfl rfl rfl (Qt.field Tryd.underlying75 rfl Tryd.cells3 rfl) ?_
  refine S.qg rfl rfl rfl (Qt.load rfl (Ld.one (Has.at 0 rfl) Tryd.one3 (rfl))) ?_
  refine S.qg rfl rfl rfl (Qt.dT (Qt.gt (b := 60) rfl rfl) (by omega)) ?_
  refine S.qg rfl rfl rfl (Qt.move (by conv => lhs; whnf)) ?_
  refine S.qg rfl rfl rfl (Qt.field Tryd.underlying75 rfl Tryd.cells3 rfl) ?_
  refine S.qg rfl rfl rfl (Qt.load rfl (Ld.one (Has.at 0 rfl) Tryd.one3 (rfl))) ?_
  refine S.qg rfl rfl rfl (Qt.dT (Qt.le (b := 256) rfl rfl) (by omega)) ?_
  refine S.qg rfl rfl rfl (Qt.pick_t rfl (by conv => lhs; whnf)) ?_
  refine S.q rfl rfl (Qt.pick_f rfl (by conv => lhs; whnf)) ?_
  refine S.nil ?_
  refine S.if_t rfl ?_
  refine TC.seq ?_
  refine TC.region ?_
  refine S.q rfl rfl (Qt.assign (by conv => lhs; whnf)) ?_
  refine S.nil ?_
  refine TC.ret ?_
  refine finQ.ret (RVs.tmp (by conv => lhs; whnf) RVs.nil) (Sub.nil _) ?_
  exact ⟨rfl, rfl⟩
set_option maxHeartbeats 1600000 in
theorem law15_walkZ (E : Nat → H32) (hEm : ∀ w, Tabs 2 0 w [] → Calls Tryd.prog 88 #[] w (Ret w (.agg (hcs (emptL E)).toArray))) (hE : ∀ h, E (h + 1) = joinH (h + 1) (E h) (E h)) (y : Int) (A : Option Addr) (c : Nat) (xs : List Go.E.Act) (f : Nat) (z : Int) (hx : xs.length ≤ 25) (hz : y < 0 ∨ 32 < y) (hm : z ≤ 60 ∨ 256 < z) (w0 : World) (hT : Tabs 2 0 w0 []) :
    Calls Tryd.prog 15 #[.int .i64 y, .slice A xs.length c, .agg #[.int .u64 (f : Int), .int .i64 z]] w0 (Post w0 [] fun v L => v = .bool true ∧ L = []) := by
  refine Calls.of (L := []) (n := 126) (rs := [.tmp 6]) Tryd.func15 rfl rfl rfl (Nat.le_of_ble_eq_true rfl) (Sat.nil _) ?_
  refine TC.seq ?_
  refine TC.region ?_
  refine S.opS rfl rfl (OpV.box (v := .agg #[.int .u64 (f : Int), .int .i64 z]) rfl (fun b5 => ?_))
  refine S.q rfl rfl (Qt.assign (by conv => lhs; whnf)) ?_
  refine S.nil ?_
  refine TC.seq ?_
  refine TC.seq ?_
  refine TC.region ?_
  refine S.opS rfl rfl (OpV.con0 Tryd.ent44 rfl (fun w hw => Calls.ret (alive11_walk E hEm hE w (hT.at hw))) ?_)
  refine S.q rfl rfl (Qt.not_t rfl) ?_
  refine S.nil ?_
  refine S.if_f rfl ?_
  refine TC.skip ?_
  refine TC.seq ?_
  refine TC.seq ?_
  refine TC.region ?_
  refine S.q rfl rfl (Qt.move (by conv => lhs; whnf)) ?_
  refine S.q rfl rfl (Qt.len_slice Tryd.underlying34 rfl) ?_
  refine S.q rfl rfl (Qt.dF (Qt.gt (b := 25) rfl rfl) (by omega)) ?_
  refine S.q rfl rfl (Qt.move (by conv => lhs; whnf)) ?_
  refine S.qg rfl rfl rfl (Qt.field Tryd.underlying75 rfl Tryd.cells3 rfl) ?_
  refine S.qg rfl rfl rfl (Qt.load rfl (Ld.one (Has.at 0 rfl) Tryd.one3 (rfl))) ?_
  refine S.decg rfl rfl rfl (Qt.gti rfl rfl) (fun h24 => ?_) (fun h24 => ?_)
  · refine S.qg rfl rfl rfl (Qt.move (by conv => lhs; whnf)) ?_
    refine S.qg rfl rfl rfl (Qt.field Tryd.underlying75 rfl Tryd.cells3 rfl) ?_
    refine S.qg rfl rfl rfl (Qt.load rfl (Ld.one (Has.at 0 rfl) Tryd.one3 (rfl))) ?_
    refine S.qg rfl rfl rfl (Qt.dF (Qt.lei rfl rfl) (by omega)) ?_
    refine S.qg rfl rfl rfl (Qt.pick_t rfl (by conv => lhs; whnf)) ?_
    refine S.q rfl rfl (Qt.pick_f rfl (by conv => lhs; whnf)) ?_
    refine S.nil ?_
    refine S.if_f rfl ?_
    refine TC.skip ?_
    refine TC.seq ?_
    refine TC.region ?_
    refine S.q rfl rfl (Qt.move (by conv => lhs; whnf)) ?_
    refine S.opS rfl rfl (OpV.con0 Tryd.ent26 rfl (fun w hw => newF_R y hz w) ?_)
    refine S.q rfl rfl (Qt.move (by conv => lhs; whnf)) ?_
    refine S.q rfl rfl (Qt.extract rfl rfl) ?_
    refine S.q rfl rfl (Qt.extract rfl rfl) ?_
    refine S.q rfl rfl (Qt.assign (by conv => lhs; whnf)) ?_
    refine S.q rfl rfl (Qt.assign (by conv => lhs; whnf)) ?_
    refine S.nil ?_
    refine TC.seq ?_
    refine TC.seq ?_
    refine TC.region ?_
    refine S.q rfl rfl (Qt.move (by conv => lhs; whnf)) ?_
    refine S.q rfl rfl (Qt.nenil_iface Tryd.underlying27 rfl) ?_
    refine S.nil ?_
    refine S.if_t rfl ?_
    refine TC.seq ?_
    refine TC.region ?_
    refine S.q rfl rfl (Qt.move (by conv => lhs; whnf)) ?_
    refine S.q rfl rfl (Qt.eqp_none Tryd.underlying35 rfl) ?_
    refine S.q rfl rfl (Qt.assign (by conv => lhs; whnf)) ?_
    refine S.nil ?_
    refine TC.ret ?_
    refine finQ.ret (RVs.tmp (by conv => lhs; whnf) RVs.nil) (Sub.nil _) ?_
    exact ⟨rfl, rfl⟩
  · refine S.qg rfl rfl rfl (Qt.move (by conv => lhs; whnf)) ?_
    refine S.pass rfl rfl ?_
    refine S.pass rfl rfl ?_
    refine S.pass rfl rfl ?_
    refine S.qg rfl rfl rfl (Qt.pick_f rfl (by conv => lhs; whnf)) ?_
    refine S.q rfl rfl (Qt.pick_f rfl (by conv => lhs; whnf)) ?_
    refine S.nil ?_
    refine S.if_f rfl ?_
    refine TC.skip ?_
    refine TC.seq ?_
    refine TC.region ?_
    refine S.q rfl rfl (Qt.move (by conv => lhs; whnf)) ?_
    refine S.opS rfl rfl (OpV.con0 Tryd.ent26 rfl (fun w hw => newF_R y hz w) ?_)
    refine S.q rfl rfl (Qt.move (by conv => lhs; whnf)) ?_
    refine S.q rfl rfl (Qt.extract rfl rfl) ?_
    refine S.q rfl rfl (Qt.extract rfl rfl) ?_
    refine S.q rfl rfl (Qt.assign (by conv => lhs; whnf)) ?_
    refine S.q rfl rfl (Qt.assign (by conv => lhs; whnf)) ?_
    refine S.nil ?_
    refine TC.seq ?_
    refine TC.seq ?_
    refine TC.region ?_
    refine S.q rfl rfl (Qt.move (by conv => lhs; whnf)) ?_
    refine S.q rfl rfl (Qt.nenil_iface Tryd.underlying27 rfl) ?_
    refine S.nil ?_
    refine S.if_t rfl ?_
    refine TC.seq ?_
    refine TC.region ?_
    refine S.q rfl rfl (Qt.move (by conv => lhs; whnf)) ?_
    refine S.q rfl rfl (Qt.eqp_none Tryd.underlying35 rfl) ?_
    refine S.q rfl rfl (Qt.assign (by conv => lhs; whnf)) ?_
    refine S.nil ?_
    refine TC.ret ?_
    refine finQ.ret (RVs.tmp (by conv => lhs; whnf) RVs.nil) (Sub.nil _) ?_
    exact ⟨rfl, rfl⟩
set_option maxHeartbeats 1600000 in
theorem law15_walkF (E : Nat → H32) (hEm : ∀ w, Tabs 2 0 w [] → Calls Tryd.prog 88 #[] w (Ret w (.agg (hcs (emptL E)).toArray))) (hE : ∀ h, E (h + 1) = joinH (h + 1) (E h) (E h)) (height : Nat) (hh : height ≤ 32) (A : Option Addr) (c : Nat) (xs : List Go.E.Act) (hx : xs.length ≤ 25) (f : Nat) (hf64 : f < 18446744073709551616) (z : Int) (hm : z ≤ 60 ∨ 256 < z) (hr : ∀ w, Calls Tryd.prog 49 #[.int .i64 (height : Int), .int .u64 (f : Int), .int .i64 z] w (Ret w (.bool false))) (w0 : World) (hR : Ro w0 [] (SlA A (xs.flatMap actL))) (hT : Tabs 2 0 w0 []) :
    Calls Tryd.prog 15 #[.int .i64 (height : Int), .slice A xs.length c, .agg #[.int .u64 (f : Int), .int .i64 z]] w0 (Post w0 [] fun v L => v = .bool true ∧ L = []) := by
  refine Calls.of (L := []) (n := 126) (rs := [.tmp 6]) Tryd.func15 rfl rfl rfl (Nat.le_of_ble_eq_true rfl) (Sat.nil _) ?_
  refine TC.seq ?_
  refine TC.region ?_
  refine S.opS rfl rfl (OpV.box (v := .agg #[.int .u64 (f : Int), .int .i64 z]) rfl (fun b5 => ?_))
  refine S.q rfl rfl (Qt.assign (by conv => lhs; whnf)) ?_
  refine S.nil ?_
  refine TC.seq ?_
  refine TC.seq ?_
  refine TC.region ?_
  refine S.opS rfl rfl (OpV.con0 Tryd.ent44 rfl (fun w hw => Calls.ret (alive11_walk E hEm hE w (hT.at hw))) ?_)
  refine S.q rfl rfl (Qt.not_t rfl) ?_
  refine S.nil ?_
  refine S.if_f rfl ?_
  refine TC.skip ?_
  refine TC.seq ?_
  refine TC.seq ?_
  refine TC.region ?_
  refine S.q rfl rfl (Qt.move (by conv => lhs; whnf)) ?_
  refine S.q rfl rfl (Qt.len_slice Tryd.underlying34 rfl) ?_
  refine S.q rfl rfl (Qt.dF (Qt.gt (b := 25) rfl rfl) (by omega)) ?_
  refine S.q rfl rfl (Qt.move (by conv => lhs; whnf)) ?_
  refine S.qg rfl rfl rfl (Qt.field Tryd.underlying75 rfl Tryd.cells3 rfl) ?_
  refine S.qg rfl rfl rfl (Qt.load rfl (Ld.one (Has.at 0 rfl) Tryd.one3 (rfl))) ?_
  refine S.decg rfl rfl rfl (Qt.gti rfl rfl) (fun h24 => ?_) (fun h24 => ?_)
  · refine S.qg rfl rfl rfl (Qt.move (by conv => lhs; whnf)) ?_
    refine S.qg rfl rfl rfl (Qt.field Tryd.underlying75 rfl Tryd.cells3 rfl) ?_
    refine S.qg rfl rfl rfl (Qt.load rfl (Ld.one (Has.at 0 rfl) Tryd.one3 (rfl))) ?_
    refine S.qg rfl rfl rfl (Qt.dF (Qt.lei rfl rfl) (by omega)) ?_
    refine S.qg rfl rfl rfl (Qt.pick_t rfl (by conv => lhs; whnf)) ?_
    refine S.q rfl rfl (Qt.pick_f rfl (by conv => lhs; whnf)) ?_
    refine S.nil ?_
    refine S.if_f rfl ?_
    refine TC.skip ?_
    refine TC.seq ?_
    refine TC.region ?_
    refine S.q rfl rfl (Qt.move (by conv => lhs; whnf)) ?_
    refine S.opS rfl rfl (OpV.con (Pre := []) (R := _) Tryd.ent26 rfl (List.Perm.refl _) (fun w hw => new_walk E hEm height hh w (hT.at hw)) ?_)
    rintro v L' ⟨tb, mb, rfl, rfl⟩
    refine S.q rfl rfl (Qt.move (by conv => lhs; whnf)) ?_
    refine S.q rfl rfl (Qt.extract rfl rfl) ?_
    refine S.q rfl rfl (Qt.extract rfl rfl) ?_
    refine S.q rfl rfl (Qt.assign (by conv => lhs; whnf)) ?_
    refine S.q rfl rfl (Qt.assign (by conv => lhs; whnf)) ?_
    refine S.nil ?_
    refine TC.seq ?_
    refine TC.seq ?_
    refine TC.region ?_
    refine S.q rfl rfl (Qt.move (by conv => lhs; whnf)) ?_
    refine S.q rfl rfl (Qt.nenil_nil Tryd.underlying27 rfl) ?_
    refine S.nil ?_
    refine S.if_f rfl ?_
    refine TC.skip ?_
    refine TC.seq ?_
    refine TC.seq ?_
    refine TC.region ?_
    refine S.q rfl rfl (Qt.move (by conv => lhs; whnf)) ?_
    refine S.q rfl rfl (Qt.len_slice Tryd.underlying34 rfl) ?_
    refine S.q rfl rfl (Qt.move (by conv => lhs; whnf)) ?_
    refine S.nil ?_
    refine TC.block ?_
    refine TC.loop (γ := Nat × Tm) [43, 44, 45, 10, 46, 47, 48, 49, 50, 51, 52, 42] (fun g => [(42, .int .i64 ((g.1 : Nat) : Int))]) (fun g => [Blk tb 150 (treeCs E height mb), MapA mb encAt hv (g.2), Blk b5 75 [.int .u64 (f : Int), .int .i64 z]]) (fun g => g.1 ≤ xs.length ∧ ∃ g2, TreeOk E height g2 g.2) (fun g => xs.length - g.1) ((0, []))
      ⟨Nat.zero_le _, _, TreeOk.empty hE height⟩ ⟨Out.refl _ _, (List.forall_mem_cons.2 ⟨rfl, (fun _ h => nomatch h)⟩)⟩ (Sub.refl _) ?_
    rintro ⟨k, ms⟩ u ⟨hk, g2, ht⟩
    dsimp only at hk ht
    refine TC.seq ?_
    refine TC.region ?_
    refine S.dec rfl rfl (Qt.lt rfl rfl) (fun h43 => ?_) (fun h43 => ?_)
    · refine S.nil ?_
      refine TC.seq ?_
      refine S.if_t rfl ?_
      refine TC.skip ?_
      refine TC.seq ?_
      refine TC.block ?_
      refine TC.seq ?_
      refine TC.region ?_
      refine S.q rfl rfl (Qt.index Tryd.underlying34 Tryd.cells40 rfl rfl (by omega) (Has.ro hR) (by rw [acts_len]; omega)) ?_
      refine S.q rfl rfl (Qt.load rfl (Ld.slr (Has.ro hR) Tryd.row40 (by rw [actL_length]; exact Tryd.cells40) (by rw [actL_length]; decide) (acts_at h43))) ?_
      refine S.opS rfl rfl (OpV.alloc Tryd.zero40 (fun b10 => ?_))
      refine S.opN rfl (OpV.storeV0 (v := .agg (actL (xs.getD k act0)).toArray) rfl rfl (by rw [actL_vl]; exact Tryd.cells40) (actL_one _) (by rw [actL_vl]; rfl) ?_)
      refine S.nil ?_
      refine TC.region ?_
      refine S.q rfl rfl (Qt.move (by conv => lhs; whnf)) ?_
      refine S.q rfl rfl (Qt.field Tryd.underlying40 rfl Tryd.cells24 rfl) ?_
      refine S.q rfl rfl (Qt.load rfl (Ld.one (Has.at 0 rfl) Tryd.one24 (rfl))) ?_
      refine S.q rfl rfl (Qt.field Tryd.underlying40 rfl Tryd.cells23 rfl) ?_
      refine S.q rfl rfl (Qt.load rfl (Ld.row (vs := hvl (xs.getD k act0).h) (Has.at 0 rfl) Tryd.row23 (by rw [hvl_length]; exact Tryd.cells23) (actL_hash _))) ?_
      by_cases hs : (xs.getD k act0).i < 2 ^ height
      · refine S.opS rfl rfl (OpV.con (Pre := [Blk tb 150 (treeCs E height mb), MapA mb encAt hv (ms)]) (R := _) Tryd.ent27 rfl ((List.perm_middle (l₁ := [_])).trans (List.Perm.cons _ (List.perm_middle (l₁ := [_])))) (fun w hw => set_walk E tb mb height ms _ _ hh hs w hw.sat.left (hT.pre hw)) ?_)
        rintro v L' ⟨rfl, rfl⟩
        refine S.nil ?_
        refine TC.region ?_
        refine S.q rfl rfl (Qt.add (b := 1) rfl rfl (by simp only [kmax]; omega)) ?_
        refine S.q rfl rfl (Qt.move (by conv => lhs; whnf)) ?_
        refine S.nil ?_
        refine ⟨(k + 1, setK E ms (xs.getD k act0).i (xs.getD k act0).h height), ?_, ?_, ⟨?_, (List.forall_mem_cons.2 ⟨rfl, (fun _ h => nomatch h)⟩)⟩, Sub.trans (Sub.keep _ (Sub.keep _ (Sub.keep _ (Sub.drop _ (Sub.nil []))))) (Sub.keep _ (Sub.keep _ (Sub.trans (Sub.keep _ (Sub.refl _)) (Sub.of_perm (List.perm_middle (l₁ := [_]))))))⟩
        · exact ⟨by show _ ≤ _; dsimp only; omega, _, ht.set hs _⟩
        · show _ < _; dsimp only; omega
        repeat (first | exact Out.refl _ _ | refine Out.put rfl ?_ | refine Out.puts rfl ?_ | refine Out.scr ?_ | refine Out.scr' rfl ?_)
      · refine S.opS rfl rfl (OpV.con0 Tryd.ent27 rfl (fun w hw => setF_R E tb mb height _ _ hh (xs.getD k act0).lt hs w (Rd.at 1 rfl w hw)) ?_)
        refine S.nil ?_
        refine TC.region ?_
        refine S.q rfl rfl (Qt.add (b := 1) rfl rfl (by simp only [kmax]; omega)) ?_
        refine S.q rfl rfl (Qt.move (by conv => lhs; whnf)) ?_
        refine S.nil ?_
        refine ⟨(k + 1, ms), ?_, ?_, ⟨?_, (List.forall_mem_cons.2 ⟨rfl, (fun _ h => nomatch h)⟩)⟩, Sub.trans (Sub.keep _ (Sub.keep _ (Sub.keep _ (Sub.drop _ (Sub.nil []))))) (Sub.trans (Sub.keep _ (Sub.trans (Sub.keep _ (Sub.trans (Sub.keep _ (Sub.refl _)) (Sub.of_perm (List.perm_middle (l₁ := [_]))))) (Sub.of_perm (List.perm_middle (l₁ := [_]))))) (Sub.of_perm (List.perm_middle (l₁ := [_]))))⟩
        · exact ⟨by show _ ≤ _; dsimp only; omega, g2, ht⟩
        · show _ < _; dsimp only; omega
        repeat (first | exact Out.refl _ _ | refine Out.put rfl ?_ | refine Out.puts rfl ?_ | refine Out.scr ?_ | refine Out.scr' rfl ?_)
    · refine S.nil ?_
      refine TC.seq ?_
      refine S.if_f rfl ?_
      refine TC.exit ?_
      refine TC.seq ?_
      refine TC.region ?_
      refine S.q rfl rfl (Qt.move (by conv => lhs; whnf)) ?_
      refine S.q rfl rfl (Qt.field Tryd.underlying75 rfl Tryd.cells24 rfl) ?_
      refine S.q rfl rfl (Qt.load rfl (Ld.one (Has.at 2 rfl) Tryd.one24 (rfl))) ?_
      refine S.q rfl rfl (Qt.field Tryd.underlying75 rfl Tryd.cells3 rfl) ?_
      refine S.q rfl rfl (Qt.load rfl (Ld.one (Has.at 2 rfl) Tryd.one3 (rfl))) ?_
      refine S.opS rfl rfl (OpV.con0 Tryd.ent47 rfl (fun w hw => Calls.ret (make_walkF2 E tb mb height f z hr w (Rd.at 0 rfl w hw))) ?_)
      refine S.q rfl rfl (Qt.move (by conv => lhs; whnf)) ?_
      refine S.q rfl rfl (Qt.extract rfl rfl) ?_
      refine S.q rfl rfl (Qt.extract rfl rfl) ?_
      refine S.opS rfl rfl (OpV.alloc Tryd.zero77 (fun b11 => ?_))
      refine S.opN rfl (OpV.storeV0 rfl (by conv => lhs; whnf) (by exact Tryd.cells77) (by rfl) (by rfl) ?_)
      refine S.q rfl rfl (Qt.assign (by conv => lhs; whnf)) ?_
      refine S.nil ?_
      refine TC.seq ?_
      refine TC.seq ?_
      refine TC.region ?_
      refine S.q rfl rfl (Qt.move (by conv => lhs; whnf)) ?_
      refine S.q rfl rfl (Qt.nenil_iface Tryd.underlying27 rfl) ?_
      refine S.nil ?_
      refine S.if_t rfl ?_
      refine TC.seq ?_
      refine TC.region ?_
      refine S.q rfl rfl (Qt.move (by conv => lhs; whnf)) ?_
      refine S.opS rfl rfl (OpV.con0 Tryd.ent35 rfl (fun w hw => is1 w) ?_)
      refine S.q rfl rfl (Qt.assign (by conv => lhs; whnf)) ?_
      refine S.nil ?_
      refine TC.ret ?_
      refine finQ.ret (RVs.tmp (by conv => lhs; whnf) RVs.nil) (Sub.nil _) ?_
      exact ⟨rfl, rfl⟩
  · refine S.qg rfl rfl rfl (Qt.move (by conv => lhs; whnf)) ?_
    refine S.pass rfl rfl ?_
    refine S.pass rfl rfl ?_
    refine S.pass rfl rfl ?_
    refine S.qg rfl rfl rfl (Qt.pick_f rfl (by conv => lhs; whnf)) ?_
    refine S.q rfl rfl (Qt.pick_f rfl (by conv => lhs; whnf)) ?_
    refine S.nil ?_
    refine S.if_f rfl ?_
    refine TC.skip ?_
    refine TC.seq ?_
    refine TC.region ?_
    refine S.q rfl rfl (Qt.move (by conv => lhs; whnf)) ?_
    refine S.opS rfl rfl (OpV.con (Pre := []) (R := _) Tryd.ent26 rfl (List.Perm.refl _) (fun w hw => new_walk E hEm height hh w (hT.at hw)) ?_)
    rintro v L' ⟨tb, mb, rfl, rfl⟩
    refine S.q rfl rfl (Qt.move (by conv => lhs; whnf)) ?_
    refine S.q rfl rfl (Qt.extract rfl rfl) ?_
    refine S.q rfl rfl (Qt.extract rfl rfl) ?_
    refine S.q rfl rfl (Qt.assign (by conv => lhs; whnf)) ?_
    refine S.q rfl rfl (Qt.assign (by conv => lhs; whnf)) ?_
    refine S.nil ?_
    refine TC.seq ?_
    refine TC.seq ?_
    refine TC.region ?_
    refine S.q rfl rfl (Qt.move (by conv => lhs; whnf)) ?_
    refine S.q rfl rfl (Qt.nenil_nil Tryd.underlying27 rfl) ?_
    refine S.nil ?_
    refine S.if_f rfl ?_
    refine TC.skip ?_
    refine TC.seq ?_
    refine TC.seq ?_
    refine TC.region ?_
    refine S.q rfl rfl (Qt.move (by conv => lhs; whnf)) ?_
    refine S.q rfl rfl (Qt.len_slice Tryd.underlying34 rfl) ?_
    refine S.q rfl rfl (Qt.move (by conv => lhs; whnf)) ?_
    refine S.nil ?_
    refine TC.block ?_
    refine TC.loop (γ := Nat × Tm) [43, 44, 45, 10, 46, 47, 48, 49, 50, 51, 52, 42] (fun g => [(42, .int .i64 ((g.1 : Nat) : Int))]) (fun g => [Blk tb 150 (treeCs E height mb), MapA mb encAt hv (g.2), Blk b5 75 [.int .u64 (f : Int), .int .i64 z]]) (fun g => g.1 ≤ xs.length ∧ ∃ g2, TreeOk E height g2 g.2) (fun g => xs.length - g.1) ((0, []))
      ⟨Nat.zero_le _, _, TreeOk.empty hE height⟩ ⟨Out.refl _ _, (List.forall_mem_cons.2 ⟨rfl, (fun _ h => nomatch h)⟩)⟩ (Sub.refl _) ?_
    rintro ⟨k, ms⟩ u ⟨hk, g2, ht⟩
    dsimp only at hk ht
    refine TC.seq ?_
    refine TC.region ?_
    refine S.dec rfl rfl (Qt.lt rfl rfl) (fun h43 => ?_) (fun h43 => ?_)
    · refine S.nil ?_
      refine TC.seq ?_
      refine S.if_t rfl ?_
      refine TC.skip ?_
      refine TC.seq ?_
      refine TC.block ?_
      refine TC.seq ?_
      refine TC.region ?_
      refine S.q rfl rfl (Qt.index Tryd.underlying34 Tryd.cells40 rfl rfl (by omega) (Has.ro hR) (by rw [acts_len]; omega)) ?_
      refine S.q rfl rfl (Qt.load rfl (Ld.slr (Has.ro hR) Tryd.row40 (by rw [actL_length]; exact Tryd.cells40) (by rw [actL_length]; decide) (acts_at h43))) ?_
      refine S.opS rfl rfl (OpV.alloc Tryd.zero40 (fun b10 => ?_))
      refine S.opN rfl (OpV.storeV0 (v := .agg (actL (xs.getD k act0)).toArray) rfl rfl (by rw [actL_vl]; exact Tryd.cells40) (actL_one _) (by rw [actL_vl]; rfl) ?_)
      refine S.nil ?_
      refine TC.region ?_
      refine S.q rfl rfl (Qt.move (by conv => lhs; whnf)) ?_
      refine S.q rfl rfl (Qt.field Tryd.underlying40 rfl Tryd.cells24 rfl) ?_
      refine S.q rfl rfl (Qt.load rfl (Ld.one (Has.at 0 rfl) Tryd.one24 (rfl))) ?_
      refine S.q rfl rfl (Qt.field Tryd.underlying40 rfl Tryd.cells23 rfl) ?_
      refine S.q rfl rfl (Qt.load rfl (Ld.row (vs := hvl (xs.getD k act0).h) (Has.at 0 rfl) Tryd.row23 (by rw [hvl_length]; exact Tryd.cells23) (actL_hash _))) ?_
      by_cases hs : (xs.getD k act0).i < 2 ^ height
      · refine S.opS rfl rfl (OpV.con (Pre := [Blk tb 150 (treeCs E height mb), MapA mb encAt hv (ms)]) (R := _) Tryd.ent27 rfl ((List.perm_middle (l₁ := [_])).trans (List.Perm.cons _ (List.perm_middle (l₁ := [_])))) (fun w hw => set_walk E tb mb height ms _ _ hh hs w hw.sat.left (hT.pre hw)) ?_)
        rintro v L' ⟨rfl, rfl⟩
        refine S.nil ?_
        refine TC.region ?_
        refine S.q rfl rfl (Qt.add (b := 1) rfl rfl (by simp only [kmax]; omega)) ?_
        refine S.q rfl rfl (Qt.move (by conv => lhs; whnf)) ?_
        refine S.nil ?_
        refine ⟨(k + 1, setK E ms (xs.getD k act0).i (xs.getD k act0).h height), ?_, ?_, ⟨?_, (List.forall_mem_cons.2 ⟨rfl, (fun _ h => nomatch h)⟩)⟩, Sub.trans (Sub.keep _ (Sub.keep _ (Sub.keep _ (Sub.drop _ (Sub.nil []))))) (Sub.keep _ (Sub.keep _ (Sub.trans (Sub.keep _ (Sub.refl _)) (Sub.of_perm (List.perm_middle (l₁ := [_]))))))⟩
        · exact ⟨by show _ ≤ _; dsimp only; omega, _, ht.set hs _⟩
        · show _ < _; dsimp only; omega
        repeat (first | exact Out.refl _ _ | refine Out.put rfl ?_ | refine Out.puts rfl ?_ | refine Out.scr ?_ | refine Out.scr' rfl ?_)
      · refine S.opS rfl rfl (OpV.con0 Tryd.ent27 rfl (fun w hw => setF_R E tb mb height _ _ hh (xs.getD k act0).lt hs w (Rd.at 1 rfl w hw)) ?_)
        refine S.nil ?_
        refine TC.region ?_
        refine S.q rfl rfl (Qt.add (b := 1) rfl rfl (by simp only [kmax]; omega)) ?_
        refine S.q rfl rfl (Qt.move (by conv => lhs; whnf)) ?_
        refine S.nil ?_
        refine ⟨(k + 1, ms), ?_, ?_, ⟨?_, (List.forall_mem_cons.2 ⟨rfl, (fun _ h => nomatch h)⟩)⟩, Sub.trans (Sub.keep _ (Sub.keep _ (Sub.keep _ (Sub.drop _ (Sub.nil []))))) (Sub.trans (Sub.keep _ (Sub.trans (Sub.keep _ (Sub.trans (Sub.keep _ (Sub.refl _)) (Sub.of_perm (List.perm_middle (l₁ := [_]))))) (Sub.of_perm (List.perm_middle (l₁ := [_]))))) (Sub.of_perm (List.perm_middle (l₁ := [_]))))⟩
        · exact ⟨by show _ ≤ _; dsimp only; omega, g2, ht⟩
        · show _ < _; dsimp only; omega
        repeat (first | exact Out.refl _ _ | refine Out.put rfl ?_ | refine Out.puts rfl ?_ | refine Out.scr ?_ | refine Out.scr' rfl ?_)
    · refine S.nil ?_
      refine TC.seq ?_
      refine S.if_f rfl ?_
      refine TC.exit ?_
      refine TC.seq ?_
      refine TC.region ?_
      refine S.q rfl rfl (Qt.move (by conv => lhs; whnf)) ?_
      refine S.q rfl rfl (Qt.field Tryd.underlying75 rfl Tryd.cells24 rfl) ?_
      refine S.q rfl rfl (Qt.load rfl (Ld.one (Has.at 2 rfl) Tryd.one24 (rfl))) ?_
      refine S.q rfl rfl (Qt.field Tryd.underlying75 rfl Tryd.cells3 rfl) ?_
      refine S.q rfl rfl (Qt.load rfl (Ld.one (Has.at 2 rfl) Tryd.one3 (rfl))) ?_
      refine S.opS rfl rfl (OpV.con0 Tryd.ent47 rfl (fun w hw => Calls.ret (make_walkF2 E tb mb height f z hr w (Rd.at 0 rfl w hw))) ?_)
      refine S.q rfl rfl (Qt.move (by conv => lhs; whnf)) ?_
      refine S.q rfl rfl (Qt.extract rfl rfl) ?_
      refine S.q rfl rfl (Qt.extract rfl rfl) ?_
      refine S.opS rfl rfl (OpV.alloc Tryd.zero77 (fun b11 => ?_))
      refine S.opN rfl (OpV.storeV0 rfl (by conv => lhs; whnf) (by exact Tryd.cells77) (by rfl) (by rfl) ?_)
      refine S.q rfl rfl (Qt.assign (by conv => lhs; whnf)) ?_
      refine S.nil ?_
      refine TC.seq ?_
      refine TC.seq ?_
      refine TC.region ?_
      refine S.q rfl rfl (Qt.move (by conv => lhs; whnf)) ?_
      refine S.q rfl rfl (Qt.nenil_iface Tryd.underlying27 rfl) ?_
      refine S.nil ?_
      refine S.if_t rfl ?_
      refine TC.seq ?_
      refine TC.region ?_
      refine S.q rfl rfl (Qt.move (by conv => lhs; whnf)) ?_
      refine S.opS rfl rfl (OpV.con0 Tryd.ent35 rfl (fun w hw => is1 w) ?_)
      refine S.q rfl rfl (Qt.assign (by conv => lhs; whnf)) ?_
      refine S.nil ?_
      refine TC.ret ?_
      refine finQ.ret (RVs.tmp (by conv => lhs; whnf) RVs.nil) (Sub.nil _) ?_
      exact ⟨rfl, rfl⟩
set_option maxHeartbeats 1600000 in
theorem law15_walk (E : Nat → H32) (hEm : ∀ w, Tabs 2 0 w [] → Calls Tryd.prog 88 #[] w (Ret w (.agg (hcs (emptL E)).toArray))) (hE : ∀ h, E (h + 1) = joinH (h + 1) (E h) (E h)) (height : Nat) (hh : height ≤ 32) (A : Option Addr) (c : Nat) (xs : List Go.E.Act) (hx : xs.length ≤ 25) (f : Nat) (hf64 : f < 18446744073709551616) (n : Nat) (h1 : 1 ≤ n) (h60 : n ≤ 60) (hf : f + n ≤ 2 ^ height) (w0 : World) (hR : Ro w0 [] (SlA A (xs.flatMap actL))) (hT : Tabs 2 0 w0 []) :
    Calls Tryd.prog 15 #[.int .i64 (height : Int), .slice A xs.length c, .agg #[.int .u64 (f : Int), .int .i64 (n : Int)]] w0 (Post w0 [] fun v L => v = .bool true ∧ L = []) := by
  refine Calls.of (L := []) (n := 126) (rs := [.tmp 6]) Tryd.func15 rfl rfl rfl (Nat.le_of_ble_eq_true rfl) (Sat.nil _) ?_
  have hsl := sideL_len f height
  have hsr := sideR_len (f + n - 1) height
  have h2 : n ≤ 256 := by omega
  have hpw : 2 ^ height ≤ 2 ^ 32 := Nat.pow_le_pow_right (by decide) hh
  have hf32 : f + n ≤ 2 ^ 32 := Nat.le_trans hf hpw
  have hi : idxOk height (idxF f n) := idxF_ok h1 h2 hf
  have hlow : ∀ x ∈ idxF f n, x < 18446744073709551616 := fun x hx => Nat.lt_of_lt_of_le (Nat.lt_of_lt_of_le (idxF_mem.1 hx).2 hf32) (by decide)
  refine TC.seq ?_
  refine TC.region ?_
  refine S.opS rfl rfl (OpV.box (v := .agg #[.int .u64 (f : Int), .int .i64 (n : Int)]) rfl (fun b5 => ?_))
  refine S.q rfl rfl (Qt.assign (by conv => lhs; whnf)) ?_
  refine S.nil ?_
  refine TC.seq ?_
  refine TC.seq ?_
  refine TC.region ?_
  refine S.opS rfl rfl (OpV.con0 Tryd.ent44 rfl (fun w hw => Calls.ret (alive11_walk E hEm hE w (hT.at hw))) ?_)
  refine S.q rfl rfl (Qt.not_t rfl) ?_
  refine S.nil ?_
  refine S.if_f rfl ?_
  refine TC.skip ?_
  refine TC.seq ?_
  refine TC.seq ?_
  refine TC.region ?_
  refine S.q rfl rfl (Qt.move (by conv => lhs; whnf)) ?_
  refine S.q rfl rfl (Qt.len_slice Tryd.underlying34 rfl) ?_
  refine S.q rfl rfl (Qt.dF (Qt.gt (b := 25) rfl rfl) (by omega)) ?_
  refine S.q rfl rfl (Qt.move (by conv => lhs; whnf)) ?_
  refine S.qg rfl rfl rfl (Qt.field Tryd.underlying75 rfl Tryd.cells3 rfl) ?_
  refine S.qg rfl rfl rfl (Qt.load rfl (Ld.one (Has.at 0 rfl) Tryd.one3 (rfl))) ?_
  refine S.qg rfl rfl rfl (Qt.dF (Qt.gt (b := 60) rfl rfl) (by omega)) ?_
  refine S.qg rfl rfl rfl (Qt.move (by conv => lhs; whnf)) ?_
  refine S.pass rfl rfl ?_
  refine S.pass rfl rfl ?_
  refine S.pass rfl rfl ?_
  refine S.qg rfl rfl rfl (Qt.pick_f rfl (by conv => lhs; whnf)) ?_
  refine S.q rfl rfl (Qt.pick_f rfl (by conv => lhs; whnf)) ?_
  refine S.nil ?_
  refine S.if_f rfl ?_
  refine TC.skip ?_
  refine TC.seq ?_
  refine TC.region ?_
  refine S.q rfl rfl (Qt.move (by conv => lhs; whnf)) ?_
  refine S.opS rfl rfl (OpV.con (Pre := []) (R := _) Tryd.ent26 rfl (List.Perm.refl _) (fun w hw => new_walk E hEm height hh w (hT.at hw)) ?_)
  rintro v L' ⟨tb, mb, rfl, rfl⟩
  refine S.q rfl rfl (Qt.move (by conv => lhs; whnf)) ?_
  refine S.q rfl rfl (Qt.extract rfl rfl) ?_
  refine S.q rfl rfl (Qt.extract rfl rfl) ?_
  refine S.q rfl rfl (Qt.assign (by conv => lhs; whnf)) ?_
  refine S.q rfl rfl (Qt.assign (by conv => lhs; whnf)) ?_
  refine S.nil ?_
  refine TC.seq ?_
  refine TC.seq ?_
  refine TC.region ?_
  refine S.q rfl rfl (Qt.move (by conv => lhs; whnf)) ?_
  refine S.q rfl rfl (Qt.nenil_nil Tryd.underlying27 rfl) ?_
  refine S.nil ?_
  refine S.if_f rfl ?_
  refine TC.skip ?_
  refine TC.seq ?_
  refine TC.seq ?_
  refine TC.region ?_
  refine S.q rfl rfl (Qt.move (by conv => lhs; whnf)) ?_
  refine S.q rfl rfl (Qt.len_slice Tryd.underlying34 rfl) ?_
  refine S.q rfl rfl (Qt.move (by conv => lhs; whnf)) ?_
  refine S.nil ?_
  refine TC.block ?_
  refine TC.loop (γ := Nat × Tm) [43, 44, 45, 10, 46, 47, 48, 49, 50, 51, 52, 42] (fun g => [(42, .int .i64 ((g.1 : Nat) : Int))]) (fun g => [Blk tb 150 (treeCs E height mb), MapA mb encAt hv (g.2), Blk b5 75 [.int .u64 (f : Int), .int .i64 (n : Int)]]) (fun g => g.1 ≤ xs.length ∧ ∃ g2, TreeOk E height g2 g.2) (fun g => xs.length - g.1) ((0, []))
    ⟨Nat.zero_le _, _, TreeOk.empty hE height⟩ ⟨Out.refl _ _, (List.forall_mem_cons.2 ⟨rfl, (fun _ h => nomatch h)⟩)⟩ (Sub.refl _) ?_
  rintro ⟨k, ms⟩ u ⟨hk, g2, ht⟩
  dsimp only at hk ht
  refine TC.seq ?_
  refine TC.region ?_
  refine S.dec rfl rfl (Qt.lt rfl rfl) (fun h43 => ?_) (fun h43 => ?_)
  · refine S.nil ?_
    refine TC.seq ?_
    refine S.if_t rfl ?_
    refine TC.skip ?_
    refine TC.seq ?_
    refine TC.block ?_
    refine TC.seq ?_
    refine TC.region ?_
    refine S.q rfl rfl (Qt.index Tryd.underlying34 Tryd.cells40 rfl rfl (by omega) (Has.ro hR) (by rw [acts_len]; omega)) ?_
    refine S.q rfl rfl (Qt.load rfl (Ld.slr (Has.ro hR) Tryd.row40 (by rw [actL_length]; exact Tryd.cells40) (by rw [actL_length]; decide) (acts_at h43))) ?_
    refine S.opS rfl rfl (OpV.alloc Tryd.zero40 (fun b10 => ?_))
    refine S.opN rfl (OpV.storeV0 (v := .agg (actL (xs.getD k act0)).toArray) rfl rfl (by rw [actL_vl]; exact Tryd.cells40) (actL_one _) (by rw [actL_vl]; rfl) ?_)
    refine S.nil ?_
    refine TC.region ?_
    refine S.q rfl rfl (Qt.move (by conv => lhs; whnf)) ?_
    refine S.q rfl rfl (Qt.field Tryd.underlying40 rfl Tryd.cells24 rfl) ?_
    refine S.q rfl rfl (Qt.load rfl (Ld.one (Has.at 0 rfl) Tryd.one24 (rfl))) ?_
    refine S.q rfl rfl (Qt.field Tryd.underlying40 rfl Tryd.cells23 rfl) ?_
    refine S.q rfl rfl (Qt.load rfl (Ld.row (vs := hvl (xs.getD k act0).h) (Has.at 0 rfl) Tryd.row23 (by rw [hvl_length]; exact Tryd.cells23) (actL_hash _))) ?_
    by_cases hs : (xs.getD k act0).i < 2 ^ height
    · refine S.opS rfl rfl (OpV.con (Pre := [Blk tb 150 (treeCs E height mb), MapA mb encAt hv (ms)]) (R := _) Tryd.ent27 rfl ((List.perm_middle (l₁ := [_])).trans (List.Perm.cons _ (List.perm_middle (l₁ := [_])))) (fun w hw => set_walk E tb mb height ms _ _ hh hs w hw.sat.left (hT.pre hw)) ?_)
      rintro v L' ⟨rfl, rfl⟩
      refine S.nil ?_
      refine TC.region ?_
      refine S.q rfl rfl (Qt.add (b := 1) rfl rfl (by simp only [kmax]; omega)) ?_
      refine S.q rfl rfl (Qt.move (by conv => lhs; whnf)) ?_
      refine S.nil ?_
      refine ⟨(k + 1, setK E ms (xs.getD k act0).i (xs.getD k act0).h height), ?_, ?_, ⟨?_, (List.forall_mem_cons.2 ⟨rfl, (fun _ h => nomatch h)⟩)⟩, Sub.trans (Sub.keep _ (Sub.keep _ (Sub.keep _ (Sub.drop _ (Sub.nil []))))) (Sub.keep _ (Sub.keep _ (Sub.trans (Sub.keep _ (Sub.refl _)) (Sub.of_perm (List.perm_middle (l₁ := [_]))))))⟩
      · exact ⟨by show _ ≤ _; dsimp only; omega, _, ht.set hs _⟩
      · show _ < _; dsimp only; omega
      repeat (first | exact Out.refl _ _ | refine Out.put rfl ?_ | refine Out.puts rfl ?_ | refine Out.scr ?_ | refine Out.scr' rfl ?_)
    · refine S.opS rfl rfl (OpV.con0 Tryd.ent27 rfl (fun w hw => setF_R E tb mb height _ _ hh (xs.getD k act0).lt hs w (Rd.at 1 rfl w hw)) ?_)
      refine S.nil ?_
      refine TC.region ?_
      refine S.q rfl rfl (Qt.add (b := 1) rfl rfl (by simp only [kmax]; omega)) ?_
      refine S.q rfl rfl (Qt.move (by conv => lhs; whnf)) ?_
      refine S.nil ?_
      refine ⟨(k + 1, ms), ?_, ?_, ⟨?_, (List.forall_mem_cons.2 ⟨rfl, (fun _ h => nomatch h)⟩)⟩, Sub.trans (Sub.keep _ (Sub.keep _ (Sub.keep _ (Sub.drop _ (Sub.nil []))))) (Sub.trans (Sub.keep _ (Sub.trans (Sub.keep _ (Sub.trans (Sub.keep _ (Sub.refl _)) (Sub.of_perm (List.perm_middle (l₁ := [_]))))) (Sub.of_perm (List.perm_middle (l₁ := [_]))))) (Sub.of_perm (List.perm_middle (l₁ := [_]))))⟩
      · exact ⟨by show _ ≤ _; dsimp only; omega, g2, ht⟩
      · show _ < _; dsimp only; omega
      repeat (first | exact Out.refl _ _ | refine Out.put rfl ?_ | refine Out.puts rfl ?_ | refine Out.scr ?_ | refine Out.scr' rfl ?_)
  · refine S.nil ?_
    refine TC.seq ?_
    refine S.if_f rfl ?_
    refine TC.exit ?_
    refine TC.seq ?_
    refine TC.region ?_
    refine S.q rfl rfl (Qt.move (by conv => lhs; whnf)) ?_
    refine S.q rfl rfl (Qt.field Tryd.underlying75 rfl Tryd.cells24 rfl) ?_
    refine S.q rfl rfl (Qt.load rfl (Ld.one (Has.at 2 rfl) Tryd.one24 (rfl))) ?_
    refine S.q rfl rfl (Qt.field Tryd.underlying75 rfl Tryd.cells3 rfl) ?_
    refine S.q rfl rfl (Qt.load rfl (Ld.one (Has.at 2 rfl) Tryd.one3 (rfl))) ?_
    refine S.opS rfl rfl (OpV.con (Pre := []) (R := _) Tryd.ent47 rfl (List.Perm.refl _) (fun w hw => make_walk E tb mb height ms f n hh hf64 hf h1 h2 w (Rd.at 0 rfl w hw) (Rd.at 1 rfl w hw)) ?_)
    rintro v L' ⟨Ol, c1, Or, d1, rfl, rfl⟩
    refine S.q rfl rfl (Qt.move (by conv => lhs; whnf)) ?_
    refine S.q rfl rfl (Qt.extract rfl rfl) ?_
    refine S.q rfl rfl (Qt.extract rfl rfl) ?_
    refine S.opS rfl rfl (OpV.alloc Tryd.zero77 (fun b11 => ?_))
    refine S.opN rfl (OpV.storeV0 rfl (by conv => lhs; whnf) (by exact Tryd.cells77) (by rfl) (by rfl) ?_)
    refine S.q rfl rfl (Qt.assign (by conv => lhs; whnf)) ?_
    refine S.nil ?_
    refine TC.seq ?_
    refine TC.seq ?_
    refine TC.region ?_
    refine S.q rfl rfl (Qt.move (by conv => lhs; whnf)) ?_
    refine S.q rfl rfl (Qt.nenil_nil Tryd.underlying27 rfl) ?_
    refine S.nil ?_
    refine S.if_f rfl ?_
    refine TC.skip ?_
    refine TC.seq ?_
    refine TC.region ?_
    refine S.q rfl rfl (Qt.field Tryd.underlying75 rfl Tryd.cells24 rfl) ?_
    refine S.q rfl rfl (Qt.load rfl (Ld.one (Has.at 5 rfl) Tryd.one24 (rfl))) ?_
    refine S.q rfl rfl (Qt.field Tryd.underlying75 rfl Tryd.cells3 rfl) ?_
    refine S.q rfl rfl (Qt.load rfl (Ld.one (Has.at 5 rfl) Tryd.one3 (rfl))) ?_
    refine S.opS rfl rfl (OpV.con (Pre := []) (R := _) Tryd.ent45 rfl (List.Perm.refl _) (fun w hw => (indices_walk f n h1 h2 hf32 w : Calls Tryd.prog 45 #[.int .u64 (f : Int), .int .i64 (n : Int)] w (Post w [] fun v L => ∃ O d, v = .slice O n d ∧ L = [OwnA 24 1 O n d (u64s (idxF f n))]))) ?_)
    rintro v L' ⟨O, d, rfl, rfl⟩
    refine S.q rfl rfl (Qt.assign (by conv => lhs; whnf)) ?_
    refine S.nil ?_
    refine TC.seq ?_
    refine TC.region ?_
    refine S.q rfl rfl (Qt.move (by conv => lhs; whnf)) ?_
    refine S.q rfl rfl (Qt.move (by conv => lhs; whnf)) ?_
    refine S.opS rfl rfl (OpV.con (Pre := []) (R := _) Tryd.ent64 rfl (List.Perm.refl _) (fun w hw => (by have q := leaves10_walk E tb mb height ms hh O d (idxF f n) hi w (Rd.at 4 rfl w hw) (Rd.at 5 rfl w hw) hlow (Rd.own (Rd.at 0 rfl) w hw); rw [idxF_len] at q; exact q : Calls Tryd.prog 64 #[.pointer (some ⟨tb, 0, none⟩), .slice O n d] w (Post w [] fun v L => ∃ O d, v = .tuple #[.slice O n d, .nilIface] ∧ L = [OwnA 23 32 O n d (hcs ((idxF f n).map (fun x => getT E ms (0, x))))]))) ?_)
    rintro v L' ⟨O2, d2, rfl, rfl⟩
    refine S.q rfl rfl (Qt.move (by conv => lhs; whnf)) ?_
    refine S.q rfl rfl (Qt.extract rfl rfl) ?_
    refine S.q rfl rfl (Qt.extract rfl rfl) ?_
    refine S.q rfl rfl (Qt.assign (by conv => lhs; whnf)) ?_
    refine S.q rfl rfl (Qt.assign (by conv => lhs; whnf)) ?_
    refine S.nil ?_
    refine TC.seq ?_
    refine TC.region ?_
    refine S.q rfl rfl (Qt.move (by conv => lhs; whnf)) ?_
    refine S.q rfl rfl (Qt.move (by conv => lhs; whnf)) ?_
    refine S.opS rfl rfl (OpV.con0 (⟨_, Tryd.func65, by kernel_rfl, rfl⟩ : Enters Tryd.prog 65) rfl (fun w hw => (by have k1 := own_cap (hw.ok (List.mem_of_getElem? (i := 1) rfl)); have q := Calls.ret (count10_walk height hh O d (idxF f n) (by rw [idxF_len]; exact k1.1) hi w hlow (Rd.own (Rd.at 1 rfl) w hw)); rw [idxF_len, span_count h1 hf] at q; exact q : Calls Tryd.prog 65 #[.int .i64 (height : Int), .slice O n d] w (Ret w (.tuple #[.int .i64 (((sideL f height).length + (sideR (f + n - 1) height).length : Nat) : Int), .nilIface])))) ?_)
    refine S.q rfl rfl (Qt.move (by conv => lhs; whnf)) ?_
    refine S.q rfl rfl (Qt.extract rfl rfl) ?_
    refine S.q rfl rfl (Qt.extract rfl rfl) ?_
    refine S.q rfl rfl (Qt.assign (by conv => lhs; whnf)) ?_
    refine S.q rfl rfl (Qt.assign (by conv => lhs; whnf)) ?_
    refine S.nil ?_
    refine TC.seq ?_
    refine S.draw ([], []) Tryd.mixed (Sub.nil _) ?_
    refine D.qX (k := 0) rfl (by kernel_rfl) (by kernel_rfl) (by kernel_rfl) rfl rfl (Qt.move (by conv => lhs; whnf)) ?_
    refine D.qX (k := 1) rfl (by kernel_rfl) (by kernel_rfl) (by kernel_rfl) rfl rfl (Qt.eqnil_nil Tryd.underlying27 rfl) ?_
    refine D.qX (k := 2) rfl (by kernel_rfl) (by kernel_rfl) (by kernel_rfl) rfl rfl (Qt.move (by conv => lhs; whnf)) ?_
    refine D.qgX (k := 3) rfl (by kernel_rfl) (by kernel_rfl) (by kernel_rfl) rfl rfl rfl (Qt.move (by conv => lhs; whnf)) ?_
    refine D.qgX (k := 4) rfl (by kernel_rfl) (by kernel_rfl) (by kernel_rfl) rfl rfl rfl (Qt.eqnil_nil Tryd.underlying27 rfl) ?_
    refine D.qX (k := 5) rfl (by kernel_rfl) (by kernel_rfl) (by kernel_rfl) rfl rfl (Qt.pick_t rfl (by conv => lhs; whnf)) ?_
    refine D.qX (k := 6) rfl (by kernel_rfl) (by kernel_rfl) (by kernel_rfl) rfl rfl (Qt.move (by conv => lhs; whnf)) ?_
    refine D.qgX (k := 7) rfl (by kernel_rfl) (by kernel_rfl) (by kernel_rfl) rfl rfl rfl (Qt.move (by conv => lhs; whnf)) ?_
    refine D.qgX (k := 8) rfl (by kernel_rfl) (by kernel_rfl) (by kernel_rfl) rfl rfl rfl (Qt.len_slice Tryd.underlying71 rfl) ?_
    refine D.qgX (k := 9) rfl (by kernel_rfl) (by kernel_rfl) (by kernel_rfl) rfl rfl rfl (Qt.field Tryd.underlying75 rfl Tryd.cells3 rfl) ?_
    refine D.qgX (k := 10) rfl (by kernel_rfl) (by kernel_rfl) (by kernel_rfl) rfl rfl rfl (Qt.load rfl (Ld.one (Has.at 7 rfl) Tryd.one3 (rfl))) ?_
    refine D.qgX (k := 11) rfl (by kernel_rfl) (by kernel_rfl) (by kernel_rfl) rfl rfl rfl (Qt.dT (Qt.eq rfl rfl) (rfl)) ?_
    refine D.qX (k := 12) rfl (by kernel_rfl) (by kernel_rfl) (by kernel_rfl) rfl rfl (Qt.pick_t rfl (by conv => lhs; whnf)) ?_
    refine D.qX (k := 13) rfl (by kernel_rfl) (by kernel_rfl) (by kernel_rfl) rfl rfl (Qt.move (by conv => lhs; whnf)) ?_
    refine D.qgX (k := 14) rfl (by kernel_rfl) (by kernel_rfl) (by kernel_rfl) rfl rfl rfl (Qt.move (by conv => lhs; whnf)) ?_
    refine D.qgX (k := 15) rfl (by kernel_rfl) (by kernel_rfl) (by kernel_rfl) rfl rfl rfl (Qt.index (i := 0) Tryd.underlying71 Tryd.cells24 rfl rfl (by omega) (Has.own (Has.at 1 rfl)) (by show 0 * 1 < (u64s (idxF f n)).length; rw [idxF_u64]; omega)) ?_
    refine D.qgX (k := 16) rfl (by kernel_rfl) (by kernel_rfl) (by kernel_rfl) rfl rfl rfl (Qt.load rfl (Ld.sl (v := .int .u64 (f : Int)) (Has.own (Has.at 1 rfl)) Tryd.one24 (idxF_at (by omega)))) ?_
    refine D.qgX (k := 17) rfl (by kernel_rfl) (by kernel_rfl) (by kernel_rfl) rfl rfl rfl (Qt.field Tryd.underlying75 rfl Tryd.cells24 rfl) ?_
    refine D.qgX (k := 18) rfl (by kernel_rfl) (by kernel_rfl) (by kernel_rfl) rfl rfl rfl (Qt.load rfl (Ld.one (Has.at 7 rfl) Tryd.one24 (rfl))) ?_
    refine D.qgX (k := 19) rfl (by kernel_rfl) (by kernel_rfl) (by kernel_rfl) rfl rfl rfl (Qt.dT (Qt.eq rfl rfl) (rfl)) ?_
    refine D.qX (k := 20) rfl (by kernel_rfl) (by kernel_rfl) (by kernel_rfl) rfl rfl (Qt.pick_t rfl (by conv => lhs; whnf)) ?_
    refine D.qX (k := 21) rfl (by kernel_rfl) (by kernel_rfl) (by kernel_rfl) rfl rfl (Qt.move (by conv => lhs; whnf)) ?_
    refine D.qgX (k := 22) rfl (by kernel_rfl) (by kernel_rfl) (by kernel_rfl) rfl rfl rfl (Qt.move (by conv => lhs; whnf)) ?_
    refine D.qgX (k := 23) rfl (by kernel_rfl) (by kernel_rfl) (by kernel_rfl) rfl rfl rfl (Qt.field Tryd.underlying77 rfl Tryd.cells44 rfl) ?_
    refine D.qgX (k := 24) rfl (by kernel_rfl) (by kernel_rfl) (by kernel_rfl) rfl rfl rfl (Qt.load rfl (Ld.one (Has.at 2 rfl) Tryd.one44 (rfl))) ?_
    refine D.qgX (k := 25) rfl (by kernel_rfl) (by kernel_rfl) (by kernel_rfl) rfl rfl rfl (Qt.len_slice Tryd.underlying44 rfl) ?_
    refine D.qgX (k := 26) rfl (by kernel_rfl) (by kernel_rfl) (by kernel_rfl) rfl rfl rfl (Qt.field Tryd.underlying77 rfl Tryd.cells44 rfl) ?_
    refine D.qgX (k := 27) rfl (by kernel_rfl) (by kernel_rfl) (by kernel_rfl) rfl rfl rfl (Qt.load rfl (Ld.one (Has.at 2 rfl) Tryd.one44 (rfl))) ?_
    refine D.qgX (k := 28) rfl (by kernel_rfl) (by kernel_rfl) (by kernel_rfl) rfl rfl rfl (Qt.len_slice Tryd.underlying44 rfl) ?_
    refine D.qgX (k := 29) rfl (by kernel_rfl) (by kernel_rfl) (by kernel_rfl) rfl rfl rfl (Qt.add rfl rfl (by simp only [kmax]; omega)) ?_
    refine D.qgX (k := 30) rfl (by kernel_rfl) (by kernel_rfl) (by kernel_rfl) rfl rfl rfl (Qt.dT (Qt.eq rfl rfl) (rfl)) ?_
    refine D.qX (k := 31) rfl (by kernel_rfl) (by kernel_rfl) (by kernel_rfl) rfl rfl (Qt.pick_t rfl (by conv => lhs; whnf)) ?_
    refine D.qX (k := 32) rfl (by kernel_rfl) (by kernel_rfl) (by kernel_rfl) rfl rfl (Qt.move (by conv => lhs; whnf)) ?_
    refine D.qgX (k := 33) rfl (by kernel_rfl) (by kernel_rfl) (by kernel_rfl) rfl rfl rfl (Qt.move (by conv => lhs; whnf)) ?_
    refine D.cgX (k := 34) rfl (by kernel_rfl) (by kernel_rfl) (by kernel_rfl) rfl rfl rfl (CalU.con0 Tryd.ent28 rfl (fun w hw => root_R E tb mb height ms hh w (Rd.at 5 rfl w hw) (Rd.at 6 rfl w hw))) ?_
    refine D.qgX (k := 35) rfl (by kernel_rfl) (by kernel_rfl) (by kernel_rfl) rfl rfl rfl (Qt.move (by conv => lhs; whnf)) ?_
    refine D.qgX (k := 36) rfl (by kernel_rfl) (by kernel_rfl) (by kernel_rfl) rfl rfl rfl (Qt.field Tryd.underlying75 rfl Tryd.cells24 rfl) ?_
    refine D.qgX (k := 37) rfl (by kernel_rfl) (by kernel_rfl) (by kernel_rfl) rfl rfl rfl (Qt.load rfl (Ld.one (Has.at 7 rfl) Tryd.one24 (rfl))) ?_
    refine D.qgX (k := 38) rfl (by kernel_rfl) (by kernel_rfl) (by kernel_rfl) rfl rfl rfl (Qt.move (by conv => lhs; whnf)) ?_
    refine D.qgX (k := 39) rfl (by kernel_rfl) (by kernel_rfl) (by kernel_rfl) rfl rfl rfl (Qt.load rfl (Ld.all (Has.at 2 rfl) Tryd.row77 (Tryd.cells77))) ?_
    refine D.cgX (k := 40) rfl (by kernel_rfl) (by kernel_rfl) (by kernel_rfl) rfl rfl rfl (CalU.con0 Tryd.ent75 rfl (fun w hw => (by have k1 := own_cap (hw.ok (List.mem_of_getElem? (i := 3) rfl)); have k2 := own_cap (hw.ok (List.mem_of_getElem? (i := 4) rfl)); have q := schk_R (getT E ms (height, 0)) (height : Int) f hf64 O2 d2 ((idxF f n).map (fun x => getT E ms (0, x))) Ol c1 ((sideL f height).map (fun a => getT E ms a)) Or d1 ((sideR (f + n - 1) height).map (fun a => getT E ms a)) (by rw [List.length_map]; exact k1.1) (by rw [List.length_map]; exact k2.1) w (Rd.own (Rd.at 0 rfl) w hw) (Rd.own (Rd.at 3 rfl) w hw) (Rd.own (Rd.at 4 rfl) w hw) (hT.at hw); rw [span_tree hh ht h1 h2 hf] at q; simp only [List.length_map, idxF_len] at q; exact q : Calls Tryd.prog 75 #[hv (getT E ms (height, 0)), .int .i64 (height : Int), .int .u64 (f : Int), .slice O2 n d2, .agg #[.slice Ol (sideL f height).length c1, .slice Or (sideR (f + n - 1) height).length d1]] w (Ret w .nilIface)))) ?_
    refine D.qgX (k := 41) rfl (by kernel_rfl) (by kernel_rfl) (by kernel_rfl) rfl rfl rfl (Qt.eqnil_nil Tryd.underlying27 rfl) ?_
    refine D.qX (k := 42) rfl (by kernel_rfl) (by kernel_rfl) (by kernel_rfl) rfl rfl (Qt.pick_t rfl (by conv => lhs; whnf)) ?_
    refine D.qX (k := 43) rfl (by kernel_rfl) (by kernel_rfl) (by kernel_rfl) rfl rfl (Qt.assign (by conv => lhs; whnf)) ?_
    refine D.done (Sub.nil _) (by kernel_rfl) ?_
    refine TC.ret ?_
    refine finQ.ret (RVs.tmp (by conv => lhs; whnf) RVs.nil) (Sub.nil _) ?_
    exact ⟨rfl, rfl⟩
theorem spanBack_R (y : Int) (A : Option Addr) (c : Nat) (xs : List Go.E.Act) (f : Nat) (hf64 : f < 18446744073709551616) (m : Int) (w0 : World) (hR : Ro w0 [] (SlA A (xs.flatMap actL))) (hT : Tabs 2 0 w0 []) : Calls Tryd.prog 15 #[.int .i64 y, .slice A xs.length c, .agg #[.int .u64 (f : Int), .int .i64 m]] w0 (Post w0 [] fun v L => v = .bool true ∧ L = []) := by
  have hEm : ∀ w, Tabs 2 0 w [] → Calls Tryd.prog 88 #[] w (Ret w (.agg (hcs (emptL emptyH)).toArray)) := fun w h => empties_R w h
  have hE : ∀ h, emptyH (h + 1) = joinH (h + 1) (emptyH h) (emptyH h) := fun _ => rfl
  by_cases hx : 25 < xs.length
  · exact law15_walkE1 emptyH hEm hE y A c xs f m hx w0 hT
  · by_cases hm : 60 < m ∧ m ≤ 256
    · obtain ⟨n, rfl⟩ : ∃ n : Nat, m = (n : Int) := ⟨m.toNat, by omega⟩
      exact law15_walkE2 emptyH hEm hE y A c xs f n (by omega) (by omega) (by omega) w0 hT
    · by_cases hz : y < 0 ∨ 32 < y
      · exact law15_walkZ emptyH hEm hE y A c xs f m (by omega) hz (by omega) w0 hT
      · obtain ⟨height, rfl⟩ : ∃ n : Nat, y = (n : Int) := ⟨y.toNat, by omega⟩
        have hh : height ≤ 32 := by omega
        by_cases h1 : m < 1 ∨ 256 < m
        · exact law15_walkF emptyH hEm hE height hh A c xs (by omega) f hf64 m (by omega) (fun w => rightF_R height f m h1 hh w) w0 hR hT
        · obtain ⟨n, rfl⟩ : ∃ n : Nat, m = (n : Int) := ⟨m.toNat, by omega⟩
          by_cases hf : f + n ≤ 2 ^ height
          · exact law15_walk emptyH hEm hE height hh A c xs (by omega) f hf64 n (by omega) (by omega) hf w0 hR hT
          · exact law15_walkF emptyH hEm hE height hh A c xs (by omega) f hf64 n (by omega) (fun w => by have k := right_R height f n hh hf64 (by omega) (by omega) w; rw [decide_eq_false hf] at k; exact k) w0 hR hT

end Go.Proofs.YtlneklemjfefpaaDoor
