/-
  Walks: the tree of the program. Printed by a program of ours.
-/
import Derived.Test.YtlneklemjfefpaaDoorTD
import Derived.Test.YtlneklemjfefpaaDoorTK
namespace Go.Proofs.YtlneklemjfefpaaDoor
open Go.E
set_option linter.unusedVariables false
set_option maxRecDepth 4000
theorem Tryd.cells24 : (Tryd.prog.info? 24).map (·.size) = some 1 := by kernel_rfl
theorem Tryd.one24 : oneT Tryd.prog 24 = true := by kernel_rfl
theorem Tryd.cells148 : (Tryd.prog.info? 148).map (·.size) = some 1 := by kernel_rfl
theorem Tryd.one148 : oneT Tryd.prog 148 = true := by kernel_rfl
theorem Tryd.cells153 : (Tryd.prog.info? 153).map (·.size) = some 2 := by kernel_rfl
theorem Tryd.row153 : rowT Tryd.prog 153 = true := by kernel_rfl
theorem Tryd.zero150 : zeroOf Tryd.prog 150 = some ([.int .i64 0] ++ [.map none] ++ (List.replicate 1056 (.int .u8 0))) := by kernel_rfl
theorem Tryd.ent92 : Enters Tryd.prog 92 := ⟨_, Tryd.func92, by kernel_rfl, rfl⟩
theorem Tryd.ent93 : Enters Tryd.prog 93 := ⟨_, Tryd.func93, by kernel_rfl, rfl⟩
theorem Tryd.ent94 : Enters Tryd.prog 94 := ⟨_, Tryd.func94, by kernel_rfl, rfl⟩
theorem Tryd.keyAt : KeyLaw Tryd.prog 153 encAt := Go.E.keyAt Tryd.underlying153 (by decide) (by decide) rfl rfl Tryd.underlying3 Tryd.underlying24 (by kernel_rfl)
theorem Tryd.zv23 : zero1 Tryd.prog 23 = some (hv zeroH) := by kernel_rfl
theorem Tryd.buildAt (l p : Nat) (w : World) : (Instr.build 153 #[(0, .int .i64 (l : Int)), (1, .int .u64 (p : Int))]).run Tryd.prog w = .ok (encAt (l, p)) w := by kernel_rfl
set_option maxHeartbeats 400000 in
theorem has_walk (E : Nat → H32) (tb mb height l p : Nat) (hh : height ≤ 32) (hp : p < 18446744073709551616) (w0 : World) (hB : Ro w0 [] (Blk tb 150 (treeCs E height mb))) :
    Calls Tryd.prog 92 #[.pointer (some ⟨tb, 0, none⟩), encAt (l, p)] w0 (Post w0 [] fun v L => v = .bool (decide (okAt height (l, p))) ∧ L = []) := by
  refine Calls.of (L := []) (n := 30) (rs := [.tmp 4]) Tryd.func92 rfl rfl rfl (Nat.le_of_ble_eq_true rfl) (Sat.nil _) ?_
  refine TC.seq ?_
  refine TC.region ?_
  refine S.opS rfl rfl (OpV.box (v := encAt (l, p)) rfl (fun b3 => ?_))
  refine S.q rfl rfl (Qt.assign (by conv => lhs; whnf)) ?_
  refine S.nil ?_
  refine TC.seq ?_
  refine S.draw ([], []) Tryd.mixed (Sub.nil _) ?_
  refine D.qX (k := 0) rfl (by kernel_rfl) (by kernel_rfl) (by kernel_rfl) rfl rfl (Qt.field Tryd.underlying153 rfl Tryd.cells3 rfl) ?_
  refine D.qX (k := 1) rfl (by kernel_rfl) (by kernel_rfl) (by kernel_rfl) rfl rfl (Qt.load rfl (Ld.one (Has.at 0 rfl) Tryd.one3 (rfl))) ?_
  refine D.qX (k := 2) rfl (by kernel_rfl) (by kernel_rfl) (by kernel_rfl) rfl rfl (Qt.dT (Qt.ge (b := 0) rfl rfl) (by omega)) ?_
  refine D.qX (k := 3) rfl (by kernel_rfl) (by kernel_rfl) (by kernel_rfl) rfl rfl (Qt.move (by conv => lhs; whnf)) ?_
  refine D.qgX (k := 4) rfl (by kernel_rfl) (by kernel_rfl) (by kernel_rfl) rfl rfl rfl (Qt.field Tryd.underlying153 rfl Tryd.cells3 rfl) ?_
  refine D.qgX (k := 5) rfl (by kernel_rfl) (by kernel_rfl) (by kernel_rfl) rfl rfl rfl (Qt.load rfl (Ld.one (Has.at 0 rfl) Tryd.one3 (rfl))) ?_
  refine D.qgX (k := 6) rfl (by kernel_rfl) (by kernel_rfl) (by kernel_rfl) rfl rfl rfl (Qt.move (by conv => lhs; whnf)) ?_
  refine D.qgX (k := 7) rfl (by kernel_rfl) (by kernel_rfl) (by kernel_rfl) rfl rfl rfl (Qt.nilCheck rfl) ?_
  refine D.qgX (k := 8) rfl (by kernel_rfl) (by kernel_rfl) (by kernel_rfl) rfl rfl rfl (Qt.field Tryd.underlying150 rfl Tryd.cells3 rfl) ?_
  refine D.qgX (k := 9) rfl (by kernel_rfl) (by kernel_rfl) (by kernel_rfl) rfl rfl rfl (Qt.load rfl (Ld.one (Has.ro hB) Tryd.one3 (rfl))) ?_
  refine D.decgX (k := 10) rfl (by kernel_rfl) (by kernel_rfl) (by kernel_rfl) rfl rfl rfl (Qt.le rfl rfl) (fun h15 => ?_) (fun h15 => ?_)
  · refine D.qX (k := 11) rfl (by kernel_rfl) (by kernel_rfl) (by kernel_rfl) rfl rfl (Qt.pick_t rfl (by conv => lhs; whnf)) ?_
    refine D.qX (k := 12) rfl (by kernel_rfl) (by kernel_rfl) (by kernel_rfl) rfl rfl (Qt.move (by conv => lhs; whnf)) ?_
    refine D.qgX (k := 13) rfl (by kernel_rfl) (by kernel_rfl) (by kernel_rfl) rfl rfl rfl (Qt.field Tryd.underlying153 rfl Tryd.cells24 rfl) ?_
    refine D.qgX (k := 14) rfl (by kernel_rfl) (by kernel_rfl) (by kernel_rfl) rfl rfl rfl (Qt.load rfl (Ld.one (Has.at 0 rfl) Tryd.one24 (rfl))) ?_
    refine D.qgX (k := 15) rfl (by kernel_rfl) (by kernel_rfl) (by kernel_rfl) rfl rfl rfl (Qt.move (by conv => lhs; whnf)) ?_
    refine D.qgX (k := 16) rfl (by kernel_rfl) (by kernel_rfl) (by kernel_rfl) rfl rfl rfl (Qt.nilCheck rfl) ?_
    refine D.qgX (k := 17) rfl (by kernel_rfl) (by kernel_rfl) (by kernel_rfl) rfl rfl rfl (Qt.field Tryd.underlying150 rfl Tryd.cells3 rfl) ?_
    refine D.qgX (k := 18) rfl (by kernel_rfl) (by kernel_rfl) (by kernel_rfl) rfl rfl rfl (Qt.load rfl (Ld.one (Has.ro hB) Tryd.one3 (rfl))) ?_
    refine D.qgX (k := 19) rfl (by kernel_rfl) (by kernel_rfl) (by kernel_rfl) rfl rfl rfl (Qt.field Tryd.underlying153 rfl Tryd.cells3 rfl) ?_
    refine D.qgX (k := 20) rfl (by kernel_rfl) (by kernel_rfl) (by kernel_rfl) rfl rfl rfl (Qt.load rfl (Ld.one (Has.at 0 rfl) Tryd.one3 (rfl))) ?_
    refine D.qgX (k := 21) rfl (by kernel_rfl) (by kernel_rfl) (by kernel_rfl) rfl rfl rfl (Qt.sub rfl rfl (by omega) (by simp only [kmax]; omega)) ?_
    refine D.qgX (k := 22) rfl (by kernel_rfl) (by kernel_rfl) (by kernel_rfl) rfl rfl rfl (Qt.shrN rfl rfl (by simp only [kmax]; omega)) ?_
    refine D.decgX (k := 23) rfl (by kernel_rfl) (by kernel_rfl) (by kernel_rfl) rfl rfl rfl (Qt.eq (b := 0) rfl rfl) (fun h28 => ?_) (fun h28 => ?_)
    · refine D.qX (k := 24) rfl (by kernel_rfl) (by kernel_rfl) (by kernel_rfl) rfl rfl (Qt.pick_t rfl (by conv => lhs; whnf)) ?_
      refine D.qX (k := 25) rfl (by kernel_rfl) (by kernel_rfl) (by kernel_rfl) rfl rfl (Qt.assign (by conv => lhs; whnf)) ?_
      refine D.done (Sub.nil _) (by kernel_rfl) ?_
      refine TC.ret ?_
      refine finQ.ret (RVs.tmp (by conv => lhs; whnf) RVs.nil) (Sub.nil _) ?_
      exact ⟨(congrArg Value.bool (decide_eq_true ((okAt_iff h15).1 h28))).symm, rfl⟩
    · refine D.qX (k := 24) rfl (by kernel_rfl) (by kernel_rfl) (by kernel_rfl) rfl rfl (Qt.pick_t rfl (by conv => lhs; whnf)) ?_
      refine D.qX (k := 25) rfl (by kernel_rfl) (by kernel_rfl) (by kernel_rfl) rfl rfl (Qt.assign (by conv => lhs; whnf)) ?_
      refine D.done (Sub.nil _) (by kernel_rfl) ?_
      refine TC.ret ?_
      refine finQ.ret (RVs.tmp (by conv => lhs; whnf) RVs.nil) (Sub.nil _) ?_
      exact ⟨(congrArg Value.bool (decide_eq_false (fun h => h28 ((okAt_iff h15).2 h)))).symm, rfl⟩
  · refine D.qX (k := 11) rfl (by kernel_rfl) (by kernel_rfl) (by kernel_rfl) rfl rfl (Qt.pick_t rfl (by conv => lhs; whnf)) ?_
    refine D.qX (k := 12) rfl (by kernel_rfl) (by kernel_rfl) (by kernel_rfl) rfl rfl (Qt.move (by conv => lhs; whnf)) ?_
    refine D.pass (k := 13) rfl (by kernel_rfl) (by kernel_rfl) rfl rfl rfl ?_
    refine D.pass (k := 14) rfl (by kernel_rfl) (by kernel_rfl) rfl rfl rfl ?_
    refine D.pass (k := 15) rfl (by kernel_rfl) (by kernel_rfl) rfl rfl rfl ?_
    refine D.pass (k := 16) rfl (by kernel_rfl) (by kernel_rfl) rfl rfl rfl ?_
    refine D.pass (k := 17) rfl (by kernel_rfl) (by kernel_rfl) rfl rfl rfl ?_
    refine D.pass (k := 18) rfl (by kernel_rfl) (by kernel_rfl) rfl rfl rfl ?_
    refine D.pass (k := 19) rfl (by kernel_rfl) (by kernel_rfl) rfl rfl rfl ?_
    refine D.pass (k := 20) rfl (by kernel_rfl) (by kernel_rfl) rfl rfl rfl ?_
    refine D.pass (k := 21) rfl (by kernel_rfl) (by kernel_rfl) rfl rfl rfl ?_
    refine D.pass (k := 22) rfl (by kernel_rfl) (by kernel_rfl) rfl rfl rfl ?_
    refine D.pass (k := 23) rfl (by kernel_rfl) (by kernel_rfl) rfl rfl rfl ?_
    refine D.qX (k := 24) rfl (by kernel_rfl) (by kernel_rfl) (by kernel_rfl) rfl rfl (Qt.pick_f rfl (by conv => lhs; whnf)) ?_
    refine D.qX (k := 25) rfl (by kernel_rfl) (by kernel_rfl) (by kernel_rfl) rfl rfl (Qt.assign (by conv => lhs; whnf)) ?_
    refine D.done (Sub.nil _) (by kernel_rfl) ?_
    refine TC.ret ?_
    refine finQ.ret (RVs.tmp (by conv => lhs; whnf) RVs.nil) (Sub.nil _) ?_
    exact ⟨(congrArg Value.bool (decide_eq_false (fun h => h15 h.1))).symm, rfl⟩
theorem has_R (E : Nat → H32) (tb mb height l p : Nat) (hh : height ≤ 32) (hp : p < 18446744073709551616) (w0 : World) (hB : Ro w0 [] (Blk tb 150 (treeCs E height mb))) : Calls Tryd.prog 92 #[.pointer (some ⟨tb, 0, none⟩), encAt (l, p)] w0 (Ret w0 (.bool (decide (okAt height (l, p))))) := Calls.ret (has_walk E tb mb height l p hh hp w0 hB)
theorem has_T (E : Nat → H32) (tb mb height l p : Nat) (hh : height ≤ 32) (h : okAt height (l, p)) (w0 : World) (hB : Ro w0 [] (Blk tb 150 (treeCs E height mb))) : Calls Tryd.prog 92 #[.pointer (some ⟨tb, 0, none⟩), encAt (l, p)] w0 (Ret w0 (.bool true)) := by
  have hr := has_R E tb mb height l p hh (by have := okAt_lt hh h; omega) w0 hB
  rwa [decide_eq_true h] at hr
theorem has_F (E : Nat → H32) (tb mb height l p : Nat) (hh : height ≤ 32) (hp : p < 18446744073709551616) (h : ¬ okAt height (l, p)) (w0 : World) (hB : Ro w0 [] (Blk tb 150 (treeCs E height mb))) : Calls Tryd.prog 92 #[.pointer (some ⟨tb, 0, none⟩), encAt (l, p)] w0 (Ret w0 (.bool false)) := by
  have hr := has_R E tb mb height l p hh hp w0 hB
  rwa [decide_eq_false h] at hr

set_option maxHeartbeats 400000 in
theorem get_walkS (E : Nat → H32) (tb mb height : Nat) (ms : Tm) (l p : Nat) (hl : l ≤ 32) (h : H32) (hlk : Go.E.look (l, p) ms = some h) (w0 : World) (hB : Ro w0 [] (Blk tb 150 (treeCs E height mb))) (hM : Ro w0 [] (MapA mb encAt hv (ms))) :
    Calls Tryd.prog 94 #[.pointer (some ⟨tb, 0, none⟩), encAt (l, p)] w0 (Post w0 [] fun v L => v = hv (getT E ms (l, p)) ∧ L = []) := by
  refine Calls.of (L := []) (n := 25) (rs := [.cell 4 23]) Tryd.func94 rfl rfl rfl (Nat.le_of_ble_eq_true rfl) (Sat.nil _) ?_
  refine TC.seq ?_
  refine TC.region ?_
  refine S.opS rfl rfl (OpV.box (v := encAt (l, p)) rfl (fun b3 => ?_))
  refine S.opS rfl rfl (OpV.alloc Tryd.zero23 (fun b4 => ?_))
  refine S.nil ?_
  refine TC.seq ?_
  refine TC.seq ?_
  refine S.draw ([10], [9]) Tryd.mixed (Sub.nil _) ?_
  refine D.qX (k := 0) rfl (by kernel_rfl) (by kernel_rfl) (by kernel_rfl) rfl rfl (Qt.move (by conv => lhs; whnf)) ?_
  refine D.qX (k := 1) rfl (by kernel_rfl) (by kernel_rfl) (by kernel_rfl) rfl rfl (Qt.nilCheck rfl) ?_
  refine D.qX (k := 2) rfl (by kernel_rfl) (by kernel_rfl) (by kernel_rfl) rfl rfl (Qt.field Tryd.underlying150 rfl Tryd.cells148 rfl) ?_
  refine D.qX (k := 3) rfl (by kernel_rfl) (by kernel_rfl) (by kernel_rfl) rfl rfl (Qt.load rfl (Ld.one (Has.ro hB) Tryd.one148 (rfl))) ?_
  refine D.qX (k := 4) rfl (by kernel_rfl) (by kernel_rfl) (by kernel_rfl) rfl rfl (Qt.load rfl (Ld.all (vs := vl (encAt (l, p))) (Has.at 1 rfl) Tryd.row153 Tryd.cells153)) ?_
  refine D.qX (k := 5) rfl (by kernel_rfl) (by kernel_rfl) (by kernel_rfl) rfl rfl (Qt.as (v' := .tuple #[hv h, .bool true]) (Qt.lookup_ok (k := (l, p)) Tryd.underlying148 Tryd.keyAt Tryd.zv23 rfl rfl (Has.ro hM)) (by rw [hlk]; rfl)) ?_
  refine D.qX (k := 6) rfl (by kernel_rfl) (by kernel_rfl) (by kernel_rfl) rfl rfl (Qt.move (by conv => lhs; whnf)) ?_
  refine D.qX (k := 7) rfl (by kernel_rfl) (by kernel_rfl) (by kernel_rfl) rfl rfl (Qt.extract rfl rfl) ?_
  refine D.q (k := 8) rfl (by kernel_rfl) (by kernel_rfl) rfl rfl (Qt.extract rfl rfl) ?_
  refine D.nS (k := 9) (Sub.nil _) rfl (by kernel_rfl) (by kernel_rfl) rfl rfl (OpV.alloc Tryd.zero23 (fun b5 => ⟨Sub.drop _ (Sub.refl _), ?_⟩))
  refine D.opN (k := 10) (Sub.nil _) rfl (by kernel_rfl) (by kernel_rfl) rfl (OpV.storeV0 (v := hv (h)) rfl rfl (hv_size Tryd.cells23) (hv_all _) (hv_len _) ⟨Sub.nil _, ?_⟩)
  refine D.qX (k := 11) rfl (by kernel_rfl) (by kernel_rfl) (by kernel_rfl) rfl rfl (Qt.assign (by conv => lhs; whnf)) ?_
  refine D.done (Sub.nil _) (by kernel_rfl) ?_
  refine TC.seq ?_
  refine TC.region ?_
  refine S.q rfl rfl (Qt.move (by conv => lhs; whnf)) ?_
  refine S.nil ?_
  refine S.if_t rfl ?_
  refine TC.seq ?_
  refine TC.region ?_
  refine S.q rfl rfl (Qt.load rfl (Ld.hash1 (x := h) (Has.at 0 rfl) Tryd.row23 Tryd.cells23)) ?_
  refine S.opN rfl (OpV.storeV1 (v := hv (h)) rfl rfl (hv_size Tryd.cells23) (hv_all _) (hv_len _) ?_)
  refine S.nil ?_
  refine TC.ret ?_
  refine finQ.ret (RVs.cell rfl (Ld.all (Has.at 1 rfl) Tryd.row23 (hv_size Tryd.cells23)) RVs.nil) (Sub.nil _) ?_
  exact ⟨congrArg hv (valOr_look E ms _ hlk).symm, rfl⟩
set_option maxHeartbeats 400000 in
theorem get_walkN (E : Nat → H32) (tb mb height : Nat) (ms : Tm) (l p : Nat) (hl : l ≤ 32) (hlk : Go.E.look (l, p) ms = none) (w0 : World) (hB : Ro w0 [] (Blk tb 150 (treeCs E height mb))) (hM : Ro w0 [] (MapA mb encAt hv (ms))) :
    Calls Tryd.prog 94 #[.pointer (some ⟨tb, 0, none⟩), encAt (l, p)] w0 (Post w0 [] fun v L => v = hv (getT E ms (l, p)) ∧ L = []) := by
  refine Calls.of (L := []) (n := 25) (rs := [.cell 4 23]) Tryd.func94 rfl rfl rfl (Nat.le_of_ble_eq_true rfl) (Sat.nil _) ?_
  refine TC.seq ?_
  refine TC.region ?_
  refine S.opS rfl rfl (OpV.box (v := encAt (l, p)) rfl (fun b3 => ?_))
  refine S.opS rfl rfl (OpV.alloc Tryd.zero23 (fun b4 => ?_))
  refine S.nil ?_
  refine TC.seq ?_
  refine TC.seq ?_
  refine S.draw ([10], [9]) Tryd.mixed (Sub.nil _) ?_
  refine D.qX (k := 0) rfl (by kernel_rfl) (by kernel_rfl) (by kernel_rfl) rfl rfl (Qt.move (by conv => lhs; whnf)) ?_
  refine D.qX (k := 1) rfl (by kernel_rfl) (by kernel_rfl) (by kernel_rfl) rfl rfl (Qt.nilCheck rfl) ?_
  refine D.qX (k := 2) rfl (by kernel_rfl) (by kernel_rfl) (by kernel_rfl) rfl rfl (Qt.field Tryd.underlying150 rfl Tryd.cells148 rfl) ?_
  refine D.qX (k := 3) rfl (by kernel_rfl) (by kernel_rfl) (by kernel_rfl) rfl rfl (Qt.load rfl (Ld.one (Has.ro hB) Tryd.one148 (rfl))) ?_
  refine D.qX (k := 4) rfl (by kernel_rfl) (by kernel_rfl) (by kernel_rfl) rfl rfl (Qt.load rfl (Ld.all (vs := vl (encAt (l, p))) (Has.at 1 rfl) Tryd.row153 Tryd.cells153)) ?_
  refine D.qX (k := 5) rfl (by kernel_rfl) (by kernel_rfl) (by kernel_rfl) rfl rfl (Qt.as (v' := .tuple #[hv zeroH, .bool false]) (Qt.lookup_ok (k := (l, p)) Tryd.underlying148 Tryd.keyAt Tryd.zv23 rfl rfl (Has.ro hM)) (by rw [hlk]; rfl)) ?_
  refine D.qX (k := 6) rfl (by kernel_rfl) (by kernel_rfl) (by kernel_rfl) rfl rfl (Qt.move (by conv => lhs; whnf)) ?_
  refine D.qX (k := 7) rfl (by kernel_rfl) (by kernel_rfl) (by kernel_rfl) rfl rfl (Qt.extract rfl rfl) ?_
  refine D.q (k := 8) rfl (by kernel_rfl) (by kernel_rfl) rfl rfl (Qt.extract rfl rfl) ?_
  refine D.nS (k := 9) (Sub.nil _) rfl (by kernel_rfl) (by kernel_rfl) rfl rfl (OpV.alloc Tryd.zero23 (fun b5 => ⟨Sub.drop _ (Sub.refl _), ?_⟩))
  refine D.opN (k := 10) (Sub.nil _) rfl (by kernel_rfl) (by kernel_rfl) rfl (OpV.storeV0 (v := hv (zeroH)) rfl rfl (hv_size Tryd.cells23) (hv_all _) (hv_len _) ⟨Sub.nil _, ?_⟩)
  refine D.qX (k := 11) rfl (by kernel_rfl) (by kernel_rfl) (by kernel_rfl) rfl rfl (Qt.assign (by conv => lhs; whnf)) ?_
  refine D.done (Sub.nil _) (by kernel_rfl) ?_
  refine TC.seq ?_
  refine TC.region ?_
  refine S.q rfl rfl (Qt.move (by conv => lhs; whnf)) ?_
  refine S.nil ?_
  refine S.if_f rfl ?_
  refine TC.skip ?_
  refine TC.seq ?_
  refine S.draw ([7], []) Tryd.mixed (Sub.nil _) ?_
  refine D.qX (k := 0) rfl (by kernel_rfl) (by kernel_rfl) (by kernel_rfl) rfl rfl (Qt.move (by conv => lhs; whnf)) ?_
  refine D.qX (k := 1) rfl (by kernel_rfl) (by kernel_rfl) (by kernel_rfl) rfl rfl (Qt.field Tryd.underlying153 rfl Tryd.cells3 rfl) ?_
  refine D.qX (k := 2) rfl (by kernel_rfl) (by kernel_rfl) (by kernel_rfl) rfl rfl (Qt.load rfl (Ld.one (Has.at 2 rfl) Tryd.one3 (rfl))) ?_
  refine D.qX (k := 3) rfl (by kernel_rfl) (by kernel_rfl) (by kernel_rfl) rfl rfl (Qt.nilCheck rfl) ?_
  refine D.qX (k := 4) rfl (by kernel_rfl) (by kernel_rfl) (by kernel_rfl) rfl rfl (Qt.field Tryd.underlying150 rfl Tryd.cells142 rfl) ?_
  refine D.qX (k := 5) rfl (by kernel_rfl) (by kernel_rfl) (by kernel_rfl) rfl rfl (Qt.indexB Tryd.underlying142 Tryd.cells23 rfl rfl (by omega)) ?_
  refine D.qX (k := 6) rfl (by kernel_rfl) (by kernel_rfl) (by kernel_rfl) rfl rfl (Qt.load rfl (Ld.treeE (Has.ro hB) l Tryd.row23 Tryd.cells23 (by omega) rfl)) ?_
  refine D.opN (k := 7) (Sub.nil _) rfl (by kernel_rfl) (by kernel_rfl) rfl (OpV.storeV1 (v := hv (E l)) rfl rfl (hv_size Tryd.cells23) (hv_all _) (hv_len _) ⟨Sub.nil _, ?_⟩)
  refine D.done (Sub.nil _) (by kernel_rfl) ?_
  refine TC.ret ?_
  refine finQ.ret (RVs.cell rfl (Ld.all (Has.at 1 rfl) Tryd.row23 (hv_size Tryd.cells23)) RVs.nil) (Sub.nil _) ?_
  exact ⟨congrArg hv (valOr_none E ms _ hlk).symm, rfl⟩
theorem get_R (E : Nat → H32) (tb mb height : Nat) (ms : Tm) (l p : Nat) (hl : l ≤ 32) (w0 : World) (hB : Ro w0 [] (Blk tb 150 (treeCs E height mb))) (hM : Ro w0 [] (MapA mb encAt hv (ms))) : Calls Tryd.prog 94 #[.pointer (some ⟨tb, 0, none⟩), encAt (l, p)] w0 (Ret w0 (hv (getT E ms (l, p)))) := by
  cases hlk : Go.E.look (l, p) ms with
  | none => exact Calls.ret (get_walkN E tb mb height ms l p hl hlk w0 hB hM)
  | some h => exact Calls.ret (get_walkS E tb mb height ms l p hl h hlk w0 hB hM)

set_option maxHeartbeats 400000 in
theorem put_walk (E : Nat → H32) (tb mb height : Nat) (ms : Tm) (l p : Nat) (hl : l ≤ 32) (h : H32) (w0 : World) (hL : Sat w0 [Blk tb 150 (treeCs E height mb), MapA mb encAt hv (ms)]) :
    Calls Tryd.prog 93 #[.pointer (some ⟨tb, 0, none⟩), encAt (l, p), hv h] w0 (Post w0 (fps [Blk tb 150 (treeCs E height mb), MapA mb encAt hv (ms)]) fun v L => v = .tuple #[] ∧ L = [Blk tb 150 (treeCs E height mb), MapA mb encAt hv (putT E ms (l, p) h)]) := by
  refine Calls.of (L := [Blk tb 150 (treeCs E height mb), MapA mb encAt hv (ms)]) (n := 26) (rs := []) Tryd.func93 rfl rfl rfl (Nat.le_of_ble_eq_true rfl) (hL) ?_
  refine TC.seq ?_
  refine TC.region ?_
  refine S.opS rfl rfl (OpV.box (v := encAt (l, p)) rfl (fun b4 => ?_))
  refine S.opS rfl rfl (OpV.box (v := hv h) rfl (fun b5 => ?_))
  refine S.nil ?_
  refine TC.seq ?_
  refine TC.seq ?_
  refine S.draw ([], []) Tryd.mixed (Sub.nil _) ?_
  refine D.qX (k := 0) rfl (by kernel_rfl) (by kernel_rfl) (by kernel_rfl) rfl rfl (Qt.load rfl (Ld.hash1 (x := h) (Has.at 0 rfl) Tryd.row23 Tryd.cells23)) ?_
  refine D.qX (k := 1) rfl (by kernel_rfl) (by kernel_rfl) (by kernel_rfl) rfl rfl (Qt.move (by conv => lhs; whnf)) ?_
  refine D.qX (k := 2) rfl (by kernel_rfl) (by kernel_rfl) (by kernel_rfl) rfl rfl (Qt.field Tryd.underlying153 rfl Tryd.cells3 rfl) ?_
  refine D.qX (k := 3) rfl (by kernel_rfl) (by kernel_rfl) (by kernel_rfl) rfl rfl (Qt.load rfl (Ld.one (Has.at 1 rfl) Tryd.one3 (rfl))) ?_
  refine D.qX (k := 4) rfl (by kernel_rfl) (by kernel_rfl) (by kernel_rfl) rfl rfl (Qt.nilCheck rfl) ?_
  refine D.qX (k := 5) rfl (by kernel_rfl) (by kernel_rfl) (by kernel_rfl) rfl rfl (Qt.field Tryd.underlying150 rfl Tryd.cells142 rfl) ?_
  refine D.qX (k := 6) rfl (by kernel_rfl) (by kernel_rfl) (by kernel_rfl) rfl rfl (Qt.indexB Tryd.underlying142 Tryd.cells23 rfl rfl (by omega)) ?_
  refine D.qX (k := 7) rfl (by kernel_rfl) (by kernel_rfl) (by kernel_rfl) rfl rfl (Qt.load rfl (Ld.treeE (Has.at 2 rfl) l Tryd.row23 Tryd.cells23 (by omega) rfl)) ?_
  refine D.decX (k := 8) rfl (by kernel_rfl) (by kernel_rfl) (by kernel_rfl) rfl rfl (Qt.eqH (a := h) (b := E l) Tryd.guard23 Tryd.underlying23 Tryd.underlying5 Tryd.cells5 rfl rfl) (fun h14 => ?_) (fun h14 => ?_)
  · refine D.done (Sub.nil _) (by kernel_rfl) ?_
    refine S.if_t rfl ?_
    refine TC.seq ?_
    refine S.draw ([5], []) Tryd.mixed (Sub.nil _) ?_
    refine D.qX (k := 0) rfl (by kernel_rfl) (by kernel_rfl) (by kernel_rfl) rfl rfl (Qt.move (by conv => lhs; whnf)) ?_
    refine D.qX (k := 1) rfl (by kernel_rfl) (by kernel_rfl) (by kernel_rfl) rfl rfl (Qt.nilCheck rfl) ?_
    refine D.qX (k := 2) rfl (by kernel_rfl) (by kernel_rfl) (by kernel_rfl) rfl rfl (Qt.field Tryd.underlying150 rfl Tryd.cells148 rfl) ?_
    refine D.qX (k := 3) rfl (by kernel_rfl) (by kernel_rfl) (by kernel_rfl) rfl rfl (Qt.load rfl (Ld.one (Has.at 2 rfl) Tryd.one148 (rfl))) ?_
    refine D.qX (k := 4) rfl (by kernel_rfl) (by kernel_rfl) (by kernel_rfl) rfl rfl (Qt.load rfl (Ld.all (vs := vl (encAt (l, p))) (Has.at 1 rfl) Tryd.row153 Tryd.cells153)) ?_
    refine D.opN (k := 5) (Sub.nil _) rfl (by kernel_rfl) (by kernel_rfl) rfl (OpV.mapDel3 (k := (l, p)) rfl Tryd.underlying148 Tryd.keyAt rfl rfl ⟨Sub.nil _, ?_⟩)
    refine D.done (Sub.nil _) (by kernel_rfl) ?_
    refine TC.ret ?_
    refine finQ.ret RVs.nil (Sub.drop _ (Sub.drop _ (Sub.refl _))) ?_
    exact ⟨rfl, by rw [putT_eq (a := (l, p)) h14]⟩
  · refine D.done (Sub.nil _) (by kernel_rfl) ?_
    refine S.if_f rfl ?_
    refine TC.skip ?_
    refine S.draw ([6], []) Tryd.mixed (Sub.nil _) ?_
    refine D.qX (k := 0) rfl (by kernel_rfl) (by kernel_rfl) (by kernel_rfl) rfl rfl (Qt.move (by conv => lhs; whnf)) ?_
    refine D.qX (k := 1) rfl (by kernel_rfl) (by kernel_rfl) (by kernel_rfl) rfl rfl (Qt.nilCheck rfl) ?_
    refine D.qX (k := 2) rfl (by kernel_rfl) (by kernel_rfl) (by kernel_rfl) rfl rfl (Qt.field Tryd.underlying150 rfl Tryd.cells148 rfl) ?_
    refine D.qX (k := 3) rfl (by kernel_rfl) (by kernel_rfl) (by kernel_rfl) rfl rfl (Qt.load rfl (Ld.one (Has.at 2 rfl) Tryd.one148 (rfl))) ?_
    refine D.qX (k := 4) rfl (by kernel_rfl) (by kernel_rfl) (by kernel_rfl) rfl rfl (Qt.load rfl (Ld.all (vs := vl (encAt (l, p))) (Has.at 1 rfl) Tryd.row153 Tryd.cells153)) ?_
    refine D.qX (k := 5) rfl (by kernel_rfl) (by kernel_rfl) (by kernel_rfl) rfl rfl (Qt.load rfl (Ld.hash1 (x := h) (Has.at 0 rfl) Tryd.row23 Tryd.cells23)) ?_
    refine D.opN (k := 6) (Sub.nil _) rfl (by kernel_rfl) (by kernel_rfl) rfl (OpV.mapUpd3 (k := (l, p)) (a := h) Tryd.underlying148 Tryd.keyAt rfl rfl rfl ⟨Sub.nil _, ?_⟩)
    refine D.done (Sub.nil _) (by kernel_rfl) ?_
    refine finQ.normal RVs.nil (Sub.drop _ (Sub.drop _ (Sub.refl _))) ?_
    exact ⟨rfl, by rw [putT_ne (a := (l, p)) h14]⟩
set_option maxHeartbeats 400000 in
theorem set_walk (E : Nat → H32) (tb mb height : Nat) (ms : Tm) (i : Nat) (h : H32) (hh : height ≤ 32) (hi : i < 2 ^ height) (w0 : World) (hL : Sat w0 [Blk tb 150 (treeCs E height mb), MapA mb encAt hv (ms)]) (hT : Tabs 2 0 w0 (fps [Blk tb 150 (treeCs E height mb), MapA mb encAt hv (ms)])) :
    Calls Tryd.prog 27 #[.pointer (some ⟨tb, 0, none⟩), .int .u64 (i : Int), hv h] w0 (Post w0 (fps [Blk tb 150 (treeCs E height mb), MapA mb encAt hv (ms)]) fun v L => v = .nilIface ∧ L = [Blk tb 150 (treeCs E height mb), MapA mb encAt hv (setK E ms i h height)]) := by
  refine Calls.of (L := [Blk tb 150 (treeCs E height mb), MapA mb encAt hv (ms)]) (n := 65) (rs := [.tmp 6]) Tryd.func27 rfl rfl rfl (Nat.le_of_ble_eq_true rfl) (hL) ?_
  have hi32 := pow32 hh hi
  refine TC.seq ?_
  refine TC.region ?_
  refine S.opS rfl rfl (OpV.box (v := hv h) rfl (fun b5 => ?_))
  refine S.q rfl rfl (Qt.assign (by conv => lhs; whnf)) ?_
  refine S.nil ?_
  refine TC.seq ?_
  refine TC.block ?_
  refine TC.seq ?_
  refine TC.region ?_
  refine S.q rfl rfl (Qt.move (by conv => lhs; whnf)) ?_
  refine S.q rfl rfl (Qt.eqp_some Tryd.underlying35 rfl) ?_
  refine S.q rfl rfl (Qt.assign (by conv => lhs; whnf)) ?_
  refine S.nil ?_
  refine S.if_f rfl ?_
  refine TC.seq ?_
  refine TC.region ?_
  refine S.q rfl rfl (Qt.move (by conv => lhs; whnf)) ?_
  refine S.q rfl rfl (Qt.move (by conv => lhs; whnf)) ?_
  refine S.q rfl rfl (Qt.build2 (v := encAt (0, i)) (a := .int .i64 ((0 : Nat) : Int)) (b := .int .u64 ((i : Nat) : Int)) rfl rfl (Tryd.buildAt (0) (i))) ?_
  refine S.opS rfl rfl (OpV.con0 Tryd.ent92 rfl (fun w hw => has_T E tb mb height 0 i hh (ok0 hi) w (Rd.at 1 rfl w hw)) ?_)
  refine S.q rfl rfl (Qt.not_t rfl) ?_
  refine S.q rfl rfl (Qt.assign (by conv => lhs; whnf)) ?_
  refine S.nil ?_
  refine S.if_f rfl ?_
  refine TC.skip ?_
  refine TC.seq ?_
  refine TC.region ?_
  refine S.q rfl rfl (Qt.move (by conv => lhs; whnf)) ?_
  refine S.q rfl rfl (Qt.move (by conv => lhs; whnf)) ?_
  refine S.q rfl rfl (Qt.build2 (v := encAt (0, i)) (a := .int .i64 ((0 : Nat) : Int)) (b := .int .u64 ((i : Nat) : Int)) rfl rfl (Tryd.buildAt (0) (i))) ?_
  refine S.q rfl rfl (Qt.load rfl (Ld.hash1 (x := h) (Has.at 0 rfl) Tryd.row23 Tryd.cells23)) ?_
  refine S.opS rfl rfl (OpV.con (Pre := [Blk tb 150 (treeCs E height mb), MapA mb encAt hv (ms)]) (R := _) Tryd.ent93 rfl ((List.perm_middle (l₁ := [_])).trans (List.Perm.cons _ (List.perm_middle (l₁ := [_])))) (fun w hw => put_walk E tb mb height ms 0 i (by decide) h w hw.sat.left) ?_)
  rintro v L' ⟨rfl, rfl⟩
  refine S.nil ?_
  refine TC.seq ?_
  refine TC.seq ?_
  refine TC.region ?_
  refine S.q rfl rfl (Qt.assign (by conv => lhs; whnf)) ?_
  refine S.nil ?_
  refine TC.block ?_
  refine TC.loop (γ := Nat) [26, 27, 28, 29, 30, 31, 34, 35, 1, 37, 38, 39, 40, 41, 42, 43, 44, 45, 46, 47, 48, 49, 50, 51, 52, 53, 36, 54, 55, 8, 9, 56, 57, 58, 6, 59, 60, 61, 62, 63, 64, 32, 33, 7] (fun j => [(7, .int .i64 ((j + 1 : Nat) : Int)), (1, .int .u64 ((i / 2 ^ j : Nat) : Int))]) (fun j => [Blk tb 150 (treeCs E height mb), MapA mb encAt hv (setK E ms i h j), Blk b5 23 (hvl h)]) (fun j => j ≤ height) (fun j => height - j) (0)
    (Nat.zero_le _) ⟨Out.refl _ _, (List.forall_mem_cons.2 ⟨rfl, (List.forall_mem_cons.2 ⟨(by show Value.int .u64 (i : Int) = Value.int .u64 ((i / 2 ^ 0 : Nat) : Int); rw [Nat.pow_zero, Nat.div_one]), (fun _ h => nomatch h)⟩)⟩)⟩ (Sub.refl _) ?_
  rintro j u hj
  have hd1 := Nat.div_le_self i (2 ^ j)
  have hd2 := Nat.div_le_self i (2 ^ (j + 1))
  refine TC.seq ?_
  refine TC.seq ?_
  refine TC.region ?_
  refine S.q rfl rfl (Qt.move (by conv => lhs; whnf)) ?_
  refine S.q rfl rfl (Qt.move (by conv => lhs; whnf)) ?_
  refine S.q rfl rfl (Qt.nilCheck rfl) ?_
  refine S.q rfl rfl (Qt.field Tryd.underlying150 rfl Tryd.cells3 rfl) ?_
  refine S.q rfl rfl (Qt.load rfl (Ld.one (Has.at 0 rfl) Tryd.one3 (rfl))) ?_
  refine S.dec rfl rfl (Qt.le rfl rfl) (fun h31 => ?_) (fun h31 => ?_)
  · refine S.nil ?_
    refine S.if_t rfl ?_
    refine TC.skip ?_
    refine TC.seq ?_
    refine TC.block ?_
    refine TC.seq ?_
    refine TC.region ?_
    refine S.q rfl rfl (Qt.move (by conv => lhs; whnf)) ?_
    refine S.q rfl rfl (Qt.as (Qt.shrN (s := 1) rfl rfl (by simp only [kmax]; omega)) (by rw [half_pow])) ?_
    refine S.q rfl rfl (Qt.assign (by conv => lhs; whnf)) ?_
    refine S.nil ?_
    refine TC.seq ?_
    refine TC.region ?_
    refine S.q rfl rfl (Qt.move (by conv => lhs; whnf)) ?_
    refine S.q rfl rfl (Qt.move (by conv => lhs; whnf)) ?_
    refine S.q rfl rfl (Qt.move (by conv => lhs; whnf)) ?_
    refine S.q rfl rfl (Qt.sub (b := 1) rfl rfl (by omega) (by simp only [kmax]; omega)) ?_
    refine S.q rfl rfl (Qt.move (by conv => lhs; whnf)) ?_
    refine S.q rfl rfl (Qt.mul (a := 2) rfl rfl (by simp only [kmax]; omega)) ?_
    refine S.q rfl rfl (Qt.build2 (v := encAt (j, 2 * (i / 2 ^ (j + 1)))) (a := .int .i64 ((j : Nat) : Int)) (b := .int .u64 ((2 * (i / 2 ^ (j + 1)) : Nat) : Int)) rfl rfl (Tryd.buildAt (j) (2 * (i / 2 ^ (j + 1))))) ?_
    refine S.opS rfl rfl (OpV.con0 Tryd.ent94 rfl (fun w hw => get_R E tb mb height (setK E ms i h j) j (2 * (i / 2 ^ (j + 1))) (by omega) w (Rd.at 0 rfl w hw) (Rd.at 1 rfl w hw)) ?_)
    refine S.q rfl rfl (Qt.move (by conv => lhs; whnf)) ?_
    refine S.q rfl rfl (Qt.move (by conv => lhs; whnf)) ?_
    refine S.q rfl rfl (Qt.sub (b := 1) rfl rfl (by omega) (by simp only [kmax]; omega)) ?_
    refine S.q rfl rfl (Qt.move (by conv => lhs; whnf)) ?_
    refine S.q rfl rfl (Qt.mul (a := 2) rfl rfl (by simp only [kmax]; omega)) ?_
    refine S.q rfl rfl (Qt.add (b := 1) rfl rfl (by simp only [kmax]; omega)) ?_
    refine S.q rfl rfl (Qt.build2 (v := encAt (j, 2 * (i / 2 ^ (j + 1)) + 1)) (a := .int .i64 ((j : Nat) : Int)) (b := .int .u64 ((2 * (i / 2 ^ (j + 1)) + 1 : Nat) : Int)) rfl rfl (Tryd.buildAt (j) (2 * (i / 2 ^ (j + 1)) + 1))) ?_
    refine S.opS rfl rfl (OpV.con0 Tryd.ent94 rfl (fun w hw => get_R E tb mb height (setK E ms i h j) j (2 * (i / 2 ^ (j + 1)) + 1) (by omega) w (Rd.at 0 rfl w hw) (Rd.at 1 rfl w hw)) ?_)
    refine S.opS rfl rfl (OpV.con0 Tryd.ent31 rfl (fun w hw => join_R (j + 1) (by omega) (by omega) _ _ w (hT.at hw)) ?_)
    refine S.q rfl rfl (Qt.move (by conv => lhs; whnf)) ?_
    refine S.q rfl rfl (Qt.extract rfl rfl) ?_
    refine S.q rfl rfl (Qt.extract rfl rfl) ?_
    refine S.opS rfl rfl (OpV.alloc Tryd.zero23 (fun b8 => ?_))
    refine S.opN rfl (OpV.storeV0 (v := hv (_)) rfl rfl (hv_size Tryd.cells23) (hv_all _) (hv_len _) ?_)
    refine S.q rfl rfl (Qt.assign (by conv => lhs; whnf)) ?_
    refine S.nil ?_
    refine TC.seq ?_
    refine TC.seq ?_
    refine TC.region ?_
    refine S.q rfl rfl (Qt.move (by conv => lhs; whnf)) ?_
    refine S.q rfl rfl (Qt.nenil_nil Tryd.underlying27 rfl) ?_
    refine S.nil ?_
    refine S.if_f rfl ?_
    refine TC.skip ?_
    refine TC.region ?_
    refine S.q rfl rfl (Qt.move (by conv => lhs; whnf)) ?_
    refine S.q rfl rfl (Qt.move (by conv => lhs; whnf)) ?_
    refine S.q rfl rfl (Qt.move (by conv => lhs; whnf)) ?_
    refine S.q rfl rfl (Qt.build2 (v := encAt (j + 1, i / 2 ^ (j + 1))) (a := .int .i64 ((j + 1 : Nat) : Int)) (b := .int .u64 ((i / 2 ^ (j + 1) : Nat) : Int)) rfl rfl (Tryd.buildAt (j + 1) (i / 2 ^ (j + 1)))) ?_
    refine S.q rfl rfl (Qt.load rfl (Ld.hash1 (x := joinH (j + 1) (getT E (setK E ms i h j) (j, 2 * (i / 2 ^ (j + 1)))) (getT E (setK E ms i h j) (j, 2 * (i / 2 ^ (j + 1)) + 1))) (Has.at 0 rfl) Tryd.row23 Tryd.cells23)) ?_
    refine S.opS rfl rfl (OpV.con (Pre := [Blk tb 150 (treeCs E height mb), MapA mb encAt hv (setK E ms i h j)]) (R := _) Tryd.ent93 rfl ((List.perm_middle (l₁ := [_])).trans (List.Perm.cons _ (List.perm_middle (l₁ := [_])))) (fun w hw => put_walk E tb mb height (setK E ms i h j) (j + 1) (i / 2 ^ (j + 1)) (by omega) _ w hw.sat.left) ?_)
    rintro v L' ⟨rfl, rfl⟩
    refine S.nil ?_
    refine TC.region ?_
    refine S.q rfl rfl (Qt.move (by conv => lhs; whnf)) ?_
    refine S.q rfl rfl (Qt.add (b := 1) rfl rfl (by simp only [kmax]; omega)) ?_
    refine S.q rfl rfl (Qt.assign (by conv => lhs; whnf)) ?_
    refine S.nil ?_
    refine ⟨j + 1, ?_, ?_, ⟨?_, (List.forall_mem_cons.2 ⟨rfl, (List.forall_mem_cons.2 ⟨rfl, (fun _ h => nomatch h)⟩)⟩)⟩, Sub.keep _ (Sub.keep _ (Sub.drop _ (Sub.refl _)))⟩
    · show _ ≤ _; omega
    · show _ < _; dsimp only; omega
    repeat (first | exact Out.refl _ _ | refine Out.put rfl ?_ | refine Out.puts rfl ?_ | refine Out.scr ?_ | refine Out.scr' rfl ?_)
  · refine S.nil ?_
    refine S.if_f rfl ?_
    refine TC.exit ?_
    refine TC.seq ?_
    refine TC.region ?_
    refine S.q rfl rfl (Qt.assign (by conv => lhs; whnf)) ?_
    refine S.nil ?_
    refine TC.ret ?_
    refine finQ.ret (RVs.tmp (by conv => lhs; whnf) RVs.nil) (Sub.keep _ (Sub.keep _ (Sub.nil _))) ?_
    obtain rfl : j = height := by omega
    exact ⟨rfl, rfl⟩
set_option maxHeartbeats 400000 in
theorem set_walkF (E : Nat → H32) (tb mb height : Nat) (i : Nat) (h : H32) (hh : height ≤ 32) (hp : i < 18446744073709551616) (hi : ¬ i < 2 ^ height) (w0 : World) (hB : Ro w0 [] (Blk tb 150 (treeCs E height mb))) :
    Calls Tryd.prog 27 #[.pointer (some ⟨tb, 0, none⟩), .int .u64 (i : Int), hv h] w0 (Post w0 [] fun v L => v = .iface 58 (.int .i64 1) ∧ L = []) := by
  refine Calls.of (L := []) (n := 65) (rs := [.tmp 6]) Tryd.func27 rfl rfl rfl (Nat.le_of_ble_eq_true rfl) (Sat.nil _) ?_
  refine TC.seq ?_
  refine TC.region ?_
  refine S.opS rfl rfl (OpV.box (v := hv h) rfl (fun b5 => ?_))
  refine S.q rfl rfl (Qt.assign (by conv => lhs; whnf)) ?_
  refine S.nil ?_
  refine TC.seq ?_
  refine TC.block ?_
  refine TC.seq ?_
  refine TC.region ?_
  refine S.q rfl rfl (Qt.move (by conv => lhs; whnf)) ?_
  refine S.q rfl rfl (Qt.eqp_some Tryd.underlying35 rfl) ?_
  refine S.q rfl rfl (Qt.assign (by conv => lhs; whnf)) ?_
  refine S.nil ?_
  refine S.if_f rfl ?_
  refine TC.seq ?_
  refine TC.region ?_
  refine S.q rfl rfl (Qt.move (by conv => lhs; whnf)) ?_
  refine S.q rfl rfl (Qt.move (by conv => lhs; whnf)) ?_
  refine S.q rfl rfl (Qt.build2 (v := encAt (0, i)) (a := .int .i64 ((0 : Nat) : Int)) (b := .int .u64 ((i : Nat) : Int)) rfl rfl (Tryd.buildAt (0) (i))) ?_
  refine S.opS rfl rfl (OpV.con0 Tryd.ent92 rfl (fun w hw => has_F E tb mb height 0 i hh hp (not_ok0 hi) w (Rd.ro hB w hw)) ?_)
  refine S.q rfl rfl (Qt.not_f rfl) ?_
  refine S.q rfl rfl (Qt.assign (by conv => lhs; whnf)) ?_
  refine S.nil ?_
  refine S.if_t rfl ?_
  refine TC.seq ?_
  refine TC.region ?_
  refine S.q rfl rfl (Qt.makeInterface Tryd.underlying58 (fun _ h => nomatch h) (by conv => lhs; whnf)) ?_
  refine S.q rfl rfl (Qt.assign (by conv => lhs; whnf)) ?_
  refine S.nil ?_
  refine TC.ret ?_
  refine finQ.ret (RVs.tmp (by conv => lhs; whnf) RVs.nil) (Sub.nil _) ?_
  exact ⟨rfl, rfl⟩
theorem setF_R (E : Nat → H32) (tb mb height : Nat) (i : Nat) (h : H32) (hh : height ≤ 32) (hp : i < 18446744073709551616) (hi : ¬ i < 2 ^ height) (w0 : World) (hB : Ro w0 [] (Blk tb 150 (treeCs E height mb))) : Calls Tryd.prog 27 #[.pointer (some ⟨tb, 0, none⟩), .int .u64 (i : Int), hv h] w0 (Ret w0 (.iface 58 (.int .i64 1))) := Calls.ret (set_walkF E tb mb height i h hh hp hi w0 hB)

set_option maxHeartbeats 400000 in
theorem new_walk (E : Nat → H32) (hEm : ∀ w, Tabs 2 0 w [] → Calls Tryd.prog 88 #[] w (Ret w (.agg (hcs (emptL E)).toArray))) (height : Nat) (hh : height ≤ 32) (w0 : World) (hT : Tabs 2 0 w0 []) :
    Calls Tryd.prog 26 #[.int .i64 (height : Int)] w0 (Post w0 [] fun v L => ∃ tb mb, v = .tuple #[.pointer (some ⟨tb, 0, none⟩), .nilIface] ∧ L = [Blk tb 150 (treeCs E height mb), MapA mb encAt hv ([])]) := by
  refine Calls.of (L := []) (n := 16) (rs := [.tmp 2, .tmp 3]) Tryd.func26 rfl rfl rfl (Nat.le_of_ble_eq_true rfl) (Sat.nil _) ?_
  refine TC.seq ?_
  refine TC.region ?_
  refine S.q rfl rfl (Qt.assign (by conv => lhs; whnf)) ?_
  refine S.q rfl rfl (Qt.assign (by conv => lhs; whnf)) ?_
  refine S.nil ?_
  refine TC.seq ?_
  refine TC.seq ?_
  refine TC.region ?_
  refine S.q rfl rfl (Qt.move (by conv => lhs; whnf)) ?_
  refine S.q rfl rfl (Qt.dF (Qt.lt (b := 0) rfl rfl) (by omega)) ?_
  refine S.q rfl rfl (Qt.move (by conv => lhs; whnf)) ?_
  refine S.qg rfl rfl rfl (Qt.move (by conv => lhs; whnf)) ?_
  refine S.qg rfl rfl rfl (Qt.dF (Qt.gt (b := 32) rfl rfl) (by omega)) ?_
  refine S.q rfl rfl (Qt.pick_f rfl (by conv => lhs; whnf)) ?_
  refine S.nil ?_
  refine S.if_f rfl ?_
  refine TC.skip ?_
  refine TC.seq ?_
  refine TC.region ?_
  refine S.q rfl rfl (Qt.move (by conv => lhs; whnf)) ?_
  refine S.opS rfl rfl (OpV.makeMap (enc := encAt) (encv := hv) (fun mb => ?_))
  refine S.opS rfl rfl (OpV.con0 Tryd.ent88 rfl (fun w hw => hEm w (hT.at hw)) ?_)
  refine S.q rfl rfl (Qt.as (Qt.buildS (vs := [.int .i64 (height : Int), .map (some mb), .agg (hcs (emptL E)).toArray]) (pls := #[(0, 1), (1, 1), (2, 1056)]) Tryd.underlying150 (fun w => by kernel_rfl) Tryd.zero150 rfl ⟨rfl, rfl, (by show some (2, 1056) = some (2, _); rw [vl_agg, hcs_length, emptL_length]), trivial⟩ (by simp [hcs_length, emptL_length, vl])) (show _ = Value.agg (treeCs E height mb).toArray by simp [treeCs, vl])) ?_
  refine S.opS rfl rfl (OpV.box (v := .agg (treeCs E height mb).toArray) rfl (fun b15 => ?_))
  refine S.q rfl rfl (Qt.assign (by conv => lhs; whnf)) ?_
  refine S.q rfl rfl (Qt.assign (by conv => lhs; whnf)) ?_
  refine S.nil ?_
  refine TC.ret ?_
  refine finQ.ret (RVs.tmp (by conv => lhs; whnf) (RVs.tmp (by conv => lhs; whnf) RVs.nil)) (Sub.refl _) ?_
  exact ⟨b15, mb, rfl, rfl⟩
set_option maxHeartbeats 400000 in
theorem new_walkF (z : Int) (hz : z < 0 ∨ 32 < z) (w0 : World) :
    Calls Tryd.prog 26 #[.int .i64 z] w0 (Post w0 [] fun v L => v = .tuple #[.pointer none, .iface 58 (.int .i64 1)] ∧ L = []) := by
  refine Calls.of (L := []) (n := 16) (rs := [.tmp 2, .tmp 3]) Tryd.func26 rfl rfl rfl (Nat.le_of_ble_eq_true rfl) (Sat.nil _) ?_
  refine TC.seq ?_
  refine TC.region ?_
  refine S.q rfl rfl (Qt.assign (by conv => lhs; whnf)) ?_
  refine S.q rfl rfl (Qt.assign (by conv => lhs; whnf)) ?_
  refine S.nil ?_
  refine TC.seq ?_
  refine TC.seq ?_
  refine TC.region ?_
  refine S.q rfl rfl (Qt.move (by conv => lhs; whnf)) ?_
  refine S.dec rfl rfl (Qt.lti rfl rfl) (fun h5 => ?_) (fun h5 => ?_)
  · refine S.q rfl rfl (Qt.move (by conv => lhs; whnf)) ?_
    refine S.pass rfl rfl ?_
    refine S.pass rfl rfl ?_
    refine S.q rfl rfl (Qt.pick_t rfl (by conv => lhs; whnf)) ?_
    refine S.nil ?_
    refine S.if_t rfl ?_
    refine TC.seq ?_
    refine TC.region ?_
    refine S.q rfl rfl (Qt.makeInterface Tryd.underlying58 (fun _ h => nomatch h) (by conv => lhs; whnf)) ?_
    refine S.q rfl rfl (Qt.assign (by conv => lhs; whnf)) ?_
    refine S.q rfl rfl (Qt.assign (by conv => lhs; whnf)) ?_
    refine S.nil ?_
    refine TC.ret ?_
    refine finQ.ret (RVs.tmp (by conv => lhs; whnf) (RVs.tmp (by conv => lhs; whnf) RVs.nil)) (Sub.nil _) ?_
    exact ⟨rfl, rfl⟩
  · refine S.q rfl rfl (Qt.move (by conv => lhs; whnf)) ?_
    refine S.qg rfl rfl rfl (Qt.move (by conv => lhs; whnf)) ?_
    refine S.qg rfl rfl rfl (Qt.dT (Qt.gti rfl rfl) (by omega)) ?_
    refine S.q rfl rfl (Qt.pick_f rfl (by conv => lhs; whnf)) ?_
    refine S.nil ?_
    refine S.if_t rfl ?_
    refine TC.seq ?_
    refine TC.region ?_
    refine S.q rfl rfl (Qt.makeInterface Tryd.underlying58 (fun _ h => nomatch h) (by conv => lhs; whnf)) ?_
    refine S.q rfl rfl (Qt.assign (by conv => lhs; whnf)) ?_
    refine S.q rfl rfl (Qt.assign (by conv => lhs; whnf)) ?_
    refine S.nil ?_
    refine TC.ret ?_
    refine finQ.ret (RVs.tmp (by conv => lhs; whnf) (RVs.tmp (by conv => lhs; whnf) RVs.nil)) (Sub.nil _) ?_
    exact ⟨rfl, rfl⟩
theorem newF_R (z : Int) (hz : z < 0 ∨ 32 < z) (w0 : World) : Calls Tryd.prog 26 #[.int .i64 z] w0 (Ret w0 (.tuple #[.pointer none, .iface 58 (.int .i64 1)])) := Calls.ret (new_walkF z hz w0)

set_option maxHeartbeats 400000 in
theorem root_walk (E : Nat → H32) (tb mb height : Nat) (ms : Tm) (hh : height ≤ 32) (w0 : World) (hB : Ro w0 [] (Blk tb 150 (treeCs E height mb))) (hM : Ro w0 [] (MapA mb encAt hv (ms))) :
    Calls Tryd.prog 28 #[.pointer (some ⟨tb, 0, none⟩)] w0 (Post w0 [] fun v L => v = hv (getT E ms (height, 0)) ∧ L = []) := by
  refine Calls.of (L := []) (n := 13) (rs := [.cell 2 23]) Tryd.func28 rfl rfl rfl (Nat.le_of_ble_eq_true rfl) (Sat.nil _) ?_
  refine TC.seq ?_
  refine TC.region ?_
  refine S.opS rfl rfl (OpV.alloc Tryd.zero23 (fun b2 => ?_))
  refine S.nil ?_
  refine TC.seq ?_
  refine TC.seq ?_
  refine TC.region ?_
  refine S.q rfl rfl (Qt.move (by conv => lhs; whnf)) ?_
  refine S.q rfl rfl (Qt.eqp_some Tryd.underlying35 rfl) ?_
  refine S.nil ?_
  refine S.if_f rfl ?_
  refine TC.skip ?_
  refine TC.seq ?_
  refine TC.region ?_
  refine S.q rfl rfl (Qt.move (by conv => lhs; whnf)) ?_
  refine S.q rfl rfl (Qt.move (by conv => lhs; whnf)) ?_
  refine S.q rfl rfl (Qt.nilCheck rfl) ?_
  refine S.q rfl rfl (Qt.field Tryd.underlying150 rfl Tryd.cells3 rfl) ?_
  refine S.q rfl rfl (Qt.load rfl (Ld.one (Has.ro hB) Tryd.one3 (rfl))) ?_
  refine S.q rfl rfl (Qt.build2 (v := encAt (height, 0)) (a := .int .i64 ((height : Nat) : Int)) (b := .int .u64 ((0 : Nat) : Int)) rfl rfl (Tryd.buildAt (height) (0))) ?_
  refine S.opS rfl rfl (OpV.con0 Tryd.ent94 rfl (fun w hw => get_R E tb mb height ms height 0 hh w (Rd.ro hB w hw) (Rd.ro hM w hw)) ?_)
  refine S.opN rfl (OpV.storeV0 (v := hv (_)) rfl rfl (hv_size Tryd.cells23) (hv_all _) (hv_len _) ?_)
  refine S.nil ?_
  refine TC.ret ?_
  refine finQ.ret (RVs.cell rfl (Ld.all (Has.at 0 rfl) Tryd.row23 (hv_size Tryd.cells23)) RVs.nil) (Sub.nil _) ?_
  exact ⟨rfl, rfl⟩
theorem root_R (E : Nat → H32) (tb mb height : Nat) (ms : Tm) (hh : height ≤ 32) (w0 : World) (hB : Ro w0 [] (Blk tb 150 (treeCs E height mb))) (hM : Ro w0 [] (MapA mb encAt hv (ms))) : Calls Tryd.prog 28 #[.pointer (some ⟨tb, 0, none⟩)] w0 (Ret w0 (hv (getT E ms (height, 0)))) := Calls.ret (root_walk E tb mb height ms hh w0 hB hM)

set_option maxHeartbeats 400000 in
theorem height85_walk (E : Nat → H32) (tb mb height : Nat) (w0 : World) (hB : Ro w0 [] (Blk tb 150 (treeCs E height mb))) :
    Calls Tryd.prog 85 #[.pointer (some ⟨tb, 0, none⟩)] w0 (Post w0 [] fun v L => v = .int .i64 (height : Int) ∧ L = []) := by
  refine Calls.of (L := []) (n := 9) (rs := [.tmp 2]) Tryd.func85 rfl rfl rfl (Nat.le_of_ble_eq_true rfl) (Sat.nil _) ?_
  refine TC.seq ?_
  refine TC.region ?_
  refine S.q rfl rfl (Qt.assign (by conv => lhs; whnf)) ?_
  refine S.nil ?_
  refine TC.seq ?_
  refine TC.seq ?_
  refine TC.region ?_
  refine S.q rfl rfl (Qt.move (by conv => lhs; whnf)) ?_
  refine S.q rfl rfl (Qt.eqp_some Tryd.underlying35 rfl) ?_
  refine S.nil ?_
  refine S.if_f rfl ?_
  refine TC.skip ?_
  refine TC.seq ?_
  refine TC.region ?_
  refine S.q rfl rfl (Qt.move (by conv => lhs; whnf)) ?_
  refine S.q rfl rfl (Qt.nilCheck rfl) ?_
  refine S.q rfl rfl (Qt.field Tryd.underlying150 rfl Tryd.cells3 rfl) ?_
  refine S.q rfl rfl (Qt.load rfl (Ld.one (Has.ro hB) Tryd.one3 (rfl))) ?_
  refine S.q rfl rfl (Qt.assign (by conv => lhs; whnf)) ?_
  refine S.nil ?_
  refine TC.ret ?_
  refine finQ.ret (RVs.tmp (by conv => lhs; whnf) RVs.nil) (Sub.nil _) ?_
  exact ⟨rfl, rfl⟩
theorem height85_R (E : Nat → H32) (tb mb height : Nat) (w0 : World) (hB : Ro w0 [] (Blk tb 150 (treeCs E height mb))) : Calls Tryd.prog 85 #[.pointer (some ⟨tb, 0, none⟩)] w0 (Ret w0 (.int .i64 (height : Int))) := Calls.ret (height85_walk E tb mb height w0 hB)

end Go.Proofs.YtlneklemjfefpaaDoor
