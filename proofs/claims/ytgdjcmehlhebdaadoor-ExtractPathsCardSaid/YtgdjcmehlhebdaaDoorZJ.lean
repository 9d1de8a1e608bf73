/-
  Walks: the laws of paths and of openings. Printed by a program of ours.
-/
import Derived.Test.YtgdjcmehlhebdaaDoorZ9
namespace Go.Proofs.YtgdjcmehlhebdaaDoor
open Go.E
set_option linter.unusedVariables false
set_option maxRecDepth 4000
theorem Tryd.ent5 : Enters Tryd.prog 5 := ⟨_, Tryd.func5, by kernel_rfl, rfl⟩
theorem Tryd.ent7 : Enters Tryd.prog 7 := ⟨_, Tryd.func7, by kernel_rfl, rfl⟩
theorem Tryd.ent8 : Enters Tryd.prog 8 := ⟨_, Tryd.func8, by kernel_rfl, rfl⟩
theorem Tryd.ent10 : Enters Tryd.prog 10 := ⟨_, Tryd.func10, by kernel_rfl, rfl⟩
theorem Tryd.ent11 : Enters Tryd.prog 11 := ⟨_, Tryd.func11, by kernel_rfl, rfl⟩
set_option maxHeartbeats 3200000 in
theorem law3_walkE (E : Nat → H32) (hEm : ∀ w, Tabs 3 1 w [] → Calls Tryd.prog 61 #[] w (Ret w (.agg (hcs (emptL E)).toArray))) (i : Nat) (hi : i < 18446744073709551616) (x : H32) (A : Option Addr) (c : Nat) (ps : List H32) (y : H32) (B : Option Addr) (e : Nat) (qs : List H32) (hg : 60 < ps.length ∨ 60 < qs.length) (w0 : World) (hT : Tabs 3 1 w0 []) :
    Calls Tryd.prog 3 #[.int .u64 (i : Int), .agg (ctL x A ps.length c ++ ctL y B qs.length e).toArray] w0 (Post w0 [] fun v L => v = .bool true ∧ L = []) := by
  refine Calls.of (L := []) (n := 111) (rs := [.tmp 4]) Tryd.func3 rfl rfl rfl (Nat.le_of_ble_eq_true rfl) (Sat.nil _) ?_
  refine TC.seq ?_
  refine TC.region ?_
  refine S.opS rfl rfl (OpV.box (v := .agg (ctL x A ps.length c ++ ctL y B qs.length e).toArray) rfl (fun b3 => ?_))
  refine S.q rfl rfl (Qt.assign (by conv => lhs; whnf)) ?_
  refine S.nil ?_
  refine TC.seq ?_
  refine TC.seq ?_
  refine TC.region ?_
  refine S.opS rfl rfl (OpV.con0 Tryd.ent5 rfl (fun w hw => Calls.ret (alive5_walk E hEm w (hT.at hw))) ?_)
  refine S.q rfl rfl (Qt.not_t rfl) ?_
  refine S.nil ?_
  refine S.if_f rfl ?_
  refine TC.skip ?_
  refine TC.seq ?_
  refine TC.seq ?_
  refine TC.region ?_
  refine S.q rfl rfl (Qt.indexB (i := 0) Tryd.underlying28 Tryd.cells27 rfl rfl (by omega)) ?_
  refine S.q rfl rfl (Qt.field Tryd.underlying27 rfl Tryd.cells25 rfl) ?_
  refine S.q rfl rfl (Qt.load rfl (Ld.one (v := .slice A ps.length c) (Has.at 0 rfl) Tryd.one25 (ctL_path ..))) ?_
  refine S.q rfl rfl (Qt.len_slice Tryd.underlying25 rfl) ?_
  refine S.dec rfl rfl (Qt.gt (b := 60) rfl rfl) (fun h16 => ?_) (fun h16 => ?_)
  · refine S.q rfl rfl (Qt.move (by conv => lhs; whnf)) ?_
    refine S.pass rfl rfl ?_
    refine S.pass rfl rfl ?_
    refine S.pass rfl rfl ?_
    refine S.pass rfl rfl ?_
    refine S.pass rfl rfl ?_
    refine S.q rfl rfl (Qt.pick_t rfl (by conv => lhs; whnf)) ?_
    refine S.nil ?_
    refine S.if_t rfl ?_
    refine TC.seq ?_
    refine TC.region ?_
    refine S.q rfl rfl (Qt.assign (by conv => lhs; whnf)) ?_
    refine S.nil ?_
    refine TC.ret ?_
    refine finQ.ret (RVs.tmp (by conv => lhs; whnf) RVs.nil) (Sub.nil _) ?_
    exact ⟨rfl, rfl⟩
  · refine S.q rfl rfl (Qt.move (by conv => lhs; whnf)) ?_
    refine S.qg rfl rfl rfl (Qt.indexB (i := 1) Tryd.underlying28 Tryd.cells27 rfl rfl (by omega)) ?_
    refine S.qg rfl rfl rfl (Qt.field Tryd.underlying27 rfl Tryd.cells25 rfl) ?_
    refine S.qg rfl rfl rfl (Qt.load rfl (Ld.one (v := .slice B qs.length e) (Has.at 0 rfl) Tryd.one25 (ctL_path2 _ _ _ _ _ (ctL_len ..)))) ?_
    refine S.qg rfl rfl rfl (Qt.len_slice Tryd.underlying25 rfl) ?_
    refine S.qg rfl rfl rfl (Qt.dT (Qt.gt (b := 60) rfl rfl) (by omega)) ?_
    refine S.q rfl rfl (Qt.pick_f rfl (by conv => lhs; whnf)) ?_
    refine S.nil ?_
    refine S.if_t rfl ?_
    refine TC.seq ?_
    refine TC.region ?_
    refine S.q rfl rfl (Qt.assign (by conv => lhs; whnf)) ?_
    refine S.nil ?_
    refine TC.ret ?_
    refine finQ.ret (RVs.tmp (by conv => lhs; whnf) RVs.nil) (Sub.nil _) ?_
    exact ⟨rfl, rfl⟩
set_option maxHeartbeats 6400000 in
theorem law3_walk (E : Nat → H32) (hEm : ∀ w, Tabs 3 1 w [] → Calls Tryd.prog 61 #[] w (Ret w (.agg (hcs (emptL E)).toArray))) (i : Nat) (hi : i < 18446744073709551616) (x : H32) (A : Option Addr) (c : Nat) (ps : List H32) (y : H32) (B : Option Addr) (e : Nat) (qs : List H32) (hg1 : ps.length ≤ 60) (hg2 : qs.length ≤ 60) (w0 : World) (hR : Ro w0 [] (SlA A (hcs ps))) (hR2 : Ro w0 [] (SlA B (hcs qs))) (hT : Tabs 3 1 w0 []) (hT2 : Tabs 2 0 w0 []) :
    Calls Tryd.prog 3 #[.int .u64 (i : Int), .agg (ctL x A ps.length c ++ ctL y B qs.length e).toArray] w0 (Post w0 [] fun v L => v = .bool true ∧ L = []) := by
  refine Calls.of (L := []) (n := 111) (rs := [.tmp 4]) Tryd.func3 rfl rfl rfl (Nat.le_of_ble_eq_true rfl) (Sat.nil _) ?_
  refine TC.seq ?_
  refine TC.region ?_
  refine S.opS rfl rfl (OpV.box (v := .agg (ctL x A ps.length c ++ ctL y B qs.length e).toArray) rfl (fun b3 => ?_))
  refine S.q rfl rfl (Qt.assign (by conv => lhs; whnf)) ?_
  refine S.nil ?_
  refine TC.seq ?_
  refine TC.seq ?_
  refine TC.region ?_
  refine S.opS rfl rfl (OpV.con0 Tryd.ent5 rfl (fun w hw => Calls.ret (alive5_walk E hEm w (hT.at hw))) ?_)
  refine S.q rfl rfl (Qt.not_t rfl) ?_
  refine S.nil ?_
  refine S.if_f rfl ?_
  refine TC.skip ?_
  refine TC.seq ?_
  refine TC.seq ?_
  refine TC.region ?_
  refine S.q rfl rfl (Qt.indexB (i := 0) Tryd.underlying28 Tryd.cells27 rfl rfl (by omega)) ?_
  refine S.q rfl rfl (Qt.field Tryd.underlying27 rfl Tryd.cells25 rfl) ?_
  refine S.q rfl rfl (Qt.load rfl (Ld.one (v := .slice A ps.length c) (Has.at 0 rfl) Tryd.one25 (ctL_path ..))) ?_
  refine S.q rfl rfl (Qt.len_slice Tryd.underlying25 rfl) ?_
  refine S.q rfl rfl (Qt.dF (Qt.gt (b := 60) rfl rfl) (by omega)) ?_
  refine S.q rfl rfl (Qt.move (by conv => lhs; whnf)) ?_
  refine S.qg rfl rfl rfl (Qt.indexB (i := 1) Tryd.underlying28 Tryd.cells27 rfl rfl (by omega)) ?_
  refine S.qg rfl rfl rfl (Qt.field Tryd.underlying27 rfl Tryd.cells25 rfl) ?_
  refine S.qg rfl rfl rfl (Qt.load rfl (Ld.one (v := .slice B qs.length e) (Has.at 0 rfl) Tryd.one25 (ctL_path2 _ _ _ _ _ (ctL_len ..)))) ?_
  refine S.qg rfl rfl rfl (Qt.len_slice Tryd.underlying25 rfl) ?_
  refine S.qg rfl rfl rfl (Qt.dF (Qt.gt (b := 60) rfl rfl) (by omega)) ?_
  refine S.q rfl rfl (Qt.pick_f rfl (by conv => lhs; whnf)) ?_
  refine S.nil ?_
  refine S.if_f rfl ?_
  refine TC.skip ?_
  refine TC.seq ?_
  refine TC.region ?_
  refine S.q rfl rfl (Qt.move (by conv => lhs; whnf)) ?_
  refine S.q rfl rfl (Qt.indexB (i := 0) Tryd.underlying28 Tryd.cells27 rfl rfl (by omega)) ?_
  refine S.q rfl rfl (Qt.load rfl (Ld.row (vs := ctL x A ps.length c) (Has.at 0 rfl) Tryd.row27 (by rw [ctL_len]; exact Tryd.cells27) app_left)) ?_
  refine S.q rfl rfl (Qt.indexB (i := 1) Tryd.underlying28 Tryd.cells27 rfl rfl (by omega)) ?_
  refine S.q rfl rfl (Qt.load rfl (Ld.row (vs := ctL y B qs.length e) (Has.at 0 rfl) Tryd.row27 (by rw [ctL_len]; exact Tryd.cells27) (app_right (ctL_len ..)))) ?_
  refine S.opS rfl rfl (OpV.con (Pre := []) (R := _) Tryd.ent6 rfl (List.Perm.refl _) (fun w hw => paths6_walk i hi x A c ps y B e qs w (Rd.ro hR w hw) (Rd.ro hR2 w hw) (hT.at hw)) ?_)
  rintro v L' ⟨O1, d1, p1, L1, rfl, rfl, e1, l1, m1⟩
  refine S.q rfl rfl (Qt.assign (by conv => lhs; whnf)) ?_
  refine S.nil ?_
  refine TC.seq ?_
  refine TC.seq ?_
  refine TC.region ?_
  refine S.q rfl rfl (Qt.move (by conv => lhs; whnf)) ?_
  refine S.q rfl rfl (Qt.move (by conv => lhs; whnf)) ?_
  refine S.q rfl rfl (Qt.indexB (i := 0) Tryd.underlying28 Tryd.cells27 rfl rfl (by omega)) ?_
  refine S.q rfl rfl (Qt.field Tryd.underlying27 rfl Tryd.cells24 rfl) ?_
  refine S.q rfl rfl (Qt.load rfl (Ld.row (vs := hvl x) (Has.at 2 rfl) Tryd.row24 (by rw [hvl_length]; exact Tryd.cells24) (ctL_hash _ _ _ _ _))) ?_
  refine S.q rfl rfl (Qt.indexB (i := 0) Tryd.underlying28 Tryd.cells27 rfl rfl (by omega)) ?_
  refine S.q rfl rfl (Qt.field Tryd.underlying27 rfl Tryd.cells25 rfl) ?_
  refine S.q rfl rfl (Qt.load rfl (Ld.one (v := .slice A ps.length c) (Has.at 2 rfl) Tryd.one25 (ctL_path ..))) ?_
  refine S.q rfl rfl (Qt.indexB (i := 1) Tryd.underlying28 Tryd.cells27 rfl rfl (by omega)) ?_
  refine S.q rfl rfl (Qt.field Tryd.underlying27 rfl Tryd.cells24 rfl) ?_
  refine S.q rfl rfl (Qt.load rfl (Ld.row (vs := hvl y) (Has.at 2 rfl) Tryd.row24 (by rw [hvl_length]; exact Tryd.cells24) (ctL_hash2 _ _ _ _ _ (ctL_len ..)))) ?_
  refine S.q rfl rfl (Qt.indexB (i := 1) Tryd.underlying28 Tryd.cells27 rfl rfl (by omega)) ?_
  refine S.q rfl rfl (Qt.field Tryd.underlying27 rfl Tryd.cells25 rfl) ?_
  refine S.q rfl rfl (Qt.load rfl (Ld.one (v := .slice B qs.length e) (Has.at 2 rfl) Tryd.one25 (ctL_path2 _ _ _ _ _ (ctL_len ..)))) ?_
  refine S.opS rfl rfl (OpV.con (Pre := []) (R := _) Tryd.ent8 rfl (List.Perm.refl _) (fun w hw => rpaths_C i x A c ps y B e qs hi w (Rd.ro hR w hw) (Rd.ro hR2 w hw) (hT2.at hw)) ?_)
  rintro v L' ⟨O2, d2, p2, L2, rfl, rfl, e2, l2, m2⟩
  refine S.opS rfl rfl (OpV.con0 Tryd.ent7 rfl (fun w hw => same_R O1 d1 p1 O2 d2 p2 l1 (e1.trans e2.symm) w (Rd.own (Rd.at 2 rfl) w hw) (PxRo.many (Rd.at 3 rfl) m1 hw) (PxLe.of e1 (pairX_le (pathQ_le _ _ _) (pathQ_le _ _ _))) (Rd.own (Rd.at 0 rfl) w hw) (PxRo.many (Rd.at 1 rfl) m2 hw) (PxLe.of e2 (pairX_le (pathQ_le _ _ _) (pathQ_le _ _ _))) (hT.at hw) (hT2.at hw)) ?_)
  refine S.q rfl rfl (Qt.not_t rfl) ?_
  refine S.nil ?_
  refine S.if_f rfl ?_
  refine TC.skip ?_
  refine TC.seq ?_
  refine TC.region ?_
  refine S.q rfl rfl (Qt.indexB (i := 0) Tryd.underlying28 Tryd.cells27 rfl rfl (by omega)) ?_
  refine S.q rfl rfl (Qt.field Tryd.underlying27 rfl Tryd.cells24 rfl) ?_
  refine S.q rfl rfl (Qt.load rfl (Ld.row (vs := hvl x) (Has.at 4 rfl) Tryd.row24 (by rw [hvl_length]; exact Tryd.cells24) (ctL_hash _ _ _ _ _))) ?_
  refine S.q rfl rfl (Qt.move (by conv => lhs; whnf)) ?_
  refine S.q rfl rfl (Qt.indexB (i := 0) Tryd.underlying28 Tryd.cells27 rfl rfl (by omega)) ?_
  refine S.q rfl rfl (Qt.field Tryd.underlying27 rfl Tryd.cells25 rfl) ?_
  refine S.q rfl rfl (Qt.load rfl (Ld.one (v := .slice A ps.length c) (Has.at 4 rfl) Tryd.one25 (ctL_path ..))) ?_
  by_cases f1 : fitsP i ps.length
  · refine S.opS rfl rfl (OpV.con0 Tryd.ent9 rfl (fun w hw => climb_R x i A ps.length c ps rfl hi f1 w (Rd.ro hR w hw) (hT.at hw)) ?_)
    refine S.q rfl rfl (Qt.move (by conv => lhs; whnf)) ?_
    refine S.q rfl rfl (Qt.extract rfl rfl) ?_
    refine S.q rfl rfl (Qt.extract rfl rfl) ?_
    refine S.opS rfl rfl (OpV.alloc Tryd.zero24 (fun b6 => ?_))
    refine S.opN rfl (OpV.storeV0 (v := hv (_)) rfl rfl (hv_size Tryd.cells24) (hv_all _) (hv_len _) ?_)
    refine S.q rfl rfl (Qt.assign (by conv => lhs; whnf)) ?_
    refine S.nil ?_
    refine TC.seq ?_
    refine TC.region ?_
    refine S.q rfl rfl (Qt.indexB (i := 1) Tryd.underlying28 Tryd.cells27 rfl rfl (by omega)) ?_
    refine S.q rfl rfl (Qt.field Tryd.underlying27 rfl Tryd.cells24 rfl) ?_
    refine S.q rfl rfl (Qt.load rfl (Ld.row (vs := hvl y) (Has.at 5 rfl) Tryd.row24 (by rw [hvl_length]; exact Tryd.cells24) (ctL_hash2 _ _ _ _ _ (ctL_len ..)))) ?_
    refine S.q rfl rfl (Qt.move (by conv => lhs; whnf)) ?_
    refine S.q rfl rfl (Qt.indexB (i := 1) Tryd.underlying28 Tryd.cells27 rfl rfl (by omega)) ?_
    refine S.q rfl rfl (Qt.field Tryd.underlying27 rfl Tryd.cells25 rfl) ?_
    refine S.q rfl rfl (Qt.load rfl (Ld.one (v := .slice B qs.length e) (Has.at 5 rfl) Tryd.one25 (ctL_path2 _ _ _ _ _ (ctL_len ..)))) ?_
    by_cases f2 : fitsP i qs.length
    · refine S.opS rfl rfl (OpV.con0 Tryd.ent9 rfl (fun w hw => climb_R y i B qs.length e qs rfl hi f2 w (Rd.ro hR2 w hw) (hT.at hw)) ?_)
      refine S.q rfl rfl (Qt.move (by conv => lhs; whnf)) ?_
      refine S.q rfl rfl (Qt.extract rfl rfl) ?_
      refine S.q rfl rfl (Qt.extract rfl rfl) ?_
      refine S.opS rfl rfl (OpV.alloc Tryd.zero24 (fun b8 => ?_))
      refine S.opN rfl (OpV.storeV0 (v := hv (_)) rfl rfl (hv_size Tryd.cells24) (hv_all _) (hv_len _) ?_)
      refine S.q rfl rfl (Qt.assign (by conv => lhs; whnf)) ?_
      refine S.nil ?_
      refine TC.seq ?_
      refine TC.seq ?_
      refine TC.region ?_
      refine S.q rfl rfl (Qt.move (by conv => lhs; whnf)) ?_
      refine S.q rfl rfl (Qt.nenil_nil Tryd.underlying36 rfl) ?_
      refine S.q rfl rfl (Qt.move (by conv => lhs; whnf)) ?_
      refine S.qg rfl rfl rfl (Qt.move (by conv => lhs; whnf)) ?_
      refine S.qg rfl rfl rfl (Qt.nenil_nil Tryd.underlying36 rfl) ?_
      refine S.q rfl rfl (Qt.pick_f rfl (by conv => lhs; whnf)) ?_
      refine S.q rfl rfl (Qt.move (by conv => lhs; whnf)) ?_
      refine S.qg rfl rfl rfl (Qt.load rfl (Ld.hash1 (x := climbH x i ps) (Has.at 1 rfl) Tryd.row24 Tryd.cells24)) ?_
      refine S.qg rfl rfl rfl (Qt.load rfl (Ld.hash1 (x := climbH y i qs) (Has.at 0 rfl) Tryd.row24 Tryd.cells24)) ?_
      refine S.decg rfl rfl rfl (Qt.neH (a := climbH x i ps) (b := climbH y i qs) Tryd.guard24 Tryd.underlying24 Tryd.underlying5 Tryd.cells5 rfl rfl) (fun h78 => ?_) (fun h78 => ?_)
      · refine S.q rfl rfl (Qt.pick_f rfl (by conv => lhs; whnf)) ?_
        refine S.q rfl rfl (Qt.move (by conv => lhs; whnf)) ?_
        refine S.pass rfl rfl ?_
        refine S.pass rfl rfl ?_
        refine S.pass rfl rfl ?_
        refine S.pass rfl rfl ?_
        refine S.pass rfl rfl ?_
        refine S.pass rfl rfl ?_
        refine S.pass rfl rfl ?_
        refine S.pass rfl rfl ?_
        refine S.pass rfl rfl ?_
        refine S.q rfl rfl (Qt.pick_t rfl (by conv => lhs; whnf)) ?_
        refine S.nil ?_
        refine S.if_t rfl ?_
        refine TC.seq ?_
        refine TC.region ?_
        refine S.q rfl rfl (Qt.assign (by conv => lhs; whnf)) ?_
        refine S.nil ?_
        refine TC.ret ?_
        refine finQ.ret (RVs.tmp (by conv => lhs; whnf) RVs.nil) (Sub.nil _) ?_
        exact ⟨rfl, rfl⟩
      · refine S.q rfl rfl (Qt.pick_f rfl (by conv => lhs; whnf)) ?_
        refine S.q rfl rfl (Qt.move (by conv => lhs; whnf)) ?_
        refine S.qg rfl rfl rfl (Qt.indexB (i := 0) Tryd.underlying28 Tryd.cells27 rfl rfl (by omega)) ?_
        refine S.qg rfl rfl rfl (Qt.field Tryd.underlying27 rfl Tryd.cells25 rfl) ?_
        refine S.qg rfl rfl rfl (Qt.load rfl (Ld.one (v := .slice A ps.length c) (Has.at 6 rfl) Tryd.one25 (ctL_path ..))) ?_
        refine S.qg rfl rfl rfl (Qt.len_slice Tryd.underlying25 rfl) ?_
        refine S.qg rfl rfl rfl (Qt.indexB (i := 1) Tryd.underlying28 Tryd.cells27 rfl rfl (by omega)) ?_
        refine S.qg rfl rfl rfl (Qt.field Tryd.underlying27 rfl Tryd.cells25 rfl) ?_
        refine S.qg rfl rfl rfl (Qt.load rfl (Ld.one (v := .slice B qs.length e) (Has.at 6 rfl) Tryd.one25 (ctL_path2 _ _ _ _ _ (ctL_len ..)))) ?_
        refine S.qg rfl rfl rfl (Qt.len_slice Tryd.underlying25 rfl) ?_
        refine S.decg rfl rfl rfl (Qt.ne rfl rfl) (fun h89 => ?_) (fun h89 => ?_)
        · refine S.q rfl rfl (Qt.pick_f rfl (by conv => lhs; whnf)) ?_
          refine S.nil ?_
          refine S.if_t rfl ?_
          refine TC.seq ?_
          refine TC.region ?_
          refine S.q rfl rfl (Qt.assign (by conv => lhs; whnf)) ?_
          refine S.nil ?_
          refine TC.ret ?_
          refine finQ.ret (RVs.tmp (by conv => lhs; whnf) RVs.nil) (Sub.nil _) ?_
          exact ⟨rfl, rfl⟩
        · refine S.q rfl rfl (Qt.pick_f rfl (by conv => lhs; whnf)) ?_
          refine S.nil ?_
          refine S.if_f rfl ?_
          refine TC.skip ?_
          refine TC.seq ?_
          refine TC.region ?_
          refine S.q rfl rfl (Qt.indexB (i := 0) Tryd.underlying28 Tryd.cells27 rfl rfl (by omega)) ?_
          refine S.q rfl rfl (Qt.field Tryd.underlying27 rfl Tryd.cells24 rfl) ?_
          refine S.q rfl rfl (Qt.load rfl (Ld.row (vs := hvl x) (Has.at 6 rfl) Tryd.row24 (by rw [hvl_length]; exact Tryd.cells24) (ctL_hash _ _ _ _ _))) ?_
          refine S.q rfl rfl (Qt.indexB (i := 1) Tryd.underlying28 Tryd.cells27 rfl rfl (by omega)) ?_
          refine S.q rfl rfl (Qt.field Tryd.underlying27 rfl Tryd.cells24 rfl) ?_
          refine S.q rfl rfl (Qt.load rfl (Ld.row (vs := hvl y) (Has.at 6 rfl) Tryd.row24 (by rw [hvl_length]; exact Tryd.cells24) (ctL_hash2 _ _ _ _ _ (ctL_len ..)))) ?_
          refine S.dec rfl rfl (Qt.eqH (a := x) (b := y) Tryd.guard24 Tryd.underlying24 Tryd.underlying5 Tryd.cells5 rfl rfl) (fun h97 => ?_) (fun h97 => ?_)
          · refine S.q rfl rfl (Qt.move (by conv => lhs; whnf)) ?_
            refine S.qg rfl rfl rfl (Qt.indexB (i := 0) Tryd.underlying28 Tryd.cells27 rfl rfl (by omega)) ?_
            refine S.qg rfl rfl rfl (Qt.field Tryd.underlying27 rfl Tryd.cells25 rfl) ?_
            refine S.qg rfl rfl rfl (Qt.load rfl (Ld.one (v := .slice A ps.length c) (Has.at 6 rfl) Tryd.one25 (ctL_path ..))) ?_
            refine S.qg rfl rfl rfl (Qt.indexB (i := 1) Tryd.underlying28 Tryd.cells27 rfl rfl (by omega)) ?_
            refine S.qg rfl rfl rfl (Qt.field Tryd.underlying27 rfl Tryd.cells25 rfl) ?_
            refine S.qg rfl rfl rfl (Qt.load rfl (Ld.one (v := .slice B qs.length e) (Has.at 6 rfl) Tryd.one25 (ctL_path2 _ _ _ _ _ (ctL_len ..)))) ?_
            by_cases hpq : ps = qs
            · refine S.opg rfl rfl rfl (OpV.con0 Tryd.ent10 rfl (fun w hw => (by have h := hashesD_R A c ps B e qs (by omega) (by omega) w (Rd.ro hR w hw) (Rd.ro hR2 w hw); rw [decide_eq_true hpq] at h; exact h : Calls Tryd.prog 10 #[.slice A ps.length c, .slice B qs.length e] w (Ret w (.bool true)))) ?_)
              refine S.q rfl rfl (Qt.pick_t rfl (by conv => lhs; whnf)) ?_
              refine S.q rfl rfl (Qt.move (by conv => lhs; whnf)) ?_
              refine S.pass rfl rfl ?_
              refine S.pass rfl rfl ?_
              refine S.q rfl rfl (Qt.pick_t rfl (by conv => lhs; whnf)) ?_
              refine S.q rfl rfl (Qt.assign (by conv => lhs; whnf)) ?_
              refine S.nil ?_
              refine TC.ret ?_
              refine finQ.ret (RVs.tmp (by conv => lhs; whnf) RVs.nil) (Sub.nil _) ?_
              exact ⟨rfl, rfl⟩
            · refine S.opg rfl rfl rfl (OpV.con0 Tryd.ent10 rfl (fun w hw => (by have h := hashesD_R A c ps B e qs (by omega) (by omega) w (Rd.ro hR w hw) (Rd.ro hR2 w hw); rw [decide_eq_false hpq] at h; exact h : Calls Tryd.prog 10 #[.slice A ps.length c, .slice B qs.length e] w (Ret w (.bool false)))) ?_)
              refine S.q rfl rfl (Qt.pick_t rfl (by conv => lhs; whnf)) ?_
              refine S.q rfl rfl (Qt.move (by conv => lhs; whnf)) ?_
              refine S.qg rfl rfl rfl (Qt.move (by conv => lhs; whnf)) ?_
              refine S.opg rfl rfl rfl (OpV.con0 Tryd.ent11 rfl (fun w hw => Calls.ret (right11_walk O1 d1 p1 l1 (paths_find f1 f2 (Decidable.not_not.1 h89) (Decidable.not_not.1 h78) (fun q => hpq q.2) e1) w (Rd.own (Rd.at 4 rfl) w hw) (PxRo.many (Rd.at 5 rfl) m1 hw) (PxLe.of e1 (pairX_le (pathQ_le _ _ _) (pathQ_le _ _ _))) (hT.at hw) (hT2.at hw))) ?_)
              refine S.q rfl rfl (Qt.pick_f rfl (by conv => lhs; whnf)) ?_
              refine S.q rfl rfl (Qt.assign (by conv => lhs; whnf)) ?_
              refine S.nil ?_
              refine TC.ret ?_
              refine finQ.ret (RVs.tmp (by conv => lhs; whnf) RVs.nil) (Sub.nil _) ?_
              exact ⟨rfl, rfl⟩
          · refine S.q rfl rfl (Qt.move (by conv => lhs; whnf)) ?_
            refine S.pass rfl rfl ?_
            refine S.pass rfl rfl ?_
            refine S.pass rfl rfl ?_
            refine S.pass rfl rfl ?_
            refine S.pass rfl rfl ?_
            refine S.pass rfl rfl ?_
            refine S.pass rfl rfl ?_
            refine S.q rfl rfl (Qt.pick_f rfl (by conv => lhs; whnf)) ?_
            refine S.q rfl rfl (Qt.move (by conv => lhs; whnf)) ?_
            refine S.qg rfl rfl rfl (Qt.move (by conv => lhs; whnf)) ?_
            refine S.opg rfl rfl rfl (OpV.con0 Tryd.ent11 rfl (fun w hw => Calls.ret (right11_walk O1 d1 p1 l1 (paths_find f1 f2 (Decidable.not_not.1 h89) (Decidable.not_not.1 h78) (fun q => h97 q.1) e1) w (Rd.own (Rd.at 4 rfl) w hw) (PxRo.many (Rd.at 5 rfl) m1 hw) (PxLe.of e1 (pairX_le (pathQ_le _ _ _) (pathQ_le _ _ _))) (hT.at hw) (hT2.at hw))) ?_)
            refine S.q rfl rfl (Qt.pick_f rfl (by conv => lhs; whnf)) ?_
            refine S.q rfl rfl (Qt.assign (by conv => lhs; whnf)) ?_
            refine S.nil ?_
            refine TC.ret ?_
            refine finQ.ret (RVs.tmp (by conv => lhs; whnf) RVs.nil) (Sub.nil _) ?_
            exact ⟨rfl, rfl⟩
    · refine S.opS rfl rfl (OpV.con0 Tryd.ent9 rfl (fun w hw => climbF_R y i B qs.length e hi f2 w) ?_)
      refine S.q rfl rfl (Qt.move (by conv => lhs; whnf)) ?_
      refine S.q rfl rfl (Qt.extract rfl rfl) ?_
      refine S.q rfl rfl (Qt.extract rfl rfl) ?_
      refine S.opS rfl rfl (OpV.alloc Tryd.zero24 (fun b8 => ?_))
      refine S.opN rfl (OpV.storeV0 (v := hv (_)) rfl rfl (hv_size Tryd.cells24) (hv_all _) (hv_len _) ?_)
      refine S.q rfl rfl (Qt.assign (by conv => lhs; whnf)) ?_
      refine S.nil ?_
      refine TC.seq ?_
      refine TC.seq ?_
      refine TC.region ?_
      refine S.q rfl rfl (Qt.move (by conv => lhs; whnf)) ?_
      refine S.q rfl rfl (Qt.nenil_nil Tryd.underlying36 rfl) ?_
      refine S.q rfl rfl (Qt.move (by conv => lhs; whnf)) ?_
      refine S.qg rfl rfl rfl (Qt.move (by conv => lhs; whnf)) ?_
      refine S.qg rfl rfl rfl (Qt.nenil_iface Tryd.underlying36 rfl) ?_
      refine S.q rfl rfl (Qt.pick_f rfl (by conv => lhs; whnf)) ?_
      refine S.q rfl rfl (Qt.move (by conv => lhs; whnf)) ?_
      refine S.pass rfl rfl ?_
      refine S.pass rfl rfl ?_
      refine S.pass rfl rfl ?_
      refine S.q rfl rfl (Qt.pick_t rfl (by conv => lhs; whnf)) ?_
      refine S.q rfl rfl (Qt.move (by conv => lhs; whnf)) ?_
      refine S.pass rfl rfl ?_
      refine S.pass rfl rfl ?_
      refine S.pass rfl rfl ?_
      refine S.pass rfl rfl ?_
      refine S.pass rfl rfl ?_
      refine S.pass rfl rfl ?_
      refine S.pass rfl rfl ?_
      refine S.pass rfl rfl ?_
      refine S.pass rfl rfl ?_
      refine S.q rfl rfl (Qt.pick_t rfl (by conv => lhs; whnf)) ?_
      refine S.nil ?_
      refine S.if_t rfl ?_
      refine TC.seq ?_
      refine TC.region ?_
      refine S.q rfl rfl (Qt.assign (by conv => lhs; whnf)) ?_
      refine S.nil ?_
      refine TC.ret ?_
      refine finQ.ret (RVs.tmp (by conv => lhs; whnf) RVs.nil) (Sub.nil _) ?_
      exact ⟨rfl, rfl⟩
  · refine S.opS rfl rfl (OpV.con0 Tryd.ent9 rfl (fun w hw => climbF_R x i A ps.length c hi f1 w) ?_)
    refine S.q rfl rfl (Qt.move (by conv => lhs; whnf)) ?_
    refine S.q rfl rfl (Qt.extract rfl rfl) ?_
    refine S.q rfl rfl (Qt.extract rfl rfl) ?_
    refine S.opS rfl rfl (OpV.alloc Tryd.zero24 (fun b6 => ?_))
    refine S.opN rfl (OpV.storeV0 (v := hv (_)) rfl rfl (hv_size Tryd.cells24) (hv_all _) (hv_len _) ?_)
    refine S.q rfl rfl (Qt.assign (by conv => lhs; whnf)) ?_
    refine S.nil ?_
    refine TC.seq ?_
    refine TC.region ?_
    refine S.q rfl rfl (Qt.indexB (i := 1) Tryd.underlying28 Tryd.cells27 rfl rfl (by omega)) ?_
    refine S.q rfl rfl (Qt.field Tryd.underlying27 rfl Tryd.cells24 rfl) ?_
    refine S.q rfl rfl (Qt.load rfl (Ld.row (vs := hvl y) (Has.at 5 rfl) Tryd.row24 (by rw [hvl_length]; exact Tryd.cells24) (ctL_hash2 _ _ _ _ _ (ctL_len ..)))) ?_
    refine S.q rfl rfl (Qt.move (by conv => lhs; whnf)) ?_
    refine S.q rfl rfl (Qt.indexB (i := 1) Tryd.underlying28 Tryd.cells27 rfl rfl (by omega)) ?_
    refine S.q rfl rfl (Qt.field Tryd.underlying27 rfl Tryd.cells25 rfl) ?_
    refine S.q rfl rfl (Qt.load rfl (Ld.one (v := .slice B qs.length e) (Has.at 5 rfl) Tryd.one25 (ctL_path2 _ _ _ _ _ (ctL_len ..)))) ?_
    by_cases f2 : fitsP i qs.length
    · refine S.opS rfl rfl (OpV.con0 Tryd.ent9 rfl (fun w hw => climb_R y i B qs.length e qs rfl hi f2 w (Rd.ro hR2 w hw) (hT.at hw)) ?_)
      refine S.q rfl rfl (Qt.move (by conv => lhs; whnf)) ?_
      refine S.q rfl rfl (Qt.extract rfl rfl) ?_
      refine S.q rfl rfl (Qt.extract rfl rfl) ?_
      refine S.opS rfl rfl (OpV.alloc Tryd.zero24 (fun b8 => ?_))
      refine S.opN rfl (OpV.storeV0 (v := hv (_)) rfl rfl (hv_size Tryd.cells24) (hv_all _) (hv_len _) ?_)
      refine S.q rfl rfl (Qt.assign (by conv => lhs; whnf)) ?_
      refine S.nil ?_
      refine TC.seq ?_
      refine TC.seq ?_
      refine TC.region ?_
      refine S.q rfl rfl (Qt.move (by conv => lhs; whnf)) ?_
      refine S.q rfl rfl (Qt.nenil_iface Tryd.underlying36 rfl) ?_
      refine S.q rfl rfl (Qt.move (by conv => lhs; whnf)) ?_
      refine S.pass rfl rfl ?_
      refine S.pass rfl rfl ?_
      refine S.q rfl rfl (Qt.pick_t rfl (by conv => lhs; whnf)) ?_
      refine S.q rfl rfl (Qt.move (by conv => lhs; whnf)) ?_
      refine S.pass rfl rfl ?_
      refine S.pass rfl rfl ?_
      refine S.pass rfl rfl ?_
      refine S.q rfl rfl (Qt.pick_t rfl (by conv => lhs; whnf)) ?_
      refine S.q rfl rfl (Qt.move (by conv => lhs; whnf)) ?_
      refine S.pass rfl rfl ?_
      refine S.pass rfl rfl ?_
      refine S.pass rfl rfl ?_
      refine S.pass rfl rfl ?_
      refine S.pass rfl rfl ?_
      refine S.pass rfl rfl ?_
      refine S.pass rfl rfl ?_
      refine S.pass rfl rfl ?_
      refine S.pass rfl rfl ?_
      refine S.q rfl rfl (Qt.pick_t rfl (by conv => lhs; whnf)) ?_
      refine S.nil ?_
      refine S.if_t rfl ?_
      refine TC.seq ?_
      refine TC.region ?_
      refine S.q rfl rfl (Qt.assign (by conv => lhs; whnf)) ?_
      refine S.nil ?_
      refine TC.ret ?_
      refine finQ.ret (RVs.tmp (by conv => lhs; whnf) RVs.nil) (Sub.nil _) ?_
      exact ⟨rfl, rfl⟩
    · refine S.opS rfl rfl (OpV.con0 Tryd.ent9 rfl (fun w hw => climbF_R y i B qs.length e hi f2 w) ?_)
      refine S.q rfl rfl (Qt.move (by conv => lhs; whnf)) ?_
      refine S.q rfl rfl (Qt.extract rfl rfl) ?_
      refine S.q rfl rfl (Qt.extract rfl rfl) ?_
      refine S.opS rfl rfl (OpV.alloc Tryd.zero24 (fun b8 => ?_))
      refine S.opN rfl (OpV.storeV0 (v := hv (_)) rfl rfl (hv_size Tryd.cells24) (hv_all _) (hv_len _) ?_)
      refine S.q rfl rfl (Qt.assign (by conv => lhs; whnf)) ?_
      refine S.nil ?_
      refine TC.seq ?_
      refine TC.seq ?_
      refine TC.region ?_
      refine S.q rfl rfl (Qt.move (by conv => lhs; whnf)) ?_
      refine S.q rfl rfl (Qt.nenil_iface Tryd.underlying36 rfl) ?_
      refine S.q rfl rfl (Qt.move (by conv => lhs; whnf)) ?_
      refine S.pass rfl rfl ?_
      refine S.pass rfl rfl ?_
      refine S.q rfl rfl (Qt.pick_t rfl (by conv => lhs; whnf)) ?_
      refine S.q rfl rfl (Qt.move (by conv => lhs; whnf)) ?_
      refine S.pass rfl rfl ?_
      refine S.pass rfl rfl ?_
      refine S.pass rfl rfl ?_
      refine S.q rfl rfl (Qt.pick_t rfl (by conv => lhs; whnf)) ?_
      refine S.q rfl rfl (Qt.move (by conv => lhs; whnf)) ?_
      refine S.pass rfl rfl ?_
      refine S.pass rfl rfl ?_
      refine S.pass rfl rfl ?_
      refine S.pass rfl rfl ?_
      refine S.pass rfl rfl ?_
      refine S.pass rfl rfl ?_
      refine S.pass rfl rfl ?_
      refine S.pass rfl rfl ?_
      refine S.pass rfl rfl ?_
      refine S.q rfl rfl (Qt.pick_t rfl (by conv => lhs; whnf)) ?_
      refine S.nil ?_
      refine S.if_t rfl ?_
      refine TC.seq ?_
      refine TC.region ?_
      refine S.q rfl rfl (Qt.assign (by conv => lhs; whnf)) ?_
      refine S.nil ?_
      refine TC.ret ?_
      refine finQ.ret (RVs.tmp (by conv => lhs; whnf) RVs.nil) (Sub.nil _) ?_
      exact ⟨rfl, rfl⟩
theorem extractPaths_R (i : Nat) (hi : i < 18446744073709551616) (x : H32) (A : Option Addr) (c : Nat) (ps : List H32) (y : H32) (B : Option Addr) (e : Nat) (qs : List H32) (w0 : World) (hR : Ro w0 [] (SlA A (hcs ps))) (hR2 : Ro w0 [] (SlA B (hcs qs))) (hT : Tabs 3 1 w0 []) (hT2 : Tabs 2 0 w0 []) : Calls Tryd.prog 3 #[.int .u64 (i : Int), .agg (ctL x A ps.length c ++ ctL y B qs.length e).toArray] w0 (Post w0 [] fun v L => v = .bool true ∧ L = []) := by
  have hEm : ∀ w, Tabs 3 1 w [] → Calls Tryd.prog 61 #[] w (Ret w (.agg (hcs (emptL emptyH)).toArray)) := fun w h => empties_R w h
  by_cases hg : 60 < ps.length ∨ 60 < qs.length
  · exact law3_walkE emptyH hEm i hi x A c ps y B e qs hg w0 hT
  · exact law3_walk emptyH hEm i hi x A c ps y B e qs (by omega) (by omega) w0 hR hR2 hT hT2

end Go.Proofs.YtgdjcmehlhebdaaDoor
