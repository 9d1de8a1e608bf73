/-
  Walks: the laws of paths and of openings. Printed by a program of ours.
-/
import Derived.Test.YtgdjcmehlhebdaaDoorZ9
namespace Go.Proofs.YtgdjcmehlhebdaaDoor
open Go.E
set_option linter.unusedVariables false
set_option maxRecDepth 4000
theorem Tryd.ent5 : Enters Tryd.prog 5 := ⟨_, Tryd.func5, by kernel_rfl, rfl⟩
theorem Tryd.ent7 : Enters Tryd.prog 7 := ⟨_, Tryd.func7, by kernel_rfl, rfl⟩
theorem Tryd.ent10 : Enters Tryd.prog 10 := ⟨_, Tryd.func10, by kernel_rfl, rfl⟩
theorem Tryd.ent11 : Enters Tryd.prog 11 := ⟨_, Tryd.func11, by kernel_rfl, rfl⟩
theorem Tryd.ent12 : Enters Tryd.prog 12 := ⟨_, Tryd.func12, by kernel_rfl, rfl⟩
theorem Tryd.ent14 : Enters Tryd.prog 14 := ⟨_, Tryd.func14, by kernel_rfl, rfl⟩
theorem Tryd.ent15 : Enters Tryd.prog 15 := ⟨_, Tryd.func15, by kernel_rfl, rfl⟩

set_option maxHeartbeats 3200000 in
theorem law4_walkE (E : Nat → H32) (hEm : ∀ w, Tabs 3 1 w [] → Calls Tryd.prog 61 #[] w (Ret w (.agg (hcs (emptL E)).toArray))) (z : Int) (A : Option Addr) (c : Nat) (xs : List Nat) (hc : xs.length ≤ c) (B1 : Option Addr) (a1 : Nat) (ls1 : List H32) (Z1 : Option Addr) (e1 : Nat) (bs1 : List H32) (B2 : Option Addr) (a2 : Nat) (ls2 : List H32) (Z2 : Option Addr) (e2 : Nat) (bs2 : List H32) (hb1 : ls1.length ≤ a1) (he1 : bs1.length ≤ e1) (hb2 : ls2.length ≤ a2) (he2 : bs2.length ≤ e2) (hg : largeP xs.length ls1.length bs1.length ∨ largeP xs.length ls2.length bs2.length) (w0 : World) (hT : Tabs 3 1 w0 []) :
    Calls Tryd.prog 4 #[.int .i64 z, .slice A xs.length c, .agg #[.slice B1 ls1.length a1, .slice Z1 bs1.length e1, .slice B2 ls2.length a2, .slice Z2 bs2.length e2]] w0 (Post w0 [] fun v L => v = .bool true ∧ L = []) := by
  refine Calls.of (L := []) (n := 102) (rs := [.tmp 6]) Tryd.func4 rfl rfl rfl (Nat.le_of_ble_eq_true rfl) (Sat.nil _) ?_
  refine TC.seq ?_
  refine TC.region ?_
  refine S.opS rfl rfl (OpV.box (v := .agg #[.slice B1 ls1.length a1, .slice Z1 bs1.length e1, .slice B2 ls2.length a2, .slice Z2 bs2.length e2]) rfl (fun b5 => ?_))
  refine S.q rfl rfl (Qt.assign (by conv => lhs; whnf)) ?_
  refine S.nil ?_
  refine TC.seq ?_
  refine TC.seq ?_
  refine TC.region ?_
  refine S.opS rfl rfl (OpV.con0 Tryd.ent5 rfl (fun w hw => Calls.ret (alive5_walk E hEm w (hT.at hw))) ?_)
  refine S.q rfl rfl (Qt.not_t rfl) ?_
  refine S.nil ?_
  refine S.if_f rfl ?_
  refine TC.skip ?_
  refine TC.seq ?_
  refine TC.seq ?_
  refine TC.region ?_
  refine S.q rfl rfl (Qt.move (by conv => lhs; whnf)) ?_
  refine S.q rfl rfl (Qt.indexB (i := 0) Tryd.underlying43 Tryd.cells25 rfl rfl (by omega)) ?_
  refine S.q rfl rfl (Qt.load rfl (Ld.one (v := .slice B1 ls1.length a1) (Has.at 0 rfl) Tryd.one25 rfl)) ?_
  refine S.q rfl rfl (Qt.indexB (i := 1) Tryd.underlying43 Tryd.cells25 rfl rfl (by omega)) ?_
  refine S.q rfl rfl (Qt.load rfl (Ld.one (v := .slice Z1 bs1.length e1) (Has.at 0 rfl) Tryd.one25 rfl)) ?_
  by_cases hg1 : largeP xs.length ls1.length bs1.length
  · refine S.opS rfl rfl (OpV.con0 Tryd.ent12 rfl (fun w hw => large_T A xs.length c B1 ls1.length a1 Z1 bs1.length e1 hg1 w) ?_)
    refine S.q rfl rfl (Qt.move (by conv => lhs; whnf)) ?_
    refine S.pass rfl rfl ?_
    refine S.pass rfl rfl ?_
    refine S.pass rfl rfl ?_
    refine S.pass rfl rfl ?_
    refine S.pass rfl rfl ?_
    refine S.pass rfl rfl ?_
    refine S.q rfl rfl (Qt.pick_t rfl (by conv => lhs; whnf)) ?_
    refine S.nil ?_
    refine S.if_t rfl ?_
    refine TC.seq ?_
    refine TC.region ?_
    refine S.q rfl rfl (Qt.assign (by conv => lhs; whnf)) ?_
    refine S.nil ?_
    refine TC.ret ?_
    refine finQ.ret (RVs.tmp (by conv => lhs; whnf) RVs.nil) (Sub.nil _) ?_
    exact ⟨rfl, rfl⟩
  · refine S.opS rfl rfl (OpV.con0 Tryd.ent12 rfl (fun w hw => large_F A xs.length c B1 ls1.length a1 Z1 bs1.length e1 hg1 w) ?_)
    refine S.q rfl rfl (Qt.move (by conv => lhs; whnf)) ?_
    refine S.qg rfl rfl rfl (Qt.move (by conv => lhs; whnf)) ?_
    refine S.qg rfl rfl rfl (Qt.indexB (i := 2) Tryd.underlying43 Tryd.cells25 rfl rfl (by omega)) ?_
    refine S.qg rfl rfl rfl (Qt.load rfl (Ld.one (v := .slice B2 ls2.length a2) (Has.at 0 rfl) Tryd.one25 rfl)) ?_
    refine S.qg rfl rfl rfl (Qt.indexB (i := 3) Tryd.underlying43 Tryd.cells25 rfl rfl (by omega)) ?_
    refine S.qg rfl rfl rfl (Qt.load rfl (Ld.one (v := .slice Z2 bs2.length e2) (Has.at 0 rfl) Tryd.one25 rfl)) ?_
    have hg2 := hg.resolve_left hg1
    refine S.opg rfl rfl rfl (OpV.con0 Tryd.ent12 rfl (fun w hw => large_T A xs.length c B2 ls2.length a2 Z2 bs2.length e2 hg2 w) ?_)
    refine S.q rfl rfl (Qt.pick_f rfl (by conv => lhs; whnf)) ?_
    refine S.nil ?_
    refine S.if_t rfl ?_
    refine TC.seq ?_
    refine TC.region ?_
    refine S.q rfl rfl (Qt.assign (by conv => lhs; whnf)) ?_
    refine S.nil ?_
    refine TC.ret ?_
    refine finQ.ret (RVs.tmp (by conv => lhs; whnf) RVs.nil) (Sub.nil _) ?_
    exact ⟨rfl, rfl⟩
set_option maxHeartbeats 6400000 in
theorem law4_walk (E : Nat → H32) (hEm : ∀ w, Tabs 3 1 w [] → Calls Tryd.prog 61 #[] w (Ret w (.agg (hcs (emptL E)).toArray))) (z : Int) (A : Option Addr) (c : Nat) (xs : List Nat) (hc : xs.length ≤ c) (B1 : Option Addr) (a1 : Nat) (ls1 : List H32) (Z1 : Option Addr) (e1 : Nat) (bs1 : List H32) (B2 : Option Addr) (a2 : Nat) (ls2 : List H32) (Z2 : Option Addr) (e2 : Nat) (bs2 : List H32) (hb1 : ls1.length ≤ a1) (he1 : bs1.length ≤ e1) (hb2 : ls2.length ≤ a2) (he2 : bs2.length ≤ e2) (hg1 : ¬ largeP xs.length ls1.length bs1.length) (hg2 : ¬ largeP xs.length ls2.length bs2.length) (w0 : World) (hlow : ∀ x ∈ xs, x < 18446744073709551616) (hR : Ro w0 [] (SlA A (u64s xs))) (hB1 : Ro w0 [] (SlA B1 (hcs ls1))) (hD1 : Ro w0 [] (SlA Z1 (hcs bs1))) (hB2 : Ro w0 [] (SlA B2 (hcs ls2))) (hD2 : Ro w0 [] (SlA Z2 (hcs bs2))) (hT : Tabs 3 1 w0 []) (hT2 : Tabs 2 0 w0 []) :
    Calls Tryd.prog 4 #[.int .i64 z, .slice A xs.length c, .agg #[.slice B1 ls1.length a1, .slice Z1 bs1.length e1, .slice B2 ls2.length a2, .slice Z2 bs2.length e2]] w0 (Post w0 [] fun v L => v = .bool true ∧ L = []) := by
  refine Calls.of (L := []) (n := 102) (rs := [.tmp 6]) Tryd.func4 rfl rfl rfl (Nat.le_of_ble_eq_true rfl) (Sat.nil _) ?_
  have hq1 : ls1.length ≤ 300 ∧ bs1.length ≤ 1500 := by unfold largeP at hg1; omega
  have hq2 : ls2.length ≤ 300 ∧ bs2.length ≤ 1500 := by unfold largeP at hg2; omega
  refine TC.seq ?_
  refine TC.region ?_
  refine S.opS rfl rfl (OpV.box (v := .agg #[.slice B1 ls1.length a1, .slice Z1 bs1.length e1, .slice B2 ls2.length a2, .slice Z2 bs2.length e2]) rfl (fun b5 => ?_))
  refine S.q rfl rfl (Qt.assign (by conv => lhs; whnf)) ?_
  refine S.nil ?_
  refine TC.seq ?_
  refine TC.seq ?_
  refine TC.region ?_
  refine S.opS rfl rfl (OpV.con0 Tryd.ent5 rfl (fun w hw => Calls.ret (alive5_walk E hEm w (hT.at hw))) ?_)
  refine S.q rfl rfl (Qt.not_t rfl) ?_
  refine S.nil ?_
  refine S.if_f rfl ?_
  refine TC.skip ?_
  refine TC.seq ?_
  refine TC.seq ?_
  refine TC.region ?_
  refine S.q rfl rfl (Qt.move (by conv => lhs; whnf)) ?_
  refine S.q rfl rfl (Qt.indexB (i := 0) Tryd.underlying43 Tryd.cells25 rfl rfl (by omega)) ?_
  refine S.q rfl rfl (Qt.load rfl (Ld.one (v := .slice B1 ls1.length a1) (Has.at 0 rfl) Tryd.one25 rfl)) ?_
  refine S.q rfl rfl (Qt.indexB (i := 1) Tryd.underlying43 Tryd.cells25 rfl rfl (by omega)) ?_
  refine S.q rfl rfl (Qt.load rfl (Ld.one (v := .slice Z1 bs1.length e1) (Has.at 0 rfl) Tryd.one25 rfl)) ?_
  refine S.opS rfl rfl (OpV.con0 Tryd.ent12 rfl (fun w hw => large_F A xs.length c B1 ls1.length a1 Z1 bs1.length e1 hg1 w) ?_)
  refine S.q rfl rfl (Qt.move (by conv => lhs; whnf)) ?_
  refine S.qg rfl rfl rfl (Qt.move (by conv => lhs; whnf)) ?_
  refine S.qg rfl rfl rfl (Qt.indexB (i := 2) Tryd.underlying43 Tryd.cells25 rfl rfl (by omega)) ?_
  refine S.qg rfl rfl rfl (Qt.load rfl (Ld.one (v := .slice B2 ls2.length a2) (Has.at 0 rfl) Tryd.one25 rfl)) ?_
  refine S.qg rfl rfl rfl (Qt.indexB (i := 3) Tryd.underlying43 Tryd.cells25 rfl rfl (by omega)) ?_
  refine S.qg rfl rfl rfl (Qt.load rfl (Ld.one (v := .slice Z2 bs2.length e2) (Has.at 0 rfl) Tryd.one25 rfl)) ?_
  refine S.opg rfl rfl rfl (OpV.con0 Tryd.ent12 rfl (fun w hw => large_F A xs.length c B2 ls2.length a2 Z2 bs2.length e2 hg2 w) ?_)
  refine S.q rfl rfl (Qt.pick_f rfl (by conv => lhs; whnf)) ?_
  refine S.nil ?_
  refine S.if_f rfl ?_
  refine TC.skip ?_
  refine TC.seq ?_
  refine TC.region ?_
  refine S.q rfl rfl (Qt.move (by conv => lhs; whnf)) ?_
  refine S.q rfl rfl (Qt.move (by conv => lhs; whnf)) ?_
  refine S.q rfl rfl (Qt.indexB (i := 0) Tryd.underlying43 Tryd.cells25 rfl rfl (by omega)) ?_
  refine S.q rfl rfl (Qt.load rfl (Ld.one (v := .slice B1 ls1.length a1) (Has.at 0 rfl) Tryd.one25 rfl)) ?_
  refine S.q rfl rfl (Qt.indexB (i := 1) Tryd.underlying43 Tryd.cells25 rfl rfl (by omega)) ?_
  refine S.q rfl rfl (Qt.load rfl (Ld.one (v := .slice Z1 bs1.length e1) (Has.at 0 rfl) Tryd.one25 rfl)) ?_
  refine S.q rfl rfl (Qt.build2 (a := .slice B1 ls1.length a1) (b := .slice Z1 bs1.length e1) rfl rfl (Tryd.build47 _ _ _ _ _ _)) ?_
  refine S.q rfl rfl (Qt.indexB (i := 2) Tryd.underlying43 Tryd.cells25 rfl rfl (by omega)) ?_
  refine S.q rfl rfl (Qt.load rfl (Ld.one (v := .slice B2 ls2.length a2) (Has.at 0 rfl) Tryd.one25 rfl)) ?_
  refine S.q rfl rfl (Qt.indexB (i := 3) Tryd.underlying43 Tryd.cells25 rfl rfl (by omega)) ?_
  refine S.q rfl rfl (Qt.load rfl (Ld.one (v := .slice Z2 bs2.length e2) (Has.at 0 rfl) Tryd.one25 rfl)) ?_
  refine S.q rfl rfl (Qt.build2 (a := .slice B2 ls2.length a2) (b := .slice Z2 bs2.length e2) rfl rfl (Tryd.build47 _ _ _ _ _ _)) ?_
  refine S.opS rfl rfl (OpV.con (Pre := []) (R := _) Tryd.ent13 rfl (List.Perm.refl _) (fun w hw => opens13_walk z A c xs hc B1 a1 ls1 Z1 e1 bs1 B2 a2 ls2 Z2 e2 bs2 hb1 he1 hb2 he2 w hlow (Rd.ro hR w hw) (Rd.ro hB1 w hw) (Rd.ro hD1 w hw) (Rd.ro hB2 w hw) (Rd.ro hD2 w hw) (hT.at hw)) ?_)
  rintro v L' ⟨O1, d1, p1, L1, rfl, rfl, e1x, l1, m1⟩
  refine S.q rfl rfl (Qt.assign (by conv => lhs; whnf)) ?_
  refine S.nil ?_
  refine TC.seq ?_
  refine TC.seq ?_
  refine TC.region ?_
  refine S.q rfl rfl (Qt.move (by conv => lhs; whnf)) ?_
  refine S.q rfl rfl (Qt.move (by conv => lhs; whnf)) ?_
  refine S.q rfl rfl (Qt.move (by conv => lhs; whnf)) ?_
  refine S.q rfl rfl (Qt.indexB (i := 0) Tryd.underlying43 Tryd.cells25 rfl rfl (by omega)) ?_
  refine S.q rfl rfl (Qt.load rfl (Ld.one (v := .slice B1 ls1.length a1) (Has.at 2 rfl) Tryd.one25 rfl)) ?_
  refine S.q rfl rfl (Qt.indexB (i := 1) Tryd.underlying43 Tryd.cells25 rfl rfl (by omega)) ?_
  refine S.q rfl rfl (Qt.load rfl (Ld.one (v := .slice Z1 bs1.length e1) (Has.at 2 rfl) Tryd.one25 rfl)) ?_
  refine S.q rfl rfl (Qt.indexB (i := 2) Tryd.underlying43 Tryd.cells25 rfl rfl (by omega)) ?_
  refine S.q rfl rfl (Qt.load rfl (Ld.one (v := .slice B2 ls2.length a2) (Has.at 2 rfl) Tryd.one25 rfl)) ?_
  refine S.q rfl rfl (Qt.indexB (i := 3) Tryd.underlying43 Tryd.cells25 rfl rfl (by omega)) ?_
  refine S.q rfl rfl (Qt.load rfl (Ld.one (v := .slice Z2 bs2.length e2) (Has.at 2 rfl) Tryd.one25 rfl)) ?_
  refine S.opS rfl rfl (OpV.con (Pre := []) (R := _) Tryd.ent14 rfl (List.Perm.refl _) (fun w hw => ropens_C z A c xs hc B1 a1 ls1 Z1 e1 bs1 B2 a2 ls2 Z2 e2 bs2 w hlow (Rd.ro hR w hw) (Rd.ro hB1 w hw) (Rd.ro hD1 w hw) (Rd.ro hB2 w hw) (Rd.ro hD2 w hw) (hT2.at hw)) ?_)
  rintro v L' ⟨O2, d2, p2, L2, rfl, rfl, e2x, l2, m2⟩
  refine S.opS rfl rfl (OpV.con0 Tryd.ent7 rfl (fun w hw => same_R O1 d1 p1 O2 d2 p2 l1 (e1x.trans e2x.symm) w (Rd.own (Rd.at 2 rfl) w hw) (PxRo.many (Rd.at 3 rfl) m1 hw) (PxLe.of e1x (pairX_le (openQ_le _ _ _ _) (openQ_le _ _ _ _))) (Rd.own (Rd.at 0 rfl) w hw) (PxRo.many (Rd.at 1 rfl) m2 hw) (PxLe.of e2x (pairX_le (openQ_le _ _ _ _) (openQ_le _ _ _ _))) (hT.at hw) (hT2.at hw)) ?_)
  refine S.q rfl rfl (Qt.not_t rfl) ?_
  refine S.nil ?_
  refine S.if_f rfl ?_
  refine TC.skip ?_
  refine TC.seq ?_
  refine TC.region ?_
  refine S.q rfl rfl (Qt.move (by conv => lhs; whnf)) ?_
  refine S.q rfl rfl (Qt.move (by conv => lhs; whnf)) ?_
  refine S.q rfl rfl (Qt.indexB (i := 0) Tryd.underlying43 Tryd.cells25 rfl rfl (by omega)) ?_
  refine S.q rfl rfl (Qt.load rfl (Ld.one (v := .slice B1 ls1.length a1) (Has.at 4 rfl) Tryd.one25 rfl)) ?_
  refine S.q rfl rfl (Qt.indexB (i := 1) Tryd.underlying43 Tryd.cells25 rfl rfl (by omega)) ?_
  refine S.q rfl rfl (Qt.load rfl (Ld.one (v := .slice Z1 bs1.length e1) (Has.at 4 rfl) Tryd.one25 rfl)) ?_
  by_cases r1 : (rootR z xs ls1 bs1).2 = 0
  · refine S.opS rfl rfl (OpV.con0 Tryd.ent15 rfl (fun w hw => (by have k := root10_R z A c xs hc B1 a1 ls1 Z1 e1 bs1 hb1 he1 w hlow (Rd.ro hR w hw) (Rd.ro hB1 w hw) (Rd.ro hD1 w hw) (hT.at hw); rw [r1] at k; exact k : Calls Tryd.prog 15 #[.int .i64 z, .slice A xs.length c, .slice B1 ls1.length a1, .slice Z1 bs1.length e1] w (Ret w (.tuple #[hv (rootR z xs ls1 bs1).1, .nilIface])))) ?_)
    refine S.q rfl rfl (Qt.move (by conv => lhs; whnf)) ?_
    refine S.q rfl rfl (Qt.extract rfl rfl) ?_
    refine S.q rfl rfl (Qt.extract rfl rfl) ?_
    refine S.opS rfl rfl (OpV.alloc Tryd.zero24 (fun b8 => ?_))
    refine S.opN rfl (OpV.storeV0 (v := hv (_)) rfl rfl (hv_size Tryd.cells24) (hv_all _) (hv_len _) ?_)
    refine S.q rfl rfl (Qt.assign (by conv => lhs; whnf)) ?_
    refine S.nil ?_
    refine TC.seq ?_
    refine TC.region ?_
    refine S.q rfl rfl (Qt.move (by conv => lhs; whnf)) ?_
    refine S.q rfl rfl (Qt.move (by conv => lhs; whnf)) ?_
    refine S.q rfl rfl (Qt.indexB (i := 2) Tryd.underlying43 Tryd.cells25 rfl rfl (by omega)) ?_
    refine S.q rfl rfl (Qt.load rfl (Ld.one (v := .slice B2 ls2.length a2) (Has.at 5 rfl) Tryd.one25 rfl)) ?_
    refine S.q rfl rfl (Qt.indexB (i := 3) Tryd.underlying43 Tryd.cells25 rfl rfl (by omega)) ?_
    refine S.q rfl rfl (Qt.load rfl (Ld.one (v := .slice Z2 bs2.length e2) (Has.at 5 rfl) Tryd.one25 rfl)) ?_
    by_cases r2 : (rootR z xs ls2 bs2).2 = 0
    · refine S.opS rfl rfl (OpV.con0 Tryd.ent15 rfl (fun w hw => (by have k := root10_R z A c xs hc B2 a2 ls2 Z2 e2 bs2 hb2 he2 w hlow (Rd.ro hR w hw) (Rd.ro hB2 w hw) (Rd.ro hD2 w hw) (hT.at hw); rw [r2] at k; exact k : Calls Tryd.prog 15 #[.int .i64 z, .slice A xs.length c, .slice B2 ls2.length a2, .slice Z2 bs2.length e2] w (Ret w (.tuple #[hv (rootR z xs ls2 bs2).1, .nilIface])))) ?_)
      refine S.q rfl rfl (Qt.move (by conv => lhs; whnf)) ?_
      refine S.q rfl rfl (Qt.extract rfl rfl) ?_
      refine S.q rfl rfl (Qt.extract rfl rfl) ?_
      refine S.opS rfl rfl (OpV.alloc Tryd.zero24 (fun b10 => ?_))
      refine S.opN rfl (OpV.storeV0 (v := hv (_)) rfl rfl (hv_size Tryd.cells24) (hv_all _) (hv_len _) ?_)
      refine S.q rfl rfl (Qt.assign (by conv => lhs; whnf)) ?_
      refine S.nil ?_
      refine TC.seq ?_
      refine TC.seq ?_
      refine TC.region ?_
      refine S.q rfl rfl (Qt.move (by conv => lhs; whnf)) ?_
      refine S.q rfl rfl (Qt.nenil_nil Tryd.underlying36 rfl) ?_
      refine S.q rfl rfl (Qt.move (by conv => lhs; whnf)) ?_
      refine S.qg rfl rfl rfl (Qt.move (by conv => lhs; whnf)) ?_
      refine S.qg rfl rfl rfl (Qt.nenil_nil Tryd.underlying36 rfl) ?_
      refine S.q rfl rfl (Qt.pick_f rfl (by conv => lhs; whnf)) ?_
      refine S.q rfl rfl (Qt.move (by conv => lhs; whnf)) ?_
      refine S.qg rfl rfl rfl (Qt.load rfl (Ld.hash1 (x := (rootR z xs ls1 bs1).1) (Has.at 1 rfl) Tryd.row24 Tryd.cells24)) ?_
      refine S.qg rfl rfl rfl (Qt.load rfl (Ld.hash1 (x := (rootR z xs ls2 bs2).1) (Has.at 0 rfl) Tryd.row24 Tryd.cells24)) ?_
      refine S.decg rfl rfl rfl (Qt.neH (a := (rootR z xs ls1 bs1).1) (b := (rootR z xs ls2 bs2).1) Tryd.guard24 Tryd.underlying24 Tryd.underlying5 Tryd.cells5 rfl rfl) (fun h84 => ?_) (fun h84 => ?_)
      · refine S.q rfl rfl (Qt.pick_f rfl (by conv => lhs; whnf)) ?_
        refine S.q rfl rfl (Qt.move (by conv => lhs; whnf)) ?_
        refine S.pass rfl rfl ?_
        refine S.pass rfl rfl ?_
        refine S.pass rfl rfl ?_
        refine S.pass rfl rfl ?_
        refine S.pass rfl rfl ?_
        refine S.pass rfl rfl ?_
        refine S.pass rfl rfl ?_
        refine S.pass rfl rfl ?_
        refine S.pass rfl rfl ?_
        refine S.pass rfl rfl ?_
        refine S.pass rfl rfl ?_
        refine S.pass rfl rfl ?_
        refine S.q rfl rfl (Qt.pick_t rfl (by conv => lhs; whnf)) ?_
        refine S.nil ?_
        refine S.if_t rfl ?_
        refine TC.seq ?_
        refine TC.region ?_
        refine S.q rfl rfl (Qt.assign (by conv => lhs; whnf)) ?_
        refine S.nil ?_
        refine TC.ret ?_
        refine finQ.ret (RVs.tmp (by conv => lhs; whnf) RVs.nil) (Sub.nil _) ?_
        exact ⟨rfl, rfl⟩
      · refine S.q rfl rfl (Qt.pick_f rfl (by conv => lhs; whnf)) ?_
        refine S.q rfl rfl (Qt.move (by conv => lhs; whnf)) ?_
        refine S.qg rfl rfl rfl (Qt.indexB (i := 0) Tryd.underlying43 Tryd.cells25 rfl rfl (by omega)) ?_
        refine S.qg rfl rfl rfl (Qt.load rfl (Ld.one (v := .slice B1 ls1.length a1) (Has.at 6 rfl) Tryd.one25 rfl)) ?_
        refine S.qg rfl rfl rfl (Qt.indexB (i := 2) Tryd.underlying43 Tryd.cells25 rfl rfl (by omega)) ?_
        refine S.qg rfl rfl rfl (Qt.load rfl (Ld.one (v := .slice B2 ls2.length a2) (Has.at 6 rfl) Tryd.one25 rfl)) ?_
        by_cases h91 : ls1 = ls2
        · refine S.opg rfl rfl rfl (OpV.con0 Tryd.ent10 rfl (fun w hw => (by have h := hashesD_R B1 a1 ls1 B2 a2 ls2 (by omega) (by omega) w (Rd.ro hB1 w hw) (Rd.ro hB2 w hw); rw [decide_eq_true h91] at h; exact h : Calls Tryd.prog 10 #[.slice B1 ls1.length a1, .slice B2 ls2.length a2] w (Ret w (.bool true)))) ?_)
          refine S.qg rfl rfl rfl (Qt.move (by conv => lhs; whnf)) ?_
          refine S.qg rfl rfl rfl (Qt.indexB (i := 1) Tryd.underlying43 Tryd.cells25 rfl rfl (by omega)) ?_
          refine S.qg rfl rfl rfl (Qt.load rfl (Ld.one (v := .slice Z1 bs1.length e1) (Has.at 6 rfl) Tryd.one25 rfl)) ?_
          refine S.qg rfl rfl rfl (Qt.indexB (i := 3) Tryd.underlying43 Tryd.cells25 rfl rfl (by omega)) ?_
          refine S.qg rfl rfl rfl (Qt.load rfl (Ld.one (v := .slice Z2 bs2.length e2) (Has.at 6 rfl) Tryd.one25 rfl)) ?_
          by_cases h97 : bs1 = bs2
          · refine S.opg rfl rfl rfl (OpV.con0 Tryd.ent10 rfl (fun w hw => (by have h := hashesD_R Z1 e1 bs1 Z2 e2 bs2 (by omega) (by omega) w (Rd.ro hD1 w hw) (Rd.ro hD2 w hw); rw [decide_eq_true h97] at h; exact h : Calls Tryd.prog 10 #[.slice Z1 bs1.length e1, .slice Z2 bs2.length e2] w (Ret w (.bool true)))) ?_)
            refine S.qg rfl rfl rfl (Qt.pick_t rfl (by conv => lhs; whnf)) ?_
            refine S.q rfl rfl (Qt.pick_f rfl (by conv => lhs; whnf)) ?_
            refine S.nil ?_
            refine S.if_t rfl ?_
            refine TC.seq ?_
            refine TC.region ?_
            refine S.q rfl rfl (Qt.assign (by conv => lhs; whnf)) ?_
            refine S.nil ?_
            refine TC.ret ?_
            refine finQ.ret (RVs.tmp (by conv => lhs; whnf) RVs.nil) (Sub.nil _) ?_
            exact ⟨rfl, rfl⟩
          · refine S.opg rfl rfl rfl (OpV.con0 Tryd.ent10 rfl (fun w hw => (by have h := hashesD_R Z1 e1 bs1 Z2 e2 bs2 (by omega) (by omega) w (Rd.ro hD1 w hw) (Rd.ro hD2 w hw); rw [decide_eq_false h97] at h; exact h : Calls Tryd.prog 10 #[.slice Z1 bs1.length e1, .slice Z2 bs2.length e2] w (Ret w (.bool false)))) ?_)
            refine S.qg rfl rfl rfl (Qt.pick_t rfl (by conv => lhs; whnf)) ?_
            refine S.q rfl rfl (Qt.pick_f rfl (by conv => lhs; whnf)) ?_
            refine S.nil ?_
            refine S.if_f rfl ?_
            refine TC.skip ?_
            refine TC.seq ?_
            refine TC.region ?_
            refine S.q rfl rfl (Qt.move (by conv => lhs; whnf)) ?_
            refine S.opS rfl rfl (OpV.con0 Tryd.ent11 rfl (fun w hw => Calls.ret (right11_walk O1 d1 p1 l1 (opens_find r1 r2 (Decidable.not_not.1 h84) (fun q => h97 q.2) e1x) w (Rd.own (Rd.at 4 rfl) w hw) (PxRo.many (Rd.at 5 rfl) m1 hw) (PxLe.of e1x (pairX_le (openQ_le _ _ _ _) (openQ_le _ _ _ _))) (hT.at hw) (hT2.at hw))) ?_)
            refine S.q rfl rfl (Qt.assign (by conv => lhs; whnf)) ?_
            refine S.nil ?_
            refine TC.ret ?_
            refine finQ.ret (RVs.tmp (by conv => lhs; whnf) RVs.nil) (Sub.nil _) ?_
            exact ⟨rfl, rfl⟩
        · refine S.opg rfl rfl rfl (OpV.con0 Tryd.ent10 rfl (fun w hw => (by have h := hashesD_R B1 a1 ls1 B2 a2 ls2 (by omega) (by omega) w (Rd.ro hB1 w hw) (Rd.ro hB2 w hw); rw [decide_eq_false h91] at h; exact h : Calls Tryd.prog 10 #[.slice B1 ls1.length a1, .slice B2 ls2.length a2] w (Ret w (.bool false)))) ?_)
          refine S.qg rfl rfl rfl (Qt.move (by conv => lhs; whnf)) ?_
          refine S.pass rfl rfl ?_
          refine S.pass rfl rfl ?_
          refine S.pass rfl rfl ?_
          refine S.pass rfl rfl ?_
          refine S.pass rfl rfl ?_
          refine S.qg rfl rfl rfl (Qt.pick_f rfl (by conv => lhs; whnf)) ?_
          refine S.q rfl rfl (Qt.pick_f rfl (by conv => lhs; whnf)) ?_
          refine S.nil ?_
          refine S.if_f rfl ?_
          refine TC.skip ?_
          refine TC.seq ?_
          refine TC.region ?_
          refine S.q rfl rfl (Qt.move (by conv => lhs; whnf)) ?_
          refine S.opS rfl rfl (OpV.con0 Tryd.ent11 rfl (fun w hw => Calls.ret (right11_walk O1 d1 p1 l1 (opens_find r1 r2 (Decidable.not_not.1 h84) (fun q => h91 q.1) e1x) w (Rd.own (Rd.at 4 rfl) w hw) (PxRo.many (Rd.at 5 rfl) m1 hw) (PxLe.of e1x (pairX_le (openQ_le _ _ _ _) (openQ_le _ _ _ _))) (hT.at hw) (hT2.at hw))) ?_)
          refine S.q rfl rfl (Qt.assign (by conv => lhs; whnf)) ?_
          refine S.nil ?_
          refine TC.ret ?_
          refine finQ.ret (RVs.tmp (by conv => lhs; whnf) RVs.nil) (Sub.nil _) ?_
          exact ⟨rfl, rfl⟩
    · refine S.opS rfl rfl (OpV.con0 Tryd.ent15 rfl (fun w hw => (by have k := root10_R z A c xs hc B2 a2 ls2 Z2 e2 bs2 hb2 he2 w hlow (Rd.ro hR w hw) (Rd.ro hB2 w hw) (Rd.ro hD2 w hw) (hT.at hw); rw [errv_pos r2] at k; exact k : Calls Tryd.prog 15 #[.int .i64 z, .slice A xs.length c, .slice B2 ls2.length a2, .slice Z2 bs2.length e2] w (Ret w (.tuple #[hv (rootR z xs ls2 bs2).1, .iface 83 (.int .i64 ((rootR z xs ls2 bs2).2 : Int))])))) ?_)
      refine S.q rfl rfl (Qt.move (by conv => lhs; whnf)) ?_
      refine S.q rfl rfl (Qt.extract rfl rfl) ?_
      refine S.q rfl rfl (Qt.extract rfl rfl) ?_
      refine S.opS rfl rfl (OpV.alloc Tryd.zero24 (fun b10 => ?_))
      refine S.opN rfl (OpV.storeV0 (v := hv (_)) rfl rfl (hv_size Tryd.cells24) (hv_all _) (hv_len _) ?_)
      refine S.q rfl rfl (Qt.assign (by conv => lhs; whnf)) ?_
      refine S.nil ?_
      refine TC.seq ?_
      refine TC.seq ?_
      refine TC.region ?_
      refine S.q rfl rfl (Qt.move (by conv => lhs; whnf)) ?_
      refine S.q rfl rfl (Qt.nenil_nil Tryd.underlying36 rfl) ?_
      refine S.q rfl rfl (Qt.move (by conv => lhs; whnf)) ?_
      refine S.qg rfl rfl rfl (Qt.move (by conv => lhs; whnf)) ?_
      refine S.qg rfl rfl rfl (Qt.nenil_iface Tryd.underlying36 rfl) ?_
      refine S.q rfl rfl (Qt.pick_f rfl (by conv => lhs; whnf)) ?_
      refine S.q rfl rfl (Qt.move (by conv => lhs; whnf)) ?_
      refine S.pass rfl rfl ?_
      refine S.pass rfl rfl ?_
      refine S.pass rfl rfl ?_
      refine S.q rfl rfl (Qt.pick_t rfl (by conv => lhs; whnf)) ?_
      refine S.q rfl rfl (Qt.move (by conv => lhs; whnf)) ?_
      refine S.pass rfl rfl ?_
      refine S.pass rfl rfl ?_
      refine S.pass rfl rfl ?_
      refine S.pass rfl rfl ?_
      refine S.pass rfl rfl ?_
      refine S.pass rfl rfl ?_
      refine S.pass rfl rfl ?_
      refine S.pass rfl rfl ?_
      refine S.pass rfl rfl ?_
      refine S.pass rfl rfl ?_
      refine S.pass rfl rfl ?_
      refine S.pass rfl rfl ?_
      refine S.q rfl rfl (Qt.pick_t rfl (by conv => lhs; whnf)) ?_
      refine S.nil ?_
      refine S.if_t rfl ?_
      refine TC.seq ?_
      refine TC.region ?_
      refine S.q rfl rfl (Qt.assign (by conv => lhs; whnf)) ?_
      refine S.nil ?_
      refine TC.ret ?_
      refine finQ.ret (RVs.tmp (by conv => lhs; whnf) RVs.nil) (Sub.nil _) ?_
      exact ⟨rfl, rfl⟩
  · refine S.opS rfl rfl (OpV.con0 Tryd.ent15 rfl (fun w hw => (by have k := root10_R z A c xs hc B1 a1 ls1 Z1 e1 bs1 hb1 he1 w hlow (Rd.ro hR w hw) (Rd.ro hB1 w hw) (Rd.ro hD1 w hw) (hT.at hw); rw [errv_pos r1] at k; exact k : Calls Tryd.prog 15 #[.int .i64 z, .slice A xs.length c, .slice B1 ls1.length a1, .slice Z1 bs1.length e1] w (Ret w (.tuple #[hv (rootR z xs ls1 bs1).1, .iface 83 (.int .i64 ((rootR z xs ls1 bs1).2 : Int))])))) ?_)
    refine S.q rfl rfl (Qt.move (by conv => lhs; whnf)) ?_
    refine S.q rfl rfl (Qt.extract rfl rfl) ?_
    refine S.q rfl rfl (Qt.extract rfl rfl) ?_
    refine S.opS rfl rfl (OpV.alloc Tryd.zero24 (fun b8 => ?_))
    refine S.opN rfl (OpV.storeV0 (v := hv (_)) rfl rfl (hv_size Tryd.cells24) (hv_all _) (hv_len _) ?_)
    refine S.q rfl rfl (Qt.assign (by conv => lhs; whnf)) ?_
    refine S.nil ?_
    refine TC.seq ?_
    refine TC.region ?_
    refine S.q rfl rfl (Qt.move (by conv => lhs; whnf)) ?_
    refine S.q rfl rfl (Qt.move (by conv => lhs; whnf)) ?_
    refine S.q rfl rfl (Qt.indexB (i := 2) Tryd.underlying43 Tryd.cells25 rfl rfl (by omega)) ?_
    refine S.q rfl rfl (Qt.load rfl (Ld.one (v := .slice B2 ls2.length a2) (Has.at 5 rfl) Tryd.one25 rfl)) ?_
    refine S.q rfl rfl (Qt.indexB (i := 3) Tryd.underlying43 Tryd.cells25 rfl rfl (by omega)) ?_
    refine S.q rfl rfl (Qt.load rfl (Ld.one (v := .slice Z2 bs2.length e2) (Has.at 5 rfl) Tryd.one25 rfl)) ?_
    by_cases r2 : (rootR z xs ls2 bs2).2 = 0
    · refine S.opS rfl rfl (OpV.con0 Tryd.ent15 rfl (fun w hw => (by have k := root10_R z A c xs hc B2 a2 ls2 Z2 e2 bs2 hb2 he2 w hlow (Rd.ro hR w hw) (Rd.ro hB2 w hw) (Rd.ro hD2 w hw) (hT.at hw); rw [r2] at k; exact k : Calls Tryd.prog 15 #[.int .i64 z, .slice A xs.length c, .slice B2 ls2.length a2, .slice Z2 bs2.length e2] w (Ret w (.tuple #[hv (rootR z xs ls2 bs2).1, .nilIface])))) ?_)
      refine S.q rfl rfl (Qt.move (by conv => lhs; whnf)) ?_
      refine S.q rfl rfl (Qt.extract rfl rfl) ?_
      refine S.q rfl rfl (Qt.extract rfl rfl) ?_
      refine S.opS rfl rfl (OpV.alloc Tryd.zero24 (fun b10 => ?_))
      refine S.opN rfl (OpV.storeV0 (v := hv (_)) rfl rfl (hv_size Tryd.cells24) (hv_all _) (hv_len _) ?_)
      refine S.q rfl rfl (Qt.assign (by conv => lhs; whnf)) ?_
      refine S.nil ?_
      refine TC.seq ?_
      refine TC.seq ?_
      refine TC.region ?_
      refine S.q rfl rfl (Qt.move (by conv => lhs; whnf)) ?_
      refine S.q rfl rfl (Qt.nenil_iface Tryd.underlying36 rfl) ?_
      refine S.q rfl rfl (Qt.move (by conv => lhs; whnf)) ?_
      refine S.pass rfl rfl ?_
      refine S.pass rfl rfl ?_
      refine S.q rfl rfl (Qt.pick_t rfl (by conv => lhs; whnf)) ?_
      refine S.q rfl rfl (Qt.move (by conv => lhs; whnf)) ?_
      refine S.pass rfl rfl ?_
      refine S.pass rfl rfl ?_
      refine S.pass rfl rfl ?_
      refine S.q rfl rfl (Qt.pick_t rfl (by conv => lhs; whnf)) ?_
      refine S.q rfl rfl (Qt.move (by conv => lhs; whnf)) ?_
      refine S.pass rfl rfl ?_
      refine S.pass rfl rfl ?_
      refine S.pass rfl rfl ?_
      refine S.pass rfl rfl ?_
      refine S.pass rfl rfl ?_
      refine S.pass rfl rfl ?_
      refine S.pass rfl rfl ?_
      refine S.pass rfl rfl ?_
      refine S.pass rfl rfl ?_
      refine S.pass rfl rfl ?_
      refine S.pass rfl rfl ?_
      refine S.pass rfl rfl ?_
      refine S.q rfl rfl (Qt.pick_t rfl (by conv => lhs; whnf)) ?_
      refine S.nil ?_
      refine S.if_t rfl ?_
      refine TC.seq ?_
      refine TC.region ?_
      refine S.q rfl rfl (Qt.assign (by conv => lhs; whnf)) ?_
      refine S.nil ?_
      refine TC.ret ?_
      refine finQ.ret (RVs.tmp (by conv => lhs; whnf) RVs.nil) (Sub.nil _) ?_
      exact ⟨rfl, rfl⟩
    · refine S.opS rfl rfl (OpV.con0 Tryd.ent15 rfl (fun w hw => (by have k := root10_R z A c xs hc B2 a2 ls2 Z2 e2 bs2 hb2 he2 w hlow (Rd.ro hR w hw) (Rd.ro hB2 w hw) (Rd.ro hD2 w hw) (hT.at hw); rw [errv_pos r2] at k; exact k : Calls Tryd.prog 15 #[.int .i64 z, .slice A xs.length c, .slice B2 ls2.length a2, .slice Z2 bs2.length e2] w (Ret w (.tuple #[hv (rootR z xs ls2 bs2).1, .iface 83 (.int .i64 ((rootR z xs ls2 bs2).2 : Int))])))) ?_)
      refine S.q rfl rfl (Qt.move (by conv => lhs; whnf)) ?_
      refine S.q rfl rfl (Qt.extract rfl rfl) ?_
      refine S.q rfl rfl (Qt.extract rfl rfl) ?_
      refine S.opS rfl rfl (OpV.alloc Tryd.zero24 (fun b10 => ?_))
      refine S.opN rfl (OpV.storeV0 (v := hv (_)) rfl rfl (hv_size Tryd.cells24) (hv_all _) (hv_len _) ?_)
      refine S.q rfl rfl (Qt.assign (by conv => lhs; whnf)) ?_
      refine S.nil ?_
      refine TC.seq ?_
      refine TC.seq ?_
      refine TC.region ?_
      refine S.q rfl rfl (Qt.move (by conv => lhs; whnf)) ?_
      refine S.q rfl rfl (Qt.nenil_iface Tryd.underlying36 rfl) ?_
      refine S.q rfl rfl (Qt.move (by conv => lhs; whnf)) ?_
      refine S.pass rfl rfl ?_
      refine S.pass rfl rfl ?_
      refine S.q rfl rfl (Qt.pick_t rfl (by conv => lhs; whnf)) ?_
      refine S.q rfl rfl (Qt.move (by conv => lhs; whnf)) ?_
      refine S.pass rfl rfl ?_
      refine S.pass rfl rfl ?_
      refine S.pass rfl rfl ?_
      refine S.q rfl rfl (Qt.pick_t rfl (by conv => lhs; whnf)) ?_
      refine S.q rfl rfl (Qt.move (by conv => lhs; whnf)) ?_
      refine S.pass rfl rfl ?_
      refine S.pass rfl rfl ?_
      refine S.pass rfl rfl ?_
      refine S.pass rfl rfl ?_
      refine S.pass rfl rfl ?_
      refine S.pass rfl rfl ?_
      refine S.pass rfl rfl ?_
      refine S.pass rfl rfl ?_
      refine S.pass rfl rfl ?_
      refine S.pass rfl rfl ?_
      refine S.pass rfl rfl ?_
      refine S.pass rfl rfl ?_
      refine S.q rfl rfl (Qt.pick_t rfl (by conv => lhs; whnf)) ?_
      refine S.nil ?_
      refine S.if_t rfl ?_
      refine TC.seq ?_
      refine TC.region ?_
      refine S.q rfl rfl (Qt.assign (by conv => lhs; whnf)) ?_
      refine S.nil ?_
      refine TC.ret ?_
      refine finQ.ret (RVs.tmp (by conv => lhs; whnf) RVs.nil) (Sub.nil _) ?_
      exact ⟨rfl, rfl⟩
theorem extractOpenings_R (z : Int) (A : Option Addr) (c : Nat) (xs : List Nat) (hc : xs.length ≤ c) (B1 : Option Addr) (a1 : Nat) (ls1 : List H32) (Z1 : Option Addr) (e1 : Nat) (bs1 : List H32) (B2 : Option Addr) (a2 : Nat) (ls2 : List H32) (Z2 : Option Addr) (e2 : Nat) (bs2 : List H32) (hb1 : ls1.length ≤ a1) (he1 : bs1.length ≤ e1) (hb2 : ls2.length ≤ a2) (he2 : bs2.length ≤ e2) (w0 : World) (hlow : ∀ x ∈ xs, x < 18446744073709551616) (hR : Ro w0 [] (SlA A (u64s xs))) (hB1 : Ro w0 [] (SlA B1 (hcs ls1))) (hD1 : Ro w0 [] (SlA Z1 (hcs bs1))) (hB2 : Ro w0 [] (SlA B2 (hcs ls2))) (hD2 : Ro w0 [] (SlA Z2 (hcs bs2))) (hT : Tabs 3 1 w0 []) (hT2 : Tabs 2 0 w0 []) : Calls Tryd.prog 4 #[.int .i64 z, .slice A xs.length c, .agg #[.slice B1 ls1.length a1, .slice Z1 bs1.length e1, .slice B2 ls2.length a2, .slice Z2 bs2.length e2]] w0 (Post w0 [] fun v L => v = .bool true ∧ L = []) := by
  have hEm : ∀ w, Tabs 3 1 w [] → Calls Tryd.prog 61 #[] w (Ret w (.agg (hcs (emptL emptyH)).toArray)) := fun w h => empties_R w h
  by_cases hg : largeP xs.length ls1.length bs1.length ∨ largeP xs.length ls2.length bs2.length
  · exact law4_walkE emptyH hEm z A c xs hc B1 a1 ls1 Z1 e1 bs1 B2 a2 ls2 Z2 e2 bs2 hb1 he1 hb2 he2 hg w0 hT
  · exact law4_walk emptyH hEm z A c xs hc B1 a1 ls1 Z1 e1 bs1 B2 a2 ls2 Z2 e2 bs2 hb1 he1 hb2 he2 (fun h => hg (.inl h)) (fun h => hg (.inr h)) w0 hlow hR hB1 hD1 hB2 hD2 hT hT2

end Go.Proofs.YtgdjcmehlhebdaaDoor
