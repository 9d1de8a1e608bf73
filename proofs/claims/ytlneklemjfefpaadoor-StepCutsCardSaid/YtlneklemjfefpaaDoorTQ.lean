/-
  Walks: the law of cuts. Printed by a program of ours.
-/
import Derived.Test.YtlneklemjfefpaaDoorTJ
namespace Go.Proofs.YtlneklemjfefpaaDoor
open Go.E
set_option linter.unusedVariables false
set_option maxRecDepth 4000
theorem Tryd.ent39 : Enters Tryd.prog 39 := ⟨_, Tryd.func39, by kernel_rfl, rfl⟩
theorem Tryd.ent41 : Enters Tryd.prog 41 := ⟨_, Tryd.func41, by kernel_rfl, rfl⟩
theorem Tryd.ent42 : Enters Tryd.prog 42 := ⟨_, Tryd.func42, by kernel_rfl, rfl⟩
def H3 : H32 := ⟨[3, 0, 0, 0, 0, 0, 0, 0, 0, 0, 0, 0, 0, 0, 0, 0, 0, 0, 0, 0, 0, 0, 0, 0, 0, 0, 0, 0, 0, 0, 0, 0], rfl⟩
set_option maxHeartbeats 1600000 in
theorem law6_walk (E : Nat → H32) (hEm : ∀ w, Tabs 2 0 w [] → Calls Tryd.prog 88 #[] w (Ret w (.agg (hcs (emptL E)).toArray))) (hEr : ∀ w, Tabs 3 1 w [] → Calls Tryd.prog 90 #[] w (Post w [] fun v L => ∃ O d, v = .slice O 33 d ∧ L = [OwnA 23 32 O 33 d (hcs (emptL E))])) (hne : E 0 ≠ E 1) (x : H32) (A : Option Addr) (c : Nat) (ps : List H32) (hc : ps.length ≤ c) (a b : Nat) (ha64 : a < 18446744073709551616) (hb64 : b < 18446744073709551616) (B : Option Addr) (d : Nat) (rs : List H32) (w0 : World) (hR : Ro w0 [] (SlA A (hcs ps))) (hS : Ro w0 [] (SlA B (hcs rs))) (hT : Tabs 2 0 w0 []) (hT2 : Tabs 3 1 w0 []) :
    Calls Tryd.prog 6 #[.agg (hvl x ++ [Value.slice A ps.length c]).toArray, .agg #[.int .u64 (a : Int), .int .u64 (b : Int)], .slice B rs.length d] w0 (Post w0 [] fun v L => v = .bool true ∧ L = []) := by
  refine Calls.of (L := []) (n := 120) (rs := [.tmp 6]) Tryd.func6 rfl rfl rfl (Nat.le_of_ble_eq_true rfl) (Sat.nil _) ?_
  refine TC.seq ?_
  refine TC.region ?_
  refine S.opS rfl rfl (OpV.box (v := .agg (hvl x ++ [Value.slice A ps.length c]).toArray) rfl (fun b3 => ?_))
  refine S.opS rfl rfl (OpV.box (v := .agg #[.int .u64 (a : Int), .int .u64 (b : Int)]) rfl (fun b4 => ?_))
  refine S.q rfl rfl (Qt.assign (by conv => lhs; whnf)) ?_
  refine S.nil ?_
  refine TC.seq ?_
  refine TC.seq ?_
  refine TC.region ?_
  refine S.opS rfl rfl (OpV.con0 Tryd.ent21 rfl (fun w hw => Calls.ret (alive12_walk E hEm hne w (hT.at hw))) ?_)
  refine S.q rfl rfl (Qt.not_t rfl) ?_
  refine S.nil ?_
  refine S.if_f rfl ?_
  refine TC.skip ?_
  refine TC.seq ?_
  refine TC.seq ?_
  refine TC.region ?_
  refine S.q rfl rfl (Qt.field Tryd.underlying64 rfl Tryd.cells44 rfl) ?_
  refine S.q rfl rfl (Qt.load rfl (Ld.one (v := .slice A ps.length c) (Has.at 1 rfl) Tryd.one44 (cut_path x _))) ?_
  refine S.q rfl rfl (Qt.len_slice Tryd.underlying44 rfl) ?_
  refine S.dec rfl rfl (Qt.gt (b := 60) rfl rfl) (fun h18 => ?_) (fun h18 => ?_)
  · refine S.q rfl rfl (Qt.move (by conv => lhs; whnf)) ?_
    refine S.pass rfl rfl ?_
    refine S.pass rfl rfl ?_
    refine S.pass rfl rfl ?_
    refine S.q rfl rfl (Qt.pick_t rfl (by conv => lhs; whnf)) ?_
    refine S.nil ?_
    refine S.if_t rfl ?_
    refine TC.seq ?_
    refine TC.region ?_
    refine S.q rfl rfl (Qt.assign (by conv => lhs; whnf)) ?_
    refine S.nil ?_
    refine TC.ret ?_
    refine finQ.ret (RVs.tmp (by conv => lhs; whnf) RVs.nil) (Sub.nil _) ?_
    exact ⟨rfl, rfl⟩
  · refine S.q rfl rfl (Qt.move (by conv => lhs; whnf)) ?_
    refine S.qg rfl rfl rfl (Qt.move (by conv => lhs; whnf)) ?_
    refine S.qg rfl rfl rfl (Qt.len_slice Tryd.underlying44 rfl) ?_
    refine S.decg rfl rfl rfl (Qt.gt (b := 1) rfl rfl) (fun h22 => ?_) (fun h22 => ?_)
    · refine S.q rfl rfl (Qt.pick_f rfl (by conv => lhs; whnf)) ?_
      refine S.nil ?_
      refine S.if_t rfl ?_
      refine TC.seq ?_
      refine TC.region ?_
      refine S.q rfl rfl (Qt.assign (by conv => lhs; whnf)) ?_
      refine S.nil ?_
      refine TC.ret ?_
      refine finQ.ret (RVs.tmp (by conv => lhs; whnf) RVs.nil) (Sub.nil _) ?_
      exact ⟨rfl, rfl⟩
    · refine S.q rfl rfl (Qt.pick_f rfl (by conv => lhs; whnf)) ?_
      refine S.nil ?_
      refine S.if_f rfl ?_
      refine TC.skip ?_
      refine TC.seq ?_
      refine TC.region ?_
      refine S.q rfl rfl (Qt.build (v := hv H3) rfl (fun _ => by kernel_rfl)) ?_
      refine S.opS rfl rfl (OpV.alloc Tryd.zero23 (fun b7 => ?_))
      refine S.opN rfl (OpV.storeV0 (v := hv (H3)) rfl rfl (hv_size Tryd.cells23) (hv_all _) (hv_len _) ?_)
      refine S.nil ?_
      refine TC.seq ?_
      refine TC.seq ?_
      refine TC.region ?_
      refine S.q rfl rfl (Qt.move (by conv => lhs; whnf)) ?_
      refine S.q rfl rfl (Qt.len_slice Tryd.underlying44 rfl) ?_
      refine S.dec rfl rfl (Qt.gt (b := 0) rfl rfl) (fun h27 => ?_) (fun h27 => ?_)
      · refine S.nil ?_
        refine S.if_t rfl ?_
        refine TC.region ?_
        refine S.q rfl rfl (Qt.move (by conv => lhs; whnf)) ?_
        refine S.q rfl rfl (Qt.index (i := 0) Tryd.underlying44 Tryd.cells23 rfl rfl (by omega) (Has.ro hS) (by rw [hcs_length]; omega)) ?_
        refine S.q rfl rfl (Qt.load rfl (Ld.hashS (Has.ro hS) 0 Tryd.row23 Tryd.cells23 (by omega) rfl)) ?_
        refine S.opN rfl (OpV.storeV0 (v := hv (_)) rfl rfl (hv_size Tryd.cells23) (hv_all _) (by rw [hv_len, hv_len]) ?_)
        refine S.nil ?_
        refine TC.seq ?_
        refine TC.region ?_
        refine S.q rfl rfl (Qt.load rfl (Ld.all (vs := vl (.agg (hvl x ++ [Value.slice A ps.length c]).toArray)) (Has.at 2 rfl) Tryd.row64 (by rw [vl_agg, cut_size]; exact Tryd.cells64))) ?_
        refine S.q rfl rfl (Qt.load rfl (Ld.hash1 (x := (rs.getD 0 zeroH)) (Has.at 0 rfl) Tryd.row23 Tryd.cells23)) ?_
        refine S.q rfl rfl (Qt.indexB (i := 0) Tryd.underlying65 Tryd.cells24 rfl rfl (by omega)) ?_
        refine S.q rfl rfl (Qt.load rfl (Ld.one (v := .int .u64 (a : Int)) (Has.at 1 rfl) Tryd.one24 rfl)) ?_
        refine S.q rfl rfl (Qt.indexB (i := 1) Tryd.underlying65 Tryd.cells24 rfl rfl (by omega)) ?_
        refine S.q rfl rfl (Qt.load rfl (Ld.one (v := .int .u64 (b : Int)) (Has.at 1 rfl) Tryd.one24 rfl)) ?_
        refine S.opS rfl rfl (OpV.con0 Tryd.ent41 rfl (fun w hw => after_R E hEm (rs.getD 0 zeroH) x a b A c ps hc w (Rd.ro hR w hw) (hT.at hw)) ?_)
        refine S.q rfl rfl (Qt.move (by conv => lhs; whnf)) ?_
        refine S.q rfl rfl (Qt.extract rfl rfl) ?_
        refine S.q rfl rfl (Qt.extract rfl rfl) ?_
        refine S.opS rfl rfl (OpV.alloc Tryd.zero23 (fun b8 => ?_))
        refine S.opN rfl (OpV.storeV0 (v := hv (_)) rfl rfl (hv_size Tryd.cells23) (hv_all _) (hv_len _) ?_)
        refine S.q rfl rfl (Qt.assign (by conv => lhs; whnf)) ?_
        refine S.nil ?_
        refine TC.seq ?_
        refine TC.region ?_
        refine S.q rfl rfl (Qt.load rfl (Ld.hash1 (x := (rs.getD 0 zeroH)) (Has.at 1 rfl) Tryd.row23 Tryd.cells23)) ?_
        refine S.q rfl rfl (Qt.field Tryd.underlying64 rfl Tryd.cells23 rfl) ?_
        refine S.q rfl rfl (Qt.load rfl (Ld.row (vs := hvl x) (Has.at 3 rfl) Tryd.row23 (by rw [hvl_length]; exact Tryd.cells23) (cut_leaf x _))) ?_
        refine S.q rfl rfl (Qt.field Tryd.underlying64 rfl Tryd.cells44 rfl) ?_
        refine S.q rfl rfl (Qt.load rfl (Ld.one (v := .slice A ps.length c) (Has.at 3 rfl) Tryd.one44 (cut_path x _))) ?_
        refine S.q rfl rfl (Qt.indexB (i := 0) Tryd.underlying65 Tryd.cells24 rfl rfl (by omega)) ?_
        refine S.q rfl rfl (Qt.load rfl (Ld.one (v := .int .u64 (a : Int)) (Has.at 2 rfl) Tryd.one24 rfl)) ?_
        refine S.q rfl rfl (Qt.indexB (i := 1) Tryd.underlying65 Tryd.cells24 rfl rfl (by omega)) ?_
        refine S.q rfl rfl (Qt.load rfl (Ld.one (v := .int .u64 (b : Int)) (Has.at 2 rfl) Tryd.one24 rfl)) ?_
        refine S.opS rfl rfl (OpV.con0 Tryd.ent42 rfl (fun w hw => rcut_R E hEr (rs.getD 0 zeroH) x a b A c ps w (Rd.ro hR w hw) (hT2.at hw)) ?_)
        refine S.q rfl rfl (Qt.move (by conv => lhs; whnf)) ?_
        refine S.q rfl rfl (Qt.extract rfl rfl) ?_
        refine S.q rfl rfl (Qt.extract rfl rfl) ?_
        refine S.opS rfl rfl (OpV.alloc Tryd.zero23 (fun b10 => ?_))
        refine S.opN rfl (OpV.storeV0 (v := hv (_)) rfl rfl (hv_size Tryd.cells23) (hv_all _) (hv_len _) ?_)
        refine S.q rfl rfl (Qt.assign (by conv => lhs; whnf)) ?_
        refine S.nil ?_
        refine TC.seq ?_
        refine TC.seq ?_
        refine TC.region ?_
        refine S.q rfl rfl (Qt.load rfl (Ld.hash1 (x := (cutR E (rs.getD 0 zeroH) x ps a b).1) (Has.at 1 rfl) Tryd.row23 Tryd.cells23)) ?_
        refine S.q rfl rfl (Qt.load rfl (Ld.hash1 (x := (cutR E (rs.getD 0 zeroH) x ps a b).1) (Has.at 0 rfl) Tryd.row23 Tryd.cells23)) ?_
        refine S.q rfl rfl (Qt.dF (Qt.neH (a := (cutR E (rs.getD 0 zeroH) x ps a b).1) (b := (cutR E (rs.getD 0 zeroH) x ps a b).1) Tryd.guard23 Tryd.underlying23 Tryd.underlying5 Tryd.cells5 rfl rfl) (fun h => h rfl)) ?_
        refine S.q rfl rfl (Qt.move (by conv => lhs; whnf)) ?_
        refine S.qg rfl rfl rfl (Qt.move (by conv => lhs; whnf)) ?_
        refine S.opg rfl rfl rfl (OpV.con0 Tryd.ent24 rfl (fun w hw => num_R (cutR E (rs.getD 0 zeroH) x ps a b).2 w) ?_)
        refine S.qg rfl rfl rfl (Qt.move (by conv => lhs; whnf)) ?_
        refine S.qg rfl rfl rfl (Qt.dF (Qt.ne rfl rfl) (fun h => h rfl)) ?_
        refine S.q rfl rfl (Qt.pick_f rfl (by conv => lhs; whnf)) ?_
        refine S.nil ?_
        refine S.if_f rfl ?_
        refine TC.skip ?_
        refine TC.seq ?_
        refine TC.region ?_
        refine S.q rfl rfl (Qt.field Tryd.underlying64 rfl Tryd.cells23 rfl) ?_
        refine S.q rfl rfl (Qt.load rfl (Ld.row (vs := hvl x) (Has.at 4 rfl) Tryd.row23 (by rw [hvl_length]; exact Tryd.cells23) (cut_leaf x _))) ?_
        refine S.q rfl rfl (Qt.indexB (i := 0) Tryd.underlying65 Tryd.cells24 rfl rfl (by omega)) ?_
        refine S.q rfl rfl (Qt.load rfl (Ld.one (v := .int .u64 (a : Int)) (Has.at 3 rfl) Tryd.one24 rfl)) ?_
        refine S.q rfl rfl (Qt.field Tryd.underlying64 rfl Tryd.cells44 rfl) ?_
        refine S.q rfl rfl (Qt.load rfl (Ld.one (v := .slice A ps.length c) (Has.at 4 rfl) Tryd.one44 (cut_path x _))) ?_
        by_cases hf : fitsP a ps.length
        · refine S.opS rfl rfl (OpV.con0 Tryd.ent43 rfl (fun w hw => climb_R x a A ps.length c ps rfl ha64 hf w (Rd.ro hR w hw) (hT.at hw)) ?_)
          refine S.q rfl rfl (Qt.move (by conv => lhs; whnf)) ?_
          refine S.q rfl rfl (Qt.extract rfl rfl) ?_
          refine S.q rfl rfl (Qt.extract rfl rfl) ?_
          refine S.opS rfl rfl (OpV.alloc Tryd.zero23 (fun b12 => ?_))
          refine S.opN rfl (OpV.storeV0 (v := hv (_)) rfl rfl (hv_size Tryd.cells23) (hv_all _) (hv_len _) ?_)
          refine S.q rfl rfl (Qt.assign (by conv => lhs; whnf)) ?_
          refine S.nil ?_
          refine TC.seq ?_
          refine TC.seq ?_
          refine TC.region ?_
          refine S.q rfl rfl (Qt.indexB (i := 0) Tryd.underlying65 Tryd.cells24 rfl rfl (by omega)) ?_
          refine S.q rfl rfl (Qt.load rfl (Ld.one (v := .int .u64 (a : Int)) (Has.at 4 rfl) Tryd.one24 rfl)) ?_
          refine S.q rfl rfl (Qt.field Tryd.underlying64 rfl Tryd.cells44 rfl) ?_
          refine S.q rfl rfl (Qt.load rfl (Ld.one (v := .slice A ps.length c) (Has.at 5 rfl) Tryd.one44 (cut_path x _))) ?_
          refine S.q rfl rfl (Qt.len_slice Tryd.underlying44 rfl) ?_
          refine S.opS rfl rfl (OpV.con0 Tryd.ent39 rfl (fun w hw => fits_T a ps.length ha64 hf w) ?_)
          refine S.q rfl rfl (Qt.not_t rfl) ?_
          refine S.nil ?_
          refine S.if_f rfl ?_
          refine TC.skip ?_
          refine TC.seq ?_
          refine S.draw ([], []) Tryd.mixed (Sub.nil _) ?_
          refine D.qX (k := 0) rfl (by kernel_rfl) (by kernel_rfl) (by kernel_rfl) rfl rfl (Qt.move (by conv => lhs; whnf)) ?_
          refine D.qX (k := 1) rfl (by kernel_rfl) (by kernel_rfl) (by kernel_rfl) rfl rfl (Qt.eqnil_nil Tryd.underlying27 rfl) ?_
          refine D.qX (k := 2) rfl (by kernel_rfl) (by kernel_rfl) (by kernel_rfl) rfl rfl (Qt.move (by conv => lhs; whnf)) ?_
          refine D.qgX (k := 3) rfl (by kernel_rfl) (by kernel_rfl) (by kernel_rfl) rfl rfl rfl (Qt.load rfl (Ld.hash1 (x := climbH x a ps) (Has.at 0 rfl) Tryd.row23 Tryd.cells23)) ?_
          refine D.qgX (k := 4) rfl (by kernel_rfl) (by kernel_rfl) (by kernel_rfl) rfl rfl rfl (Qt.field Tryd.underlying64 rfl Tryd.cells23 rfl) ?_
          refine D.qgX (k := 5) rfl (by kernel_rfl) (by kernel_rfl) (by kernel_rfl) rfl rfl rfl (Qt.load rfl (Ld.row (vs := hvl x) (Has.at 5 rfl) Tryd.row23 (by rw [hvl_length]; exact Tryd.cells23) (cut_leaf x _))) ?_
          refine D.qgX (k := 6) rfl (by kernel_rfl) (by kernel_rfl) (by kernel_rfl) rfl rfl rfl (Qt.indexB (i := 0) Tryd.underlying65 Tryd.cells24 rfl rfl (by omega)) ?_
          refine D.qgX (k := 7) rfl (by kernel_rfl) (by kernel_rfl) (by kernel_rfl) rfl rfl rfl (Qt.load rfl (Ld.one (v := .int .u64 (a : Int)) (Has.at 4 rfl) Tryd.one24 rfl)) ?_
          refine D.qgX (k := 8) rfl (by kernel_rfl) (by kernel_rfl) (by kernel_rfl) rfl rfl rfl (Qt.field Tryd.underlying64 rfl Tryd.cells44 rfl) ?_
          refine D.qgX (k := 9) rfl (by kernel_rfl) (by kernel_rfl) (by kernel_rfl) rfl rfl rfl (Qt.load rfl (Ld.one (v := .slice A ps.length c) (Has.at 5 rfl) Tryd.one44 (cut_path x _))) ?_
          refine D.cgX (k := 10) rfl (by kernel_rfl) (by kernel_rfl) (by kernel_rfl) rfl rfl rfl (CalU.con0 Tryd.ent40 rfl (fun w hw => rclimb_R x a A ps.length c ps rfl ha64 hf.1 w (Rd.ro hR w hw) (hT2.at hw))) ?_
          refine D.qgX (k := 11) rfl (by kernel_rfl) (by kernel_rfl) (by kernel_rfl) rfl rfl rfl (Qt.dT (Qt.eqH (a := climbH x a ps) (b := climbH x a ps) Tryd.guard23 Tryd.underlying23 Tryd.underlying5 Tryd.cells5 rfl rfl) rfl) ?_
          refine D.qX (k := 12) rfl (by kernel_rfl) (by kernel_rfl) (by kernel_rfl) rfl rfl (Qt.pick_t rfl (by conv => lhs; whnf)) ?_
          refine D.qX (k := 13) rfl (by kernel_rfl) (by kernel_rfl) (by kernel_rfl) rfl rfl (Qt.assign (by conv => lhs; whnf)) ?_
          refine D.done (Sub.nil _) (by kernel_rfl) ?_
          refine TC.ret ?_
          refine finQ.ret (RVs.tmp (by conv => lhs; whnf) RVs.nil) (Sub.nil _) ?_
          exact ⟨rfl, rfl⟩
        · refine S.opS rfl rfl (OpV.con0 Tryd.ent43 rfl (fun w hw => climbF_R x a A ps.length c ha64 hf w) ?_)
          refine S.q rfl rfl (Qt.move (by conv => lhs; whnf)) ?_
          refine S.q rfl rfl (Qt.extract rfl rfl) ?_
          refine S.q rfl rfl (Qt.extract rfl rfl) ?_
          refine S.opS rfl rfl (OpV.alloc Tryd.zero23 (fun b12 => ?_))
          refine S.opN rfl (OpV.storeV0 (v := hv (_)) rfl rfl (hv_size Tryd.cells23) (hv_all _) (hv_len _) ?_)
          refine S.q rfl rfl (Qt.assign (by conv => lhs; whnf)) ?_
          refine S.nil ?_
          refine TC.seq ?_
          refine TC.seq ?_
          refine TC.region ?_
          refine S.q rfl rfl (Qt.indexB (i := 0) Tryd.underlying65 Tryd.cells24 rfl rfl (by omega)) ?_
          refine S.q rfl rfl (Qt.load rfl (Ld.one (v := .int .u64 (a : Int)) (Has.at 4 rfl) Tryd.one24 rfl)) ?_
          refine S.q rfl rfl (Qt.field Tryd.underlying64 rfl Tryd.cells44 rfl) ?_
          refine S.q rfl rfl (Qt.load rfl (Ld.one (v := .slice A ps.length c) (Has.at 5 rfl) Tryd.one44 (cut_path x _))) ?_
          refine S.q rfl rfl (Qt.len_slice Tryd.underlying44 rfl) ?_
          refine S.opS rfl rfl (OpV.con0 Tryd.ent39 rfl (fun w hw => fits_F a ps.length ha64 hf w) ?_)
          refine S.q rfl rfl (Qt.not_f rfl) ?_
          refine S.nil ?_
          refine S.if_t rfl ?_
          refine TC.seq ?_
          refine TC.region ?_
          refine S.q rfl rfl (Qt.move (by conv => lhs; whnf)) ?_
          refine S.opS rfl rfl (OpV.con0 Tryd.ent35 rfl (fun w hw => is1 w) ?_)
          refine S.q rfl rfl (Qt.move (by conv => lhs; whnf)) ?_
          refine S.qg rfl rfl rfl (Qt.load rfl (Ld.hash1 (x := zeroH) (Has.at 0 rfl) Tryd.row23 Tryd.cells23)) ?_
          refine S.qg rfl rfl rfl (Qt.build (v := hv zeroH) rfl (fun _ => by kernel_rfl)) ?_
          refine S.qg rfl rfl rfl (Qt.dT (Qt.eqH (a := zeroH) (b := zeroH) Tryd.guard23 Tryd.underlying23 Tryd.underlying5 Tryd.cells5 rfl rfl) rfl) ?_
          refine S.q rfl rfl (Qt.pick_t rfl (by conv => lhs; whnf)) ?_
          refine S.q rfl rfl (Qt.assign (by conv => lhs; whnf)) ?_
          refine S.nil ?_
          refine TC.ret ?_
          refine finQ.ret (RVs.tmp (by conv => lhs; whnf) RVs.nil) (Sub.nil _) ?_
          exact ⟨rfl, rfl⟩
      · refine S.nil ?_
        refine S.if_f rfl ?_
        refine TC.seq ?_
        refine TC.region ?_
        refine S.q rfl rfl (Qt.indexB (i := 1) Tryd.underlying65 Tryd.cells24 rfl rfl (by omega)) ?_
        refine S.q rfl rfl (Qt.load rfl (Ld.one (v := .int .u64 (b : Int)) (Has.at 1 rfl) Tryd.one24 rfl)) ?_
        refine S.dec rfl rfl (Qt.gt (b := 0) rfl rfl) (fun h33 => ?_) (fun h33 => ?_)
        · refine S.q rfl rfl (Qt.move (by conv => lhs; whnf)) ?_
          refine S.qg rfl rfl rfl (Qt.indexB (i := 1) Tryd.underlying65 Tryd.cells24 rfl rfl (by omega)) ?_
          refine S.qg rfl rfl rfl (Qt.load rfl (Ld.one (v := .int .u64 (b : Int)) (Has.at 1 rfl) Tryd.one24 rfl)) ?_
          refine S.qg rfl rfl rfl (Qt.sub (b := 1) rfl rfl (by omega) (by simp only [kmax]; omega)) ?_
          refine S.qg rfl rfl rfl (Qt.field Tryd.underlying64 rfl Tryd.cells44 rfl) ?_
          refine S.qg rfl rfl rfl (Qt.load rfl (Ld.one (v := .slice A ps.length c) (Has.at 2 rfl) Tryd.one44 (cut_path x _))) ?_
          refine S.qg rfl rfl rfl (Qt.len_slice Tryd.underlying44 rfl) ?_
          by_cases hq : fitsP (b - 1) ps.length
          · refine S.opg rfl rfl rfl (OpV.con0 Tryd.ent39 rfl (fun w hw => fits_T (b - 1) ps.length (by omega) hq w) ?_)
            refine S.q rfl rfl (Qt.pick_t rfl (by conv => lhs; whnf)) ?_
            refine S.nil ?_
            refine S.if_t rfl ?_
            refine TC.region ?_
            refine S.q rfl rfl (Qt.field Tryd.underlying64 rfl Tryd.cells23 rfl) ?_
            refine S.q rfl rfl (Qt.load rfl (Ld.row (vs := hvl x) (Has.at 2 rfl) Tryd.row23 (by rw [hvl_length]; exact Tryd.cells23) (cut_leaf x _))) ?_
            refine S.q rfl rfl (Qt.indexB (i := 1) Tryd.underlying65 Tryd.cells24 rfl rfl (by omega)) ?_
            refine S.q rfl rfl (Qt.load rfl (Ld.one (v := .int .u64 (b : Int)) (Has.at 1 rfl) Tryd.one24 rfl)) ?_
            refine S.q rfl rfl (Qt.sub (b := 1) rfl rfl (by omega) (by simp only [kmax]; omega)) ?_
            refine S.q rfl rfl (Qt.field Tryd.underlying64 rfl Tryd.cells44 rfl) ?_
            refine S.q rfl rfl (Qt.load rfl (Ld.one (v := .slice A ps.length c) (Has.at 2 rfl) Tryd.one44 (cut_path x _))) ?_
            refine S.opS rfl rfl (OpV.con0 Tryd.ent40 rfl (fun w hw => rclimb_R x (b - 1) A ps.length c ps rfl (by omega) hq.1 w (Rd.ro hR w hw) (hT2.at hw)) ?_)
            refine S.opN rfl (OpV.storeV0 (v := hv (_)) rfl rfl (hv_size Tryd.cells23) (hv_all _) (by rw [hv_len, hv_len]) ?_)
            refine S.nil ?_
            refine TC.seq ?_
            refine TC.region ?_
            refine S.q rfl rfl (Qt.load rfl (Ld.all (vs := vl (.agg (hvl x ++ [Value.slice A ps.length c]).toArray)) (Has.at 2 rfl) Tryd.row64 (by rw [vl_agg, cut_size]; exact Tryd.cells64))) ?_
            refine S.q rfl rfl (Qt.load rfl (Ld.hash1 (x := (climbH x (b - 1) ps)) (Has.at 0 rfl) Tryd.row23 Tryd.cells23)) ?_
            refine S.q rfl rfl (Qt.indexB (i := 0) Tryd.underlying65 Tryd.cells24 rfl rfl (by omega)) ?_
            refine S.q rfl rfl (Qt.load rfl (Ld.one (v := .int .u64 (a : Int)) (Has.at 1 rfl) Tryd.one24 rfl)) ?_
            refine S.q rfl rfl (Qt.indexB (i := 1) Tryd.underlying65 Tryd.cells24 rfl rfl (by omega)) ?_
            refine S.q rfl rfl (Qt.load rfl (Ld.one (v := .int .u64 (b : Int)) (Has.at 1 rfl) Tryd.one24 rfl)) ?_
            refine S.opS rfl rfl (OpV.con0 Tryd.ent41 rfl (fun w hw => after_R E hEm (climbH x (b - 1) ps) x a b A c ps hc w (Rd.ro hR w hw) (hT.at hw)) ?_)
            refine S.q rfl rfl (Qt.move (by conv => lhs; whnf)) ?_
            refine S.q rfl rfl (Qt.extract rfl rfl) ?_
            refine S.q rfl rfl (Qt.extract rfl rfl) ?_
            refine S.opS rfl rfl (OpV.alloc Tryd.zero23 (fun b8 => ?_))
            refine S.opN rfl (OpV.storeV0 (v := hv (_)) rfl rfl (hv_size Tryd.cells23) (hv_all _) (hv_len _) ?_)
            refine S.q rfl rfl (Qt.assign (by conv => lhs; whnf)) ?_
            refine S.nil ?_
            refine TC.seq ?_
            refine TC.region ?_
            refine S.q rfl rfl (Qt.load rfl (Ld.hash1 (x := (climbH x (b - 1) ps)) (Has.at 1 rfl) Tryd.row23 Tryd.cells23)) ?_
            refine S.q rfl rfl (Qt.field Tryd.underlying64 rfl Tryd.cells23 rfl) ?_
            refine S.q rfl rfl (Qt.load rfl (Ld.row (vs := hvl x) (Has.at 3 rfl) Tryd.row23 (by rw [hvl_length]; exact Tryd.cells23) (cut_leaf x _))) ?_
            refine S.q rfl rfl (Qt.field Tryd.underlying64 rfl Tryd.cells44 rfl) ?_
            refine S.q rfl rfl (Qt.load rfl (Ld.one (v := .slice A ps.length c) (Has.at 3 rfl) Tryd.one44 (cut_path x _))) ?_
            refine S.q rfl rfl (Qt.indexB (i := 0) Tryd.underlying65 Tryd.cells24 rfl rfl (by omega)) ?_
            refine S.q rfl rfl (Qt.load rfl (Ld.one (v := .int .u64 (a : Int)) (Has.at 2 rfl) Tryd.one24 rfl)) ?_
            refine S.q rfl rfl (Qt.indexB (i := 1) Tryd.underlying65 Tryd.cells24 rfl rfl (by omega)) ?_
            refine S.q rfl rfl (Qt.load rfl (Ld.one (v := .int .u64 (b : Int)) (Has.at 2 rfl) Tryd.one24 rfl)) ?_
            refine S.opS rfl rfl (OpV.con0 Tryd.ent42 rfl (fun w hw => rcut_R E hEr (climbH x (b - 1) ps) x a b A c ps w (Rd.ro hR w hw) (hT2.at hw)) ?_)
            refine S.q rfl rfl (Qt.move (by conv => lhs; whnf)) ?_
            refine S.q rfl rfl (Qt.extract rfl rfl) ?_
            refine S.q rfl rfl (Qt.extract rfl rfl) ?_
            refine S.opS rfl rfl (OpV.alloc Tryd.zero23 (fun b10 => ?_))
            refine S.opN rfl (OpV.storeV0 (v := hv (_)) rfl rfl (hv_size Tryd.cells23) (hv_all _) (hv_len _) ?_)
            refine S.q rfl rfl (Qt.assign (by conv => lhs; whnf)) ?_
            refine S.nil ?_
            refine TC.seq ?_
            refine TC.seq ?_
            refine TC.region ?_
            refine S.q rfl rfl (Qt.load rfl (Ld.hash1 (x := (cutR E (climbH x (b - 1) ps) x ps a b).1) (Has.at 1 rfl) Tryd.row23 Tryd.cells23)) ?_
            refine S.q rfl rfl (Qt.load rfl (Ld.hash1 (x := (cutR E (climbH x (b - 1) ps) x ps a b).1) (Has.at 0 rfl) Tryd.row23 Tryd.cells23)) ?_
            refine S.q rfl rfl (Qt.dF (Qt.neH (a := (cutR E (climbH x (b - 1) ps) x ps a b).1) (b := (cutR E (climbH x (b - 1) ps) x ps a b).1) Tryd.guard23 Tryd.underlying23 Tryd.underlying5 Tryd.cells5 rfl rfl) (fun h => h rfl)) ?_
            refine S.q rfl rfl (Qt.move (by conv => lhs; whnf)) ?_
            refine S.qg rfl rfl rfl (Qt.move (by conv => lhs; whnf)) ?_
            refine S.opg rfl rfl rfl (OpV.con0 Tryd.ent24 rfl (fun w hw => num_R (cutR E (climbH x (b - 1) ps) x ps a b).2 w) ?_)
            refine S.qg rfl rfl rfl (Qt.move (by conv => lhs; whnf)) ?_
            refine S.qg rfl rfl rfl (Qt.dF (Qt.ne rfl rfl) (fun h => h rfl)) ?_
            refine S.q rfl rfl (Qt.pick_f rfl (by conv => lhs; whnf)) ?_
            refine S.nil ?_
            refine S.if_f rfl ?_
            refine TC.skip ?_
            refine TC.seq ?_
            refine TC.region ?_
            refine S.q rfl rfl (Qt.field Tryd.underlying64 rfl Tryd.cells23 rfl) ?_
            refine S.q rfl rfl (Qt.load rfl (Ld.row (vs := hvl x) (Has.at 4 rfl) Tryd.row23 (by rw [hvl_length]; exact Tryd.cells23) (cut_leaf x _))) ?_
            refine S.q rfl rfl (Qt.indexB (i := 0) Tryd.underlying65 Tryd.cells24 rfl rfl (by omega)) ?_
            refine S.q rfl rfl (Qt.load rfl (Ld.one (v := .int .u64 (a : Int)) (Has.at 3 rfl) Tryd.one24 rfl)) ?_
            refine S.q rfl rfl (Qt.field Tryd.underlying64 rfl Tryd.cells44 rfl) ?_
            refine S.q rfl rfl (Qt.load rfl (Ld.one (v := .slice A ps.length c) (Has.at 4 rfl) Tryd.one44 (cut_path x _))) ?_
            by_cases hf : fitsP a ps.length
            · refine S.opS rfl rfl (OpV.con0 Tryd.ent43 rfl (fun w hw => climb_R x a A ps.length c ps rfl ha64 hf w (Rd.ro hR w hw) (hT.at hw)) ?_)
              refine S.q rfl rfl (Qt.move (by conv => lhs; whnf)) ?_
              refine S.q rfl rfl (Qt.extract rfl rfl) ?_
              refine S.q rfl rfl (Qt.extract rfl rfl) ?_
              refine S.opS rfl rfl (OpV.alloc Tryd.zero23 (fun b12 => ?_))
              refine S.opN rfl (OpV.storeV0 (v := hv (_)) rfl rfl (hv_size Tryd.cells23) (hv_all _) (hv_len _) ?_)
              refine S.q rfl rfl (Qt.assign (by conv => lhs; whnf)) ?_
              refine S.nil ?_
              refine TC.seq ?_
              refine TC.seq ?_
              refine TC.region ?_
              refine S.q rfl rfl (Qt.indexB (i := 0) Tryd.underlying65 Tryd.cells24 rfl rfl (by omega)) ?_
              refine S.q rfl rfl (Qt.load rfl (Ld.one (v := .int .u64 (a : Int)) (Has.at 4 rfl) Tryd.one24 rfl)) ?_
              refine S.q rfl rfl (Qt.field Tryd.underlying64 rfl Tryd.cells44 rfl) ?_
              refine S.q rfl rfl (Qt.load rfl (Ld.one (v := .slice A ps.length c) (Has.at 5 rfl) Tryd.one44 (cut_path x _))) ?_
              refine S.q rfl rfl (Qt.len_slice Tryd.underlying44 rfl) ?_
              refine S.opS rfl rfl (OpV.con0 Tryd.ent39 rfl (fun w hw => fits_T a ps.length ha64 hf w) ?_)
              refine S.q rfl rfl (Qt.not_t rfl) ?_
              refine S.nil ?_
              refine S.if_f rfl ?_
              refine TC.skip ?_
              refine TC.seq ?_
              refine S.draw ([], []) Tryd.mixed (Sub.nil _) ?_
              refine D.qX (k := 0) rfl (by kernel_rfl) (by kernel_rfl) (by kernel_rfl) rfl rfl (Qt.move (by conv => lhs; whnf)) ?_
              refine D.qX (k := 1) rfl (by kernel_rfl) (by kernel_rfl) (by kernel_rfl) rfl rfl (Qt.eqnil_nil Tryd.underlying27 rfl) ?_
              refine D.qX (k := 2) rfl (by kernel_rfl) (by kernel_rfl) (by kernel_rfl) rfl rfl (Qt.move (by conv => lhs; whnf)) ?_
              refine D.qgX (k := 3) rfl (by kernel_rfl) (by kernel_rfl) (by kernel_rfl) rfl rfl rfl (Qt.load rfl (Ld.hash1 (x := climbH x a ps) (Has.at 0 rfl) Tryd.row23 Tryd.cells23)) ?_
              refine D.qgX (k := 4) rfl (by kernel_rfl) (by kernel_rfl) (by kernel_rfl) rfl rfl rfl (Qt.field Tryd.underlying64 rfl Tryd.cells23 rfl) ?_
              refine D.qgX (k := 5) rfl (by kernel_rfl) (by kernel_rfl) (by kernel_rfl) rfl rfl rfl (Qt.load rfl (Ld.row (vs := hvl x) (Has.at 5 rfl) Tryd.row23 (by rw [hvl_length]; exact Tryd.cells23) (cut_leaf x _))) ?_
              refine D.qgX (k := 6) rfl (by kernel_rfl) (by kernel_rfl) (by kernel_rfl) rfl rfl rfl (Qt.indexB (i := 0) Tryd.underlying65 Tryd.cells24 rfl rfl (by omega)) ?_
              refine D.qgX (k := 7) rfl (by kernel_rfl) (by kernel_rfl) (by kernel_rfl) rfl rfl rfl (Qt.load rfl (Ld.one (v := .int .u64 (a : Int)) (Has.at 4 rfl) Tryd.one24 rfl)) ?_
              refine D.qgX (k := 8) rfl (by kernel_rfl) (by kernel_rfl) (by kernel_rfl) rfl rfl rfl (Qt.field Tryd.underlying64 rfl Tryd.cells44 rfl) ?_
              refine D.qgX (k := 9) rfl (by kernel_rfl) (by kernel_rfl) (by kernel_rfl) rfl rfl rfl (Qt.load rfl (Ld.one (v := .slice A ps.length c) (Has.at 5 rfl) Tryd.one44 (cut_path x _))) ?_
              refine D.cgX (k := 10) rfl (by kernel_rfl) (by kernel_rfl) (by kernel_rfl) rfl rfl rfl (CalU.con0 Tryd.ent40 rfl (fun w hw => rclimb_R x a A ps.length c ps rfl ha64 hf.1 w (Rd.ro hR w hw) (hT2.at hw))) ?_
              refine D.qgX (k := 11) rfl (by kernel_rfl) (by kernel_rfl) (by kernel_rfl) rfl rfl rfl (Qt.dT (Qt.eqH (a := climbH x a ps) (b := climbH x a ps) Tryd.guard23 Tryd.underlying23 Tryd.underlying5 Tryd.cells5 rfl rfl) rfl) ?_
              refine D.qX (k := 12) rfl (by kernel_rfl) (by kernel_rfl) (by kernel_rfl) rfl rfl (Qt.pick_t rfl (by conv => lhs; whnf)) ?_
              refine D.qX (k := 13) rfl (by kernel_rfl) (by kernel_rfl) (by kernel_rfl) rfl rfl (Qt.assign (by conv => lhs; whnf)) ?_
              refine D.done (Sub.nil _) (by kernel_rfl) ?_
              refine TC.ret ?_
              refine finQ.ret (RVs.tmp (by conv => lhs; whnf) RVs.nil) (Sub.nil _) ?_
              exact ⟨rfl, rfl⟩
            · refine S.opS rfl rfl (OpV.con0 Tryd.ent43 rfl (fun w hw => climbF_R x a A ps.length c ha64 hf w) ?_)
              refine S.q rfl rfl (Qt.move (by conv => lhs; whnf)) ?_
              refine S.q rfl rfl (Qt.extract rfl rfl) ?_
              refine S.q rfl rfl (Qt.extract rfl rfl) ?_
              refine S.opS rfl rfl (OpV.alloc Tryd.zero23 (fun b12 => ?_))
              refine S.opN rfl (OpV.storeV0 (v := hv (_)) rfl rfl (hv_size Tryd.cells23) (hv_all _) (hv_len _) ?_)
              refine S.q rfl rfl (Qt.assign (by conv => lhs; whnf)) ?_
              refine S.nil ?_
              refine TC.seq ?_
              refine TC.seq ?_
              refine TC.region ?_
              refine S.q rfl rfl (Qt.indexB (i := 0) Tryd.underlying65 Tryd.cells24 rfl rfl (by omega)) ?_
              refine S.q rfl rfl (Qt.load rfl (Ld.one (v := .int .u64 (a : Int)) (Has.at 4 rfl) Tryd.one24 rfl)) ?_
              refine S.q rfl rfl (Qt.field Tryd.underlying64 rfl Tryd.cells44 rfl) ?_
              refine S.q rfl rfl (Qt.load rfl (Ld.one (v := .slice A ps.length c) (Has.at 5 rfl) Tryd.one44 (cut_path x _))) ?_
              refine S.q rfl rfl (Qt.len_slice Tryd.underlying44 rfl) ?_
              refine S.opS rfl rfl (OpV.con0 Tryd.ent39 rfl (fun w hw => fits_F a ps.length ha64 hf w) ?_)
              refine S.q rfl rfl (Qt.not_f rfl) ?_
              refine S.nil ?_
              refine S.if_t rfl ?_
              refine TC.seq ?_
              refine TC.region ?_
              refine S.q rfl rfl (Qt.move (by conv => lhs; whnf)) ?_
              refine S.opS rfl rfl (OpV.con0 Tryd.ent35 rfl (fun w hw => is1 w) ?_)
              refine S.q rfl rfl (Qt.move (by conv => lhs; whnf)) ?_
              refine S.qg rfl rfl rfl (Qt.load rfl (Ld.hash1 (x := zeroH) (Has.at 0 rfl) Tryd.row23 Tryd.cells23)) ?_
              refine S.qg rfl rfl rfl (Qt.build (v := hv zeroH) rfl (fun _ => by kernel_rfl)) ?_
              refine S.qg rfl rfl rfl (Qt.dT (Qt.eqH (a := zeroH) (b := zeroH) Tryd.guard23 Tryd.underlying23 Tryd.underlying5 Tryd.cells5 rfl rfl) rfl) ?_
              refine S.q rfl rfl (Qt.pick_t rfl (by conv => lhs; whnf)) ?_
              refine S.q rfl rfl (Qt.assign (by conv => lhs; whnf)) ?_
              refine S.nil ?_
              refine TC.ret ?_
              refine finQ.ret (RVs.tmp (by conv => lhs; whnf) RVs.nil) (Sub.nil _) ?_
              exact ⟨rfl, rfl⟩
          · refine S.opg rfl rfl rfl (OpV.con0 Tryd.ent39 rfl (fun w hw => fits_F (b - 1) ps.length (by omega) hq w) ?_)
            refine S.q rfl rfl (Qt.pick_t rfl (by conv => lhs; whnf)) ?_
            refine S.nil ?_
            refine S.if_f rfl ?_
            refine TC.skip ?_
            refine TC.seq ?_
            refine TC.region ?_
            refine S.q rfl rfl (Qt.load rfl (Ld.all (vs := vl (.agg (hvl x ++ [Value.slice A ps.length c]).toArray)) (Has.at 2 rfl) Tryd.row64 (by rw [vl_agg, cut_size]; exact Tryd.cells64))) ?_
            refine S.q rfl rfl (Qt.load rfl (Ld.hash1 (x := H3) (Has.at 0 rfl) Tryd.row23 Tryd.cells23)) ?_
            refine S.q rfl rfl (Qt.indexB (i := 0) Tryd.underlying65 Tryd.cells24 rfl rfl (by omega)) ?_
            refine S.q rfl rfl (Qt.load rfl (Ld.one (v := .int .u64 (a : Int)) (Has.at 1 rfl) Tryd.one24 rfl)) ?_
            refine S.q rfl rfl (Qt.indexB (i := 1) Tryd.underlying65 Tryd.cells24 rfl rfl (by omega)) ?_
            refine S.q rfl rfl (Qt.load rfl (Ld.one (v := .int .u64 (b : Int)) (Has.at 1 rfl) Tryd.one24 rfl)) ?_
            refine S.opS rfl rfl (OpV.con0 Tryd.ent41 rfl (fun w hw => after_R E hEm H3 x a b A c ps hc w (Rd.ro hR w hw) (hT.at hw)) ?_)
            refine S.q rfl rfl (Qt.move (by conv => lhs; whnf)) ?_
            refine S.q rfl rfl (Qt.extract rfl rfl) ?_
            refine S.q rfl rfl (Qt.extract rfl rfl) ?_
            refine S.opS rfl rfl (OpV.alloc Tryd.zero23 (fun b8 => ?_))
            refine S.opN rfl (OpV.storeV0 (v := hv (_)) rfl rfl (hv_size Tryd.cells23) (hv_all _) (hv_len _) ?_)
            refine S.q rfl rfl (Qt.assign (by conv => lhs; whnf)) ?_
            refine S.nil ?_
            refine TC.seq ?_
            refine TC.region ?_
            refine S.q rfl rfl (Qt.load rfl (Ld.hash1 (x := H3) (Has.at 1 rfl) Tryd.row23 Tryd.cells23)) ?_
            refine S.q rfl rfl (Qt.field Tryd.underlying64 rfl Tryd.cells23 rfl) ?_
            refine S.q rfl rfl (Qt.load rfl (Ld.row (vs := hvl x) (Has.at 3 rfl) Tryd.row23 (by rw [hvl_length]; exact Tryd.cells23) (cut_leaf x _))) ?_
            refine S.q rfl rfl (Qt.field Tryd.underlying64 rfl Tryd.cells44 rfl) ?_
            refine S.q rfl rfl (Qt.load rfl (Ld.one (v := .slice A ps.length c) (Has.at 3 rfl) Tryd.one44 (cut_path x _))) ?_
            refine S.q rfl rfl (Qt.indexB (i := 0) Tryd.underlying65 Tryd.cells24 rfl rfl (by omega)) ?_
            refine S.q rfl rfl (Qt.load rfl (Ld.one (v := .int .u64 (a : Int)) (Has.at 2 rfl) Tryd.one24 rfl)) ?_
            refine S.q rfl rfl (Qt.indexB (i := 1) Tryd.underlying65 Tryd.cells24 rfl rfl (by omega)) ?_
            refine S.q rfl rfl (Qt.load rfl (Ld.one (v := .int .u64 (b : Int)) (Has.at 2 rfl) Tryd.one24 rfl)) ?_
            refine S.opS rfl rfl (OpV.con0 Tryd.ent42 rfl (fun w hw => rcut_R E hEr H3 x a b A c ps w (Rd.ro hR w hw) (hT2.at hw)) ?_)
            refine S.q rfl rfl (Qt.move (by conv => lhs; whnf)) ?_
            refine S.q rfl rfl (Qt.extract rfl rfl) ?_
            refine S.q rfl rfl (Qt.extract rfl rfl) ?_
            refine S.opS rfl rfl (OpV.alloc Tryd.zero23 (fun b10 => ?_))
            refine S.opN rfl (OpV.storeV0 (v := hv (_)) rfl rfl (hv_size Tryd.cells23) (hv_all _) (hv_len _) ?_)
            refine S.q rfl rfl (Qt.assign (by conv => lhs; whnf)) ?_
            refine S.nil ?_
            refine TC.seq ?_
            refine TC.seq ?_
            refine TC.region ?_
            refine S.q rfl rfl (Qt.load rfl (Ld.hash1 (x := (cutR E H3 x ps a b).1) (Has.at 1 rfl) Tryd.row23 Tryd.cells23)) ?_
            refine S.q rfl rfl (Qt.load rfl (Ld.hash1 (x := (cutR E H3 x ps a b).1) (Has.at 0 rfl) Tryd.row23 Tryd.cells23)) ?_
            refine S.q rfl rfl (Qt.dF (Qt.neH (a := (cutR E H3 x ps a b).1) (b := (cutR E H3 x ps a b).1) Tryd.guard23 Tryd.underlying23 Tryd.underlying5 Tryd.cells5 rfl rfl) (fun h => h rfl)) ?_
            refine S.q rfl rfl (Qt.move (by conv => lhs; whnf)) ?_
            refine S.qg rfl rfl rfl (Qt.move (by conv => lhs; whnf)) ?_
            refine S.opg rfl rfl rfl (OpV.con0 Tryd.ent24 rfl (fun w hw => num_R (cutR E H3 x ps a b).2 w) ?_)
            refine S.qg rfl rfl rfl (Qt.move (by conv => lhs; whnf)) ?_
            refine S.qg rfl rfl rfl (Qt.dF (Qt.ne rfl rfl) (fun h => h rfl)) ?_
            refine S.q rfl rfl (Qt.pick_f rfl (by conv => lhs; whnf)) ?_
            refine S.nil ?_
            refine S.if_f rfl ?_
            refine TC.skip ?_
            refine TC.seq ?_
            refine TC.region ?_
            refine S.q rfl rfl (Qt.field Tryd.underlying64 rfl Tryd.cells23 rfl) ?_
            refine S.q rfl rfl (Qt.load rfl (Ld.row (vs := hvl x) (Has.at 4 rfl) Tryd.row23 (by rw [hvl_length]; exact Tryd.cells23) (cut_leaf x _))) ?_
            refine S.q rfl rfl (Qt.indexB (i := 0) Tryd.underlying65 Tryd.cells24 rfl rfl (by omega)) ?_
            refine S.q rfl rfl (Qt.load rfl (Ld.one (v := .int .u64 (a : Int)) (Has.at 3 rfl) Tryd.one24 rfl)) ?_
            refine S.q rfl rfl (Qt.field Tryd.underlying64 rfl Tryd.cells44 rfl) ?_
            refine S.q rfl rfl (Qt.load rfl (Ld.one (v := .slice A ps.length c) (Has.at 4 rfl) Tryd.one44 (cut_path x _))) ?_
            by_cases hf : fitsP a ps.length
            · refine S.opS rfl rfl (OpV.con0 Tryd.ent43 rfl (fun w hw => climb_R x a A ps.length c ps rfl ha64 hf w (Rd.ro hR w hw) (hT.at hw)) ?_)
              refine S.q rfl rfl (Qt.move (by conv => lhs; whnf)) ?_
              refine S.q rfl rfl (Qt.extract rfl rfl) ?_
              refine S.q rfl rfl (Qt.extract rfl rfl) ?_
              refine S.opS rfl rfl (OpV.alloc Tryd.zero23 (fun b12 => ?_))
              refine S.opN rfl (OpV.storeV0 (v := hv (_)) rfl rfl (hv_size Tryd.cells23) (hv_all _) (hv_len _) ?_)
              refine S.q rfl rfl (Qt.assign (by conv => lhs; whnf)) ?_
              refine S.nil ?_
              refine TC.seq ?_
              refine TC.seq ?_
              refine TC.region ?_
              refine S.q rfl rfl (Qt.indexB (i := 0) Tryd.underlying65 Tryd.cells24 rfl rfl (by omega)) ?_
              refine S.q rfl rfl (Qt.load rfl (Ld.one (v := .int .u64 (a : Int)) (Has.at 4 rfl) Tryd.one24 rfl)) ?_
              refine S.q rfl rfl (Qt.field Tryd.underlying64 rfl Tryd.cells44 rfl) ?_
              refine S.q rfl rfl (Qt.load rfl (Ld.one (v := .slice A ps.length c) (Has.at 5 rfl) Tryd.one44 (cut_path x _))) ?_
              refine S.q rfl rfl (Qt.len_slice Tryd.underlying44 rfl) ?_
              refine S.opS rfl rfl (OpV.con0 Tryd.ent39 rfl (fun w hw => fits_T a ps.length ha64 hf w) ?_)
              refine S.q rfl rfl (Qt.not_t rfl) ?_
              refine S.nil ?_
              refine S.if_f rfl ?_
              refine TC.skip ?_
              refine TC.seq ?_
              refine S.draw ([], []) Tryd.mixed (Sub.nil _) ?_
              refine D.qX (k := 0) rfl (by kernel_rfl) (by kernel_rfl) (by kernel_rfl) rfl rfl (Qt.move (by conv => lhs; whnf)) ?_
              refine D.qX (k := 1) rfl (by kernel_rfl) (by kernel_rfl) (by kernel_rfl) rfl rfl (Qt.eqnil_nil Tryd.underlying27 rfl) ?_
              refine D.qX (k := 2) rfl (by kernel_rfl) (by kernel_rfl) (by kernel_rfl) rfl rfl (Qt.move (by conv => lhs; whnf)) ?_
              refine D.qgX (k := 3) rfl (by kernel_rfl) (by kernel_rfl) (by kernel_rfl) rfl rfl rfl (Qt.load rfl (Ld.hash1 (x := climbH x a ps) (Has.at 0 rfl) Tryd.row23 Tryd.cells23)) ?_
              refine D.qgX (k := 4) rfl (by kernel_rfl) (by kernel_rfl) (by kernel_rfl) rfl rfl rfl (Qt.field Tryd.underlying64 rfl Tryd.cells23 rfl) ?_
              refine D.qgX (k := 5) rfl (by kernel_rfl) (by kernel_rfl) (by kernel_rfl) rfl rfl rfl (Qt.load rfl (Ld.row (vs := hvl x) (Has.at 5 rfl) Tryd.row23 (by rw [hvl_length]; exact Tryd.cells23) (cut_leaf x _))) ?_
              refine D.qgX (k := 6) rfl (by kernel_rfl) (by kernel_rfl) (by kernel_rfl) rfl rfl rfl (Qt.indexB (i := 0) Tryd.underlying65 Tryd.cells24 rfl rfl (by omega)) ?_
              refine D.qgX (k := 7) rfl (by kernel_rfl) (by kernel_rfl) (by kernel_rfl) rfl rfl rfl (Qt.load rfl (Ld.one (v := .int .u64 (a : Int)) (Has.at 4 rfl) Tryd.one24 rfl)) ?_
              refine D.qgX (k := 8) rfl (by kernel_rfl) (by kernel_rfl) (by kernel_rfl) rfl rfl rfl (Qt.field Tryd.underlying64 rfl Tryd.cells44 rfl) ?_
              refine D.qgX (k := 9) rfl (by kernel_rfl) (by kernel_rfl) (by kernel_rfl) rfl rfl rfl (Qt.load rfl (Ld.one (v := .slice A ps.length c) (Has.at 5 rfl) Tryd.one44 (cut_path x _))) ?_
              refine D.cgX (k := 10) rfl (by kernel_rfl) (by kernel_rfl) (by kernel_rfl) rfl rfl rfl (CalU.con0 Tryd.ent40 rfl (fun w hw => rclimb_R x a A ps.length c ps rfl ha64 hf.1 w (Rd.ro hR w hw) (hT2.at hw))) ?_
              refine D.qgX (k := 11) rfl (by kernel_rfl) (by kernel_rfl) (by kernel_rfl) rfl rfl rfl (Qt.dT (Qt.eqH (a := climbH x a ps) (b := climbH x a ps) Tryd.guard23 Tryd.underlying23 Tryd.underlying5 Tryd.cells5 rfl rfl) rfl) ?_
              refine D.qX (k := 12) rfl (by kernel_rfl) (by kernel_rfl) (by kernel_rfl) rfl rfl (Qt.pick_t rfl (by conv => lhs; whnf)) ?_
              refine D.qX (k := 13) rfl (by kernel_rfl) (by kernel_rfl) (by kernel_rfl) rfl rfl (Qt.assign (by conv => lhs; whnf)) ?_
              refine D.done (Sub.nil _) (by kernel_rfl) ?_
              refine TC.ret ?_
              refine finQ.ret (RVs.tmp (by conv => lhs; whnf) RVs.nil) (Sub.nil _) ?_
              exact ⟨rfl, rfl⟩
            · refine S.opS rfl rfl (OpV.con0 Tryd.ent43 rfl (fun w hw => climbF_R x a A ps.length c ha64 hf w) ?_)
              refine S.q rfl rfl (Qt.move (by conv => lhs; whnf)) ?_
              refine S.q rfl rfl (Qt.extract rfl rfl) ?_
              refine S.q rfl rfl (Qt.extract rfl rfl) ?_
              refine S.opS rfl rfl (OpV.alloc Tryd.zero23 (fun b12 => ?_))
              refine S.opN rfl (OpV.storeV0 (v := hv (_)) rfl rfl (hv_size Tryd.cells23) (hv_all _) (hv_len _) ?_)
              refine S.q rfl rfl (Qt.assign (by conv => lhs; whnf)) ?_
              refine S.nil ?_
              refine TC.seq ?_
              refine TC.seq ?_
              refine TC.region ?_
              refine S.q rfl rfl (Qt.indexB (i := 0) Tryd.underlying65 Tryd.cells24 rfl rfl (by omega)) ?_
              refine S.q rfl rfl (Qt.load rfl (Ld.one (v := .int .u64 (a : Int)) (Has.at 4 rfl) Tryd.one24 rfl)) ?_
              refine S.q rfl rfl (Qt.field Tryd.underlying64 rfl Tryd.cells44 rfl) ?_
              refine S.q rfl rfl (Qt.load rfl (Ld.one (v := .slice A ps.length c) (Has.at 5 rfl) Tryd.one44 (cut_path x _))) ?_
              refine S.q rfl rfl (Qt.len_slice Tryd.underlying44 rfl) ?_
              refine S.opS rfl rfl (OpV.con0 Tryd.ent39 rfl (fun w hw => fits_F a ps.length ha64 hf w) ?_)
              refine S.q rfl rfl (Qt.not_f rfl) ?_
              refine S.nil ?_
              refine S.if_t rfl ?_
              refine TC.seq ?_
              refine TC.region ?_
              refine S.q rfl rfl (Qt.move (by conv => lhs; whnf)) ?_
              refine S.opS rfl rfl (OpV.con0 Tryd.ent35 rfl (fun w hw => is1 w) ?_)
              refine S.q rfl rfl (Qt.move (by conv => lhs; whnf)) ?_
              refine S.qg rfl rfl rfl (Qt.load rfl (Ld.hash1 (x := zeroH) (Has.at 0 rfl) Tryd.row23 Tryd.cells23)) ?_
              refine S.qg rfl rfl rfl (Qt.build (v := hv zeroH) rfl (fun _ => by kernel_rfl)) ?_
              refine S.qg rfl rfl rfl (Qt.dT (Qt.eqH (a := zeroH) (b := zeroH) Tryd.guard23 Tryd.underlying23 Tryd.underlying5 Tryd.cells5 rfl rfl) rfl) ?_
              refine S.q rfl rfl (Qt.pick_t rfl (by conv => lhs; whnf)) ?_
              refine S.q rfl rfl (Qt.assign (by conv => lhs; whnf)) ?_
              refine S.nil ?_
              refine TC.ret ?_
              refine finQ.ret (RVs.tmp (by conv => lhs; whnf) RVs.nil) (Sub.nil _) ?_
              exact ⟨rfl, rfl⟩
        · refine S.q rfl rfl (Qt.move (by conv => lhs; whnf)) ?_
          refine S.pass rfl rfl ?_
          refine S.pass rfl rfl ?_
          refine S.pass rfl rfl ?_
          refine S.pass rfl rfl ?_
          refine S.pass rfl rfl ?_
          refine S.pass rfl rfl ?_
          refine S.pass rfl rfl ?_
          refine S.q rfl rfl (Qt.pick_f rfl (by conv => lhs; whnf)) ?_
          refine S.nil ?_
          refine S.if_f rfl ?_
          refine TC.skip ?_
          refine TC.seq ?_
          refine TC.region ?_
          refine S.q rfl rfl (Qt.load rfl (Ld.all (vs := vl (.agg (hvl x ++ [Value.slice A ps.length c]).toArray)) (Has.at 2 rfl) Tryd.row64 (by rw [vl_agg, cut_size]; exact Tryd.cells64))) ?_
          refine S.q rfl rfl (Qt.load rfl (Ld.hash1 (x := H3) (Has.at 0 rfl) Tryd.row23 Tryd.cells23)) ?_
          refine S.q rfl rfl (Qt.indexB (i := 0) Tryd.underlying65 Tryd.cells24 rfl rfl (by omega)) ?_
          refine S.q rfl rfl (Qt.load rfl (Ld.one (v := .int .u64 (a : Int)) (Has.at 1 rfl) Tryd.one24 rfl)) ?_
          refine S.q rfl rfl (Qt.indexB (i := 1) Tryd.underlying65 Tryd.cells24 rfl rfl (by omega)) ?_
          refine S.q rfl rfl (Qt.load rfl (Ld.one (v := .int .u64 (b : Int)) (Has.at 1 rfl) Tryd.one24 rfl)) ?_
          refine S.opS rfl rfl (OpV.con0 Tryd.ent41 rfl (fun w hw => after_R E hEm H3 x a b A c ps hc w (Rd.ro hR w hw) (hT.at hw)) ?_)
          refine S.q rfl rfl (Qt.move (by conv => lhs; whnf)) ?_
          refine S.q rfl rfl (Qt.extract rfl rfl) ?_
          refine S.q rfl rfl (Qt.extract rfl rfl) ?_
          refine S.opS rfl rfl (OpV.alloc Tryd.zero23 (fun b8 => ?_))
          refine S.opN rfl (OpV.storeV0 (v := hv (_)) rfl rfl (hv_size Tryd.cells23) (hv_all _) (hv_len _) ?_)
          refine S.q rfl rfl (Qt.assign (by conv => lhs; whnf)) ?_
          refine S.nil ?_
          refine TC.seq ?_
          refine TC.region ?_
          refine S.q rfl rfl (Qt.load rfl (Ld.hash1 (x := H3) (Has.at 1 rfl) Tryd.row23 Tryd.cells23)) ?_
          refine S.q rfl rfl (Qt.field Tryd.underlying64 rfl Tryd.cells23 rfl) ?_
          refine S.q rfl rfl (Qt.load rfl (Ld.row (vs := hvl x) (Has.at 3 rfl) Tryd.row23 (by rw [hvl_length]; exact Tryd.cells23) (cut_leaf x _))) ?_
          refine S.q rfl rfl (Qt.field Tryd.underlying64 rfl Tryd.cells44 rfl) ?_
          refine S.q rfl rfl (Qt.load rfl (Ld.one (v := .slice A ps.length c) (Has.at 3 rfl) Tryd.one44 (cut_path x _))) ?_
          refine S.q rfl rfl (Qt.indexB (i := 0) Tryd.underlying65 Tryd.cells24 rfl rfl (by omega)) ?_
          refine S.q rfl rfl (Qt.load rfl (Ld.one (v := .int .u64 (a : Int)) (Has.at 2 rfl) Tryd.one24 rfl)) ?_
          refine S.q rfl rfl (Qt.indexB (i := 1) Tryd.underlying65 Tryd.cells24 rfl rfl (by omega)) ?_
          refine S.q rfl rfl (Qt.load rfl (Ld.one (v := .int .u64 (b : Int)) (Has.at 2 rfl) Tryd.one24 rfl)) ?_
          refine S.opS rfl rfl (OpV.con0 Tryd.ent42 rfl (fun w hw => rcut_R E hEr H3 x a b A c ps w (Rd.ro hR w hw) (hT2.at hw)) ?_)
          refine S.q rfl rfl (Qt.move (by conv => lhs; whnf)) ?_
          refine S.q rfl rfl (Qt.extract rfl rfl) ?_
          refine S.q rfl rfl (Qt.extract rfl rfl) ?_
          refine S.opS rfl rfl (OpV.alloc Tryd.zero23 (fun b10 => ?_))
          refine S.opN rfl (OpV.storeV0 (v := hv (_)) rfl rfl (hv_size Tryd.cells23) (hv_all _) (hv_len _) ?_)
          refine S.q rfl rfl (Qt.assign (by conv => lhs; whnf)) ?_
          refine S.nil ?_
          refine TC.seq ?_
          refine TC.seq ?_
          refine TC.region ?_
          refine S.q rfl rfl (Qt.load rfl (Ld.hash1 (x := (cutR E H3 x ps a b).1) (Has.at 1 rfl) Tryd.row23 Tryd.cells23)) ?_
          refine S.q rfl rfl (Qt.load rfl (Ld.hash1 (x := (cutR E H3 x ps a b).1) (Has.at 0 rfl) Tryd.row23 Tryd.cells23)) ?_
          refine S.q rfl rfl (Qt.dF (Qt.neH (a := (cutR E H3 x ps a b).1) (b := (cutR E H3 x ps a b).1) Tryd.guard23 Tryd.underlying23 Tryd.underlying5 Tryd.cells5 rfl rfl) (fun h => h rfl)) ?_
          refine S.q rfl rfl (Qt.move (by conv => lhs; whnf)) ?_
          refine S.qg rfl rfl rfl (Qt.move (by conv => lhs; whnf)) ?_
          refine S.opg rfl rfl rfl (OpV.con0 Tryd.ent24 rfl (fun w hw => num_R (cutR E H3 x ps a b).2 w) ?_)
          refine S.qg rfl rfl rfl (Qt.move (by conv => lhs; whnf)) ?_
          refine S.qg rfl rfl rfl (Qt.dF (Qt.ne rfl rfl) (fun h => h rfl)) ?_
          refine S.q rfl rfl (Qt.pick_f rfl (by conv => lhs; whnf)) ?_
          refine S.nil ?_
          refine S.if_f rfl ?_
          refine TC.skip ?_
          refine TC.seq ?_
          refine TC.region ?_
          refine S.q rfl rfl (Qt.field Tryd.underlying64 rfl Tryd.cells23 rfl) ?_
          refine S.q rfl rfl (Qt.load rfl (Ld.row (vs := hvl x) (Has.at 4 rfl) Tryd.row23 (by rw [hvl_length]; exact Tryd.cells23) (cut_leaf x _))) ?_
          refine S.q rfl rfl (Qt.indexB (i := 0) Tryd.underlying65 Tryd.cells24 rfl rfl (by omega)) ?_
          refine S.q rfl rfl (Qt.load rfl (Ld.one (v := .int .u64 (a : Int)) (Has.at 3 rfl) Tryd.one24 rfl)) ?_
          refine S.q rfl rfl (Qt.field Tryd.underlying64 rfl Tryd.cells44 rfl) ?_
          refine S.q rfl rfl (Qt.load rfl (Ld.one (v := .slice A ps.length c) (Has.at 4 rfl) Tryd.one44 (cut_path x _))) ?_
          by_cases hf : fitsP a ps.length
          · refine S.opS rfl rfl (OpV.con0 Tryd.ent43 rfl (fun w hw => climb_R x a A ps.length c ps rfl ha64 hf w (Rd.ro hR w hw) (hT.at hw)) ?_)
            refine S.q rfl rfl (Qt.move (by conv => lhs; whnf)) ?_
            refine S.q rfl rfl (Qt.extract rfl rfl) ?_
            refine S.q rfl rfl (Qt.extract rfl rfl) ?_
            refine S.opS rfl rfl (OpV.alloc Tryd.zero23 (fun b12 => ?_))
            refine S.opN rfl (OpV.storeV0 (v := hv (_)) rfl rfl (hv_size Tryd.cells23) (hv_all _) (hv_len _) ?_)
            refine S.q rfl rfl (Qt.assign (by conv => lhs; whnf)) ?_
            refine S.nil ?_
            refine TC.seq ?_
            refine TC.seq ?_
            refine TC.region ?_
            refine S.q rfl rfl (Qt.indexB (i := 0) Tryd.underlying65 Tryd.cells24 rfl rfl (by omega)) ?_
            refine S.q rfl rfl (Qt.load rfl (Ld.one (v := .int .u64 (a : Int)) (Has.at 4 rfl) Tryd.one24 rfl)) ?_
            refine S.q rfl rfl (Qt.field Tryd.underlying64 rfl Tryd.cells44 rfl) ?_
            refine S.q rfl rfl (Qt.load rfl (Ld.one (v := .slice A ps.length c) (Has.at 5 rfl) Tryd.one44 (cut_path x _))) ?_
            refine S.q rfl rfl (Qt.len_slice Tryd.underlying44 rfl) ?_
            refine S.opS rfl rfl (OpV.con0 Tryd.ent39 rfl (fun w hw => fits_T a ps.length ha64 hf w) ?_)
            refine S.q rfl rfl (Qt.not_t rfl) ?_
            refine S.nil ?_
            refine S.if_f rfl ?_
            refine TC.skip ?_
            refine TC.seq ?_
            refine S.draw ([], []) Tryd.mixed (Sub.nil _) ?_
            refine D.qX (k := 0) rfl (by kernel_rfl) (by kernel_rfl) (by kernel_rfl) rfl rfl (Qt.move (by conv => lhs; whnf)) ?_
            refine D.qX (k := 1) rfl (by kernel_rfl) (by kernel_rfl) (by kernel_rfl) rfl rfl (Qt.eqnil_nil Tryd.underlying27 rfl) ?_
            refine D.qX (k := 2) rfl (by kernel_rfl) (by kernel_rfl) (by kernel_rfl) rfl rfl (Qt.move (by conv => lhs; whnf)) ?_
            refine D.qgX (k := 3) rfl (by kernel_rfl) (by kernel_rfl) (by kernel_rfl) rfl rfl rfl (Qt.load rfl (Ld.hash1 (x := climbH x a ps) (Has.at 0 rfl) Tryd.row23 Tryd.cells23)) ?_
            refine D.qgX (k := 4) rfl (by kernel_rfl) (by kernel_rfl) (by kernel_rfl) rfl rfl rfl (Qt.field Tryd.underlying64 rfl Tryd.cells23 rfl) ?_
            refine D.qgX (k := 5) rfl (by kernel_rfl) (by kernel_rfl) (by kernel_rfl) rfl rfl rfl (Qt.load rfl (Ld.row (vs := hvl x) (Has.at 5 rfl) Tryd.row23 (by rw [hvl_length]; exact Tryd.cells23) (cut_leaf x _))) ?_
            refine D.qgX (k := 6) rfl (by kernel_rfl) (by kernel_rfl) (by kernel_rfl) rfl rfl rfl (Qt.indexB (i := 0) Tryd.underlying65 Tryd.cells24 rfl rfl (by omega)) ?_
            refine D.qgX (k := 7) rfl (by kernel_rfl) (by kernel_rfl) (by kernel_rfl) rfl rfl rfl (Qt.load rfl (Ld.one (v := .int .u64 (a : Int)) (Has.at 4 rfl) Tryd.one24 rfl)) ?_
            refine D.qgX (k := 8) rfl (by kernel_rfl) (by kernel_rfl) (by kernel_rfl) rfl rfl rfl (Qt.field Tryd.underlying64 rfl Tryd.cells44 rfl) ?_
            refine D.qgX (k := 9) rfl (by kernel_rfl) (by kernel_rfl) (by kernel_rfl) rfl rfl rfl (Qt.load rfl (Ld.one (v := .slice A ps.length c) (Has.at 5 rfl) Tryd.one44 (cut_path x _))) ?_
            refine D.cgX (k := 10) rfl (by kernel_rfl) (by kernel_rfl) (by kernel_rfl) rfl rfl rfl (CalU.con0 Tryd.ent40 rfl (fun w hw => rclimb_R x a A ps.length c ps rfl ha64 hf.1 w (Rd.ro hR w hw) (hT2.at hw))) ?_
            refine D.qgX (k := 11) rfl (by kernel_rfl) (by kernel_rfl) (by kernel_rfl) rfl rfl rfl (Qt.dT (Qt.eqH (a := climbH x a ps) (b := climbH x a ps) Tryd.guard23 Tryd.underlying23 Tryd.underlying5 Tryd.cells5 rfl rfl) rfl) ?_
            refine D.qX (k := 12) rfl (by kernel_rfl) (by kernel_rfl) (by kernel_rfl) rfl rfl (Qt.pick_t rfl (by conv => lhs; whnf)) ?_
            refine D.qX (k := 13) rfl (by kernel_rfl) (by kernel_rfl) (by kernel_rfl) rfl rfl (Qt.assign (by conv => lhs; whnf)) ?_
            refine D.done (Sub.nil _) (by kernel_rfl) ?_
            refine TC.ret ?_
            refine finQ.ret (RVs.tmp (by conv => lhs; whnf) RVs.nil) (Sub.nil _) ?_
            exact ⟨rfl, rfl⟩
          · refine S.opS rfl rfl (OpV.con0 Tryd.ent43 rfl (fun w hw => climbF_R x a A ps.length c ha64 hf w) ?_)
            refine S.q rfl rfl (Qt.move (by conv => lhs; whnf)) ?_
            refine S.q rfl rfl (Qt.extract rfl rfl) ?_
            refine S.q rfl rfl (Qt.extract rfl rfl) ?_
            refine S.opS rfl rfl (OpV.alloc Tryd.zero23 (fun b12 => ?_))
            refine S.opN rfl (OpV.storeV0 (v := hv (_)) rfl rfl (hv_size Tryd.cells23) (hv_all _) (hv_len _) ?_)
            refine S.q rfl rfl (Qt.assign (by conv => lhs; whnf)) ?_
            refine S.nil ?_
            refine TC.seq ?_
            refine TC.seq ?_
            refine TC.region ?_
            refine S.q rfl rfl (Qt.indexB (i := 0) Tryd.underlying65 Tryd.cells24 rfl rfl (by omega)) ?_
            refine S.q rfl rfl (Qt.load rfl (Ld.one (v := .int .u64 (a : Int)) (Has.at 4 rfl) Tryd.one24 rfl)) ?_
            refine S.q rfl rfl (Qt.field Tryd.underlying64 rfl Tryd.cells44 rfl) ?_
            refine S.q rfl rfl (Qt.load rfl (Ld.one (v := .slice A ps.length c) (Has.at 5 rfl) Tryd.one44 (cut_path x _))) ?_
            refine S.q rfl rfl (Qt.len_slice Tryd.underlying44 rfl) ?_
            refine S.opS rfl rfl (OpV.con0 Tryd.ent39 rfl (fun w hw => fits_F a ps.length ha64 hf w) ?_)
            refine S.q rfl rfl (Qt.not_f rfl) ?_
            refine S.nil ?_
            refine S.if_t rfl ?_
            refine TC.seq ?_
            refine TC.region ?_
            refine S.q rfl rfl (Qt.move (by conv => lhs; whnf)) ?_
            refine S.opS rfl rfl (OpV.con0 Tryd.ent35 rfl (fun w hw => is1 w) ?_)
            refine S.q rfl rfl (Qt.move (by conv => lhs; whnf)) ?_
            refine S.qg rfl rfl rfl (Qt.load rfl (Ld.hash1 (x := zeroH) (Has.at 0 rfl) Tryd.row23 Tryd.cells23)) ?_
            refine S.qg rfl rfl rfl (Qt.build (v := hv zeroH) rfl (fun _ => by kernel_rfl)) ?_
            refine S.qg rfl rfl rfl (Qt.dT (Qt.eqH (a := zeroH) (b := zeroH) Tryd.guard23 Tryd.underlying23 Tryd.underlying5 Tryd.cells5 rfl rfl) rfl) ?_
            refine S.q rfl rfl (Qt.pick_t rfl (by conv => lhs; whnf)) ?_
            refine S.q rfl rfl (Qt.assign (by conv => lhs; whnf)) ?_
            refine S.nil ?_
            refine TC.ret ?_
            refine finQ.ret (RVs.tmp (by conv => lhs; whnf) RVs.nil) (Sub.nil _) ?_
            exact ⟨rfl, rfl⟩
theorem stepCuts_R (x : H32) (A : Option Addr) (c : Nat) (ps : List H32) (hc : ps.length ≤ c) (a b : Nat) (ha64 : a < 18446744073709551616) (hb64 : b < 18446744073709551616) (B : Option Addr) (d : Nat) (rs : List H32) (w0 : World) (hR : Ro w0 [] (SlA A (hcs ps))) (hS : Ro w0 [] (SlA B (hcs rs))) (hT : Tabs 2 0 w0 []) (hT2 : Tabs 3 1 w0 []) :
    Calls Tryd.prog 6 #[.agg (hvl x ++ [Value.slice A ps.length c]).toArray, .agg #[.int .u64 (a : Int), .int .u64 (b : Int)], .slice B rs.length d] w0 (Post w0 [] fun v L => v = .bool true ∧ L = []) :=
  law6_walk emptyH (fun w h => empties_R w h) (fun w h => rempties_walk w h) emptyH_ne x A c ps hc a b ha64 hb64 B d rs w0 hR hS hT hT2

end Go.Proofs.YtlneklemjfefpaaDoor
