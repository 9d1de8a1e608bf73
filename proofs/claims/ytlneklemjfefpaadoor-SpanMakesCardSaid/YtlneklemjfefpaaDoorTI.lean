/-
  Walks: the nodes of the two trees. Printed by a program of ours.
-/
import Derived.Test.YtlneklemjfefpaaDoorTH
namespace Go.Proofs.YtlneklemjfefpaaDoor
open Go.E
set_option linter.unusedVariables false
set_option maxRecDepth 4000
theorem Tryd.ent32 : Enters Tryd.prog 32 := ⟨_, Tryd.func32, by kernel_rfl, rfl⟩
theorem Tryd.ent37 : Enters Tryd.prog 37 := ⟨_, Tryd.func37, by kernel_rfl, rfl⟩
theorem Tryd.ent38 : Enters Tryd.prog 38 := ⟨_, Tryd.func38, by kernel_rfl, rfl⟩

set_option maxHeartbeats 1600000 in
theorem law5_walk (E : Nat → H32) (hEm : ∀ w, Tabs 2 0 w [] → Calls Tryd.prog 88 #[] w (Ret w (.agg (hcs (emptL E)).toArray))) (hE : ∀ h, E (h + 1) = joinH (h + 1) (E h) (E h)) (hEr : ∀ w, Tabs 3 1 w [] → Calls Tryd.prog 90 #[] w (Post w [] fun v L => ∃ O d, v = .slice O 33 d ∧ L = [OwnA 23 32 O 33 d (hcs (emptL E))])) (height : Nat) (hh : height ≤ 32) (A : Option Addr) (c : Nat) (xs : List Go.E.Act) (a : Go.E.Act) (hxs : xs.length ≤ 25) (w0 : World) (hR : Ro w0 [] (SlA A (xs.flatMap actL))) (hT : Tabs 2 0 w0 []) (hT2 : Tabs 3 1 w0 []) :
    Calls Tryd.prog 5 #[.int .i64 (height : Int), .slice A xs.length c, .agg (actL a).toArray] w0 (Post w0 [] fun v L => v = .bool true ∧ L = []) := by
  refine Calls.of (L := []) (n := 135) (rs := [.tmp 6]) Tryd.func5 rfl rfl rfl (Nat.le_of_ble_eq_true rfl) (Sat.nil _) ?_
  have halt := a.lt
  refine TC.seq ?_
  refine TC.region ?_
  refine S.opS rfl rfl (OpV.box (v := .agg (actL a).toArray) rfl (fun b5 => ?_))
  refine S.q rfl rfl (Qt.assign (by conv => lhs; whnf)) ?_
  refine S.nil ?_
  refine TC.seq ?_
  refine TC.seq ?_
  refine TC.region ?_
  refine S.opS rfl rfl (OpV.con0 Tryd.ent25 rfl (fun w hw => Calls.ret (alive09_walk E hEm w (hT.at hw))) ?_)
  refine S.q rfl rfl (Qt.not_t rfl) ?_
  refine S.nil ?_
  refine S.if_f rfl ?_
  refine TC.skip ?_
  refine TC.seq ?_
  refine TC.region ?_
  refine S.q rfl rfl (Qt.move (by conv => lhs; whnf)) ?_
  refine S.q rfl rfl (Qt.move (by conv => lhs; whnf)) ?_
  refine S.opS rfl rfl (OpV.con (Pre := []) (R := _) Tryd.ent32 rfl (List.Perm.refl _) (fun w hw => both_walk E hEm hE hEr height hh A c xs hxs w (Rd.ro hR w hw) (hT.at hw) (hT2.at hw)) ?_)
  rintro v L' ⟨tb, mb, ms, ls, Al, cl, O, d, rfl, rfl, ht, hll, hlow⟩
  refine S.q rfl rfl (Qt.move (by conv => lhs; whnf)) ?_
  refine S.q rfl rfl (Qt.extract rfl rfl) ?_
  refine S.q rfl rfl (Qt.extract rfl rfl) ?_
  refine S.q rfl rfl (Qt.extract rfl rfl) ?_
  refine S.q rfl rfl (Qt.extract rfl rfl) ?_
  refine S.opS rfl rfl (OpV.alloc Tryd.zero52 (fun b8 => ?_))
  refine S.q rfl rfl (Qt.assign (by conv => lhs; whnf)) ?_
  refine S.opN rfl (OpV.storeV0 rfl (by conv => lhs; whnf) (by exact Tryd.cells52) (by rfl) (by rfl) ?_)
  refine S.q rfl rfl (Qt.assign (by conv => lhs; whnf)) ?_
  refine S.q rfl rfl (Qt.assign (by conv => lhs; whnf)) ?_
  refine S.nil ?_
  refine TC.seq ?_
  refine TC.seq ?_
  refine TC.region ?_
  refine S.q rfl rfl (Qt.move (by conv => lhs; whnf)) ?_
  refine S.q rfl rfl (Qt.not_t rfl) ?_
  refine S.q rfl rfl (Qt.move (by conv => lhs; whnf)) ?_
  refine S.qg rfl rfl rfl (Qt.move (by conv => lhs; whnf)) ?_
  refine S.qg rfl rfl rfl (Qt.not_t rfl) ?_
  refine S.q rfl rfl (Qt.pick_f rfl (by conv => lhs; whnf)) ?_
  refine S.nil ?_
  refine S.if_f rfl ?_
  refine TC.skip ?_
  refine TC.seq ?_
  refine TC.region ?_
  refine S.q rfl rfl (Qt.field Tryd.underlying40 rfl Tryd.cells23 rfl) ?_
  refine S.q rfl rfl (Qt.indexB (i := 0) Tryd.underlying23 Tryd.cells5 rfl rfl (by omega)) ?_
  refine S.q rfl rfl (Qt.load rfl (Ld.one (v := .int .u8 ((a.h.1.getD 0 0).toNat : Int)) (Has.at 5 rfl) Tryd.one5 (actL_byte a))) ?_
  refine S.q rfl rfl (Qt.rem (b := 40) rfl rfl (by omega)) ?_
  refine S.q rfl rfl (Qt.convert Tryd.underlying5 Tryd.underlying3 rfl (by simp only [kmax]; omega)) ?_
  refine S.q rfl rfl (Qt.assign (by conv => lhs; whnf)) ?_
  refine S.nil ?_
  refine TC.seq ?_
  refine TC.region ?_
  refine S.q rfl rfl (Qt.move (by conv => lhs; whnf)) ?_
  refine S.q rfl rfl (Qt.move (by conv => lhs; whnf)) ?_
  refine S.q rfl rfl (Qt.field Tryd.underlying40 rfl Tryd.cells24 rfl) ?_
  refine S.q rfl rfl (Qt.load rfl (Ld.one (Has.at 5 rfl) Tryd.one24 (rfl))) ?_
  by_cases ho : okAt height (((a.h.1.getD 0 0).toNat % 40), a.i)
  · refine S.opS rfl rfl (OpV.con0 Tryd.ent33 rfl (fun w hw => Calls.ret (node_walk E tb mb height ms ((a.h.1.getD 0 0).toNat % 40) a.i ho hh w (Rd.at 1 rfl w hw) (Rd.at 2 rfl w hw))) ?_)
    refine S.q rfl rfl (Qt.move (by conv => lhs; whnf)) ?_
    refine S.q rfl rfl (Qt.extract rfl rfl) ?_
    refine S.q rfl rfl (Qt.extract rfl rfl) ?_
    refine S.opS rfl rfl (OpV.alloc Tryd.zero23 (fun b12 => ?_))
    refine S.opN rfl (OpV.storeV0 (v := hv (_)) rfl rfl (hv_size Tryd.cells23) (hv_all _) (hv_len _) ?_)
    refine S.q rfl rfl (Qt.assign (by conv => lhs; whnf)) ?_
    refine S.nil ?_
    refine TC.seq ?_
    refine TC.seq ?_
    refine TC.region ?_
    refine S.q rfl rfl (Qt.load rfl (Ld.all (Has.at 1 rfl) Tryd.row52 (Tryd.cells52))) ?_
    refine S.q rfl rfl (Qt.move (by conv => lhs; whnf)) ?_
    refine S.q rfl rfl (Qt.field Tryd.underlying40 rfl Tryd.cells24 rfl) ?_
    refine S.q rfl rfl (Qt.load rfl (Ld.one (Has.at 6 rfl) Tryd.one24 (rfl))) ?_
    refine S.opS rfl rfl (OpV.con0 Tryd.ent34 rfl (fun w hw => rhas_T height ((a.h.1.getD 0 0).toNat % 40) a.i hh ho Al ls.length cl O d w) ?_)
    refine S.q rfl rfl (Qt.not_t rfl) ?_
    refine S.nil ?_
    refine S.if_f rfl ?_
    refine TC.seq ?_
    refine S.draw ([], []) Tryd.mixed (Sub.nil _) ?_
    refine D.qX (k := 0) rfl (by kernel_rfl) (by kernel_rfl) (by kernel_rfl) rfl rfl (Qt.move (by conv => lhs; whnf)) ?_
    refine D.qX (k := 1) rfl (by kernel_rfl) (by kernel_rfl) (by kernel_rfl) rfl rfl (Qt.nenil_nil Tryd.underlying27 rfl) ?_
    refine D.qX (k := 2) rfl (by kernel_rfl) (by kernel_rfl) (by kernel_rfl) rfl rfl (Qt.move (by conv => lhs; whnf)) ?_
    refine D.qgX (k := 3) rfl (by kernel_rfl) (by kernel_rfl) (by kernel_rfl) rfl rfl rfl (Qt.load rfl (Ld.hash1 (x := getT E ms (((a.h.1.getD 0 0).toNat % 40), a.i)) (Has.at 0 rfl) Tryd.row23 Tryd.cells23)) ?_
    refine D.qgX (k := 4) rfl (by kernel_rfl) (by kernel_rfl) (by kernel_rfl) rfl rfl rfl (Qt.load rfl (Ld.all (Has.at 1 rfl) Tryd.row52 (Tryd.cells52))) ?_
    refine D.qgX (k := 5) rfl (by kernel_rfl) (by kernel_rfl) (by kernel_rfl) rfl rfl rfl (Qt.move (by conv => lhs; whnf)) ?_
    refine D.qgX (k := 6) rfl (by kernel_rfl) (by kernel_rfl) (by kernel_rfl) rfl rfl rfl (Qt.field Tryd.underlying40 rfl Tryd.cells24 rfl) ?_
    refine D.qgX (k := 7) rfl (by kernel_rfl) (by kernel_rfl) (by kernel_rfl) rfl rfl rfl (Qt.load rfl (Ld.one (Has.at 6 rfl) Tryd.one24 (rfl))) ?_
    refine D.cgX (k := 8) rfl (by kernel_rfl) (by kernel_rfl) (by kernel_rfl) rfl rfl rfl (CalU.con0 Tryd.ent36 rfl (fun w hw => rnode_R E hE height hh ls Al cl O d ((a.h.1.getD 0 0).toNat % 40) a.i ho w (by omega) hlow (Rd.own (Rd.at 4 rfl) w hw) (Rd.own (Rd.at 5 rfl) w hw) (hT2.at hw))) ?_
    refine D.qgX (k := 9) rfl (by kernel_rfl) (by kernel_rfl) (by kernel_rfl) rfl rfl rfl (Qt.dF (Qt.neH (a := getT E ms (((a.h.1.getD 0 0).toNat % 40), a.i)) (b := nodeH (fL E ls) ((a.h.1.getD 0 0).toNat % 40) a.i) Tryd.guard23 Tryd.underlying23 Tryd.underlying5 Tryd.cells5 rfl rfl) (fun h => h (ht.get _ ho))) ?_
    refine D.qX (k := 10) rfl (by kernel_rfl) (by kernel_rfl) (by kernel_rfl) rfl rfl (Qt.pick_f rfl (by conv => lhs; whnf)) ?_
    refine D.done (Sub.nil _) (by kernel_rfl) ?_
    refine S.if_f rfl ?_
    refine TC.skip ?_
    refine TC.seq ?_
    refine TC.region ?_
    refine S.q rfl rfl (Qt.move (by conv => lhs; whnf)) ?_
    refine S.q rfl rfl (Qt.field Tryd.underlying40 rfl Tryd.cells24 rfl) ?_
    refine S.q rfl rfl (Qt.load rfl (Ld.one (Has.at 6 rfl) Tryd.one24 (rfl))) ?_
    by_cases hi : a.i < 2 ^ height
    · refine S.opS rfl rfl (OpV.con (Pre := []) (R := _) Tryd.ent29 rfl (List.Perm.refl _) (fun w hw => path_walk E tb mb height ms a.i hh hi w (Rd.at 2 rfl w hw) (Rd.at 3 rfl w hw)) ?_)
      rintro v L' ⟨O1, d1, rfl, rfl⟩
      refine S.q rfl rfl (Qt.move (by conv => lhs; whnf)) ?_
      refine S.q rfl rfl (Qt.extract rfl rfl) ?_
      refine S.q rfl rfl (Qt.extract rfl rfl) ?_
      refine S.q rfl rfl (Qt.assign (by conv => lhs; whnf)) ?_
      refine S.q rfl rfl (Qt.assign (by conv => lhs; whnf)) ?_
      refine S.nil ?_
      refine TC.seq ?_
      refine TC.region ?_
      refine S.q rfl rfl (Qt.move (by conv => lhs; whnf)) ?_
      refine S.q rfl rfl (Qt.field Tryd.underlying40 rfl Tryd.cells24 rfl) ?_
      refine S.q rfl rfl (Qt.load rfl (Ld.one (Has.at 7 rfl) Tryd.one24 (rfl))) ?_
      refine S.opS rfl rfl (OpV.con0 Tryd.ent30 rfl (fun w hw => leaf_R E tb mb height ms a.i hh hi w (Rd.at 3 rfl w hw) (Rd.at 4 rfl w hw)) ?_)
      refine S.q rfl rfl (Qt.move (by conv => lhs; whnf)) ?_
      refine S.q rfl rfl (Qt.extract rfl rfl) ?_
      refine S.q rfl rfl (Qt.extract rfl rfl) ?_
      refine S.opS rfl rfl (OpV.alloc Tryd.zero23 (fun b15 => ?_))
      refine S.opN rfl (OpV.storeV0 (v := hv (_)) rfl rfl (hv_size Tryd.cells23) (hv_all _) (hv_len _) ?_)
      refine S.q rfl rfl (Qt.assign (by conv => lhs; whnf)) ?_
      refine S.nil ?_
      refine TC.seq ?_
      refine TC.seq ?_
      refine TC.region ?_
      refine S.q rfl rfl (Qt.load rfl (Ld.all (Has.at 3 rfl) Tryd.row52 (Tryd.cells52))) ?_
      refine S.q rfl rfl (Qt.field Tryd.underlying40 rfl Tryd.cells24 rfl) ?_
      refine S.q rfl rfl (Qt.load rfl (Ld.one (Has.at 8 rfl) Tryd.one24 (rfl))) ?_
      refine S.opS rfl rfl (OpV.con0 Tryd.ent34 rfl (fun w hw => rhas_T height 0 a.i hh (ok0 hi) Al ls.length cl O d w) ?_)
      refine S.q rfl rfl (Qt.not_t rfl) ?_
      refine S.nil ?_
      refine S.if_f rfl ?_
      refine TC.skip ?_
      refine TC.seq ?_
      refine TC.region ?_
      refine S.q rfl rfl (Qt.move (by conv => lhs; whnf)) ?_
      refine S.opS rfl rfl (OpV.con0 Tryd.ent33 rfl (fun w hw => nodeZ_R E tb mb height 0 hh (-1) (by decide) w (Rd.at 4 rfl w hw)) ?_)
      refine S.q rfl rfl (Qt.move (by conv => lhs; whnf)) ?_
      refine S.q rfl rfl (Qt.extract rfl rfl) ?_
      refine S.q rfl rfl (Qt.extract rfl rfl) ?_
      refine S.opS rfl rfl (OpV.alloc Tryd.zero23 (fun b17 => ?_))
      refine S.opN rfl (OpV.storeV0 (v := hv (zeroH)) rfl rfl (hv_size Tryd.cells23) (hv_all _) (hv_len _) ?_)
      refine S.q rfl rfl (Qt.assign (by conv => lhs; whnf)) ?_
      refine S.nil ?_
      refine TC.seq ?_
      refine S.draw ([], [19]) Tryd.mixed (Sub.nil _) ?_
      refine D.qX (k := 0) rfl (by kernel_rfl) (by kernel_rfl) (by kernel_rfl) rfl rfl (Qt.move (by conv => lhs; whnf)) ?_
      refine D.qX (k := 1) rfl (by kernel_rfl) (by kernel_rfl) (by kernel_rfl) rfl rfl (Qt.eqnil_nil Tryd.underlying27 rfl) ?_
      refine D.qX (k := 2) rfl (by kernel_rfl) (by kernel_rfl) (by kernel_rfl) rfl rfl (Qt.move (by conv => lhs; whnf)) ?_
      refine D.qgX (k := 3) rfl (by kernel_rfl) (by kernel_rfl) (by kernel_rfl) rfl rfl rfl (Qt.move (by conv => lhs; whnf)) ?_
      refine D.qgX (k := 4) rfl (by kernel_rfl) (by kernel_rfl) (by kernel_rfl) rfl rfl rfl (Qt.eqnil_nil Tryd.underlying27 rfl) ?_
      refine D.qX (k := 5) rfl (by kernel_rfl) (by kernel_rfl) (by kernel_rfl) rfl rfl (Qt.pick_t rfl (by conv => lhs; whnf)) ?_
      refine D.qX (k := 6) rfl (by kernel_rfl) (by kernel_rfl) (by kernel_rfl) rfl rfl (Qt.move (by conv => lhs; whnf)) ?_
      refine D.qgX (k := 7) rfl (by kernel_rfl) (by kernel_rfl) (by kernel_rfl) rfl rfl rfl (Qt.load rfl (Ld.hash1 (x := getT E ms (0, a.i)) (Has.at 1 rfl) Tryd.row23 Tryd.cells23)) ?_
      refine D.qgX (k := 8) rfl (by kernel_rfl) (by kernel_rfl) (by kernel_rfl) rfl rfl rfl (Qt.load rfl (Ld.all (Has.at 4 rfl) Tryd.row52 (Tryd.cells52))) ?_
      refine D.qgX (k := 9) rfl (by kernel_rfl) (by kernel_rfl) (by kernel_rfl) rfl rfl rfl (Qt.field Tryd.underlying40 rfl Tryd.cells24 rfl) ?_
      refine D.qgX (k := 10) rfl (by kernel_rfl) (by kernel_rfl) (by kernel_rfl) rfl rfl rfl (Qt.load rfl (Ld.one (Has.at 9 rfl) Tryd.one24 (rfl))) ?_
      refine D.cgX (k := 11) rfl (by kernel_rfl) (by kernel_rfl) (by kernel_rfl) rfl rfl rfl (CalU.con0 Tryd.ent36 rfl (fun w hw => rnode_R E hE height hh ls Al cl O d 0 a.i (ok0 hi) w (by omega) hlow (Rd.own (Rd.at 7 rfl) w hw) (Rd.own (Rd.at 8 rfl) w hw) (hT2.at hw))) ?_
      refine D.qgX (k := 12) rfl (by kernel_rfl) (by kernel_rfl) (by kernel_rfl) rfl rfl rfl (Qt.dT (Qt.eqH (a := getT E ms (0, a.i)) (b := nodeH (fL E ls) 0 a.i) Tryd.guard23 Tryd.underlying23 Tryd.underlying5 Tryd.cells5 rfl rfl) (ht.get _ (ok0 hi))) ?_
      refine D.qX (k := 13) rfl (by kernel_rfl) (by kernel_rfl) (by kernel_rfl) rfl rfl (Qt.pick_t rfl (by conv => lhs; whnf)) ?_
      refine D.qX (k := 14) rfl (by kernel_rfl) (by kernel_rfl) (by kernel_rfl) rfl rfl (Qt.move (by conv => lhs; whnf)) ?_
      refine D.qgX (k := 15) rfl (by kernel_rfl) (by kernel_rfl) (by kernel_rfl) rfl rfl rfl (Qt.move (by conv => lhs; whnf)) ?_
      refine D.qgX (k := 16) rfl (by kernel_rfl) (by kernel_rfl) (by kernel_rfl) rfl rfl rfl (Qt.load rfl (Ld.all (Has.at 4 rfl) Tryd.row52 (Tryd.cells52))) ?_
      refine D.qgX (k := 17) rfl (by kernel_rfl) (by kernel_rfl) (by kernel_rfl) rfl rfl rfl (Qt.field Tryd.underlying40 rfl Tryd.cells24 rfl) ?_
      refine D.qgX (k := 18) rfl (by kernel_rfl) (by kernel_rfl) (by kernel_rfl) rfl rfl rfl (Qt.load rfl (Ld.one (Has.at 9 rfl) Tryd.one24 (rfl))) ?_
      refine D.ng (k := 19) (Sub.nil _) rfl (by kernel_rfl) (by kernel_rfl) rfl rfl rfl (OpV.con (Pre := []) (R := _) Tryd.ent38 rfl (List.Perm.refl _) (fun w hw => rpath_walk E hE height hh ls Al cl O d a.i hi w (by omega) hlow (Rd.own (Rd.at 7 rfl) w hw) (Rd.own (Rd.at 8 rfl) w hw) (hT2.at hw)) ?_)
      rintro v L' ⟨P, q, rfl, rfl⟩
      refine ⟨Sub.drop _ (Sub.keep _ (Sub.keep _ (Sub.keep _ (Sub.keep _ (Sub.keep _ (Sub.keep _ (Sub.keep _ (Sub.keep _ (Sub.keep _ (Sub.keep _ (Sub.nil []))))))))))), ?_⟩
      refine D.cgX (k := 20) rfl (by kernel_rfl) (by kernel_rfl) (by kernel_rfl) rfl rfl rfl (CalU.con0 Tryd.ent37 rfl (fun w hw => (by have h := hashes_R O1 d1 P q (pathH (fL E ls) height a.i) (by rw [pathH_length]; omega) w (by rw [← pathT_ok ht hi]; exact (Rd.own (Rd.at 3 rfl) w hw)) (Rd.own (Rd.at 0 rfl) w hw); rw [pathH_length] at h; exact h : Calls Tryd.prog 37 #[.slice O1 height d1, .slice P height q] w (Ret w (.bool true))))) ?_
      refine D.qX (k := 21) rfl (by kernel_rfl) (by kernel_rfl) (by kernel_rfl) rfl rfl (Qt.pick_t rfl (by conv => lhs; whnf)) ?_
      refine D.qX (k := 22) rfl (by kernel_rfl) (by kernel_rfl) (by kernel_rfl) rfl rfl (Qt.move (by conv => lhs; whnf)) ?_
      refine D.qgX (k := 23) rfl (by kernel_rfl) (by kernel_rfl) (by kernel_rfl) rfl rfl rfl (Qt.move (by conv => lhs; whnf)) ?_
      refine D.cgX (k := 24) rfl (by kernel_rfl) (by kernel_rfl) (by kernel_rfl) rfl rfl rfl (CalU.con0 Tryd.ent35 rfl (fun w hw => is1 w)) ?_
      refine D.qX (k := 25) rfl (by kernel_rfl) (by kernel_rfl) (by kernel_rfl) rfl rfl (Qt.pick_t rfl (by conv => lhs; whnf)) ?_
      refine D.qX (k := 26) rfl (by kernel_rfl) (by kernel_rfl) (by kernel_rfl) rfl rfl (Qt.assign (by conv => lhs; whnf)) ?_
      refine D.done (Sub.nil _) (by kernel_rfl) ?_
      refine TC.ret ?_
      refine finQ.ret (RVs.tmp (by conv => lhs; whnf) RVs.nil) (Sub.nil _) ?_
      exact ⟨rfl, rfl⟩
    · refine S.opS rfl rfl (OpV.con0 Tryd.ent29 rfl (fun w hw => pathF_R E tb mb height a.i hh a.lt hi w (Rd.at 2 rfl w hw)) ?_)
      refine S.q rfl rfl (Qt.move (by conv => lhs; whnf)) ?_
      refine S.q rfl rfl (Qt.extract rfl rfl) ?_
      refine S.q rfl rfl (Qt.extract rfl rfl) ?_
      refine S.q rfl rfl (Qt.assign (by conv => lhs; whnf)) ?_
      refine S.q rfl rfl (Qt.assign (by conv => lhs; whnf)) ?_
      refine S.nil ?_
      refine TC.seq ?_
      refine TC.region ?_
      refine S.q rfl rfl (Qt.move (by conv => lhs; whnf)) ?_
      refine S.q rfl rfl (Qt.field Tryd.underlying40 rfl Tryd.cells24 rfl) ?_
      refine S.q rfl rfl (Qt.load rfl (Ld.one (Has.at 6 rfl) Tryd.one24 (rfl))) ?_
      refine S.opS rfl rfl (OpV.con0 Tryd.ent30 rfl (fun w hw => leafF_R E tb mb height a.i hh a.lt hi w (Rd.at 2 rfl w hw)) ?_)
      refine S.q rfl rfl (Qt.move (by conv => lhs; whnf)) ?_
      refine S.q rfl rfl (Qt.extract rfl rfl) ?_
      refine S.q rfl rfl (Qt.extract rfl rfl) ?_
      refine S.opS rfl rfl (OpV.alloc Tryd.zero23 (fun b15 => ?_))
      refine S.opN rfl (OpV.storeV0 (v := hv (_)) rfl rfl (hv_size Tryd.cells23) (hv_all _) (hv_len _) ?_)
      refine S.q rfl rfl (Qt.assign (by conv => lhs; whnf)) ?_
      refine S.nil ?_
      refine TC.seq ?_
      refine TC.seq ?_
      refine TC.region ?_
      refine S.q rfl rfl (Qt.load rfl (Ld.all (Has.at 2 rfl) Tryd.row52 (Tryd.cells52))) ?_
      refine S.q rfl rfl (Qt.field Tryd.underlying40 rfl Tryd.cells24 rfl) ?_
      refine S.q rfl rfl (Qt.load rfl (Ld.one (Has.at 7 rfl) Tryd.one24 (rfl))) ?_
      refine S.opS rfl rfl (OpV.con0 Tryd.ent34 rfl (fun w hw => rhas_F height 0 a.i hh a.lt (not_ok0 hi) Al ls.length cl O d w) ?_)
      refine S.q rfl rfl (Qt.not_f rfl) ?_
      refine S.nil ?_
      refine S.if_t rfl ?_
      refine TC.seq ?_
      refine TC.region ?_
      refine S.q rfl rfl (Qt.move (by conv => lhs; whnf)) ?_
      refine S.opS rfl rfl (OpV.con0 Tryd.ent35 rfl (fun w hw => is1 w) ?_)
      refine S.q rfl rfl (Qt.move (by conv => lhs; whnf)) ?_
      refine S.qg rfl rfl rfl (Qt.move (by conv => lhs; whnf)) ?_
      refine S.opg rfl rfl rfl (OpV.con0 Tryd.ent35 rfl (fun w hw => is1 w) ?_)
      refine S.q rfl rfl (Qt.pick_t rfl (by conv => lhs; whnf)) ?_
      refine S.q rfl rfl (Qt.move (by conv => lhs; whnf)) ?_
      refine S.qg rfl rfl rfl (Qt.move (by conv => lhs; whnf)) ?_
      refine S.qg rfl rfl rfl (Qt.len_slice Tryd.underlying44 rfl) ?_
      refine S.qg rfl rfl rfl (Qt.dT (Qt.eq (b := 0) rfl rfl) (rfl)) ?_
      refine S.q rfl rfl (Qt.pick_t rfl (by conv => lhs; whnf)) ?_
      refine S.q rfl rfl (Qt.assign (by conv => lhs; whnf)) ?_
      refine S.nil ?_
      refine TC.ret ?_
      refine finQ.ret (RVs.tmp (by conv => lhs; whnf) RVs.nil) (Sub.nil _) ?_
      exact ⟨rfl, rfl⟩
  · refine S.opS rfl rfl (OpV.con0 Tryd.ent33 rfl (fun w hw => Calls.ret (node_walkF E tb mb height ((a.h.1.getD 0 0).toNat % 40) a.i hh a.lt ho w (Rd.at 1 rfl w hw))) ?_)
    refine S.q rfl rfl (Qt.move (by conv => lhs; whnf)) ?_
    refine S.q rfl rfl (Qt.extract rfl rfl) ?_
    refine S.q rfl rfl (Qt.extract rfl rfl) ?_
    refine S.opS rfl rfl (OpV.alloc Tryd.zero23 (fun b12 => ?_))
    refine S.opN rfl (OpV.storeV0 (v := hv (_)) rfl rfl (hv_size Tryd.cells23) (hv_all _) (hv_len _) ?_)
    refine S.q rfl rfl (Qt.assign (by conv => lhs; whnf)) ?_
    refine S.nil ?_
    refine TC.seq ?_
    refine TC.seq ?_
    refine TC.region ?_
    refine S.q rfl rfl (Qt.load rfl (Ld.all (Has.at 1 rfl) Tryd.row52 (Tryd.cells52))) ?_
    refine S.q rfl rfl (Qt.move (by conv => lhs; whnf)) ?_
    refine S.q rfl rfl (Qt.field Tryd.underlying40 rfl Tryd.cells24 rfl) ?_
    refine S.q rfl rfl (Qt.load rfl (Ld.one (Has.at 6 rfl) Tryd.one24 (rfl))) ?_
    refine S.opS rfl rfl (OpV.con0 Tryd.ent34 rfl (fun w hw => rhas_F height ((a.h.1.getD 0 0).toNat % 40) a.i hh a.lt ho Al ls.length cl O d w) ?_)
    refine S.q rfl rfl (Qt.not_f rfl) ?_
    refine S.nil ?_
    refine S.if_t rfl ?_
    refine TC.seq ?_
    refine TC.region ?_
    refine S.q rfl rfl (Qt.move (by conv => lhs; whnf)) ?_
    refine S.opS rfl rfl (OpV.con0 Tryd.ent35 rfl (fun w hw => is1 w) ?_)
    refine S.q rfl rfl (Qt.not_t rfl) ?_
    refine S.q rfl rfl (Qt.move (by conv => lhs; whnf)) ?_
    refine S.qg rfl rfl rfl (Qt.load rfl (Ld.hash1 (x := zeroH) (Has.at 0 rfl) Tryd.row23 Tryd.cells23)) ?_
    refine S.qg rfl rfl rfl (Qt.build (v := hv zeroH) rfl (fun _ => by kernel_rfl)) ?_
    refine S.qg rfl rfl rfl (Qt.dF (Qt.neH (a := zeroH) (b := zeroH) Tryd.guard23 Tryd.underlying23 Tryd.underlying5 Tryd.cells5 rfl rfl) (fun h => h rfl)) ?_
    refine S.q rfl rfl (Qt.pick_f rfl (by conv => lhs; whnf)) ?_
    refine S.nil ?_
    refine S.if_f rfl ?_
    refine TC.skip ?_
    refine TC.seq ?_
    refine TC.region ?_
    refine S.q rfl rfl (Qt.move (by conv => lhs; whnf)) ?_
    refine S.q rfl rfl (Qt.field Tryd.underlying40 rfl Tryd.cells24 rfl) ?_
    refine S.q rfl rfl (Qt.load rfl (Ld.one (Has.at 6 rfl) Tryd.one24 (rfl))) ?_
    by_cases hi : a.i < 2 ^ height
    · refine S.opS rfl rfl (OpV.con (Pre := []) (R := _) Tryd.ent29 rfl (List.Perm.refl _) (fun w hw => path_walk E tb mb height ms a.i hh hi w (Rd.at 2 rfl w hw) (Rd.at 3 rfl w hw)) ?_)
      rintro v L' ⟨O1, d1, rfl, rfl⟩
      refine S.q rfl rfl (Qt.move (by conv => lhs; whnf)) ?_
      refine S.q rfl rfl (Qt.extract rfl rfl) ?_
      refine S.q rfl rfl (Qt.extract rfl rfl) ?_
      refine S.q rfl rfl (Qt.assign (by conv => lhs; whnf)) ?_
      refine S.q rfl rfl (Qt.assign (by conv => lhs; whnf)) ?_
      refine S.nil ?_
      refine TC.seq ?_
      refine TC.region ?_
      refine S.q rfl rfl (Qt.move (by conv => lhs; whnf)) ?_
      refine S.q rfl rfl (Qt.field Tryd.underlying40 rfl Tryd.cells24 rfl) ?_
      refine S.q rfl rfl (Qt.load rfl (Ld.one (Has.at 7 rfl) Tryd.one24 (rfl))) ?_
      refine S.opS rfl rfl (OpV.con0 Tryd.ent30 rfl (fun w hw => leaf_R E tb mb height ms a.i hh hi w (Rd.at 3 rfl w hw) (Rd.at 4 rfl w hw)) ?_)
      refine S.q rfl rfl (Qt.move (by conv => lhs; whnf)) ?_
      refine S.q rfl rfl (Qt.extract rfl rfl) ?_
      refine S.q rfl rfl (Qt.extract rfl rfl) ?_
      refine S.opS rfl rfl (OpV.alloc Tryd.zero23 (fun b15 => ?_))
      refine S.opN rfl (OpV.storeV0 (v := hv (_)) rfl rfl (hv_size Tryd.cells23) (hv_all _) (hv_len _) ?_)
      refine S.q rfl rfl (Qt.assign (by conv => lhs; whnf)) ?_
      refine S.nil ?_
      refine TC.seq ?_
      refine TC.seq ?_
      refine TC.region ?_
      refine S.q rfl rfl (Qt.load rfl (Ld.all (Has.at 3 rfl) Tryd.row52 (Tryd.cells52))) ?_
      refine S.q rfl rfl (Qt.field Tryd.underlying40 rfl Tryd.cells24 rfl) ?_
      refine S.q rfl rfl (Qt.load rfl (Ld.one (Has.at 8 rfl) Tryd.one24 (rfl))) ?_
      refine S.opS rfl rfl (OpV.con0 Tryd.ent34 rfl (fun w hw => rhas_T height 0 a.i hh (ok0 hi) Al ls.length cl O d w) ?_)
      refine S.q rfl rfl (Qt.not_t rfl) ?_
      refine S.nil ?_
      refine S.if_f rfl ?_
      refine TC.skip ?_
      refine TC.seq ?_
      refine TC.region ?_
      refine S.q rfl rfl (Qt.move (by conv => lhs; whnf)) ?_
      refine S.opS rfl rfl (OpV.con0 Tryd.ent33 rfl (fun w hw => nodeZ_R E tb mb height 0 hh (-1) (by decide) w (Rd.at 4 rfl w hw)) ?_)
      refine S.q rfl rfl (Qt.move (by conv => lhs; whnf)) ?_
      refine S.q rfl rfl (Qt.extract rfl rfl) ?_
      refine S.q rfl rfl (Qt.extract rfl rfl) ?_
      refine S.opS rfl rfl (OpV.alloc Tryd.zero23 (fun b17 => ?_))
      refine S.opN rfl (OpV.storeV0 (v := hv (zeroH)) rfl rfl (hv_size Tryd.cells23) (hv_all _) (hv_len _) ?_)
      refine S.q rfl rfl (Qt.assign (by conv => lhs; whnf)) ?_
      refine S.nil ?_
      refine TC.seq ?_
      refine S.draw ([], [19]) Tryd.mixed (Sub.nil _) ?_
      refine D.qX (k := 0) rfl (by kernel_rfl) (by kernel_rfl) (by kernel_rfl) rfl rfl (Qt.move (by conv => lhs; whnf)) ?_
      refine D.qX (k := 1) rfl (by kernel_rfl) (by kernel_rfl) (by kernel_rfl) rfl rfl (Qt.eqnil_nil Tryd.underlying27 rfl) ?_
      refine D.qX (k := 2) rfl (by kernel_rfl) (by kernel_rfl) (by kernel_rfl) rfl rfl (Qt.move (by conv => lhs; whnf)) ?_
      refine D.qgX (k := 3) rfl (by kernel_rfl) (by kernel_rfl) (by kernel_rfl) rfl rfl rfl (Qt.move (by conv => lhs; whnf)) ?_
      refine D.qgX (k := 4) rfl (by kernel_rfl) (by kernel_rfl) (by kernel_rfl) rfl rfl rfl (Qt.eqnil_nil Tryd.underlying27 rfl) ?_
      refine D.qX (k := 5) rfl (by kernel_rfl) (by kernel_rfl) (by kernel_rfl) rfl rfl (Qt.pick_t rfl (by conv => lhs; whnf)) ?_
      refine D.qX (k := 6) rfl (by kernel_rfl) (by kernel_rfl) (by kernel_rfl) rfl rfl (Qt.move (by conv => lhs; whnf)) ?_
      refine D.qgX (k := 7) rfl (by kernel_rfl) (by kernel_rfl) (by kernel_rfl) rfl rfl rfl (Qt.load rfl (Ld.hash1 (x := getT E ms (0, a.i)) (Has.at 1 rfl) Tryd.row23 Tryd.cells23)) ?_
      refine D.qgX (k := 8) rfl (by kernel_rfl) (by kernel_rfl) (by kernel_rfl) rfl rfl rfl (Qt.load rfl (Ld.all (Has.at 4 rfl) Tryd.row52 (Tryd.cells52))) ?_
      refine D.qgX (k := 9) rfl (by kernel_rfl) (by kernel_rfl) (by kernel_rfl) rfl rfl rfl (Qt.field Tryd.underlying40 rfl Tryd.cells24 rfl) ?_
      refine D.qgX (k := 10) rfl (by kernel_rfl) (by kernel_rfl) (by kernel_rfl) rfl rfl rfl (Qt.load rfl (Ld.one (Has.at 9 rfl) Tryd.one24 (rfl))) ?_
      refine D.cgX (k := 11) rfl (by kernel_rfl) (by kernel_rfl) (by kernel_rfl) rfl rfl rfl (CalU.con0 Tryd.ent36 rfl (fun w hw => rnode_R E hE height hh ls Al cl O d 0 a.i (ok0 hi) w (by omega) hlow (Rd.own (Rd.at 7 rfl) w hw) (Rd.own (Rd.at 8 rfl) w hw) (hT2.at hw))) ?_
      refine D.qgX (k := 12) rfl (by kernel_rfl) (by kernel_rfl) (by kernel_rfl) rfl rfl rfl (Qt.dT (Qt.eqH (a := getT E ms (0, a.i)) (b := nodeH (fL E ls) 0 a.i) Tryd.guard23 Tryd.underlying23 Tryd.underlying5 Tryd.cells5 rfl rfl) (ht.get _ (ok0 hi))) ?_
      refine D.qX (k := 13) rfl (by kernel_rfl) (by kernel_rfl) (by kernel_rfl) rfl rfl (Qt.pick_t rfl (by conv => lhs; whnf)) ?_
      refine D.qX (k := 14) rfl (by kernel_rfl) (by kernel_rfl) (by kernel_rfl) rfl rfl (Qt.move (by conv => lhs; whnf)) ?_
      refine D.qgX (k := 15) rfl (by kernel_rfl) (by kernel_rfl) (by kernel_rfl) rfl rfl rfl (Qt.move (by conv => lhs; whnf)) ?_
      refine D.qgX (k := 16) rfl (by kernel_rfl) (by kernel_rfl) (by kernel_rfl) rfl rfl rfl (Qt.load rfl (Ld.all (Has.at 4 rfl) Tryd.row52 (Tryd.cells52))) ?_
      refine D.qgX (k := 17) rfl (by kernel_rfl) (by kernel_rfl) (by kernel_rfl) rfl rfl rfl (Qt.field Tryd.underlying40 rfl Tryd.cells24 rfl) ?_
      refine D.qgX (k := 18) rfl (by kernel_rfl) (by kernel_rfl) (by kernel_rfl) rfl rfl rfl (Qt.load rfl (Ld.one (Has.at 9 rfl) Tryd.one24 (rfl))) ?_
      refine D.ng (k := 19) (Sub.nil _) rfl (by kernel_rfl) (by kernel_rfl) rfl rfl rfl (OpV.con (Pre := []) (R := _) Tryd.ent38 rfl (List.Perm.refl _) (fun w hw => rpath_walk E hE height hh ls Al cl O d a.i hi w (by omega) hlow (Rd.own (Rd.at 7 rfl) w hw) (Rd.own (Rd.at 8 rfl) w hw) (hT2.at hw)) ?_)
      rintro v L' ⟨P, q, rfl, rfl⟩
      refine ⟨Sub.drop _ (Sub.keep _ (Sub.keep _ (Sub.keep _ (Sub.keep _ (Sub.keep _ (Sub.keep _ (Sub.keep _ (Sub.keep _ (Sub.keep _ (Sub.keep _ (Sub.nil []))))))))))), ?_⟩
      refine D.cgX (k := 20) rfl (by kernel_rfl) (by kernel_rfl) (by kernel_rfl) rfl rfl rfl (CalU.con0 Tryd.ent37 rfl (fun w hw => (by have h := hashes_R O1 d1 P q (pathH (fL E ls) height a.i) (by rw [pathH_length]; omega) w (by rw [← pathT_ok ht hi]; exact (Rd.own (Rd.at 3 rfl) w hw)) (Rd.own (Rd.at 0 rfl) w hw); rw [pathH_length] at h; exact h : Calls Tryd.prog 37 #[.slice O1 height d1, .slice P height q] w (Ret w (.bool true))))) ?_
      refine D.qX (k := 21) rfl (by kernel_rfl) (by kernel_rfl) (by kernel_rfl) rfl rfl (Qt.pick_t rfl (by conv => lhs; whnf)) ?_
      refine D.qX (k := 22) rfl (by kernel_rfl) (by kernel_rfl) (by kernel_rfl) rfl rfl (Qt.move (by conv => lhs; whnf)) ?_
      refine D.qgX (k := 23) rfl (by kernel_rfl) (by kernel_rfl) (by kernel_rfl) rfl rfl rfl (Qt.move (by conv => lhs; whnf)) ?_
      refine D.cgX (k := 24) rfl (by kernel_rfl) (by kernel_rfl) (by kernel_rfl) rfl rfl rfl (CalU.con0 Tryd.ent35 rfl (fun w hw => is1 w)) ?_
      refine D.qX (k := 25) rfl (by kernel_rfl) (by kernel_rfl) (by kernel_rfl) rfl rfl (Qt.pick_t rfl (by conv => lhs; whnf)) ?_
      refine D.qX (k := 26) rfl (by kernel_rfl) (by kernel_rfl) (by kernel_rfl) rfl rfl (Qt.assign (by conv => lhs; whnf)) ?_
      refine D.done (Sub.nil _) (by kernel_rfl) ?_
      refine TC.ret ?_
      refine finQ.ret (RVs.tmp (by conv => lhs; whnf) RVs.nil) (Sub.nil _) ?_
      exact ⟨rfl, rfl⟩
    · refine S.opS rfl rfl (OpV.con0 Tryd.ent29 rfl (fun w hw => pathF_R E tb mb height a.i hh a.lt hi w (Rd.at 2 rfl w hw)) ?_)
      refine S.q rfl rfl (Qt.move (by conv => lhs; whnf)) ?_
      refine S.q rfl rfl (Qt.extract rfl rfl) ?_
      refine S.q rfl rfl (Qt.extract rfl rfl) ?_
      refine S.q rfl rfl (Qt.assign (by conv => lhs; whnf)) ?_
      refine S.q rfl rfl (Qt.assign (by conv => lhs; whnf)) ?_
      refine S.nil ?_
      refine TC.seq ?_
      refine TC.region ?_
      refine S.q rfl rfl (Qt.move (by conv => lhs; whnf)) ?_
      refine S.q rfl rfl (Qt.field Tryd.underlying40 rfl Tryd.cells24 rfl) ?_
      refine S.q rfl rfl (Qt.load rfl (Ld.one (Has.at 6 rfl) Tryd.one24 (rfl))) ?_
      refine S.opS rfl rfl (OpV.con0 Tryd.ent30 rfl (fun w hw => leafF_R E tb mb height a.i hh a.lt hi w (Rd.at 2 rfl w hw)) ?_)
      refine S.q rfl rfl (Qt.move (by conv => lhs; whnf)) ?_
      refine S.q rfl rfl (Qt.extract rfl rfl) ?_
      refine S.q rfl rfl (Qt.extract rfl rfl) ?_
      refine S.opS rfl rfl (OpV.alloc Tryd.zero23 (fun b15 => ?_))
      refine S.opN rfl (OpV.storeV0 (v := hv (_)) rfl rfl (hv_size Tryd.cells23) (hv_all _) (hv_len _) ?_)
      refine S.q rfl rfl (Qt.assign (by conv => lhs; whnf)) ?_
      refine S.nil ?_
      refine TC.seq ?_
      refine TC.seq ?_
      refine TC.region ?_
      refine S.q rfl rfl (Qt.load rfl (Ld.all (Has.at 2 rfl) Tryd.row52 (Tryd.cells52))) ?_
      refine S.q rfl rfl (Qt.field Tryd.underlying40 rfl Tryd.cells24 rfl) ?_
      refine S.q rfl rfl (Qt.load rfl (Ld.one (Has.at 7 rfl) Tryd.one24 (rfl))) ?_
      refine S.opS rfl rfl (OpV.con0 Tryd.ent34 rfl (fun w hw => rhas_F height 0 a.i hh a.lt (not_ok0 hi) Al ls.length cl O d w) ?_)
      refine S.q rfl rfl (Qt.not_f rfl) ?_
      refine S.nil ?_
      refine S.if_t rfl ?_
      refine TC.seq ?_
      refine TC.region ?_
      refine S.q rfl rfl (Qt.move (by conv => lhs; whnf)) ?_
      refine S.opS rfl rfl (OpV.con0 Tryd.ent35 rfl (fun w hw => is1 w) ?_)
      refine S.q rfl rfl (Qt.move (by conv => lhs; whnf)) ?_
      refine S.qg rfl rfl rfl (Qt.move (by conv => lhs; whnf)) ?_
      refine S.opg rfl rfl rfl (OpV.con0 Tryd.ent35 rfl (fun w hw => is1 w) ?_)
      refine S.q rfl rfl (Qt.pick_t rfl (by conv => lhs; whnf)) ?_
      refine S.q rfl rfl (Qt.move (by conv => lhs; whnf)) ?_
      refine S.qg rfl rfl rfl (Qt.move (by conv => lhs; whnf)) ?_
      refine S.qg rfl rfl rfl (Qt.len_slice Tryd.underlying44 rfl) ?_
      refine S.qg rfl rfl rfl (Qt.dT (Qt.eq (b := 0) rfl rfl) (rfl)) ?_
      refine S.q rfl rfl (Qt.pick_t rfl (by conv => lhs; whnf)) ?_
      refine S.q rfl rfl (Qt.assign (by conv => lhs; whnf)) ?_
      refine S.nil ?_
      refine TC.ret ?_
      refine finQ.ret (RVs.tmp (by conv => lhs; whnf) RVs.nil) (Sub.nil _) ?_
      exact ⟨rfl, rfl⟩
set_option maxHeartbeats 400000 in
theorem law5_walkL (E : Nat → H32) (hEm : ∀ w, Tabs 2 0 w [] → Calls Tryd.prog 88 #[] w (Ret w (.agg (hcs (emptL E)).toArray))) (z : Int) (A : Option Addr) (c : Nat) (xs : List Go.E.Act) (a : Go.E.Act) (hxs : 25 < xs.length) (w0 : World) (hT : Tabs 2 0 w0 []) :
    Calls Tryd.prog 5 #[.int .i64 z, .slice A xs.length c, .agg (actL a).toArray] w0 (Post w0 [] fun v L => v = .bool true ∧ L = []) := by
  refine Calls.of (L := []) (n := 135) (rs := [.tmp 6]) Tryd.func5 rfl rfl rfl (Nat.le_of_ble_eq_true rfl) (Sat.nil _) ?_
  refine TC.seq ?_
  refine TC.region ?_
  refine S.opS rfl rfl (OpV.box (v := .agg (actL a).toArray) rfl (fun b5 => ?_))
  refine S.q rfl rfl (Qt.assign (by conv => lhs; whnf)) ?_
  refine S.nil ?_
  refine TC.seq ?_
  refine TC.seq ?_
  refine TC.region ?_
  refine S.opS rfl rfl (OpV.con0 Tryd.ent25 rfl (fun w hw => Calls.ret (alive09_walk E hEm w (hT.at hw))) ?_)
  refine S.q rfl rfl (Qt.not_t rfl) ?_
  refine S.nil ?_
  refine S.if_f rfl ?_
  refine TC.skip ?_
  refine TC.seq ?_
  refine TC.region ?_
  refine S.q rfl rfl (Qt.move (by conv => lhs; whnf)) ?_
  refine S.q rfl rfl (Qt.move (by conv => lhs; whnf)) ?_
  refine S.opS rfl rfl (OpV.con0 Tryd.ent32 rfl (fun w hw => bothL_R E z A c xs hxs w) ?_)
  refine S.q rfl rfl (Qt.move (by conv => lhs; whnf)) ?_
  refine S.q rfl rfl (Qt.extract rfl rfl) ?_
  refine S.q rfl rfl (Qt.extract rfl rfl) ?_
  refine S.q rfl rfl (Qt.extract rfl rfl) ?_
  refine S.q rfl rfl (Qt.extract rfl rfl) ?_
  refine S.opS rfl rfl (OpV.alloc Tryd.zero52 (fun b8 => ?_))
  refine S.q rfl rfl (Qt.assign (by conv => lhs; whnf)) ?_
  refine S.opN rfl (OpV.storeV0 rfl (by conv => lhs; whnf) (by exact Tryd.cells52) (by rfl) (by rfl) ?_)
  refine S.q rfl rfl (Qt.assign (by conv => lhs; whnf)) ?_
  refine S.q rfl rfl (Qt.assign (by conv => lhs; whnf)) ?_
  refine S.nil ?_
  refine TC.seq ?_
  refine TC.seq ?_
  refine TC.region ?_
  refine S.q rfl rfl (Qt.move (by conv => lhs; whnf)) ?_
  refine S.q rfl rfl (Qt.not_t rfl) ?_
  refine S.q rfl rfl (Qt.move (by conv => lhs; whnf)) ?_
  refine S.qg rfl rfl rfl (Qt.move (by conv => lhs; whnf)) ?_
  refine S.qg rfl rfl rfl (Qt.not_f rfl) ?_
  refine S.q rfl rfl (Qt.pick_f rfl (by conv => lhs; whnf)) ?_
  refine S.nil ?_
  refine S.if_t rfl ?_
  refine TC.seq ?_
  refine TC.region ?_
  refine S.q rfl rfl (Qt.move (by conv => lhs; whnf)) ?_
  refine S.q rfl rfl (Qt.assign (by conv => lhs; whnf)) ?_
  refine S.nil ?_
  refine TC.ret ?_
  refine finQ.ret (RVs.tmp (by conv => lhs; whnf) RVs.nil) (Sub.nil _) ?_
  exact ⟨rfl, rfl⟩
set_option maxHeartbeats 400000 in
theorem law5_walkZ (E : Nat → H32) (hEm : ∀ w, Tabs 2 0 w [] → Calls Tryd.prog 88 #[] w (Ret w (.agg (hcs (emptL E)).toArray))) (z : Int) (A : Option Addr) (c : Nat) (xs : List Go.E.Act) (a : Go.E.Act) (hxs : xs.length ≤ 25) (hz : z < 0 ∨ 32 < z) (w0 : World) (hT : Tabs 2 0 w0 []) :
    Calls Tryd.prog 5 #[.int .i64 z, .slice A xs.length c, .agg (actL a).toArray] w0 (Post w0 [] fun v L => v = .bool true ∧ L = []) := by
  refine Calls.of (L := []) (n := 135) (rs := [.tmp 6]) Tryd.func5 rfl rfl rfl (Nat.le_of_ble_eq_true rfl) (Sat.nil _) ?_
  refine TC.seq ?_
  refine TC.region ?_
  refine S.opS rfl rfl (OpV.box (v := .agg (actL a).toArray) rfl (fun b5 => ?_))
  refine S.q rfl rfl (Qt.assign (by conv => lhs; whnf)) ?_
  refine S.nil ?_
  refine TC.seq ?_
  refine TC.seq ?_
  refine TC.region ?_
  refine S.opS rfl rfl (OpV.con0 Tryd.ent25 rfl (fun w hw => Calls.ret (alive09_walk E hEm w (hT.at hw))) ?_)
  refine S.q rfl rfl (Qt.not_t rfl) ?_
  refine S.nil ?_
  refine S.if_f rfl ?_
  refine TC.skip ?_
  refine TC.seq ?_
  refine TC.region ?_
  refine S.q rfl rfl (Qt.move (by conv => lhs; whnf)) ?_
  refine S.q rfl rfl (Qt.move (by conv => lhs; whnf)) ?_
  refine S.opS rfl rfl (OpV.con0 Tryd.ent32 rfl (fun w hw => bothZ_R E z A c xs hxs hz w) ?_)
  refine S.q rfl rfl (Qt.move (by conv => lhs; whnf)) ?_
  refine S.q rfl rfl (Qt.extract rfl rfl) ?_
  refine S.q rfl rfl (Qt.extract rfl rfl) ?_
  refine S.q rfl rfl (Qt.extract rfl rfl) ?_
  refine S.q rfl rfl (Qt.extract rfl rfl) ?_
  refine S.opS rfl rfl (OpV.alloc Tryd.zero52 (fun b8 => ?_))
  refine S.q rfl rfl (Qt.assign (by conv => lhs; whnf)) ?_
  refine S.opN rfl (OpV.storeV0 rfl (by conv => lhs; whnf) (by exact Tryd.cells52) (by rfl) (by rfl) ?_)
  refine S.q rfl rfl (Qt.assign (by conv => lhs; whnf)) ?_
  refine S.q rfl rfl (Qt.assign (by conv => lhs; whnf)) ?_
  refine S.nil ?_
  refine TC.seq ?_
  refine TC.seq ?_
  refine TC.region ?_
  refine S.q rfl rfl (Qt.move (by conv => lhs; whnf)) ?_
  refine S.q rfl rfl (Qt.not_t rfl) ?_
  refine S.q rfl rfl (Qt.move (by conv => lhs; whnf)) ?_
  refine S.qg rfl rfl rfl (Qt.move (by conv => lhs; whnf)) ?_
  refine S.qg rfl rfl rfl (Qt.not_f rfl) ?_
  refine S.q rfl rfl (Qt.pick_f rfl (by conv => lhs; whnf)) ?_
  refine S.nil ?_
  refine S.if_t rfl ?_
  refine TC.seq ?_
  refine TC.region ?_
  refine S.q rfl rfl (Qt.move (by conv => lhs; whnf)) ?_
  refine S.q rfl rfl (Qt.assign (by conv => lhs; whnf)) ?_
  refine S.nil ?_
  refine TC.ret ?_
  refine finQ.ret (RVs.tmp (by conv => lhs; whnf) RVs.nil) (Sub.nil _) ?_
  exact ⟨rfl, rfl⟩
theorem treeNodes_R (z : Int) (A : Option Addr) (c : Nat) (xs : List Go.E.Act) (a : Go.E.Act) (w0 : World) (hR : Ro w0 [] (SlA A (xs.flatMap actL))) (hT : Tabs 2 0 w0 []) (hT2 : Tabs 3 1 w0 []) :
    Calls Tryd.prog 5 #[.int .i64 z, .slice A xs.length c, .agg (actL a).toArray] w0 (Post w0 [] fun v L => v = .bool true ∧ L = []) := by
  have hEm : ∀ w, Tabs 2 0 w [] → Calls Tryd.prog 88 #[] w (Ret w (.agg (hcs (emptL emptyH)).toArray)) := fun w h => empties_R w h
  by_cases hx : xs.length ≤ 25
  · by_cases hz : z < 0 ∨ 32 < z
    · exact law5_walkZ emptyH hEm z A c xs a hx hz w0 hT
    · obtain ⟨n, rfl⟩ : ∃ n : Nat, z = (n : Int) := ⟨z.toNat, by omega⟩
      exact law5_walk emptyH hEm (fun _ => rfl) (fun w h => rempties_walk w h) n (by omega) A c xs a hx w0 hR hT hT2
  · exact law5_walkL emptyH hEm z A c xs a (by omega) w0 hT

end Go.Proofs.YtlneklemjfefpaaDoor
