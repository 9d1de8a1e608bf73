/-
  Walks: the law of items. Printed by a program of ours.
-/
import Derived.Test.YtgdjcmehlhebdaaGreatDoorYQ
namespace Go.Proofs.YtgdjcmehlhebdaaGreatDoor
open Go.E
set_option linter.unusedVariables false
set_option maxRecDepth 4000
theorem Tryz.ent8 : Enters Tryz.prog 8 := ⟨_, Tryz.func8, by kernel_rfl, rfl⟩
theorem Tryz.ent9 : Enters Tryz.prog 9 := ⟨_, Tryz.func9, by kernel_rfl, rfl⟩
theorem Tryz.ent10 : Enters Tryz.prog 10 := ⟨_, Tryz.func10, by kernel_rfl, rfl⟩
theorem Tryz.ent11 : Enters Tryz.prog 11 := ⟨_, Tryz.func11, by kernel_rfl, rfl⟩
theorem Tryz.ent12 : Enters Tryz.prog 12 := ⟨_, Tryz.func12, by kernel_rfl, rfl⟩
theorem Tryz.ent13 : Enters Tryz.prog 13 := ⟨_, Tryz.func13, by kernel_rfl, rfl⟩
theorem Tryz.ent14 : Enters Tryz.prog 14 := ⟨_, Tryz.func14, by kernel_rfl, rfl⟩
theorem Tryz.ent15 : Enters Tryz.prog 15 := ⟨_, Tryz.func15, by kernel_rfl, rfl⟩
theorem Tryz.ent16 : Enters Tryz.prog 16 := ⟨_, Tryz.func16, by kernel_rfl, rfl⟩

set_option maxHeartbeats 3200000 in
theorem law3_walkE (E : Nat → H32) (hEm : ∀ w, Tabs 3 1 w [] → Calls Tryz.prog 55 #[] w (Ret w (.agg (hcs (emptL E)).toArray))) (hE0 : E 0 = shaH [0]) (A : Option Addr) (c : Nat) (xs : List Nat) (B1 : Option Addr) (a1 : Nat) (l1 : List Go.E.Item) (B2 : Option Addr) (a2 : Nat) (l2 : List Go.E.Item) (hb1 : l1.length ≤ a1) (hb2 : l2.length ≤ a2) (hg : 60 < xs.length ∨ 60 < l1.length ∨ 60 < l2.length) (w0 : World) (hT : Tabs 3 1 w0 []) :
    Calls Tryz.prog 3 #[.slice A xs.length c, .agg #[.slice B1 l1.length a1, .slice B2 l2.length a2]] w0 (Post w0 [] fun v L => v = .bool true ∧ L = []) := by
  refine Calls.of (L := []) (n := 117) (rs := [.tmp 4]) Tryz.func3 rfl rfl rfl (Nat.le_of_ble_eq_true rfl) (Sat.nil _) ?_
  refine TC.seq ?_
  refine TC.region ?_
  refine S.opS rfl rfl (OpV.box (v := .agg #[.slice B1 l1.length a1, .slice B2 l2.length a2]) rfl (fun b3 => ?_))
  refine S.q rfl rfl (Qt.assign (by conv => lhs; whnf)) ?_
  refine S.nil ?_
  refine TC.seq ?_
  refine TC.seq ?_
  refine TC.region ?_
  refine S.opS rfl rfl (OpV.con0 Tryz.ent8 rfl (fun w hw => Calls.ret (alive5_walk E hEm w (hT.at hw))) ?_)
  refine S.q rfl rfl (Qt.not_t rfl) ?_
  refine S.nil ?_
  refine S.if_f rfl ?_
  refine TC.skip ?_
  refine TC.seq ?_
  refine TC.seq ?_
  refine TC.region ?_
  refine S.q rfl rfl (Qt.move (by conv => lhs; whnf)) ?_
  refine S.q rfl rfl (Qt.len_slice Tryz.underlying22 rfl) ?_
  refine S.dec rfl rfl (Qt.gt (b := 60) rfl rfl) (fun h14 => ?_) (fun h14 => ?_)
  · refine S.q rfl rfl (Qt.move (by conv => lhs; whnf)) ?_
    refine S.pass rfl rfl ?_
    refine S.pass rfl rfl ?_
    refine S.pass rfl rfl ?_
    refine S.pass rfl rfl ?_
    refine S.q rfl rfl (Qt.pick_t rfl (by conv => lhs; whnf)) ?_
    refine S.q rfl rfl (Qt.move (by conv => lhs; whnf)) ?_
    refine S.pass rfl rfl ?_
    refine S.pass rfl rfl ?_
    refine S.pass rfl rfl ?_
    refine S.pass rfl rfl ?_
    refine S.q rfl rfl (Qt.pick_t rfl (by conv => lhs; whnf)) ?_
    refine S.nil ?_
    refine S.if_t rfl ?_
    refine TC.seq ?_
    refine TC.region ?_
    refine S.q rfl rfl (Qt.assign (by conv => lhs; whnf)) ?_
    refine S.nil ?_
    refine TC.ret ?_
    refine finQ.ret (RVs.tmp (by conv => lhs; whnf) RVs.nil) (Sub.nil _) ?_
    exact ⟨rfl, rfl⟩
  · refine S.q rfl rfl (Qt.move (by conv => lhs; whnf)) ?_
    refine S.qg rfl rfl rfl (Qt.indexB (i := 0) Tryz.underlying24 Tryz.cells23 rfl rfl (by omega)) ?_
    refine S.qg rfl rfl rfl (Qt.load rfl (Ld.one (v := .slice B1 l1.length a1) (Has.at 0 rfl) Tryz.one23 rfl)) ?_
    refine S.qg rfl rfl rfl (Qt.len_slice Tryz.underlying23 rfl) ?_
    refine S.decg rfl rfl rfl (Qt.gt (b := 60) rfl rfl) (fun h19 => ?_) (fun h19 => ?_)
    · refine S.q rfl rfl (Qt.pick_f rfl (by conv => lhs; whnf)) ?_
      refine S.q rfl rfl (Qt.move (by conv => lhs; whnf)) ?_
      refine S.pass rfl rfl ?_
      refine S.pass rfl rfl ?_
      refine S.pass rfl rfl ?_
      refine S.pass rfl rfl ?_
      refine S.q rfl rfl (Qt.pick_t rfl (by conv => lhs; whnf)) ?_
      refine S.nil ?_
      refine S.if_t rfl ?_
      refine TC.seq ?_
      refine TC.region ?_
      refine S.q rfl rfl (Qt.assign (by conv => lhs; whnf)) ?_
      refine S.nil ?_
      refine TC.ret ?_
      refine finQ.ret (RVs.tmp (by conv => lhs; whnf) RVs.nil) (Sub.nil _) ?_
      exact ⟨rfl, rfl⟩
    · refine S.q rfl rfl (Qt.pick_f rfl (by conv => lhs; whnf)) ?_
      refine S.q rfl rfl (Qt.move (by conv => lhs; whnf)) ?_
      refine S.qg rfl rfl rfl (Qt.indexB (i := 1) Tryz.underlying24 Tryz.cells23 rfl rfl (by omega)) ?_
      refine S.qg rfl rfl rfl (Qt.load rfl (Ld.one (v := .slice B2 l2.length a2) (Has.at 0 rfl) Tryz.one23 rfl)) ?_
      refine S.qg rfl rfl rfl (Qt.len_slice Tryz.underlying23 rfl) ?_
      refine S.qg rfl rfl rfl (Qt.dT (Qt.gt (b := 60) rfl rfl) (by omega)) ?_
      refine S.q rfl rfl (Qt.pick_f rfl (by conv => lhs; whnf)) ?_
      refine S.nil ?_
      refine S.if_t rfl ?_
      refine TC.seq ?_
      refine TC.region ?_
      refine S.q rfl rfl (Qt.assign (by conv => lhs; whnf)) ?_
      refine S.nil ?_
      refine TC.ret ?_
      refine finQ.ret (RVs.tmp (by conv => lhs; whnf) RVs.nil) (Sub.nil _) ?_
      exact ⟨rfl, rfl⟩
set_option maxHeartbeats 12800000 in
theorem law3_walk (E : Nat → H32) (hEm : ∀ w, Tabs 3 1 w [] → Calls Tryz.prog 55 #[] w (Ret w (.agg (hcs (emptL E)).toArray))) (hE0 : E 0 = shaH [0]) (A : Option Addr) (c : Nat) (xs : List Nat) (B1 : Option Addr) (a1 : Nat) (l1 : List Go.E.Item) (B2 : Option Addr) (a2 : Nat) (l2 : List Go.E.Item) (hb1 : l1.length ≤ a1) (hb2 : l2.length ≤ a2) (hg0 : xs.length ≤ 60) (hg1 : l1.length ≤ 60) (hg2 : l2.length ≤ 60) (w0 : World) (hlow : ∀ x ∈ xs, x < 18446744073709551616) (hR : Ro w0 [] (SlA A (u64s xs))) (hB1 : Ro w0 [] (SlA B1 (l1.flatMap itemL))) (hB2 : Ro w0 [] (SlA B2 (l2.flatMap itemL))) (hT : Tabs 3 1 w0 []) (hT2 : Tabs 2 0 w0 []) :
    Calls Tryz.prog 3 #[.slice A xs.length c, .agg #[.slice B1 l1.length a1, .slice B2 l2.length a2]] w0 (Post w0 [] fun v L => v = .bool true ∧ L = []) := by
  refine Calls.of (L := []) (n := 117) (rs := [.tmp 4]) Tryz.func3 rfl rfl rfl (Nat.le_of_ble_eq_true rfl) (Sat.nil _) ?_
  have te1 : (l1.take (min l1.length xs.length)).length = (min l1.length xs.length) := by rw [List.length_take]; omega
  have te2 : (l2.take (min l2.length xs.length)).length = (min l2.length xs.length) := by rw [List.length_take]; omega
  refine TC.seq ?_
  refine TC.region ?_
  refine S.opS rfl rfl (OpV.box (v := .agg #[.slice B1 l1.length a1, .slice B2 l2.length a2]) rfl (fun b3 => ?_))
  refine S.q rfl rfl (Qt.assign (by conv => lhs; whnf)) ?_
  refine S.nil ?_
  refine TC.seq ?_
  refine TC.seq ?_
  refine TC.region ?_
  refine S.opS rfl rfl (OpV.con0 Tryz.ent8 rfl (fun w hw => Calls.ret (alive5_walk E hEm w (hT.at hw))) ?_)
  refine S.q rfl rfl (Qt.not_t rfl) ?_
  refine S.nil ?_
  refine S.if_f rfl ?_
  refine TC.skip ?_
  refine TC.seq ?_
  refine TC.seq ?_
  refine TC.region ?_
  refine S.q rfl rfl (Qt.move (by conv => lhs; whnf)) ?_
  refine S.q rfl rfl (Qt.len_slice Tryz.underlying22 rfl) ?_
  refine S.q rfl rfl (Qt.dF (Qt.gt (b := 60) rfl rfl) (by omega)) ?_
  refine S.q rfl rfl (Qt.move (by conv => lhs; whnf)) ?_
  refine S.qg rfl rfl rfl (Qt.indexB (i := 0) Tryz.underlying24 Tryz.cells23 rfl rfl (by omega)) ?_
  refine S.qg rfl rfl rfl (Qt.load rfl (Ld.one (v := .slice B1 l1.length a1) (Has.at 0 rfl) Tryz.one23 rfl)) ?_
  refine S.qg rfl rfl rfl (Qt.len_slice Tryz.underlying23 rfl) ?_
  refine S.qg rfl rfl rfl (Qt.dF (Qt.gt (b := 60) rfl rfl) (by omega)) ?_
  refine S.q rfl rfl (Qt.pick_f rfl (by conv => lhs; whnf)) ?_
  refine S.q rfl rfl (Qt.move (by conv => lhs; whnf)) ?_
  refine S.qg rfl rfl rfl (Qt.indexB (i := 1) Tryz.underlying24 Tryz.cells23 rfl rfl (by omega)) ?_
  refine S.qg rfl rfl rfl (Qt.load rfl (Ld.one (v := .slice B2 l2.length a2) (Has.at 0 rfl) Tryz.one23 rfl)) ?_
  refine S.qg rfl rfl rfl (Qt.len_slice Tryz.underlying23 rfl) ?_
  refine S.qg rfl rfl rfl (Qt.dF (Qt.gt (b := 60) rfl rfl) (by omega)) ?_
  refine S.q rfl rfl (Qt.pick_f rfl (by conv => lhs; whnf)) ?_
  refine S.nil ?_
  refine S.if_f rfl ?_
  refine TC.skip ?_
  refine TC.seq ?_
  refine TC.region ?_
  refine S.q rfl rfl (Qt.move (by conv => lhs; whnf)) ?_
  refine S.q rfl rfl (Qt.indexB (i := 0) Tryz.underlying24 Tryz.cells23 rfl rfl (by omega)) ?_
  refine S.q rfl rfl (Qt.load rfl (Ld.one (v := .slice B1 l1.length a1) (Has.at 0 rfl) Tryz.one23 rfl)) ?_
  refine S.q rfl rfl (Qt.indexB (i := 1) Tryz.underlying24 Tryz.cells23 rfl rfl (by omega)) ?_
  refine S.q rfl rfl (Qt.load rfl (Ld.one (v := .slice B2 l2.length a2) (Has.at 0 rfl) Tryz.one23 rfl)) ?_
  refine S.opS rfl rfl (OpV.con (Pre := []) (R := _) Tryz.ent9 rfl (List.Perm.refl _) (fun w hw => items9_walk A c xs (by omega) B1 a1 l1 B2 a2 l2 w hlow (Rd.ro hR w hw) (Rd.ro hB1 w hw) (Rd.ro hB2 w hw)) ?_)
  rintro v L' ⟨O1, d1, p1, L1, rfl, rfl, e1, l1x, m1⟩
  refine S.q rfl rfl (Qt.assign (by conv => lhs; whnf)) ?_
  refine S.nil ?_
  refine TC.seq ?_
  refine TC.seq ?_
  refine S.draw ([], [4, 7, 8]) Tryz.mixed (Sub.nil _) ?_
  refine D.qX (k := 0) rfl (by kernel_rfl) (by kernel_rfl) (by kernel_rfl) rfl rfl (Qt.move (by conv => lhs; whnf)) ?_
  refine D.qX (k := 1) rfl (by kernel_rfl) (by kernel_rfl) (by kernel_rfl) rfl rfl (Qt.move (by conv => lhs; whnf)) ?_
  refine D.qX (k := 2) rfl (by kernel_rfl) (by kernel_rfl) (by kernel_rfl) rfl rfl (Qt.indexB (i := 0) Tryz.underlying24 Tryz.cells23 rfl rfl (by omega)) ?_
  refine D.qX (k := 3) rfl (by kernel_rfl) (by kernel_rfl) (by kernel_rfl) rfl rfl (Qt.load rfl (Ld.one (v := .slice B1 l1.length a1) (Has.at 2 rfl) Tryz.one23 rfl)) ?_
  refine D.qX (k := 5) rfl (by kernel_rfl) (by kernel_rfl) (by kernel_rfl) rfl rfl (Qt.indexB (i := 1) Tryz.underlying24 Tryz.cells23 rfl rfl (by omega)) ?_
  refine D.qX (k := 6) rfl (by kernel_rfl) (by kernel_rfl) (by kernel_rfl) rfl rfl (Qt.load rfl (Ld.one (v := .slice B2 l2.length a2) (Has.at 2 rfl) Tryz.one23 rfl)) ?_
  refine D.nS (k := 4) (Sub.nil _) rfl (by kernel_rfl) (by kernel_rfl) rfl rfl (OpV.con (Pre := []) (R := _) Tryz.ent12 rfl (List.Perm.refl _) (fun w hw => docs12_walk B1 a1 l1 (by omega) w (Rd.ro hB1 w hw)) ?_)
  rintro v L' ⟨Oa, da, rfl, rfl⟩
  refine ⟨Sub.drop _ (Sub.keep _ (Sub.keep _ (Sub.keep _ (Sub.nil [])))), ?_⟩
  refine D.nS (k := 7) (Sub.nil _) rfl (by kernel_rfl) (by kernel_rfl) rfl rfl (OpV.con (Pre := []) (R := _) Tryz.ent12 rfl (List.Perm.refl _) (fun w hw => docs12_walk B2 a2 l2 (by omega) w (Rd.ro hB2 w hw)) ?_)
  rintro v L' ⟨Ob, db, rfl, rfl⟩
  refine ⟨Sub.drop _ (Sub.keep _ (Sub.keep _ (Sub.keep _ (Sub.keep _ (Sub.nil []))))), ?_⟩
  refine D.nS (k := 8) (Sub.nil _) rfl (by kernel_rfl) (by kernel_rfl) rfl rfl (OpV.con (Pre := []) (R := _) Tryz.ent11 rfl (List.Perm.refl _) (fun w hw => ritems11_walk A c xs (by omega) Oa da l1 Ob db l2 w hlow (Rd.ro hR w hw) (Rd.own (Rd.at 1 rfl) w hw) (Rd.own (Rd.at 0 rfl) w hw)) ?_)
  rintro v L' ⟨O2, d2, p2, L2, rfl, rfl, e2, l2x, m2⟩
  refine ⟨Sub.drop _ (Sub.drop _ (Sub.keep _ (Sub.keep _ (Sub.keep _ (Sub.keep _ (Sub.keep _ (Sub.nil []))))))), ?_⟩
  refine D.cX (k := 9) rfl (by kernel_rfl) (by kernel_rfl) (by kernel_rfl) rfl rfl (CalU.con0 Tryz.ent10 rfl (fun w hw => same_R O1 d1 p1 O2 d2 p2 l1x (e1.trans e2.symm) w (Rd.own (Rd.at 4 rfl) w hw) (PxRo.many (Rd.at 5 rfl) m1 hw) (PxLe.of e1 (pairX_le (itemQ_le _ _) (itemQ_le _ _))) (Rd.own (Rd.at 0 rfl) w hw) (PxRo.many (Rd.at 1 rfl) m2 hw) (PxLe.of e2 (pairX_le (itemQ_le _ _) (itemQ_le _ _))) (hT.at hw) (hT2.at hw))) ?_
  refine D.qX (k := 10) rfl (by kernel_rfl) (by kernel_rfl) (by kernel_rfl) rfl rfl (Qt.not_t rfl) ?_
  refine D.done (Sub.nil _) (by kernel_rfl) ?_
  refine S.if_f rfl ?_
  refine TC.skip ?_
  refine TC.seq ?_
  refine TC.region ?_
  refine S.q rfl rfl (Qt.move (by conv => lhs; whnf)) ?_
  refine S.q rfl rfl (Qt.indexB (i := 0) Tryz.underlying24 Tryz.cells23 rfl rfl (by omega)) ?_
  refine S.q rfl rfl (Qt.load rfl (Ld.one (v := .slice B1 l1.length a1) (Has.at 6 rfl) Tryz.one23 rfl)) ?_
  refine S.q rfl rfl (Qt.indexB (i := 0) Tryz.underlying24 Tryz.cells23 rfl rfl (by omega)) ?_
  refine S.q rfl rfl (Qt.load rfl (Ld.one (v := .slice B1 l1.length a1) (Has.at 6 rfl) Tryz.one23 rfl)) ?_
  refine S.q rfl rfl (Qt.len_slice Tryz.underlying23 rfl) ?_
  refine S.q rfl rfl (Qt.move (by conv => lhs; whnf)) ?_
  refine S.q rfl rfl (Qt.len_slice Tryz.underlying22 rfl) ?_
  refine S.q rfl rfl (Qt.minN rfl rfl) ?_
  refine S.q rfl rfl (Qt.slice_hi Tryz.underlying23 Tryz.cells138 rfl rfl (by omega)) ?_
  by_cases hi1 : inR xs (l1.take (min l1.length xs.length)) (l1.take (min l1.length xs.length)).length
  · by_cases hl1 : xs.length = (l1.take (min l1.length xs.length)).length
    · refine S.opS rfl rfl (OpV.con (Pre := []) (R := _) Tryz.ent13 rfl (List.Perm.refl _) (fun w hw => (by have k := leaves13_T E hEm hE0 A c xs B1 a1 (l1.take (min l1.length xs.length)) (by omega) (by omega) hi1 hl1 w hlow (Rd.ro hR w hw) (by have h := (Rd.take (Rd.ro hB1) ((min l1.length xs.length) * 50)) w hw; rwa [items_take] at h) (hT.at hw); rw [te1] at k; exact k : Calls Tryz.prog 13 #[.slice A xs.length c, .slice B1 (min l1.length xs.length) a1] w (Post w [] fun v L => ∃ O d, v = .tuple #[.slice O (min l1.length xs.length) d, .bool true] ∧ L = [OwnA 49 32 O (min l1.length xs.length) d (hcs (itemH xs (l1.take (min l1.length xs.length)) (min l1.length xs.length)))]))) ?_)
      rintro v L' ⟨U1, u1, rfl, rfl⟩
      refine S.q rfl rfl (Qt.move (by conv => lhs; whnf)) ?_
      refine S.q rfl rfl (Qt.extract rfl rfl) ?_
      refine S.q rfl rfl (Qt.extract rfl rfl) ?_
      refine S.q rfl rfl (Qt.assign (by conv => lhs; whnf)) ?_
      refine S.q rfl rfl (Qt.assign (by conv => lhs; whnf)) ?_
      refine S.nil ?_
      refine TC.seq ?_
      refine TC.region ?_
      refine S.q rfl rfl (Qt.move (by conv => lhs; whnf)) ?_
      refine S.q rfl rfl (Qt.indexB (i := 1) Tryz.underlying24 Tryz.cells23 rfl rfl (by omega)) ?_
      refine S.q rfl rfl (Qt.load rfl (Ld.one (v := .slice B2 l2.length a2) (Has.at 7 rfl) Tryz.one23 rfl)) ?_
      refine S.q rfl rfl (Qt.indexB (i := 1) Tryz.underlying24 Tryz.cells23 rfl rfl (by omega)) ?_
      refine S.q rfl rfl (Qt.load rfl (Ld.one (v := .slice B2 l2.length a2) (Has.at 7 rfl) Tryz.one23 rfl)) ?_
      refine S.q rfl rfl (Qt.len_slice Tryz.underlying23 rfl) ?_
      refine S.q rfl rfl (Qt.move (by conv => lhs; whnf)) ?_
      refine S.q rfl rfl (Qt.len_slice Tryz.underlying22 rfl) ?_
      refine S.q rfl rfl (Qt.minN rfl rfl) ?_
      refine S.q rfl rfl (Qt.slice_hi Tryz.underlying23 Tryz.cells138 rfl rfl (by omega)) ?_
      by_cases hi2 : inR xs (l2.take (min l2.length xs.length)) (l2.take (min l2.length xs.length)).length
      · by_cases hl2 : xs.length = (l2.take (min l2.length xs.length)).length
        · refine S.opS rfl rfl (OpV.con (Pre := []) (R := _) Tryz.ent13 rfl (List.Perm.refl _) (fun w hw => (by have k := leaves13_T E hEm hE0 A c xs B2 a2 (l2.take (min l2.length xs.length)) (by omega) (by omega) hi2 hl2 w hlow (Rd.ro hR w hw) (by have h := (Rd.take (Rd.ro hB2) ((min l2.length xs.length) * 50)) w hw; rwa [items_take] at h) (hT.at hw); rw [te2] at k; exact k : Calls Tryz.prog 13 #[.slice A xs.length c, .slice B2 (min l2.length xs.length) a2] w (Post w [] fun v L => ∃ O d, v = .tuple #[.slice O (min l2.length xs.length) d, .bool true] ∧ L = [OwnA 49 32 O (min l2.length xs.length) d (hcs (itemH xs (l2.take (min l2.length xs.length)) (min l2.length xs.length)))]))) ?_)
          rintro v L' ⟨U2, u2, rfl, rfl⟩
          refine S.q rfl rfl (Qt.move (by conv => lhs; whnf)) ?_
          refine S.q rfl rfl (Qt.extract rfl rfl) ?_
          refine S.q rfl rfl (Qt.extract rfl rfl) ?_
          refine S.q rfl rfl (Qt.assign (by conv => lhs; whnf)) ?_
          refine S.q rfl rfl (Qt.assign (by conv => lhs; whnf)) ?_
          refine S.nil ?_
          refine TC.seq ?_
          refine TC.seq ?_
          refine TC.region ?_
          refine S.q rfl rfl (Qt.move (by conv => lhs; whnf)) ?_
          refine S.q rfl rfl (Qt.not_t rfl) ?_
          refine S.q rfl rfl (Qt.move (by conv => lhs; whnf)) ?_
          refine S.qg rfl rfl rfl (Qt.move (by conv => lhs; whnf)) ?_
          refine S.qg rfl rfl rfl (Qt.not_t rfl) ?_
          refine S.q rfl rfl (Qt.pick_f rfl (by conv => lhs; whnf)) ?_
          refine S.q rfl rfl (Qt.move (by conv => lhs; whnf)) ?_
          refine S.qg rfl rfl rfl (Qt.indexB (i := 0) Tryz.underlying24 Tryz.cells23 rfl rfl (by omega)) ?_
          refine S.qg rfl rfl rfl (Qt.load rfl (Ld.one (v := .slice B1 l1.length a1) (Has.at 8 rfl) Tryz.one23 rfl)) ?_
          refine S.qg rfl rfl rfl (Qt.len_slice Tryz.underlying23 rfl) ?_
          refine S.qg rfl rfl rfl (Qt.indexB (i := 1) Tryz.underlying24 Tryz.cells23 rfl rfl (by omega)) ?_
          refine S.qg rfl rfl rfl (Qt.load rfl (Ld.one (v := .slice B2 l2.length a2) (Has.at 8 rfl) Tryz.one23 rfl)) ?_
          refine S.qg rfl rfl rfl (Qt.len_slice Tryz.underlying23 rfl) ?_
          refine S.decg rfl rfl rfl (Qt.ne rfl rfl) (fun h85 => ?_) (fun h85 => ?_)
          · refine S.q rfl rfl (Qt.pick_f rfl (by conv => lhs; whnf)) ?_
            refine S.q rfl rfl (Qt.move (by conv => lhs; whnf)) ?_
            refine S.pass rfl rfl ?_
            refine S.pass rfl rfl ?_
            refine S.pass rfl rfl ?_
            refine S.pass rfl rfl ?_
            refine S.pass rfl rfl ?_
            refine S.pass rfl rfl ?_
            refine S.q rfl rfl (Qt.pick_t rfl (by conv => lhs; whnf)) ?_
            refine S.q rfl rfl (Qt.move (by conv => lhs; whnf)) ?_
            refine S.pass rfl rfl ?_
            refine S.pass rfl rfl ?_
            refine S.pass rfl rfl ?_
            refine S.pass rfl rfl ?_
            refine S.pass rfl rfl ?_
            refine S.q rfl rfl (Qt.pick_t rfl (by conv => lhs; whnf)) ?_
            refine S.q rfl rfl (Qt.move (by conv => lhs; whnf)) ?_
            refine S.pass rfl rfl ?_
            refine S.pass rfl rfl ?_
            refine S.pass rfl rfl ?_
            refine S.pass rfl rfl ?_
            refine S.q rfl rfl (Qt.pick_t rfl (by conv => lhs; whnf)) ?_
            refine S.q rfl rfl (Qt.move (by conv => lhs; whnf)) ?_
            refine S.pass rfl rfl ?_
            refine S.pass rfl rfl ?_
            refine S.pass rfl rfl ?_
            refine S.pass rfl rfl ?_
            refine S.pass rfl rfl ?_
            refine S.q rfl rfl (Qt.pick_t rfl (by conv => lhs; whnf)) ?_
            refine S.nil ?_
            refine S.if_t rfl ?_
            refine TC.seq ?_
            refine TC.region ?_
            refine S.q rfl rfl (Qt.assign (by conv => lhs; whnf)) ?_
            refine S.nil ?_
            refine TC.ret ?_
            refine finQ.ret (RVs.tmp (by conv => lhs; whnf) RVs.nil) (Sub.nil _) ?_
            exact ⟨rfl, rfl⟩
          · refine S.q rfl rfl (Qt.pick_f rfl (by conv => lhs; whnf)) ?_
            refine S.q rfl rfl (Qt.move (by conv => lhs; whnf)) ?_
            refine S.qg rfl rfl rfl (Qt.indexB (i := 0) Tryz.underlying24 Tryz.cells23 rfl rfl (by omega)) ?_
            refine S.qg rfl rfl rfl (Qt.load rfl (Ld.one (v := .slice B1 l1.length a1) (Has.at 8 rfl) Tryz.one23 rfl)) ?_
            refine S.qg rfl rfl rfl (Qt.len_slice Tryz.underlying23 rfl) ?_
            refine S.qg rfl rfl rfl (Qt.move (by conv => lhs; whnf)) ?_
            refine S.qg rfl rfl rfl (Qt.len_slice Tryz.underlying22 rfl) ?_
            refine S.decg rfl rfl rfl (Qt.ne rfl rfl) (fun h93 => ?_) (fun h93 => ?_)
            · refine S.q rfl rfl (Qt.pick_f rfl (by conv => lhs; whnf)) ?_
              refine S.q rfl rfl (Qt.move (by conv => lhs; whnf)) ?_
              refine S.pass rfl rfl ?_
              refine S.pass rfl rfl ?_
              refine S.pass rfl rfl ?_
              refine S.pass rfl rfl ?_
              refine S.pass rfl rfl ?_
              refine S.q rfl rfl (Qt.pick_t rfl (by conv => lhs; whnf)) ?_
              refine S.q rfl rfl (Qt.move (by conv => lhs; whnf)) ?_
              refine S.pass rfl rfl ?_
              refine S.pass rfl rfl ?_
              refine S.pass rfl rfl ?_
              refine S.pass rfl rfl ?_
              refine S.q rfl rfl (Qt.pick_t rfl (by conv => lhs; whnf)) ?_
              refine S.q rfl rfl (Qt.move (by conv => lhs; whnf)) ?_
              refine S.pass rfl rfl ?_
              refine S.pass rfl rfl ?_
              refine S.pass rfl rfl ?_
              refine S.pass rfl rfl ?_
              refine S.pass rfl rfl ?_
              refine S.q rfl rfl (Qt.pick_t rfl (by conv => lhs; whnf)) ?_
              refine S.nil ?_
              refine S.if_t rfl ?_
              refine TC.seq ?_
              refine TC.region ?_
              refine S.q rfl rfl (Qt.assign (by conv => lhs; whnf)) ?_
              refine S.nil ?_
              refine TC.ret ?_
              refine finQ.ret (RVs.tmp (by conv => lhs; whnf) RVs.nil) (Sub.nil _) ?_
              exact ⟨rfl, rfl⟩
            · refine S.q rfl rfl (Qt.pick_f rfl (by conv => lhs; whnf)) ?_
              refine S.q rfl rfl (Qt.move (by conv => lhs; whnf)) ?_
              refine S.qg rfl rfl rfl (Qt.move (by conv => lhs; whnf)) ?_
              refine S.qg rfl rfl rfl (Qt.len_slice Tryz.underlying26 rfl) ?_
              refine S.qg rfl rfl rfl (Qt.move (by conv => lhs; whnf)) ?_
              refine S.qg rfl rfl rfl (Qt.len_slice Tryz.underlying22 rfl) ?_
              refine S.decg rfl rfl rfl (Qt.ne rfl rfl) (fun h100 => ?_) (fun h100 => ?_)
              · refine S.q rfl rfl (Qt.pick_f rfl (by conv => lhs; whnf)) ?_
                refine S.q rfl rfl (Qt.move (by conv => lhs; whnf)) ?_
                refine S.pass rfl rfl ?_
                refine S.pass rfl rfl ?_
                refine S.pass rfl rfl ?_
                refine S.pass rfl rfl ?_
                refine S.q rfl rfl (Qt.pick_t rfl (by conv => lhs; whnf)) ?_
                refine S.q rfl rfl (Qt.move (by conv => lhs; whnf)) ?_
                refine S.pass rfl rfl ?_
                refine S.pass rfl rfl ?_
                refine S.pass rfl rfl ?_
                refine S.pass rfl rfl ?_
                refine S.pass rfl rfl ?_
                refine S.q rfl rfl (Qt.pick_t rfl (by conv => lhs; whnf)) ?_
                refine S.nil ?_
                refine S.if_t rfl ?_
                refine TC.seq ?_
                refine TC.region ?_
                refine S.q rfl rfl (Qt.assign (by conv => lhs; whnf)) ?_
                refine S.nil ?_
                refine TC.ret ?_
                refine finQ.ret (RVs.tmp (by conv => lhs; whnf) RVs.nil) (Sub.nil _) ?_
                exact ⟨rfl, rfl⟩
              · refine S.q rfl rfl (Qt.pick_f rfl (by conv => lhs; whnf)) ?_
                refine S.q rfl rfl (Qt.move (by conv => lhs; whnf)) ?_
                refine S.qg rfl rfl rfl (Qt.move (by conv => lhs; whnf)) ?_
                refine S.qg rfl rfl rfl (Qt.move (by conv => lhs; whnf)) ?_
                by_cases hh : (itemH xs (l1.take (min l1.length xs.length)) (min l1.length xs.length)) = (itemH xs (l2.take (min l2.length xs.length)) (min l2.length xs.length))
                · refine S.opg rfl rfl rfl (OpV.con0 Tryz.ent14 rfl (fun w hw => (by have h := hashesD_R U1 u1 (itemH xs (l1.take (min l1.length xs.length)) (min l1.length xs.length)) U2 u2 (itemH xs (l2.take (min l2.length xs.length)) (min l2.length xs.length)) (by rw [itemH_len]; omega) (by rw [itemH_len]; omega) w (Rd.own (Rd.at 1 rfl) w hw) (Rd.own (Rd.at 0 rfl) w hw); rw [decide_eq_true hh, itemH_len, itemH_len] at h; exact h : Calls Tryz.prog 14 #[.slice U1 (min l1.length xs.length) u1, .slice U2 (min l2.length xs.length) u2] w (Ret w (.bool true)))) ?_)
                  refine S.qg rfl rfl rfl (Qt.not_t rfl) ?_
                  refine S.q rfl rfl (Qt.pick_f rfl (by conv => lhs; whnf)) ?_
                  refine S.q rfl rfl (Qt.move (by conv => lhs; whnf)) ?_
                  refine S.qg rfl rfl rfl (Qt.indexB (i := 0) Tryz.underlying24 Tryz.cells23 rfl rfl (by omega)) ?_
                  refine S.qg rfl rfl rfl (Qt.load rfl (Ld.one (v := .slice B1 l1.length a1) (Has.at 8 rfl) Tryz.one23 rfl)) ?_
                  refine S.qg rfl rfl rfl (Qt.indexB (i := 1) Tryz.underlying24 Tryz.cells23 rfl rfl (by omega)) ?_
                  refine S.qg rfl rfl rfl (Qt.load rfl (Ld.one (v := .slice B2 l2.length a2) (Has.at 8 rfl) Tryz.one23 rfl)) ?_
                  by_cases hal : alikeA l1 l2
                  · refine S.opg rfl rfl rfl (OpV.con0 Tryz.ent15 rfl (fun w hw => alike15_T B1 a1 l1 (by omega) B2 a2 l2 hal w (Rd.ro hB1 w hw) (Rd.ro hB2 w hw)) ?_)
                    refine S.q rfl rfl (Qt.pick_f rfl (by conv => lhs; whnf)) ?_
                    refine S.nil ?_
                    refine S.if_t rfl ?_
                    refine TC.seq ?_
                    refine TC.region ?_
                    refine S.q rfl rfl (Qt.assign (by conv => lhs; whnf)) ?_
                    refine S.nil ?_
                    refine TC.ret ?_
                    refine finQ.ret (RVs.tmp (by conv => lhs; whnf) RVs.nil) (Sub.nil _) ?_
                    exact ⟨rfl, rfl⟩
                  · refine S.opg rfl rfl rfl (OpV.con0 Tryz.ent15 rfl (fun w hw => alike15_F B1 a1 l1 (by omega) B2 a2 l2 hal w (Rd.ro hB1 w hw) (Rd.ro hB2 w hw)) ?_)
                    refine S.q rfl rfl (Qt.pick_f rfl (by conv => lhs; whnf)) ?_
                    refine S.nil ?_
                    refine S.if_f rfl ?_
                    refine TC.skip ?_
                    refine TC.seq ?_
                    refine TC.region ?_
                    refine S.q rfl rfl (Qt.move (by conv => lhs; whnf)) ?_
                    refine S.opS rfl rfl (OpV.con0 Tryz.ent16 rfl (fun w hw => Calls.ret (right11_walk O1 d1 p1 l1x (items_plc e1 (Decidable.not_not.1 h93) (by omega) (Decidable.not_not.1 h100) (items_hh (Decidable.not_not.1 h93) (by omega) hh) hal) w (Rd.own (Rd.at 6 rfl) w hw) (PxRo.many (Rd.at 7 rfl) m1 hw) (PxLe.of e1 (pairX_le (itemQ_le _ _) (itemQ_le _ _))) (hT.at hw) (hT2.at hw))) ?_)
                    refine S.q rfl rfl (Qt.assign (by conv => lhs; whnf)) ?_
                    refine S.nil ?_
                    refine TC.ret ?_
                    refine finQ.ret (RVs.tmp (by conv => lhs; whnf) RVs.nil) (Sub.nil _) ?_
                    exact ⟨rfl, rfl⟩
                · refine S.opg rfl rfl rfl (OpV.con0 Tryz.ent14 rfl (fun w hw => (by have h := hashesD_R U1 u1 (itemH xs (l1.take (min l1.length xs.length)) (min l1.length xs.length)) U2 u2 (itemH xs (l2.take (min l2.length xs.length)) (min l2.length xs.length)) (by rw [itemH_len]; omega) (by rw [itemH_len]; omega) w (Rd.own (Rd.at 1 rfl) w hw) (Rd.own (Rd.at 0 rfl) w hw); rw [decide_eq_false hh, itemH_len, itemH_len] at h; exact h : Calls Tryz.prog 14 #[.slice U1 (min l1.length xs.length) u1, .slice U2 (min l2.length xs.length) u2] w (Ret w (.bool false)))) ?_)
                  refine S.qg rfl rfl rfl (Qt.not_f rfl) ?_
                  refine S.q rfl rfl (Qt.pick_f rfl (by conv => lhs; whnf)) ?_
                  refine S.q rfl rfl (Qt.move (by conv => lhs; whnf)) ?_
                  refine S.pass rfl rfl ?_
                  refine S.pass rfl rfl ?_
                  refine S.pass rfl rfl ?_
                  refine S.pass rfl rfl ?_
                  refine S.pass rfl rfl ?_
                  refine S.q rfl rfl (Qt.pick_t rfl (by conv => lhs; whnf)) ?_
                  refine S.nil ?_
                  refine S.if_t rfl ?_
                  refine TC.seq ?_
                  refine TC.region ?_
                  refine S.q rfl rfl (Qt.assign (by conv => lhs; whnf)) ?_
                  refine S.nil ?_
                  refine TC.ret ?_
                  refine finQ.ret (RVs.tmp (by conv => lhs; whnf) RVs.nil) (Sub.nil _) ?_
                  exact ⟨rfl, rfl⟩
        · refine S.opS rfl rfl (OpV.con (Pre := []) (R := _) Tryz.ent13 rfl (List.Perm.refl _) (fun w hw => (by have k := leaves13_U E hEm hE0 A c xs B2 a2 (l2.take (min l2.length xs.length)) (by omega) (by omega) hi2 hl2 w hlow (Rd.ro hR w hw) (by have h := (Rd.take (Rd.ro hB2) ((min l2.length xs.length) * 50)) w hw; rwa [items_take] at h) (hT.at hw); rw [te2] at k; exact k : Calls Tryz.prog 13 #[.slice A xs.length c, .slice B2 (min l2.length xs.length) a2] w (Post w [] fun v L => ∃ O d, v = .tuple #[.slice O (min l2.length xs.length) d, .bool false] ∧ L = [OwnA 49 32 O (min l2.length xs.length) d (hcs (itemH xs (l2.take (min l2.length xs.length)) (min l2.length xs.length)))]))) ?_)
          rintro v L' ⟨U2, u2, rfl, rfl⟩
          refine S.q rfl rfl (Qt.move (by conv => lhs; whnf)) ?_
          refine S.q rfl rfl (Qt.extract rfl rfl) ?_
          refine S.q rfl rfl (Qt.extract rfl rfl) ?_
          refine S.q rfl rfl (Qt.assign (by conv => lhs; whnf)) ?_
          refine S.q rfl rfl (Qt.assign (by conv => lhs; whnf)) ?_
          refine S.nil ?_
          refine TC.seq ?_
          refine TC.seq ?_
          refine TC.region ?_
          refine S.q rfl rfl (Qt.move (by conv => lhs; whnf)) ?_
          refine S.q rfl rfl (Qt.not_t rfl) ?_
          refine S.q rfl rfl (Qt.move (by conv => lhs; whnf)) ?_
          refine S.qg rfl rfl rfl (Qt.move (by conv => lhs; whnf)) ?_
          refine S.qg rfl rfl rfl (Qt.not_f rfl) ?_
          refine S.q rfl rfl (Qt.pick_f rfl (by conv => lhs; whnf)) ?_
          refine S.q rfl rfl (Qt.move (by conv => lhs; whnf)) ?_
          refine S.pass rfl rfl ?_
          refine S.pass rfl rfl ?_
          refine S.pass rfl rfl ?_
          refine S.pass rfl rfl ?_
          refine S.pass rfl rfl ?_
          refine S.pass rfl rfl ?_
          refine S.pass rfl rfl ?_
          refine S.q rfl rfl (Qt.pick_t rfl (by conv => lhs; whnf)) ?_
          refine S.q rfl rfl (Qt.move (by conv => lhs; whnf)) ?_
          refine S.pass rfl rfl ?_
          refine S.pass rfl rfl ?_
          refine S.pass rfl rfl ?_
          refine S.pass rfl rfl ?_
          refine S.pass rfl rfl ?_
          refine S.pass rfl rfl ?_
          refine S.q rfl rfl (Qt.pick_t rfl (by conv => lhs; whnf)) ?_
          refine S.q rfl rfl (Qt.move (by conv => lhs; whnf)) ?_
          refine S.pass rfl rfl ?_
          refine S.pass rfl rfl ?_
          refine S.pass rfl rfl ?_
          refine S.pass rfl rfl ?_
          refine S.pass rfl rfl ?_
          refine S.q rfl rfl (Qt.pick_t rfl (by conv => lhs; whnf)) ?_
          refine S.q rfl rfl (Qt.move (by conv => lhs; whnf)) ?_
          refine S.pass rfl rfl ?_
          refine S.pass rfl rfl ?_
          refine S.pass rfl rfl ?_
          refine S.pass rfl rfl ?_
          refine S.q rfl rfl (Qt.pick_t rfl (by conv => lhs; whnf)) ?_
          refine S.q rfl rfl (Qt.move (by conv => lhs; whnf)) ?_
          refine S.pass rfl rfl ?_
          refine S.pass rfl rfl ?_
          refine S.pass rfl rfl ?_
          refine S.pass rfl rfl ?_
          refine S.pass rfl rfl ?_
          refine S.q rfl rfl (Qt.pick_t rfl (by conv => lhs; whnf)) ?_
          refine S.nil ?_
          refine S.if_t rfl ?_
          refine TC.seq ?_
          refine TC.region ?_
          refine S.q rfl rfl (Qt.assign (by conv => lhs; whnf)) ?_
          refine S.nil ?_
          refine TC.ret ?_
          refine finQ.ret (RVs.tmp (by conv => lhs; whnf) RVs.nil) (Sub.nil _) ?_
          exact ⟨rfl, rfl⟩
      · refine S.opS rfl rfl (OpV.con (Pre := []) (R := _) Tryz.ent13 rfl (List.Perm.refl _) (fun w hw => (by have k := leaves13_F E hEm hE0 A c xs B2 a2 (l2.take (min l2.length xs.length)) (by omega) (by omega) hi2 w hlow (Rd.ro hR w hw) (by have h := (Rd.take (Rd.ro hB2) ((min l2.length xs.length) * 50)) w hw; rwa [items_take] at h) (hT.at hw); rw [te2] at k; exact k : Calls Tryz.prog 13 #[.slice A xs.length c, .slice B2 (min l2.length xs.length) a2] w (Post w [] fun v L => v = .tuple #[.slice none 0 0, .bool false] ∧ L = []))) ?_)
        rintro v L' ⟨rfl, rfl⟩
        refine S.q rfl rfl (Qt.move (by conv => lhs; whnf)) ?_
        refine S.q rfl rfl (Qt.extract rfl rfl) ?_
        refine S.q rfl rfl (Qt.extract rfl rfl) ?_
        refine S.q rfl rfl (Qt.assign (by conv => lhs; whnf)) ?_
        refine S.q rfl rfl (Qt.assign (by conv => lhs; whnf)) ?_
        refine S.nil ?_
        refine TC.seq ?_
        refine TC.seq ?_
        refine TC.region ?_
        refine S.q rfl rfl (Qt.move (by conv => lhs; whnf)) ?_
        refine S.q rfl rfl (Qt.not_t rfl) ?_
        refine S.q rfl rfl (Qt.move (by conv => lhs; whnf)) ?_
        refine S.qg rfl rfl rfl (Qt.move (by conv => lhs; whnf)) ?_
        refine S.qg rfl rfl rfl (Qt.not_f rfl) ?_
        refine S.q rfl rfl (Qt.pick_f rfl (by conv => lhs; whnf)) ?_
        refine S.q rfl rfl (Qt.move (by conv => lhs; whnf)) ?_
        refine S.pass rfl rfl ?_
        refine S.pass rfl rfl ?_
        refine S.pass rfl rfl ?_
        refine S.pass rfl rfl ?_
        refine S.pass rfl rfl ?_
        refine S.pass rfl rfl ?_
        refine S.pass rfl rfl ?_
        refine S.q rfl rfl (Qt.pick_t rfl (by conv => lhs; whnf)) ?_
        refine S.q rfl rfl (Qt.move (by conv => lhs; whnf)) ?_
        refine S.pass rfl rfl ?_
        refine S.pass rfl rfl ?_
        refine S.pass rfl rfl ?_
        refine S.pass rfl rfl ?_
        refine S.pass rfl rfl ?_
        refine S.pass rfl rfl ?_
        refine S.q rfl rfl (Qt.pick_t rfl (by conv => lhs; whnf)) ?_
        refine S.q rfl rfl (Qt.move (by conv => lhs; whnf)) ?_
        refine S.pass rfl rfl ?_
        refine S.pass rfl rfl ?_
        refine S.pass rfl rfl ?_
        refine S.pass rfl rfl ?_
        refine S.pass rfl rfl ?_
        refine S.q rfl rfl (Qt.pick_t rfl (by conv => lhs; whnf)) ?_
        refine S.q rfl rfl (Qt.move (by conv => lhs; whnf)) ?_
        refine S.pass rfl rfl ?_
        refine S.pass rfl rfl ?_
        refine S.pass rfl rfl ?_
        refine S.pass rfl rfl ?_
        refine S.q rfl rfl (Qt.pick_t rfl (by conv => lhs; whnf)) ?_
        refine S.q rfl rfl (Qt.move (by conv => lhs; whnf)) ?_
        refine S.pass rfl rfl ?_
        refine S.pass rfl rfl ?_
        refine S.pass rfl rfl ?_
        refine S.pass rfl rfl ?_
        refine S.pass rfl rfl ?_
        refine S.q rfl rfl (Qt.pick_t rfl (by conv => lhs; whnf)) ?_
        refine S.nil ?_
        refine S.if_t rfl ?_
        refine TC.seq ?_
        refine TC.region ?_
        refine S.q rfl rfl (Qt.assign (by conv => lhs; whnf)) ?_
        refine S.nil ?_
        refine TC.ret ?_
        refine finQ.ret (RVs.tmp (by conv => lhs; whnf) RVs.nil) (Sub.nil _) ?_
        exact ⟨rfl, rfl⟩
    · refine S.opS rfl rfl (OpV.con (Pre := []) (R := _) Tryz.ent13 rfl (List.Perm.refl _) (fun w hw => (by have k := leaves13_U E hEm hE0 A c xs B1 a1 (l1.take (min l1.length xs.length)) (by omega) (by omega) hi1 hl1 w hlow (Rd.ro hR w hw) (by have h := (Rd.take (Rd.ro hB1) ((min l1.length xs.length) * 50)) w hw; rwa [items_take] at h) (hT.at hw); rw [te1] at k; exact k : Calls Tryz.prog 13 #[.slice A xs.length c, .slice B1 (min l1.length xs.length) a1] w (Post w [] fun v L => ∃ O d, v = .tuple #[.slice O (min l1.length xs.length) d, .bool false] ∧ L = [OwnA 49 32 O (min l1.length xs.length) d (hcs (itemH xs (l1.take (min l1.length xs.length)) (min l1.length xs.length)))]))) ?_)
      rintro v L' ⟨U1, u1, rfl, rfl⟩
      refine S.q rfl rfl (Qt.move (by conv => lhs; whnf)) ?_
      refine S.q rfl rfl (Qt.extract rfl rfl) ?_
      refine S.q rfl rfl (Qt.extract rfl rfl) ?_
      refine S.q rfl rfl (Qt.assign (by conv => lhs; whnf)) ?_
      refine S.q rfl rfl (Qt.assign (by conv => lhs; whnf)) ?_
      refine S.nil ?_
      refine TC.seq ?_
      refine TC.region ?_
      refine S.q rfl rfl (Qt.move (by conv => lhs; whnf)) ?_
      refine S.q rfl rfl (Qt.indexB (i := 1) Tryz.underlying24 Tryz.cells23 rfl rfl (by omega)) ?_
      refine S.q rfl rfl (Qt.load rfl (Ld.one (v := .slice B2 l2.length a2) (Has.at 7 rfl) Tryz.one23 rfl)) ?_
      refine S.q rfl rfl (Qt.indexB (i := 1) Tryz.underlying24 Tryz.cells23 rfl rfl (by omega)) ?_
      refine S.q rfl rfl (Qt.load rfl (Ld.one (v := .slice B2 l2.length a2) (Has.at 7 rfl) Tryz.one23 rfl)) ?_
      refine S.q rfl rfl (Qt.len_slice Tryz.underlying23 rfl) ?_
      refine S.q rfl rfl (Qt.move (by conv => lhs; whnf)) ?_
      refine S.q rfl rfl (Qt.len_slice Tryz.underlying22 rfl) ?_
      refine S.q rfl rfl (Qt.minN rfl rfl) ?_
      refine S.q rfl rfl (Qt.slice_hi Tryz.underlying23 Tryz.cells138 rfl rfl (by omega)) ?_
      by_cases hi2 : inR xs (l2.take (min l2.length xs.length)) (l2.take (min l2.length xs.length)).length
      · by_cases hl2 : xs.length = (l2.take (min l2.length xs.length)).length
        · refine S.opS rfl rfl (OpV.con (Pre := []) (R := _) Tryz.ent13 rfl (List.Perm.refl _) (fun w hw => (by have k := leaves13_T E hEm hE0 A c xs B2 a2 (l2.take (min l2.length xs.length)) (by omega) (by omega) hi2 hl2 w hlow (Rd.ro hR w hw) (by have h := (Rd.take (Rd.ro hB2) ((min l2.length xs.length) * 50)) w hw; rwa [items_take] at h) (hT.at hw); rw [te2] at k; exact k : Calls Tryz.prog 13 #[.slice A xs.length c, .slice B2 (min l2.length xs.length) a2] w (Post w [] fun v L => ∃ O d, v = .tuple #[.slice O (min l2.length xs.length) d, .bool true] ∧ L = [OwnA 49 32 O (min l2.length xs.length) d (hcs (itemH xs (l2.take (min l2.length xs.length)) (min l2.length xs.length)))]))) ?_)
          rintro v L' ⟨U2, u2, rfl, rfl⟩
          refine S.q rfl rfl (Qt.move (by conv => lhs; whnf)) ?_
          refine S.q rfl rfl (Qt.extract rfl rfl) ?_
          refine S.q rfl rfl (Qt.extract rfl rfl) ?_
          refine S.q rfl rfl (Qt.assign (by conv => lhs; whnf)) ?_
          refine S.q rfl rfl (Qt.assign (by conv => lhs; whnf)) ?_
          refine S.nil ?_
          refine TC.seq ?_
          refine TC.seq ?_
          refine TC.region ?_
          refine S.q rfl rfl (Qt.move (by conv => lhs; whnf)) ?_
          refine S.q rfl rfl (Qt.not_f rfl) ?_
          refine S.q rfl rfl (Qt.move (by conv => lhs; whnf)) ?_
          refine S.pass rfl rfl ?_
          refine S.pass rfl rfl ?_
          refine S.q rfl rfl (Qt.pick_t rfl (by conv => lhs; whnf)) ?_
          refine S.q rfl rfl (Qt.move (by conv => lhs; whnf)) ?_
          refine S.pass rfl rfl ?_
          refine S.pass rfl rfl ?_
          refine S.pass rfl rfl ?_
          refine S.pass rfl rfl ?_
          refine S.pass rfl rfl ?_
          refine S.pass rfl rfl ?_
          refine S.pass rfl rfl ?_
          refine S.q rfl rfl (Qt.pick_t rfl (by conv => lhs; whnf)) ?_
          refine S.q rfl rfl (Qt.move (by conv => lhs; whnf)) ?_
          refine S.pass rfl rfl ?_
          refine S.pass rfl rfl ?_
          refine S.pass rfl rfl ?_
          refine S.pass rfl rfl ?_
          refine S.pass rfl rfl ?_
          refine S.pass rfl rfl ?_
          refine S.q rfl rfl (Qt.pick_t rfl (by conv => lhs; whnf)) ?_
          refine S.q rfl rfl (Qt.move (by conv => lhs; whnf)) ?_
          refine S.pass rfl rfl ?_
          refine S.pass rfl rfl ?_
          refine S.pass rfl rfl ?_
          refine S.pass rfl rfl ?_
          refine S.pass rfl rfl ?_
          refine S.q rfl rfl (Qt.pick_t rfl (by conv => lhs; whnf)) ?_
          refine S.q rfl rfl (Qt.move (by conv => lhs; whnf)) ?_
          refine S.pass rfl rfl ?_
          refine S.pass rfl rfl ?_
          refine S.pass rfl rfl ?_
          refine S.pass rfl rfl ?_
          refine S.q rfl rfl (Qt.pick_t rfl (by conv => lhs; whnf)) ?_
          refine S.q rfl rfl (Qt.move (by conv => lhs; whnf)) ?_
          refine S.pass rfl rfl ?_
          refine S.pass rfl rfl ?_
          refine S.pass rfl rfl ?_
          refine S.pass rfl rfl ?_
          refine S.pass rfl rfl ?_
          refine S.q rfl rfl (Qt.pick_t rfl (by conv => lhs; whnf)) ?_
          refine S.nil ?_
          refine S.if_t rfl ?_
          refine TC.seq ?_
          refine TC.region ?_
          refine S.q rfl rfl (Qt.assign (by conv => lhs; whnf)) ?_
          refine S.nil ?_
          refine TC.ret ?_
          refine finQ.ret (RVs.tmp (by conv => lhs; whnf) RVs.nil) (Sub.nil _) ?_
          exact ⟨rfl, rfl⟩
        · refine S.opS rfl rfl (OpV.con (Pre := []) (R := _) Tryz.ent13 rfl (List.Perm.refl _) (fun w hw => (by have k := leaves13_U E hEm hE0 A c xs B2 a2 (l2.take (min l2.length xs.length)) (by omega) (by omega) hi2 hl2 w hlow (Rd.ro hR w hw) (by have h := (Rd.take (Rd.ro hB2) ((min l2.length xs.length) * 50)) w hw; rwa [items_take] at h) (hT.at hw); rw [te2] at k; exact k : Calls Tryz.prog 13 #[.slice A xs.length c, .slice B2 (min l2.length xs.length) a2] w (Post w [] fun v L => ∃ O d, v = .tuple #[.slice O (min l2.length xs.length) d, .bool false] ∧ L = [OwnA 49 32 O (min l2.length xs.length) d (hcs (itemH xs (l2.take (min l2.length xs.length)) (min l2.length xs.length)))]))) ?_)
          rintro v L' ⟨U2, u2, rfl, rfl⟩
          refine S.q rfl rfl (Qt.move (by conv => lhs; whnf)) ?_
          refine S.q rfl rfl (Qt.extract rfl rfl) ?_
          refine S.q rfl rfl (Qt.extract rfl rfl) ?_
          refine S.q rfl rfl (Qt.assign (by conv => lhs; whnf)) ?_
          refine S.q rfl rfl (Qt.assign (by conv => lhs; whnf)) ?_
          refine S.nil ?_
          refine TC.seq ?_
          refine TC.seq ?_
          refine TC.region ?_
          refine S.q rfl rfl (Qt.move (by conv => lhs; whnf)) ?_
          refine S.q rfl rfl (Qt.not_f rfl) ?_
          refine S.q rfl rfl (Qt.move (by conv => lhs; whnf)) ?_
          refine S.pass rfl rfl ?_
          refine S.pass rfl rfl ?_
          refine S.q rfl rfl (Qt.pick_t rfl (by conv => lhs; whnf)) ?_
          refine S.q rfl rfl (Qt.move (by conv => lhs; whnf)) ?_
          refine S.pass rfl rfl ?_
          refine S.pass rfl rfl ?_
          refine S.pass rfl rfl ?_
          refine S.pass rfl rfl ?_
          refine S.pass rfl rfl ?_
          refine S.pass rfl rfl ?_
          refine S.pass rfl rfl ?_
          refine S.q rfl rfl (Qt.pick_t rfl (by conv => lhs; whnf)) ?_
          refine S.q rfl rfl (Qt.move (by conv => lhs; whnf)) ?_
          refine S.pass rfl rfl ?_
          refine S.pass rfl rfl ?_
          refine S.pass rfl rfl ?_
          refine S.pass rfl rfl ?_
          refine S.pass rfl rfl ?_
          refine S.pass rfl rfl ?_
          refine S.q rfl rfl (Qt.pick_t rfl (by conv => lhs; whnf)) ?_
          refine S.q rfl rfl (Qt.move (by conv => lhs; whnf)) ?_
          refine S.pass rfl rfl ?_
          refine S.pass rfl rfl ?_
          refine S.pass rfl rfl ?_
          refine S.pass rfl rfl ?_
          refine S.pass rfl rfl ?_
          refine S.q rfl rfl (Qt.pick_t rfl (by conv => lhs; whnf)) ?_
          refine S.q rfl rfl (Qt.move (by conv => lhs; whnf)) ?_
          refine S.pass rfl rfl ?_
          refine S.pass rfl rfl ?_
          refine S.pass rfl rfl ?_
          refine S.pass rfl rfl ?_
          refine S.q rfl rfl (Qt.pick_t rfl (by conv => lhs; whnf)) ?_
          refine S.q rfl rfl (Qt.move (by conv => lhs; whnf)) ?_
          refine S.pass rfl rfl ?_
          refine S.pass rfl rfl ?_
          refine S.pass rfl rfl ?_
          refine S.pass rfl rfl ?_
          refine S.pass rfl rfl ?_
          refine S.q rfl rfl (Qt.pick_t rfl (by conv => lhs; whnf)) ?_
          refine S.nil ?_
          refine S.if_t rfl ?_
          refine TC.seq ?_
          refine TC.region ?_
          refine S.q rfl rfl (Qt.assign (by conv => lhs; whnf)) ?_
          refine S.nil ?_
          refine TC.ret ?_
          refine finQ.ret (RVs.tmp (by conv => lhs; whnf) RVs.nil) (Sub.nil _) ?_
          exact ⟨rfl, rfl⟩
      · refine S.opS rfl rfl (OpV.con (Pre := []) (R := _) Tryz.ent13 rfl (List.Perm.refl _) (fun w hw => (by have k := leaves13_F E hEm hE0 A c xs B2 a2 (l2.take (min l2.length xs.length)) (by omega) (by omega) hi2 w hlow (Rd.ro hR w hw) (by have h := (Rd.take (Rd.ro hB2) ((min l2.length xs.length) * 50)) w hw; rwa [items_take] at h) (hT.at hw); rw [te2] at k; exact k : Calls Tryz.prog 13 #[.slice A xs.length c, .slice B2 (min l2.length xs.length) a2] w (Post w [] fun v L => v = .tuple #[.slice none 0 0, .bool false] ∧ L = []))) ?_)
        rintro v L' ⟨rfl, rfl⟩
        refine S.q rfl rfl (Qt.move (by conv => lhs; whnf)) ?_
        refine S.q rfl rfl (Qt.extract rfl rfl) ?_
        refine S.q rfl rfl (Qt.extract rfl rfl) ?_
        refine S.q rfl rfl (Qt.assign (by conv => lhs; whnf)) ?_
        refine S.q rfl rfl (Qt.assign (by conv => lhs; whnf)) ?_
        refine S.nil ?_
        refine TC.seq ?_
        refine TC.seq ?_
        refine TC.region ?_
        refine S.q rfl rfl (Qt.move (by conv => lhs; whnf)) ?_
        refine S.q rfl rfl (Qt.not_f rfl) ?_
        refine S.q rfl rfl (Qt.move (by conv => lhs; whnf)) ?_
        refine S.pass rfl rfl ?_
        refine S.pass rfl rfl ?_
        refine S.q rfl rfl (Qt.pick_t rfl (by conv => lhs; whnf)) ?_
        refine S.q rfl rfl (Qt.move (by conv => lhs; whnf)) ?_
        refine S.pass rfl rfl ?_
        refine S.pass rfl rfl ?_
        refine S.pass rfl rfl ?_
        refine S.pass rfl rfl ?_
        refine S.pass rfl rfl ?_
        refine S.pass rfl rfl ?_
        refine S.pass rfl rfl ?_
        refine S.q rfl rfl (Qt.pick_t rfl (by conv => lhs; whnf)) ?_
        refine S.q rfl rfl (Qt.move (by conv => lhs; whnf)) ?_
        refine S.pass rfl rfl ?_
        refine S.pass rfl rfl ?_
        refine S.pass rfl rfl ?_
        refine S.pass rfl rfl ?_
        refine S.pass rfl rfl ?_
        refine S.pass rfl rfl ?_
        refine S.q rfl rfl (Qt.pick_t rfl (by conv => lhs; whnf)) ?_
        refine S.q rfl rfl (Qt.move (by conv => lhs; whnf)) ?_
        refine S.pass rfl rfl ?_
        refine S.pass rfl rfl ?_
        refine S.pass rfl rfl ?_
        refine S.pass rfl rfl ?_
        refine S.pass rfl rfl ?_
        refine S.q rfl rfl (Qt.pick_t rfl (by conv => lhs; whnf)) ?_
        refine S.q rfl rfl (Qt.move (by conv => lhs; whnf)) ?_
        refine S.pass rfl rfl ?_
        refine S.pass rfl rfl ?_
        refine S.pass rfl rfl ?_
        refine S.pass rfl rfl ?_
        refine S.q rfl rfl (Qt.pick_t rfl (by conv => lhs; whnf)) ?_
        refine S.q rfl rfl (Qt.move (by conv => lhs; whnf)) ?_
        refine S.pass rfl rfl ?_
        refine S.pass rfl rfl ?_
        refine S.pass rfl rfl ?_
        refine S.pass rfl rfl ?_
        refine S.pass rfl rfl ?_
        refine S.q rfl rfl (Qt.pick_t rfl (by conv => lhs; whnf)) ?_
        refine S.nil ?_
        refine S.if_t rfl ?_
        refine TC.seq ?_
        refine TC.region ?_
        refine S.q rfl rfl (Qt.assign (by conv => lhs; whnf)) ?_
        refine S.nil ?_
        refine TC.ret ?_
        refine finQ.ret (RVs.tmp (by conv => lhs; whnf) RVs.nil) (Sub.nil _) ?_
        exact ⟨rfl, rfl⟩
  · refine S.opS rfl rfl (OpV.con (Pre := []) (R := _) Tryz.ent13 rfl (List.Perm.refl _) (fun w hw => (by have k := leaves13_F E hEm hE0 A c xs B1 a1 (l1.take (min l1.length xs.length)) (by omega) (by omega) hi1 w hlow (Rd.ro hR w hw) (by have h := (Rd.take (Rd.ro hB1) ((min l1.length xs.length) * 50)) w hw; rwa [items_take] at h) (hT.at hw); rw [te1] at k; exact k : Calls Tryz.prog 13 #[.slice A xs.length c, .slice B1 (min l1.length xs.length) a1] w (Post w [] fun v L => v = .tuple #[.slice none 0 0, .bool false] ∧ L = []))) ?_)
    rintro v L' ⟨rfl, rfl⟩
    refine S.q rfl rfl (Qt.move (by conv => lhs; whnf)) ?_
    refine S.q rfl rfl (Qt.extract rfl rfl) ?_
    refine S.q rfl rfl (Qt.extract rfl rfl) ?_
    refine S.q rfl rfl (Qt.assign (by conv => lhs; whnf)) ?_
    refine S.q rfl rfl (Qt.assign (by conv => lhs; whnf)) ?_
    refine S.nil ?_
    refine TC.seq ?_
    refine TC.region ?_
    refine S.q rfl rfl (Qt.move (by conv => lhs; whnf)) ?_
    refine S.q rfl rfl (Qt.indexB (i := 1) Tryz.underlying24 Tryz.cells23 rfl rfl (by omega)) ?_
    refine S.q rfl rfl (Qt.load rfl (Ld.one (v := .slice B2 l2.length a2) (Has.at 6 rfl) Tryz.one23 rfl)) ?_
    refine S.q rfl rfl (Qt.indexB (i := 1) Tryz.underlying24 Tryz.cells23 rfl rfl (by omega)) ?_
    refine S.q rfl rfl (Qt.load rfl (Ld.one (v := .slice B2 l2.length a2) (Has.at 6 rfl) Tryz.one23 rfl)) ?_
    refine S.q rfl rfl (Qt.len_slice Tryz.underlying23 rfl) ?_
    refine S.q rfl rfl (Qt.move (by conv => lhs; whnf)) ?_
    refine S.q rfl rfl (Qt.len_slice Tryz.underlying22 rfl) ?_
    refine S.q rfl rfl (Qt.minN rfl rfl) ?_
    refine S.q rfl rfl (Qt.slice_hi Tryz.underlying23 Tryz.cells138 rfl rfl (by omega)) ?_
    by_cases hi2 : inR xs (l2.take (min l2.length xs.length)) (l2.take (min l2.length xs.length)).length
    · by_cases hl2 : xs.length = (l2.take (min l2.length xs.length)).length
      · refine S.opS rfl rfl (OpV.con (Pre := []) (R := _) Tryz.ent13 rfl (List.Perm.refl _) (fun w hw => (by have k := leaves13_T E hEm hE0 A c xs B2 a2 (l2.take (min l2.length xs.length)) (by omega) (by omega) hi2 hl2 w hlow (Rd.ro hR w hw) (by have h := (Rd.take (Rd.ro hB2) ((min l2.length xs.length) * 50)) w hw; rwa [items_take] at h) (hT.at hw); rw [te2] at k; exact k : Calls Tryz.prog 13 #[.slice A xs.length c, .slice B2 (min l2.length xs.length) a2] w (Post w [] fun v L => ∃ O d, v = .tuple #[.slice O (min l2.length xs.length) d, .bool true] ∧ L = [OwnA 49 32 O (min l2.length xs.length) d (hcs (itemH xs (l2.take (min l2.length xs.length)) (min l2.length xs.length)))]))) ?_)
        rintro v L' ⟨U2, u2, rfl, rfl⟩
        refine S.q rfl rfl (Qt.move (by conv => lhs; whnf)) ?_
        refine S.q rfl rfl (Qt.extract rfl rfl) ?_
        refine S.q rfl rfl (Qt.extract rfl rfl) ?_
        refine S.q rfl rfl (Qt.assign (by conv => lhs; whnf)) ?_
        refine S.q rfl rfl (Qt.assign (by conv => lhs; whnf)) ?_
        refine S.nil ?_
        refine TC.seq ?_
        refine TC.seq ?_
        refine TC.region ?_
        refine S.q rfl rfl (Qt.move (by conv => lhs; whnf)) ?_
        refine S.q rfl rfl (Qt.not_f rfl) ?_
        refine S.q rfl rfl (Qt.move (by conv => lhs; whnf)) ?_
        refine S.pass rfl rfl ?_
        refine S.pass rfl rfl ?_
        refine S.q rfl rfl (Qt.pick_t rfl (by conv => lhs; whnf)) ?_
        refine S.q rfl rfl (Qt.move (by conv => lhs; whnf)) ?_
        refine S.pass rfl rfl ?_
        refine S.pass rfl rfl ?_
        refine S.pass rfl rfl ?_
        refine S.pass rfl rfl ?_
        refine S.pass rfl rfl ?_
        refine S.pass rfl rfl ?_
        refine S.pass rfl rfl ?_
        refine S.q rfl rfl (Qt.pick_t rfl (by conv => lhs; whnf)) ?_
        refine S.q rfl rfl (Qt.move (by conv => lhs; whnf)) ?_
        refine S.pass rfl rfl ?_
        refine S.pass rfl rfl ?_
        refine S.pass rfl rfl ?_
        refine S.pass rfl rfl ?_
        refine S.pass rfl rfl ?_
        refine S.pass rfl rfl ?_
        refine S.q rfl rfl (Qt.pick_t rfl (by conv => lhs; whnf)) ?_
        refine S.q rfl rfl (Qt.move (by conv => lhs; whnf)) ?_
        refine S.pass rfl rfl ?_
        refine S.pass rfl rfl ?_
        refine S.pass rfl rfl ?_
        refine S.pass rfl rfl ?_
        refine S.pass rfl rfl ?_
        refine S.q rfl rfl (Qt.pick_t rfl (by conv => lhs; whnf)) ?_
        refine S.q rfl rfl (Qt.move (by conv => lhs; whnf)) ?_
        refine S.pass rfl rfl ?_
        refine S.pass rfl rfl ?_
        refine S.pass rfl rfl ?_
        refine S.pass rfl rfl ?_
        refine S.q rfl rfl (Qt.pick_t rfl (by conv => lhs; whnf)) ?_
        refine S.q rfl rfl (Qt.move (by conv => lhs; whnf)) ?_
        refine S.pass rfl rfl ?_
        refine S.pass rfl rfl ?_
        refine S.pass rfl rfl ?_
        refine S.pass rfl rfl ?_
        refine S.pass rfl rfl ?_
        refine S.q rfl rfl (Qt.pick_t rfl (by conv => lhs; whnf)) ?_
        refine S.nil ?_
        refine S.if_t rfl ?_
        refine TC.seq ?_
        refine TC.region ?_
        refine S.q rfl rfl (Qt.assign (by conv => lhs; whnf)) ?_
        refine S.nil ?_
        refine TC.ret ?_
        refine finQ.ret (RVs.tmp (by conv => lhs; whnf) RVs.nil) (Sub.nil _) ?_
        exact ⟨rfl, rfl⟩
      · refine S.opS rfl rfl (OpV.con (Pre := []) (R := _) Tryz.ent13 rfl (List.Perm.refl _) (fun w hw => (by have k := leaves13_U E hEm hE0 A c xs B2 a2 (l2.take (min l2.length xs.length)) (by omega) (by omega) hi2 hl2 w hlow (Rd.ro hR w hw) (by have h := (Rd.take (Rd.ro hB2) ((min l2.length xs.length) * 50)) w hw; rwa [items_take] at h) (hT.at hw); rw [te2] at k; exact k : Calls Tryz.prog 13 #[.slice A xs.length c, .slice B2 (min l2.length xs.length) a2] w (Post w [] fun v L => ∃ O d, v = .tuple #[.slice O (min l2.length xs.length) d, .bool false] ∧ L = [OwnA 49 32 O (min l2.length xs.length) d (hcs (itemH xs (l2.take (min l2.length xs.length)) (min l2.length xs.length)))]))) ?_)
        rintro v L' ⟨U2, u2, rfl, rfl⟩
        refine S.q rfl rfl (Qt.move (by conv => lhs; whnf)) ?_
        refine S.q rfl rfl (Qt.extract rfl rfl) ?_
        refine S.q rfl rfl (Qt.extract rfl rfl) ?_
        refine S.q rfl rfl (Qt.assign (by conv => lhs; whnf)) ?_
        refine S.q rfl rfl (Qt.assign (by conv => lhs; whnf)) ?_
        refine S.nil ?_
        refine TC.seq ?_
        refine TC.seq ?_
        refine TC.region ?_
        refine S.q rfl rfl (Qt.move (by conv => lhs; whnf)) ?_
        refine S.q rfl rfl (Qt.not_f rfl) ?_
        refine S.q rfl rfl (Qt.move (by conv => lhs; whnf)) ?_
        refine S.pass rfl rfl ?_
        refine S.pass rfl rfl ?_
        refine S.q rfl rfl (Qt.pick_t rfl (by conv => lhs; whnf)) ?_
        refine S.q rfl rfl (Qt.move (by conv => lhs; whnf)) ?_
        refine S.pass rfl rfl ?_
        refine S.pass rfl rfl ?_
        refine S.pass rfl rfl ?_
        refine S.pass rfl rfl ?_
        refine S.pass rfl rfl ?_
        refine S.pass rfl rfl ?_
        refine S.pass rfl rfl ?_
        refine S.q rfl rfl (Qt.pick_t rfl (by conv => lhs; whnf)) ?_
        refine S.q rfl rfl (Qt.move (by conv => lhs; whnf)) ?_
        refine S.pass rfl rfl ?_
        refine S.pass rfl rfl ?_
        refine S.pass rfl rfl ?_
        refine S.pass rfl rfl ?_
        refine S.pass rfl rfl ?_
        refine S.pass rfl rfl ?_
        refine S.q rfl rfl (Qt.pick_t rfl (by conv => lhs; whnf)) ?_
        refine S.q rfl rfl (Qt.move (by conv => lhs; whnf)) ?_
        refine S.pass rfl rfl ?_
        refine S.pass rfl rfl ?_
        refine S.pass rfl rfl ?_
        refine S.pass rfl rfl ?_
        refine S.pass rfl rfl ?_
        refine S.q rfl rfl (Qt.pick_t rfl (by conv => lhs; whnf)) ?_
        refine S.q rfl rfl (Qt.move (by conv => lhs; whnf)) ?_
        refine S.pass rfl rfl ?_
        refine S.pass rfl rfl ?_
        refine S.pass rfl rfl ?_
        refine S.pass rfl rfl ?_
        refine S.q rfl rfl (Qt.pick_t rfl (by conv => lhs; whnf)) ?_
        refine S.q rfl rfl (Qt.move (by conv => lhs; whnf)) ?_
        refine S.pass rfl rfl ?_
        refine S.pass rfl rfl ?_
        refine S.pass rfl rfl ?_
        refine S.pass rfl rfl ?_
        refine S.pass rfl rfl ?_
        refine S.q rfl rfl (Qt.pick_t rfl (by conv => lhs; whnf)) ?_
        refine S.nil ?_
        refine S.if_t rfl ?_
        refine TC.seq ?_
        refine TC.region ?_
        refine S.q rfl rfl (Qt.assign (by conv => lhs; whnf)) ?_
        refine S.nil ?_
        refine TC.ret ?_
        refine finQ.ret (RVs.tmp (by conv => lhs; whnf) RVs.nil) (Sub.nil _) ?_
        exact ⟨rfl, rfl⟩
    · refine S.opS rfl rfl (OpV.con (Pre := []) (R := _) Tryz.ent13 rfl (List.Perm.refl _) (fun w hw => (by have k := leaves13_F E hEm hE0 A c xs B2 a2 (l2.take (min l2.length xs.length)) (by omega) (by omega) hi2 w hlow (Rd.ro hR w hw) (by have h := (Rd.take (Rd.ro hB2) ((min l2.length xs.length) * 50)) w hw; rwa [items_take] at h) (hT.at hw); rw [te2] at k; exact k : Calls Tryz.prog 13 #[.slice A xs.length c, .slice B2 (min l2.length xs.length) a2] w (Post w [] fun v L => v = .tuple #[.slice none 0 0, .bool false] ∧ L = []))) ?_)
      rintro v L' ⟨rfl, rfl⟩
      refine S.q rfl rfl (Qt.move (by conv => lhs; whnf)) ?_
      refine S.q rfl rfl (Qt.extract rfl rfl) ?_
      refine S.q rfl rfl (Qt.extract rfl rfl) ?_
      refine S.q rfl rfl (Qt.assign (by conv => lhs; whnf)) ?_
      refine S.q rfl rfl (Qt.assign (by conv => lhs; whnf)) ?_
      refine S.nil ?_
      refine TC.seq ?_
      refine TC.seq ?_
      refine TC.region ?_
      refine S.q rfl rfl (Qt.move (by conv => lhs; whnf)) ?_
      refine S.q rfl rfl (Qt.not_f rfl) ?_
      refine S.q rfl rfl (Qt.move (by conv => lhs; whnf)) ?_
      refine S.pass rfl rfl ?_
      refine S.pass rfl rfl ?_
      refine S.q rfl rfl (Qt.pick_t rfl (by conv => lhs; whnf)) ?_
      refine S.q rfl rfl (Qt.move (by conv => lhs; whnf)) ?_
      refine S.pass rfl rfl ?_
      refine S.pass rfl rfl ?_
      refine S.pass rfl rfl ?_
      refine S.pass rfl rfl ?_
      refine S.pass rfl rfl ?_
      refine S.pass rfl rfl ?_
      refine S.pass rfl rfl ?_
      refine S.q rfl rfl (Qt.pick_t rfl (by conv => lhs; whnf)) ?_
      refine S.q rfl rfl (Qt.move (by conv => lhs; whnf)) ?_
      refine S.pass rfl rfl ?_
      refine S.pass rfl rfl ?_
      refine S.pass rfl rfl ?_
      refine S.pass rfl rfl ?_
      refine S.pass rfl rfl ?_
      refine S.pass rfl rfl ?_
      refine S.q rfl rfl (Qt.pick_t rfl (by conv => lhs; whnf)) ?_
      refine S.q rfl rfl (Qt.move (by conv => lhs; whnf)) ?_
      refine S.pass rfl rfl ?_
      refine S.pass rfl rfl ?_
      refine S.pass rfl rfl ?_
      refine S.pass rfl rfl ?_
      refine S.pass rfl rfl ?_
      refine S.q rfl rfl (Qt.pick_t rfl (by conv => lhs; whnf)) ?_
      refine S.q rfl rfl (Qt.move (by conv => lhs; whnf)) ?_
      refine S.pass rfl rfl ?_
      refine S.pass rfl rfl ?_
      refine S.pass rfl rfl ?_
      refine S.pass rfl rfl ?_
      refine S.q rfl rfl (Qt.pick_t rfl (by conv => lhs; whnf)) ?_
      refine S.q rfl rfl (Qt.move (by conv => lhs; whnf)) ?_
      refine S.pass rfl rfl ?_
      refine S.pass rfl rfl ?_
      refine S.pass rfl rfl ?_
      refine S.pass rfl rfl ?_
      refine S.pass rfl rfl ?_
      refine S.q rfl rfl (Qt.pick_t rfl (by conv => lhs; whnf)) ?_
      refine S.nil ?_
      refine S.if_t rfl ?_
      refine TC.seq ?_
      refine TC.region ?_
      refine S.q rfl rfl (Qt.assign (by conv => lhs; whnf)) ?_
      refine S.nil ?_
      refine TC.ret ?_
      refine finQ.ret (RVs.tmp (by conv => lhs; whnf) RVs.nil) (Sub.nil _) ?_
      exact ⟨rfl, rfl⟩
theorem extractItems_R (A : Option Addr) (c : Nat) (xs : List Nat) (B1 : Option Addr) (a1 : Nat) (l1 : List Go.E.Item) (B2 : Option Addr) (a2 : Nat) (l2 : List Go.E.Item) (hb1 : l1.length ≤ a1) (hb2 : l2.length ≤ a2) (w0 : World) (hlow : ∀ x ∈ xs, x < 18446744073709551616) (hR : Ro w0 [] (SlA A (u64s xs))) (hB1 : Ro w0 [] (SlA B1 (l1.flatMap itemL))) (hB2 : Ro w0 [] (SlA B2 (l2.flatMap itemL))) (hT : Tabs 3 1 w0 []) (hT2 : Tabs 2 0 w0 []) : Calls Tryz.prog 3 #[.slice A xs.length c, .agg #[.slice B1 l1.length a1, .slice B2 l2.length a2]] w0 (Post w0 [] fun v L => v = .bool true ∧ L = []) := by
  have hEm : ∀ w, Tabs 3 1 w [] → Calls Tryz.prog 55 #[] w (Ret w (.agg (hcs (emptL emptyH)).toArray)) := fun w h => empties_R w h
  by_cases hg : 60 < xs.length ∨ 60 < l1.length ∨ 60 < l2.length
  · exact law3_walkE emptyH hEm rfl A c xs B1 a1 l1 B2 a2 l2 hb1 hb2 hg w0 hT
  · exact law3_walk emptyH hEm rfl A c xs B1 a1 l1 B2 a2 l2 hb1 hb2 (by omega) (by omega) (by omega) w0 hlow hR hB1 hB2 hT hT2

end Go.Proofs.YtgdjcmehlhebdaaGreatDoor
