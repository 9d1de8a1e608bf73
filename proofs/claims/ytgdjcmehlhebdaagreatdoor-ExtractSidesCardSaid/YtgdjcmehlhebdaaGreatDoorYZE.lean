/-
  Walks: finds among pairs, pairs that are the same. Printed by a program of ours.
-/
import Derived.Test.YtgdjcmehlhebdaaGreatDoorY8
import Derived.Test.YtgdjcmehlhebdaaGreatDoorO1
namespace Go.Proofs.YtgdjcmehlhebdaaGreatDoor
open Go.E
set_option linter.unusedVariables false
set_option maxRecDepth 4000
set_option maxHeartbeats 400000 in
theorem idxP_walk (A : Option Addr) (c : Nat) (ps : List Px) (hn : ps.length ≤ 16384) (w0 : World) (hR : Ro w0 [] (SlA A (ps.flatMap pxL))) (hP : PxRo w0 [] ps) (hl : PxLe ps) (hT : Tabs 3 1 w0 []) :
    Calls Tryz.prog 110 #[.slice A ps.length c, .func (.func 50) #[] #[]] w0 (Post w0 [] fun v L => v = .int .i64 (plcI (ps.map pxT)) ∧ L = []) := by
  refine Calls.of (L := []) (n := 19) (rs := [.tmp 4]) Tryz.func110 rfl rfl rfl (Nat.le_of_ble_eq_true rfl) (Sat.nil _) ?_
  refine TC.seq ?_
  refine TC.region ?_
  refine S.as ?_
  refine S.nil ?_
  refine TC.seq ?_
  refine TC.seq ?_
  refine TC.region ?_
  refine S.mv ?_
  refine S.q rfl rfl (Qt.len_slice Tryz.underlying26 rfl) ?_
  refine S.mv ?_
  refine S.nil ?_
  refine TC.block ?_
  refine TC.loop (γ := Nat) [9, 10, 5, 11, 12, 13, 14, 15, 16, 17, 4, 18, 8] (fun k => [(8, .int .i64 (k : Int))]) (fun _ => _) (fun k => k ≤ ps.length ∧ ∀ i, i < k → isF ((ps.map pxT).getD i pr0) = false) (fun k => ps.length - k) (0)
    ⟨Nat.zero_le _, fun i h => absurd h (Nat.not_lt_zero _)⟩ ⟨Out.refl _ _, (List.forall_mem_cons.2 ⟨rfl, (fun _ h => nomatch h)⟩)⟩ (Sub.refl _) ?_
  rintro k u ⟨hk, hq⟩
  refine TC.seq ?_
  refine TC.region ?_
  refine S.dec rfl rfl (Qt.lt rfl rfl) (fun h9 => ?_) (fun h9 => ?_)
  · refine S.nil ?_
    refine TC.seq ?_
    refine S.if_t rfl ?_
    refine TC.skip ?_
    refine TC.seq ?_
    refine TC.block ?_
    refine TC.seq ?_
    refine TC.region ?_
    refine S.mv ?_
    refine S.as ?_
    refine S.nil ?_
    refine TC.seq ?_
    refine TC.region ?_
    refine S.mv ?_
    refine S.mv ?_
    refine S.mv ?_
    refine S.q rfl rfl (Qt.index Tryz.underlying26 Tryz.cells114 rfl rfl (by omega) (Has.ro hR) (by rw [pxL_len]; omega)) ?_
    refine S.q rfl rfl (Qt.load rfl (Ld.slr (vs := pxL (ps.getD k px0)) (Has.ro hR) Tryz.row114 Tryz.cells114 (Nat.zero_lt_succ _) (pxL_at (by omega) rfl))) ?_
    by_cases hf : isF (pxT (ps.getD k px0)) = true
    · refine S.opS rfl rfl (OpV.con0 Tryz.ent50 rfl (fun w hw => (by have h := Calls.ret (is25_walk (ps.getD k px0).1.1 (ps.getD k px0).1.2.1 (ps.getD k px0).1.2.2 (ps.getD k px0).2.1 (ps.getD k px0).2.2.1 (ps.getD k px0).2.2.2 w (Rd.ro (hP _ (px_mem (by omega))).1 w hw) (Rd.ro (hP _ (px_mem (by omega))).2 w hw) (hl _ (px_mem (by omega))).1 (hl _ (px_mem (by omega))).2 (hT.at hw)); rw [show isF ((ps.getD k px0).1.2.2, (ps.getD k px0).2.2.2) = true from hf] at h; exact h : Calls Tryz.prog 50 #[.agg (pxL (ps.getD k px0)).toArray] w (Ret w (.bool true)))) ?_)
      refine S.nil ?_
      refine S.if_t rfl ?_
      refine TC.seq ?_
      refine TC.region ?_
      refine S.mv ?_
      refine S.as ?_
      refine S.nil ?_
      refine TC.ret ?_
      refine finQ.ret (RVs.tmp (by conv => lhs; whnf) RVs.nil) (Sub.nil _) ?_
      have hp := plc_at (l := (ps.map pxT)) (k := k) (by rw [List.length_map]; omega) hq (by rw [px_getD (by omega)]; exact hf)
      exact ⟨by rw [plcI_T (by rw [hp, List.length_map]; omega), hp]; rfl, rfl⟩
    · refine S.opS rfl rfl (OpV.con0 Tryz.ent50 rfl (fun w hw => (by have h := Calls.ret (is25_walk (ps.getD k px0).1.1 (ps.getD k px0).1.2.1 (ps.getD k px0).1.2.2 (ps.getD k px0).2.1 (ps.getD k px0).2.2.1 (ps.getD k px0).2.2.2 w (Rd.ro (hP _ (px_mem (by omega))).1 w hw) (Rd.ro (hP _ (px_mem (by omega))).2 w hw) (hl _ (px_mem (by omega))).1 (hl _ (px_mem (by omega))).2 (hT.at hw)); rw [show isF ((ps.getD k px0).1.2.2, (ps.getD k px0).2.2.2) = false from (Bool.eq_false_iff.2 hf)] at h; exact h : Calls Tryz.prog 50 #[.agg (pxL (ps.getD k px0)).toArray] w (Ret w (.bool false)))) ?_)
      refine S.nil ?_
      refine S.if_f rfl ?_
      refine TC.skip ?_
      refine TC.region ?_
      refine S.q rfl rfl (Qt.add (b := 1) rfl rfl (by simp only [kmax]; omega)) ?_
      refine S.mv ?_
      refine S.nil ?_
      refine ⟨k + 1, ?_, ?_, ⟨?_, (List.forall_mem_cons.2 ⟨rfl, (fun _ h => nomatch h)⟩)⟩, Sub.refl _⟩
      · exact ⟨by show _ ≤ _; omega, fun i hi => (Nat.lt_or_ge i k).elim (hq i) (fun h => by (obtain rfl : i = k := by omega); rw [px_getD (by omega)]; exact Bool.eq_false_iff.2 hf)⟩
      · show _ < _; dsimp only; omega
      repeat (first | exact Out.refl _ _ | refine Out.put rfl ?_ | refine Out.puts rfl ?_ | refine Out.scr ?_ | refine Out.scr' rfl ?_)
  · refine S.nil ?_
    refine TC.seq ?_
    refine S.if_f rfl ?_
    refine TC.exit ?_
    refine TC.seq ?_
    refine TC.region ?_
    refine S.as ?_
    refine S.nil ?_
    refine TC.ret ?_
    refine finQ.ret (RVs.tmp (by conv => lhs; whnf) RVs.nil) (Sub.nil _) ?_
    have hp := plc_end (l := (ps.map pxT)) (fun i hi => hq i (by rw [List.length_map] at hi; omega))
    exact ⟨by rw [plcI_F (by rw [hp]; exact Nat.lt_irrefl _)]; rfl, rfl⟩
set_option maxHeartbeats 400000 in
theorem place_walk (A : Option Addr) (c : Nat) (ps : List Px) (hn : ps.length ≤ 16384) (w0 : World) (hR : Ro w0 [] (SlA A (ps.flatMap pxL))) (hP : PxRo w0 [] ps) (hl : PxLe ps) (hT : Tabs 2 0 w0 []) :
    Calls Tryz.prog 115 #[.slice A ps.length c] w0 (Post w0 [] fun v L => v = .int .i64 (plcI (ps.map pxT)) ∧ L = []) := by
  refine Calls.of (L := []) (n := 16) (rs := [.tmp 2]) Tryz.func115 rfl rfl rfl (Nat.le_of_ble_eq_true rfl) (Sat.nil _) ?_
  refine TC.seq ?_
  refine TC.region ?_
  refine S.as ?_
  refine S.nil ?_
  refine TC.seq ?_
  refine TC.seq ?_
  refine TC.region ?_
  refine S.as ?_
  refine S.nil ?_
  refine TC.block ?_
  refine TC.loop (γ := Nat) [4, 5, 6, 7, 10, 11, 12, 13, 14, 15, 2, 8, 9, 3] (fun k => [(3, .int .i64 (k : Int))]) (fun _ => _) (fun k => k ≤ ps.length ∧ ∀ i, i < k → isF ((ps.map pxT).getD i pr0) = false) (fun k => ps.length - k) (0)
    ⟨Nat.zero_le _, fun i h => absurd h (Nat.not_lt_zero _)⟩ ⟨Out.refl _ _, (List.forall_mem_cons.2 ⟨rfl, (fun _ h => nomatch h)⟩)⟩ (Sub.refl _) ?_
  rintro k u ⟨hk, hq⟩
  refine TC.seq ?_
  refine TC.seq ?_
  refine TC.region ?_
  refine S.mv ?_
  refine S.mv ?_
  refine S.q rfl rfl (Qt.len_slice Tryz.underlying29 rfl) ?_
  refine S.dec rfl rfl (Qt.lt rfl rfl) (fun h7 => ?_) (fun h7 => ?_)
  · refine S.nil ?_
    refine S.if_t rfl ?_
    refine TC.skip ?_
    refine TC.seq ?_
    refine TC.block ?_
    refine TC.seq ?_
    refine TC.region ?_
    refine S.mv ?_
    refine S.mv ?_
    refine S.q rfl rfl (Qt.index Tryz.underlying29 Tryz.cells115 rfl rfl (by omega) (Has.ro hR) (by rw [pxL_len]; omega)) ?_
    refine S.q rfl rfl (Qt.load rfl (Ld.slr (vs := pxL (ps.getD k px0)) (Has.ro hR) Tryz.row115 Tryz.cells115 (Nat.zero_lt_succ _) (pxL_at (by omega) rfl))) ?_
    by_cases hf : isF (pxT (ps.getD k px0)) = true
    · refine S.opS rfl rfl (OpV.con0 Tryz.ent51 rfl (fun w hw => (by have h := Calls.ret (is26_walk (ps.getD k px0).1.1 (ps.getD k px0).1.2.1 (ps.getD k px0).1.2.2 (ps.getD k px0).2.1 (ps.getD k px0).2.2.1 (ps.getD k px0).2.2.2 w (Rd.ro (hP _ (px_mem (by omega))).1 w hw) (Rd.ro (hP _ (px_mem (by omega))).2 w hw) (hl _ (px_mem (by omega))).1 (hl _ (px_mem (by omega))).2 (hT.at hw)); rw [show isF ((ps.getD k px0).1.2.2, (ps.getD k px0).2.2.2) = true from hf] at h; exact h : Calls Tryz.prog 51 #[.agg (pxL (ps.getD k px0)).toArray] w (Ret w (.bool true)))) ?_)
      refine S.nil ?_
      refine S.if_t rfl ?_
      refine TC.seq ?_
      refine TC.region ?_
      refine S.mv ?_
      refine S.as ?_
      refine S.nil ?_
      refine TC.ret ?_
      refine finQ.ret (RVs.tmp (by conv => lhs; whnf) RVs.nil) (Sub.nil _) ?_
      have hp := plc_at (l := (ps.map pxT)) (k := k) (by rw [List.length_map]; omega) hq (by rw [px_getD (by omega)]; exact hf)
      exact ⟨by rw [plcI_T (by rw [hp, List.length_map]; omega), hp]; rfl, rfl⟩
    · refine S.opS rfl rfl (OpV.con0 Tryz.ent51 rfl (fun w hw => (by have h := Calls.ret (is26_walk (ps.getD k px0).1.1 (ps.getD k px0).1.2.1 (ps.getD k px0).1.2.2 (ps.getD k px0).2.1 (ps.getD k px0).2.2.1 (ps.getD k px0).2.2.2 w (Rd.ro (hP _ (px_mem (by omega))).1 w hw) (Rd.ro (hP _ (px_mem (by omega))).2 w hw) (hl _ (px_mem (by omega))).1 (hl _ (px_mem (by omega))).2 (hT.at hw)); rw [show isF ((ps.getD k px0).1.2.2, (ps.getD k px0).2.2.2) = false from (Bool.eq_false_iff.2 hf)] at h; exact h : Calls Tryz.prog 51 #[.agg (pxL (ps.getD k px0)).toArray] w (Ret w (.bool false)))) ?_)
      refine S.nil ?_
      refine S.if_f rfl ?_
      refine TC.skip ?_
      refine TC.region ?_
      refine S.mv ?_
      refine S.q rfl rfl (Qt.add (b := 1) rfl rfl (by simp only [kmax]; omega)) ?_
      refine S.as ?_
      refine S.nil ?_
      refine ⟨k + 1, ?_, ?_, ⟨?_, (List.forall_mem_cons.2 ⟨rfl, (fun _ h => nomatch h)⟩)⟩, Sub.refl _⟩
      · exact ⟨by show _ ≤ _; omega, fun i hi => (Nat.lt_or_ge i k).elim (hq i) (fun h => by (obtain rfl : i = k := by omega); rw [px_getD (by omega)]; exact Bool.eq_false_iff.2 hf)⟩
      · show _ < _; dsimp only; omega
      repeat (first | exact Out.refl _ _ | refine Out.put rfl ?_ | refine Out.puts rfl ?_ | refine Out.scr ?_ | refine Out.scr' rfl ?_)
  · refine S.nil ?_
    refine S.if_f rfl ?_
    refine TC.exit ?_
    refine TC.seq ?_
    refine TC.region ?_
    refine S.as ?_
    refine S.nil ?_
    refine TC.ret ?_
    refine finQ.ret (RVs.tmp (by conv => lhs; whnf) RVs.nil) (Sub.nil _) ?_
    have hp := plc_end (l := (ps.map pxT)) (fun i hi => hq i (by rw [List.length_map] at hi; omega))
    exact ⟨by rw [plcI_F (by rw [hp]; exact Nat.lt_irrefl _)]; rfl, rfl⟩
theorem idxP_T (A : Option Addr) (c : Nat) (ps : List Px) (hn : ps.length ≤ 16384) (hp : plc (ps.map pxT) < ps.length) (w0 : World) (hR : Ro w0 [] (SlA A (ps.flatMap pxL))) (hP : PxRo w0 [] ps) (hl : PxLe ps) (hT : Tabs 3 1 w0 []) : Calls Tryz.prog 110 #[.slice A ps.length c, .func (.func 50) #[] #[]] w0 (Ret w0 (.int .i64 ((plc (ps.map pxT) : Nat) : Int))) := by
  have h := Calls.ret (idxP_walk A c ps hn w0 hR hP hl hT)
  rwa [plcI_T (by rw [List.length_map]; exact hp)] at h
theorem idxP_F (A : Option Addr) (c : Nat) (ps : List Px) (hn : ps.length ≤ 16384) (hp : ¬ plc (ps.map pxT) < ps.length) (w0 : World) (hR : Ro w0 [] (SlA A (ps.flatMap pxL))) (hP : PxRo w0 [] ps) (hl : PxLe ps) (hT : Tabs 3 1 w0 []) : Calls Tryz.prog 110 #[.slice A ps.length c, .func (.func 50) #[] #[]] w0 (Ret w0 (.int .i64 (-1))) := by
  have h := Calls.ret (idxP_walk A c ps hn w0 hR hP hl hT)
  rwa [plcI_F (by rw [List.length_map]; exact hp)] at h
theorem place_T (A : Option Addr) (c : Nat) (ps : List Px) (hn : ps.length ≤ 16384) (hp : plc (ps.map pxT) < ps.length) (w0 : World) (hR : Ro w0 [] (SlA A (ps.flatMap pxL))) (hP : PxRo w0 [] ps) (hl : PxLe ps) (hT : Tabs 2 0 w0 []) : Calls Tryz.prog 115 #[.slice A ps.length c] w0 (Ret w0 (.int .i64 ((plc (ps.map pxT) : Nat) : Int))) := by
  have h := Calls.ret (place_walk A c ps hn w0 hR hP hl hT)
  rwa [plcI_T (by rw [List.length_map]; exact hp)] at h
theorem place_F (A : Option Addr) (c : Nat) (ps : List Px) (hn : ps.length ≤ 16384) (hp : ¬ plc (ps.map pxT) < ps.length) (w0 : World) (hR : Ro w0 [] (SlA A (ps.flatMap pxL))) (hP : PxRo w0 [] ps) (hl : PxLe ps) (hT : Tabs 2 0 w0 []) : Calls Tryz.prog 115 #[.slice A ps.length c] w0 (Ret w0 (.int .i64 (-1))) := by
  have h := Calls.ret (place_walk A c ps hn w0 hR hP hl hT)
  rwa [plcI_F (by rw [List.length_map]; exact hp)] at h

set_option maxHeartbeats 400000 in
theorem find_walkF (A : Option Addr) (c : Nat) (ps : List Px) (hn : ps.length ≤ 16384) (hp : ¬ plc (ps.map pxT) < ps.length) (w0 : World) (hR : Ro w0 [] (SlA A (ps.flatMap pxL))) (hP : PxRo w0 [] ps) (hl : PxLe ps) (hT : Tabs 3 1 w0 []) :
    Calls Tryz.prog 44 #[.slice A ps.length c] w0 (Post w0 [] fun v L => v = .tuple #[.agg #[.slice none 0 0, .slice none 0 0], .bool false] ∧ L = []) := by
  refine Calls.of (L := []) (n := 23) (rs := [.cell 2 114, .tmp 3]) Tryz.func44 rfl rfl rfl (Nat.le_of_ble_eq_true rfl) (Sat.nil _) ?_
  refine TC.seq ?_
  refine TC.region ?_
  refine S.opS rfl rfl (OpV.alloc Tryz.zero114 (fun b2 => ?_))
  refine S.as ?_
  refine S.nil ?_
  refine TC.seq ?_
  refine TC.region ?_
  refine S.mv ?_
  refine S.opS rfl rfl (OpV.con0 Tryz.ent110 rfl (fun w hw => idxP_F A c ps hn hp w (Rd.ro hR w hw) (fun p q => ⟨Rd.ro (hP p q).1 w hw, Rd.ro (hP p q).2 w hw⟩) hl (hT.at hw)) ?_)
  refine S.as ?_
  refine S.nil ?_
  refine TC.seq ?_
  refine TC.seq ?_
  refine TC.region ?_
  refine S.mv ?_
  refine S.q rfl rfl (Qt.dT (Qt.lti rfl rfl) (by decide)) ?_
  refine S.nil ?_
  refine S.if_t rfl ?_
  refine TC.seq ?_
  refine TC.region ?_
  refine S.q rfl rfl (Qt.build (v := .agg #[.slice none 0 0, .slice none 0 0]) rfl (fun _ => by kernel_rfl)) ?_
  refine S.opN rfl (OpV.storeV0 (v := .agg #[.slice none 0 0, .slice none 0 0]) rfl rfl (by exact Tryz.cells114) (by rfl) (by rfl) ?_)
  refine S.as ?_
  refine S.nil ?_
  refine TC.ret ?_
  refine finQ.ret (RVs.cell rfl (Ld.all (Has.at 0 rfl) Tryz.row114 (Tryz.cells114)) (RVs.tmp (by conv => lhs; whnf) RVs.nil)) (Sub.nil _) ?_
  exact ⟨rfl, rfl⟩
set_option maxHeartbeats 800000 in
theorem find_walkT (A : Option Addr) (c : Nat) (ps : List Px) (hn : ps.length ≤ 16384) (hp : plc (ps.map pxT) < ps.length) (w0 : World) (hR : Ro w0 [] (SlA A (ps.flatMap pxL))) (hP : PxRo w0 [] ps) (hl : PxLe ps) (hT : Tabs 3 1 w0 []) :
    Calls Tryz.prog 44 #[.slice A ps.length c] w0 (Post w0 [] fun v L => ∃ (Oa : Option Addr) (da : Nat) (Ob : Option Addr) (db : Nat), v = .tuple #[.agg #[.slice Oa (ps.getD (plc (ps.map pxT)) px0).1.2.2.length da, .slice Ob (ps.getD (plc (ps.map pxT)) px0).2.2.2.length db], .bool true] ∧ L = [OwnA 5 1 Oa (ps.getD (plc (ps.map pxT)) px0).1.2.2.length da (bytesL (ps.getD (plc (ps.map pxT)) px0).1.2.2), OwnA 5 1 Ob (ps.getD (plc (ps.map pxT)) px0).2.2.2.length db (bytesL (ps.getD (plc (ps.map pxT)) px0).2.2.2)]) := by
  refine Calls.of (L := []) (n := 23) (rs := [.cell 2 114, .tmp 3]) Tryz.func44 rfl rfl rfl (Nat.le_of_ble_eq_true rfl) (Sat.nil _) ?_
  refine TC.seq ?_
  refine TC.region ?_
  refine S.opS rfl rfl (OpV.alloc Tryz.zero114 (fun b2 => ?_))
  refine S.as ?_
  refine S.nil ?_
  refine TC.seq ?_
  refine TC.region ?_
  refine S.mv ?_
  refine S.opS rfl rfl (OpV.con0 Tryz.ent110 rfl (fun w hw => idxP_T A c ps hn hp w (Rd.ro hR w hw) (fun p q => ⟨Rd.ro (hP p q).1 w hw, Rd.ro (hP p q).2 w hw⟩) hl (hT.at hw)) ?_)
  refine S.as ?_
  refine S.nil ?_
  refine TC.seq ?_
  refine TC.seq ?_
  refine TC.region ?_
  refine S.mv ?_
  refine S.q rfl rfl (Qt.dF (Qt.lt (b := 0) rfl rfl) (Nat.not_lt_zero _)) ?_
  refine S.nil ?_
  refine S.if_f rfl ?_
  refine TC.skip ?_
  refine TC.seq ?_
  refine S.draw ([13], [5, 11]) Tryz.mixed (Sub.nil _) ?_
  refine D.qY 0 rfl (Qt.move (by conv => lhs; whnf)) ?_
  refine D.qY 1 rfl (Qt.move (by conv => lhs; whnf)) ?_
  refine D.qY 2 rfl (Qt.index Tryz.underlying26 Tryz.cells114 rfl rfl (by omega) (Has.ro hR) (by rw [pxL_len]; omega)) ?_
  refine D.qY 3 rfl (Qt.fieldS Tryz.underlying114 rfl Tryz.cells112 rfl (Has.ro hR) (by rw [pxL_len]; omega)) ?_
  refine D.qY 4 rfl (Qt.load rfl (Ld.sl (v := .slice (ps.getD (plc (ps.map pxT)) px0).1.1 (ps.getD (plc (ps.map pxT)) px0).1.2.2.length (ps.getD (plc (ps.map pxT)) px0).1.2.1) (Has.ro hR) Tryz.one112 (pxL_at hp rfl 0 _ rfl))) ?_
  refine D.qY 6 rfl (Qt.move (by conv => lhs; whnf)) ?_
  refine D.qY 7 rfl (Qt.move (by conv => lhs; whnf)) ?_
  refine D.qY 8 rfl (Qt.index Tryz.underlying26 Tryz.cells114 rfl rfl (by omega) (Has.ro hR) (by rw [pxL_len]; omega)) ?_
  refine D.qY 9 rfl (Qt.fieldS Tryz.underlying114 rfl Tryz.cells112 rfl (Has.ro hR) (by rw [pxL_len]; omega)) ?_
  refine D.qY 10 rfl (Qt.load rfl (Ld.sl (v := .slice (ps.getD (plc (ps.map pxT)) px0).2.1 (ps.getD (plc (ps.map pxT)) px0).2.2.2.length (ps.getD (plc (ps.map pxT)) px0).2.2.1) (Has.ro hR) Tryz.one112 (pxL_at hp rfl 1 _ rfl))) ?_
  refine D.nS (k := 5) (Sub.nil _) rfl (by kernel_rfl) (by kernel_rfl) rfl rfl (OpV.con (Pre := []) (R := _) Tryz.ent111 rfl (List.Perm.refl _) (fun w hw => bclone_walk (ps.getD (plc (ps.map pxT)) px0).1.1 (ps.getD (plc (ps.map pxT)) px0).1.2.1 (ps.getD (plc (ps.map pxT)) px0).1.2.2 w (Rd.ro (hP _ (px_mem hp)).1 w hw) (hl _ (px_mem hp)).1) ?_)
  rintro v L' ⟨Oa, da, rfl, rfl⟩
  refine ⟨Sub.drop _ (Sub.keep _ (Sub.nil [])), ?_⟩
  refine D.nS (k := 11) (Sub.nil _) rfl (by kernel_rfl) (by kernel_rfl) rfl rfl (OpV.con (Pre := []) (R := _) Tryz.ent111 rfl (List.Perm.refl _) (fun w hw => bclone_walk (ps.getD (plc (ps.map pxT)) px0).2.1 (ps.getD (plc (ps.map pxT)) px0).2.2.1 (ps.getD (plc (ps.map pxT)) px0).2.2.2 w (Rd.ro (hP _ (px_mem hp)).2 w hw) (hl _ (px_mem hp)).2) ?_)
  rintro v L' ⟨Ob, db, rfl, rfl⟩
  refine ⟨Sub.drop _ (Sub.keep _ (Sub.keep _ (Sub.nil []))), ?_⟩
  refine D.qY 12 rfl (Qt.build2 (a := .slice Oa (ps.getD (plc (ps.map pxT)) px0).1.2.2.length da) (b := .slice Ob (ps.getD (plc (ps.map pxT)) px0).2.2.2.length db) rfl rfl (Tryz.build66 _ _ _ _ _ _)) ?_
  refine D.opN (k := 13) (Sub.nil _) rfl (by kernel_rfl) (by kernel_rfl) rfl (OpV.storeV2 (v := .agg #[.slice Oa (ps.getD (plc (ps.map pxT)) px0).1.2.2.length da, .slice Ob (ps.getD (plc (ps.map pxT)) px0).2.2.2.length db]) rfl rfl (by exact Tryz.cells114) (by rfl) (by rfl) ⟨Sub.nil _, ?_⟩)
  refine D.qY 14 rfl (Qt.assign (by conv => lhs; whnf)) ?_
  refine D.done (Sub.nil _) (by kernel_rfl) ?_
  refine TC.ret ?_
  refine finQ.ret (RVs.cell rfl (Ld.all (Has.at 2 rfl) Tryz.row114 (Tryz.cells114)) (RVs.tmp (by conv => lhs; whnf) RVs.nil)) (Sub.trans (Sub.keep _ (Sub.keep _ (Sub.drop _ (Sub.nil [])))) (Sub.trans (Sub.keep _ (Sub.refl _)) (Sub.of_perm (List.perm_middle (l₁ := [_]))))) ?_
  exact ⟨Oa, da, Ob, db, rfl, rfl⟩
set_option maxHeartbeats 400000 in
theorem found_walkF (A : Option Addr) (c : Nat) (ps : List Px) (B : Option Addr) (e : Nat) (qs : List Px) (hn : ps.length ≤ 16384) (he : ps.map pxT = qs.map pxT) (hp : ¬ plc (ps.map pxT) < ps.length) (w0 : World) (hR : Ro w0 [] (SlA A (ps.flatMap pxL))) (hP : PxRo w0 [] ps) (hl : PxLe ps) (hR2 : Ro w0 [] (SlA B (qs.flatMap pxL))) (hP2 : PxRo w0 [] qs) (hl2 : PxLe qs) (hT : Tabs 3 1 w0 []) (hT2 : Tabs 2 0 w0 []) :
    Calls Tryz.prog 52 #[.slice A ps.length c, .slice B qs.length e] w0 (Post w0 [] fun v L => v = .bool true ∧ L = []) := by
  refine Calls.of (L := []) (n := 50) (rs := [.tmp 4]) Tryz.func52 rfl rfl rfl (Nat.le_of_ble_eq_true rfl) (Sat.nil _) ?_
  have hln : ps.length = qs.length := by have := congrArg List.length he; simpa using this
  have hpl : plc (ps.map pxT) = plc (qs.map pxT) := by rw [he]
  refine TC.seq ?_
  refine TC.region ?_
  refine S.as ?_
  refine S.nil ?_
  refine TC.seq ?_
  refine TC.region ?_
  refine S.mv ?_
  refine S.opS rfl rfl (OpV.con0 Tryz.ent44 rfl (fun w hw => Calls.ret (find_walkF A c ps hn hp w (Rd.ro hR w hw) (fun p q => ⟨Rd.ro (hP p q).1 w hw, Rd.ro (hP p q).2 w hw⟩) hl (hT.at hw))) ?_)
  refine S.mv ?_
  refine S.q rfl rfl (Qt.extract rfl rfl) ?_
  refine S.q rfl rfl (Qt.extract rfl rfl) ?_
  refine S.opS rfl rfl (OpV.alloc Tryz.zero114 (fun b5 => ?_))
  refine S.opN rfl (OpV.storeV0 (v := .agg #[.slice none 0 0, .slice none 0 0]) rfl rfl (by exact Tryz.cells114) (by rfl) (by rfl) ?_)
  refine S.as ?_
  refine S.nil ?_
  refine TC.seq ?_
  refine TC.region ?_
  refine S.mv ?_
  refine S.opS rfl rfl (OpV.con0 Tryz.ent115 rfl (fun w hw => place_F B e qs (by omega) (by omega) w (Rd.ro hR2 w hw) (fun p q => ⟨Rd.ro (hP2 p q).1 w hw, Rd.ro (hP2 p q).2 w hw⟩) hl2 (hT2.at hw)) ?_)
  refine S.as ?_
  refine S.nil ?_
  refine TC.seq ?_
  refine TC.seq ?_
  refine TC.region ?_
  refine S.mv ?_
  refine S.q rfl rfl (Qt.dT (Qt.lti rfl rfl) (by decide)) ?_
  refine S.nil ?_
  refine S.if_t rfl ?_
  refine TC.seq ?_
  refine TC.region ?_
  refine S.mv ?_
  refine S.q rfl rfl (Qt.not_f rfl) ?_
  refine S.mv ?_
  refine S.qg rfl rfl rfl (Qt.field Tryz.underlying114 rfl Tryz.cells112 rfl) ?_
  refine S.qg rfl rfl rfl (Qt.load rfl (Ld.one (v := .slice none 0 0) (Has.at 0 rfl) Tryz.one112 rfl)) ?_
  refine S.qg rfl rfl rfl (Qt.len_slice Tryz.underlying112 rfl) ?_
  refine S.qg rfl rfl rfl (Qt.field Tryz.underlying114 rfl Tryz.cells112 rfl) ?_
  refine S.qg rfl rfl rfl (Qt.load rfl (Ld.one (v := .slice none 0 0) (Has.at 0 rfl) Tryz.one112 rfl)) ?_
  refine S.qg rfl rfl rfl (Qt.len_slice Tryz.underlying112 rfl) ?_
  refine S.qg rfl rfl rfl (Qt.add rfl rfl (by simp only [kmax]; omega)) ?_
  refine S.qg rfl rfl rfl (Qt.dT (Qt.eq (b := 0) rfl rfl) (rfl)) ?_
  refine S.q rfl rfl (Qt.pick_t rfl (by conv => lhs; whnf)) ?_
  refine S.as ?_
  refine S.nil ?_
  refine TC.ret ?_
  refine finQ.ret (RVs.tmp (by conv => lhs; whnf) RVs.nil) (Sub.nil _) ?_
  exact ⟨rfl, rfl⟩
set_option maxHeartbeats 800000 in
theorem found_walkT (A : Option Addr) (c : Nat) (ps : List Px) (B : Option Addr) (e : Nat) (qs : List Px) (hn : ps.length ≤ 16384) (he : ps.map pxT = qs.map pxT) (hp : plc (ps.map pxT) < ps.length) (w0 : World) (hR : Ro w0 [] (SlA A (ps.flatMap pxL))) (hP : PxRo w0 [] ps) (hl : PxLe ps) (hR2 : Ro w0 [] (SlA B (qs.flatMap pxL))) (hP2 : PxRo w0 [] qs) (hl2 : PxLe qs) (hT : Tabs 3 1 w0 []) (hT2 : Tabs 2 0 w0 []) :
    Calls Tryz.prog 52 #[.slice A ps.length c, .slice B qs.length e] w0 (Post w0 [] fun v L => v = .bool true ∧ L = []) := by
  refine Calls.of (L := []) (n := 50) (rs := [.tmp 4]) Tryz.func52 rfl rfl rfl (Nat.le_of_ble_eq_true rfl) (Sat.nil _) ?_
  have hln : ps.length = qs.length := by have := congrArg List.length he; simpa using this
  have hpl : plc (ps.map pxT) = plc (qs.map pxT) := by rw [he]
  have hx : pxT (ps.getD (plc (ps.map pxT)) px0) = pxT (qs.getD (plc (ps.map pxT)) px0) := px_getD2 he hp
  have hx1 : (ps.getD (plc (ps.map pxT)) px0).1.2.2 = (qs.getD (plc (ps.map pxT)) px0).1.2.2 := congrArg (fun q : Pr => q.1) hx
  have hx2 : (ps.getD (plc (ps.map pxT)) px0).2.2.2 = (qs.getD (plc (ps.map pxT)) px0).2.2.2 := congrArg (fun q : Pr => q.2) hx
  have hpq : plc (ps.map pxT) < qs.length := by omega
  refine TC.seq ?_
  refine TC.region ?_
  refine S.as ?_
  refine S.nil ?_
  refine TC.seq ?_
  refine TC.region ?_
  refine S.mv ?_
  refine S.opS rfl rfl (OpV.con (Pre := []) (R := _) Tryz.ent44 rfl (List.Perm.refl _) (fun w hw => find_walkT A c ps hn hp w (Rd.ro hR w hw) (fun p q => ⟨Rd.ro (hP p q).1 w hw, Rd.ro (hP p q).2 w hw⟩) hl (hT.at hw)) ?_)
  rintro v L' ⟨Oa, da, Ob, db, rfl, rfl⟩
  refine S.mv ?_
  refine S.q rfl rfl (Qt.extract rfl rfl) ?_
  refine S.q rfl rfl (Qt.extract rfl rfl) ?_
  refine S.opS rfl rfl (OpV.alloc Tryz.zero114 (fun b5 => ?_))
  refine S.opN rfl (OpV.storeV0 (v := .agg #[.slice Oa (ps.getD (plc (ps.map pxT)) px0).1.2.2.length da, .slice Ob (ps.getD (plc (ps.map pxT)) px0).2.2.2.length db]) rfl rfl (by exact Tryz.cells114) (by rfl) (by rfl) ?_)
  refine S.as ?_
  refine S.nil ?_
  refine TC.seq ?_
  refine TC.region ?_
  refine S.mv ?_
  refine S.opS rfl rfl (OpV.con0 Tryz.ent115 rfl (fun w hw => (by have h := place_T B e qs (by omega) (by omega) w (Rd.ro hR2 w hw) (fun p q => ⟨Rd.ro (hP2 p q).1 w hw, Rd.ro (hP2 p q).2 w hw⟩) hl2 (hT2.at hw); rw [← hpl] at h; exact h : Calls Tryz.prog 115 #[.slice B qs.length e] w (Ret w (.int .i64 (((plc (ps.map pxT)) : Nat) : Int))))) ?_)
  refine S.as ?_
  refine S.nil ?_
  refine TC.seq ?_
  refine TC.seq ?_
  refine TC.region ?_
  refine S.mv ?_
  refine S.q rfl rfl (Qt.dF (Qt.lt (b := 0) rfl rfl) (Nat.not_lt_zero _)) ?_
  refine S.nil ?_
  refine S.if_f rfl ?_
  refine TC.skip ?_
  refine TC.seq ?_
  refine S.draw ([], []) Tryz.mixed (Sub.nil _) ?_
  refine D.qY 0 rfl (Qt.move (by conv => lhs; whnf)) ?_
  refine D.qY 1 rfl (Qt.move (by conv => lhs; whnf)) ?_
  refine D.qgX (k := 2) rfl (by kernel_rfl) (by kernel_rfl) (by kernel_rfl) rfl rfl rfl (Qt.field Tryz.underlying114 rfl Tryz.cells112 rfl) ?_
  refine D.qgX (k := 3) rfl (by kernel_rfl) (by kernel_rfl) (by kernel_rfl) rfl rfl rfl (Qt.load rfl (Ld.one (v := .slice Oa (ps.getD (plc (ps.map pxT)) px0).1.2.2.length da) (Has.at 0 rfl) Tryz.one112 rfl)) ?_
  refine D.qgX (k := 4) rfl (by kernel_rfl) (by kernel_rfl) (by kernel_rfl) rfl rfl rfl (Qt.move (by conv => lhs; whnf)) ?_
  refine D.qgX (k := 5) rfl (by kernel_rfl) (by kernel_rfl) (by kernel_rfl) rfl rfl rfl (Qt.move (by conv => lhs; whnf)) ?_
  refine D.qgX (k := 6) rfl (by kernel_rfl) (by kernel_rfl) (by kernel_rfl) rfl rfl rfl (Qt.index Tryz.underlying29 Tryz.cells115 rfl rfl (by omega) (Has.ro hR2) (by rw [pxL_len]; omega)) ?_
  refine D.qgX (k := 7) rfl (by kernel_rfl) (by kernel_rfl) (by kernel_rfl) rfl rfl rfl (Qt.fieldS Tryz.underlying115 rfl Tryz.cells112 rfl (Has.ro hR2) (by rw [pxL_len]; omega)) ?_
  refine D.qgX (k := 8) rfl (by kernel_rfl) (by kernel_rfl) (by kernel_rfl) rfl rfl rfl (Qt.load rfl (Ld.sl (v := .slice (qs.getD (plc (ps.map pxT)) px0).1.1 (qs.getD (plc (ps.map pxT)) px0).1.2.2.length (qs.getD (plc (ps.map pxT)) px0).1.2.1) (Has.ro hR2) Tryz.one112 (pxL_at hpq rfl 0 _ rfl))) ?_
  refine D.cgX (k := 9) rfl (by kernel_rfl) (by kernel_rfl) (by kernel_rfl) rfl rfl rfl (CalU.con0 Tryz.ent49 rfl (fun w hw => (by have h := bytesD_R Oa da (ps.getD (plc (ps.map pxT)) px0).1.2.2 (qs.getD (plc (ps.map pxT)) px0).1.1 (qs.getD (plc (ps.map pxT)) px0).1.2.1 (qs.getD (plc (ps.map pxT)) px0).1.2.2 w (Rd.own (e := 5) (sz := 1) (Rd.at 1 rfl) w hw) (Rd.ro (hP2 _ (px_mem hpq)).1 w hw); rw [decide_eq_true hx1] at h; exact h : Calls Tryz.prog 49 #[.slice Oa (ps.getD (plc (ps.map pxT)) px0).1.2.2.length da, .slice (qs.getD (plc (ps.map pxT)) px0).1.1 (qs.getD (plc (ps.map pxT)) px0).1.2.2.length (qs.getD (plc (ps.map pxT)) px0).1.2.1] w (Ret w (.bool true))))) ?_
  refine D.qY 10 rfl (Qt.pick_t rfl (by conv => lhs; whnf)) ?_
  refine D.qY 11 rfl (Qt.move (by conv => lhs; whnf)) ?_
  refine D.qgX (k := 12) rfl (by kernel_rfl) (by kernel_rfl) (by kernel_rfl) rfl rfl rfl (Qt.field Tryz.underlying114 rfl Tryz.cells112 rfl) ?_
  refine D.qgX (k := 13) rfl (by kernel_rfl) (by kernel_rfl) (by kernel_rfl) rfl rfl rfl (Qt.load rfl (Ld.one (v := .slice Ob (ps.getD (plc (ps.map pxT)) px0).2.2.2.length db) (Has.at 0 rfl) Tryz.one112 rfl)) ?_
  refine D.qgX (k := 14) rfl (by kernel_rfl) (by kernel_rfl) (by kernel_rfl) rfl rfl rfl (Qt.move (by conv => lhs; whnf)) ?_
  refine D.qgX (k := 15) rfl (by kernel_rfl) (by kernel_rfl) (by kernel_rfl) rfl rfl rfl (Qt.move (by conv => lhs; whnf)) ?_
  refine D.qgX (k := 16) rfl (by kernel_rfl) (by kernel_rfl) (by kernel_rfl) rfl rfl rfl (Qt.index Tryz.underlying29 Tryz.cells115 rfl rfl (by omega) (Has.ro hR2) (by rw [pxL_len]; omega)) ?_
  refine D.qgX (k := 17) rfl (by kernel_rfl) (by kernel_rfl) (by kernel_rfl) rfl rfl rfl (Qt.fieldS Tryz.underlying115 rfl Tryz.cells112 rfl (Has.ro hR2) (by rw [pxL_len]; omega)) ?_
  refine D.qgX (k := 18) rfl (by kernel_rfl) (by kernel_rfl) (by kernel_rfl) rfl rfl rfl (Qt.load rfl (Ld.sl (v := .slice (qs.getD (plc (ps.map pxT)) px0).2.1 (qs.getD (plc (ps.map pxT)) px0).2.2.2.length (qs.getD (plc (ps.map pxT)) px0).2.2.1) (Has.ro hR2) Tryz.one112 (pxL_at hpq rfl 1 _ rfl))) ?_
  refine D.cgX (k := 19) rfl (by kernel_rfl) (by kernel_rfl) (by kernel_rfl) rfl rfl rfl (CalU.con0 Tryz.ent49 rfl (fun w hw => (by have h := bytesD_R Ob db (ps.getD (plc (ps.map pxT)) px0).2.2.2 (qs.getD (plc (ps.map pxT)) px0).2.1 (qs.getD (plc (ps.map pxT)) px0).2.2.1 (qs.getD (plc (ps.map pxT)) px0).2.2.2 w (Rd.own (e := 5) (sz := 1) (Rd.at 2 rfl) w hw) (Rd.ro (hP2 _ (px_mem hpq)).2 w hw); rw [decide_eq_true hx2] at h; exact h : Calls Tryz.prog 49 #[.slice Ob (ps.getD (plc (ps.map pxT)) px0).2.2.2.length db, .slice (qs.getD (plc (ps.map pxT)) px0).2.1 (qs.getD (plc (ps.map pxT)) px0).2.2.2.length (qs.getD (plc (ps.map pxT)) px0).2.2.1] w (Ret w (.bool true))))) ?_
  refine D.qY 20 rfl (Qt.pick_t rfl (by conv => lhs; whnf)) ?_
  refine D.qY 21 rfl (Qt.assign (by conv => lhs; whnf)) ?_
  refine D.done (Sub.nil _) (by kernel_rfl) ?_
  refine TC.ret ?_
  refine finQ.ret (RVs.tmp (by conv => lhs; whnf) RVs.nil) (Sub.nil _) ?_
  exact ⟨rfl, rfl⟩
theorem found_R (A : Option Addr) (c : Nat) (ps : List Px) (B : Option Addr) (e : Nat) (qs : List Px) (hn : ps.length ≤ 16384) (he : ps.map pxT = qs.map pxT)  (w0 : World) (hR : Ro w0 [] (SlA A (ps.flatMap pxL))) (hP : PxRo w0 [] ps) (hl : PxLe ps) (hR2 : Ro w0 [] (SlA B (qs.flatMap pxL))) (hP2 : PxRo w0 [] qs) (hl2 : PxLe qs) (hT : Tabs 3 1 w0 []) (hT2 : Tabs 2 0 w0 []) : Calls Tryz.prog 52 #[.slice A ps.length c, .slice B qs.length e] w0 (Ret w0 (.bool true)) := by
  by_cases hp : plc (ps.map pxT) < ps.length
  · exact Calls.ret (found_walkT A c ps B e qs hn he hp w0 hR hP hl hR2 hP2 hl2 hT hT2)
  · exact Calls.ret (found_walkF A c ps B e qs hn he hp w0 hR hP hl hR2 hP2 hl2 hT hT2)

set_option maxHeartbeats 1600000 in
theorem same_walk (A : Option Addr) (c : Nat) (ps : List Px) (B : Option Addr) (e : Nat) (qs : List Px) (hn : ps.length ≤ 16384) (he : ps.map pxT = qs.map pxT)  (w0 : World) (hR : Ro w0 [] (SlA A (ps.flatMap pxL))) (hP : PxRo w0 [] ps) (hl : PxLe ps) (hR2 : Ro w0 [] (SlA B (qs.flatMap pxL))) (hP2 : PxRo w0 [] qs) (hl2 : PxLe qs) (hT : Tabs 3 1 w0 []) (hT2 : Tabs 2 0 w0 []) :
    Calls Tryz.prog 10 #[.slice A ps.length c, .slice B qs.length e] w0 (Post w0 [] fun v L => v = .bool true ∧ L = []) := by
  refine Calls.of (L := []) (n := 59) (rs := [.tmp 4]) Tryz.func10 rfl rfl rfl (Nat.le_of_ble_eq_true rfl) (Sat.nil _) ?_
  have hln : ps.length = qs.length := by have := congrArg List.length he; simpa using this
  have hpl : plc (ps.map pxT) = plc (qs.map pxT) := by rw [he]
  refine TC.seq ?_
  refine TC.region ?_
  refine S.as ?_
  refine S.nil ?_
  refine TC.seq ?_
  refine TC.seq ?_
  refine TC.region ?_
  refine S.mv ?_
  refine S.q rfl rfl (Qt.len_slice Tryz.underlying26 rfl) ?_
  refine S.mv ?_
  refine S.q rfl rfl (Qt.len_slice Tryz.underlying29 rfl) ?_
  refine S.q rfl rfl (Qt.dF (Qt.ne rfl rfl) (fun h => h (by omega))) ?_
  refine S.nil ?_
  refine S.if_f rfl ?_
  refine TC.skip ?_
  refine TC.seq ?_
  refine TC.seq ?_
  refine TC.region ?_
  refine S.mv ?_
  refine S.q rfl rfl (Qt.len_slice Tryz.underlying26 rfl) ?_
  refine S.mv ?_
  refine S.nil ?_
  refine TC.block ?_
  refine TC.loop (γ := Nat) [14, 15, 5, 16, 17, 18, 19, 20, 21, 22, 23, 24, 25, 26, 27, 28, 29, 30, 31, 32, 33, 34, 35, 36, 37, 38, 39, 40, 41, 42, 43, 44, 45, 46, 47, 48, 49, 50, 51, 52, 53, 54, 4, 55, 13] (fun k => [(13, .int .i64 (k : Int))]) (fun _ => _) (fun k => k ≤ ps.length) (fun k => ps.length - k) (0)
    (Nat.zero_le _) ⟨Out.refl _ _, (List.forall_mem_cons.2 ⟨rfl, (fun _ h => nomatch h)⟩)⟩ (Sub.refl _) ?_
  rintro k u hk
  refine TC.seq ?_
  refine TC.region ?_
  refine S.dec rfl rfl (Qt.lt rfl rfl) (fun h14 => ?_) (fun h14 => ?_)
  · refine S.nil ?_
    refine TC.seq ?_
    refine S.if_t rfl ?_
    refine TC.skip ?_
    refine TC.seq ?_
    refine TC.block ?_
    refine TC.seq ?_
    refine TC.region ?_
    have hkp : k < ps.length := by omega
    have hkq : k < qs.length := by omega
    have hx : pxT (ps.getD k px0) = pxT (qs.getD k px0) := px_getD2 he hkp
    have hx1 : (ps.getD k px0).1.2.2 = (qs.getD k px0).1.2.2 := congrArg (fun q : Pr => q.1) hx
    have hx2 : (ps.getD k px0).2.2.2 = (qs.getD k px0).2.2.2 := congrArg (fun q : Pr => q.2) hx
    refine S.mv ?_
    refine S.as ?_
    refine S.nil ?_
    refine TC.seq ?_
    refine S.draw ([], []) Tryz.mixed (Sub.refl _) ?_
    refine D.qY 0 rfl (Qt.move (by conv => lhs; whnf)) ?_
    refine D.qY 1 rfl (Qt.move (by conv => lhs; whnf)) ?_
    refine D.qY 2 rfl (Qt.index Tryz.underlying26 Tryz.cells114 rfl rfl (by omega) (Has.ro hR) (by rw [pxL_len]; omega)) ?_
    refine D.qY 3 rfl (Qt.fieldS Tryz.underlying114 rfl Tryz.cells112 rfl (Has.ro hR) (by rw [pxL_len]; omega)) ?_
    refine D.qY 4 rfl (Qt.load rfl (Ld.sl (v := .slice (ps.getD k px0).1.1 (ps.getD k px0).1.2.2.length (ps.getD k px0).1.2.1) (Has.ro hR) Tryz.one112 (pxL_at hkp rfl 0 _ rfl))) ?_
    refine D.qY 5 rfl (Qt.move (by conv => lhs; whnf)) ?_
    refine D.qY 6 rfl (Qt.move (by conv => lhs; whnf)) ?_
    refine D.qY 7 rfl (Qt.index Tryz.underlying29 Tryz.cells115 rfl rfl (by omega) (Has.ro hR2) (by rw [pxL_len]; omega)) ?_
    refine D.qY 8 rfl (Qt.fieldS Tryz.underlying115 rfl Tryz.cells112 rfl (Has.ro hR2) (by rw [pxL_len]; omega)) ?_
    refine D.qY 9 rfl (Qt.load rfl (Ld.sl (v := .slice (qs.getD k px0).1.1 (qs.getD k px0).1.2.2.length (qs.getD k px0).1.2.1) (Has.ro hR2) Tryz.one112 (pxL_at hkq rfl 0 _ rfl))) ?_
    refine D.cX (k := 10) rfl (by kernel_rfl) (by kernel_rfl) (by kernel_rfl) rfl rfl (CalU.con0 Tryz.ent49 rfl (fun w hw => (by have h := bytesD_R (ps.getD k px0).1.1 (ps.getD k px0).1.2.1 (ps.getD k px0).1.2.2 (qs.getD k px0).1.1 (qs.getD k px0).1.2.1 (qs.getD k px0).1.2.2 w (Rd.ro (hP _ (px_mem hkp)).1 w hw) (Rd.ro (hP2 _ (px_mem hkq)).1 w hw); rw [decide_eq_true hx1] at h; exact h : Calls Tryz.prog 49 #[.slice (ps.getD k px0).1.1 (ps.getD k px0).1.2.2.length (ps.getD k px0).1.2.1, .slice (qs.getD k px0).1.1 (qs.getD k px0).1.2.2.length (qs.getD k px0).1.2.1] w (Ret w (.bool true))))) ?_
    refine D.qY 11 rfl (Qt.not_t rfl) ?_
    refine D.qY 12 rfl (Qt.move (by conv => lhs; whnf)) ?_
    refine D.qgX (k := 13) rfl (by kernel_rfl) (by kernel_rfl) (by kernel_rfl) rfl rfl rfl (Qt.move (by conv => lhs; whnf)) ?_
    refine D.qgX (k := 14) rfl (by kernel_rfl) (by kernel_rfl) (by kernel_rfl) rfl rfl rfl (Qt.move (by conv => lhs; whnf)) ?_
    refine D.qgX (k := 15) rfl (by kernel_rfl) (by kernel_rfl) (by kernel_rfl) rfl rfl rfl (Qt.index Tryz.underlying26 Tryz.cells114 rfl rfl (by omega) (Has.ro hR) (by rw [pxL_len]; omega)) ?_
    refine D.qgX (k := 16) rfl (by kernel_rfl) (by kernel_rfl) (by kernel_rfl) rfl rfl rfl (Qt.fieldS Tryz.underlying114 rfl Tryz.cells112 rfl (Has.ro hR) (by rw [pxL_len]; omega)) ?_
    refine D.qgX (k := 17) rfl (by kernel_rfl) (by kernel_rfl) (by kernel_rfl) rfl rfl rfl (Qt.load rfl (Ld.sl (v := .slice (ps.getD k px0).2.1 (ps.getD k px0).2.2.2.length (ps.getD k px0).2.2.1) (Has.ro hR) Tryz.one112 (pxL_at hkp rfl 1 _ rfl))) ?_
    refine D.qgX (k := 18) rfl (by kernel_rfl) (by kernel_rfl) (by kernel_rfl) rfl rfl rfl (Qt.move (by conv => lhs; whnf)) ?_
    refine D.qgX (k := 19) rfl (by kernel_rfl) (by kernel_rfl) (by kernel_rfl) rfl rfl rfl (Qt.move (by conv => lhs; whnf)) ?_
    refine D.qgX (k := 20) rfl (by kernel_rfl) (by kernel_rfl) (by kernel_rfl) rfl rfl rfl (Qt.index Tryz.underlying29 Tryz.cells115 rfl rfl (by omega) (Has.ro hR2) (by rw [pxL_len]; omega)) ?_
    refine D.qgX (k := 21) rfl (by kernel_rfl) (by kernel_rfl) (by kernel_rfl) rfl rfl rfl (Qt.fieldS Tryz.underlying115 rfl Tryz.cells112 rfl (Has.ro hR2) (by rw [pxL_len]; omega)) ?_
    refine D.qgX (k := 22) rfl (by kernel_rfl) (by kernel_rfl) (by kernel_rfl) rfl rfl rfl (Qt.load rfl (Ld.sl (v := .slice (qs.getD k px0).2.1 (qs.getD k px0).2.2.2.length (qs.getD k px0).2.2.1) (Has.ro hR2) Tryz.one112 (pxL_at hkq rfl 1 _ rfl))) ?_
    refine D.cgX (k := 23) rfl (by kernel_rfl) (by kernel_rfl) (by kernel_rfl) rfl rfl rfl (CalU.con0 Tryz.ent49 rfl (fun w hw => (by have h := bytesD_R (ps.getD k px0).2.1 (ps.getD k px0).2.2.1 (ps.getD k px0).2.2.2 (qs.getD k px0).2.1 (qs.getD k px0).2.2.1 (qs.getD k px0).2.2.2 w (Rd.ro (hP _ (px_mem hkp)).2 w hw) (Rd.ro (hP2 _ (px_mem hkq)).2 w hw); rw [decide_eq_true hx2] at h; exact h : Calls Tryz.prog 49 #[.slice (ps.getD k px0).2.1 (ps.getD k px0).2.2.2.length (ps.getD k px0).2.2.1, .slice (qs.getD k px0).2.1 (qs.getD k px0).2.2.2.length (qs.getD k px0).2.2.1] w (Ret w (.bool true))))) ?_
    refine D.qgX (k := 24) rfl (by kernel_rfl) (by kernel_rfl) (by kernel_rfl) rfl rfl rfl (Qt.not_t rfl) ?_
    refine D.qY 25 rfl (Qt.pick_f rfl (by conv => lhs; whnf)) ?_
    refine D.qY 26 rfl (Qt.move (by conv => lhs; whnf)) ?_
    refine D.qgX (k := 27) rfl (by kernel_rfl) (by kernel_rfl) (by kernel_rfl) rfl rfl rfl (Qt.move (by conv => lhs; whnf)) ?_
    refine D.qgX (k := 28) rfl (by kernel_rfl) (by kernel_rfl) (by kernel_rfl) rfl rfl rfl (Qt.move (by conv => lhs; whnf)) ?_
    refine D.qgX (k := 29) rfl (by kernel_rfl) (by kernel_rfl) (by kernel_rfl) rfl rfl rfl (Qt.index Tryz.underlying26 Tryz.cells114 rfl rfl (by omega) (Has.ro hR) (by rw [pxL_len]; omega)) ?_
    refine D.qgX (k := 30) rfl (by kernel_rfl) (by kernel_rfl) (by kernel_rfl) rfl rfl rfl (Qt.load rfl (Ld.slr (vs := pxL (ps.getD k px0)) (Has.ro hR) Tryz.row114 Tryz.cells114 (Nat.zero_lt_succ _) (pxL_at hkp rfl))) ?_
    refine D.cgX (k := 31) rfl (by kernel_rfl) (by kernel_rfl) (by kernel_rfl) rfl rfl rfl (CalU.con0 Tryz.ent50 rfl (fun w hw => Calls.ret (is25_walk (ps.getD k px0).1.1 (ps.getD k px0).1.2.1 (ps.getD k px0).1.2.2 (ps.getD k px0).2.1 (ps.getD k px0).2.2.1 (ps.getD k px0).2.2.2 w (Rd.ro (hP _ (px_mem hkp)).1 w hw) (Rd.ro (hP _ (px_mem hkp)).2 w hw) (hl _ (px_mem hkp)).1 (hl _ (px_mem hkp)).2 (hT.at hw)))) ?_
    refine D.qgX (k := 32) rfl (by kernel_rfl) (by kernel_rfl) (by kernel_rfl) rfl rfl rfl (Qt.move (by conv => lhs; whnf)) ?_
    refine D.qgX (k := 33) rfl (by kernel_rfl) (by kernel_rfl) (by kernel_rfl) rfl rfl rfl (Qt.move (by conv => lhs; whnf)) ?_
    refine D.qgX (k := 34) rfl (by kernel_rfl) (by kernel_rfl) (by kernel_rfl) rfl rfl rfl (Qt.index Tryz.underlying29 Tryz.cells115 rfl rfl (by omega) (Has.ro hR2) (by rw [pxL_len]; omega)) ?_
    refine D.qgX (k := 35) rfl (by kernel_rfl) (by kernel_rfl) (by kernel_rfl) rfl rfl rfl (Qt.load rfl (Ld.slr (vs := pxL (qs.getD k px0)) (Has.ro hR2) Tryz.row115 Tryz.cells115 (Nat.zero_lt_succ _) (pxL_at hkq rfl))) ?_
    refine D.cgX (k := 36) rfl (by kernel_rfl) (by kernel_rfl) (by kernel_rfl) rfl rfl rfl (CalU.con0 Tryz.ent51 rfl (fun w hw => Calls.ret (is26_walk (qs.getD k px0).1.1 (qs.getD k px0).1.2.1 (qs.getD k px0).1.2.2 (qs.getD k px0).2.1 (qs.getD k px0).2.2.1 (qs.getD k px0).2.2.2 w (Rd.ro (hP2 _ (px_mem hkq)).1 w hw) (Rd.ro (hP2 _ (px_mem hkq)).2 w hw) (hl2 _ (px_mem hkq)).1 (hl2 _ (px_mem hkq)).2 (hT2.at hw)))) ?_
    refine D.qgX (k := 37) rfl (by kernel_rfl) (by kernel_rfl) (by kernel_rfl) rfl rfl rfl (Qt.as (v' := .bool false) (Qt.neb (a := isF ((ps.getD k px0).1.2.2, (ps.getD k px0).2.2.2)) (b := isF ((qs.getD k px0).1.2.2, (qs.getD k px0).2.2.2)) Tryz.underlying4 rfl rfl) (by rw [hx1, hx2, bne_self_eq_false])) ?_
    refine D.qY 38 rfl (Qt.pick_f rfl (by conv => lhs; whnf)) ?_
    refine D.done (Sub.refl _) (by kernel_rfl) ?_
    refine S.if_f rfl ?_
    refine TC.skip ?_
    refine TC.region ?_
    refine S.q rfl rfl (Qt.add (b := 1) rfl rfl (by simp only [kmax]; omega)) ?_
    refine S.mv ?_
    refine S.nil ?_
    refine ⟨k + 1, ?_, ?_, ⟨?_, (List.forall_mem_cons.2 ⟨rfl, (fun _ h => nomatch h)⟩)⟩, Sub.refl _⟩
    · show _ ≤ _; omega
    · show _ < _; dsimp only; omega
    repeat (first | exact Out.refl _ _ | refine Out.put rfl ?_ | refine Out.puts rfl ?_ | refine Out.scr ?_ | refine Out.scr' rfl ?_)
  · refine S.nil ?_
    refine TC.seq ?_
    refine S.if_f rfl ?_
    refine TC.exit ?_
    refine TC.seq ?_
    refine TC.region ?_
    refine S.mv ?_
    refine S.mv ?_
    refine S.opS rfl rfl (OpV.con0 Tryz.ent52 rfl (fun w hw => found_R A c ps B e qs hn he w (Rd.ro hR w hw) (fun p q => ⟨Rd.ro (hP p q).1 w hw, Rd.ro (hP p q).2 w hw⟩) hl (Rd.ro hR2 w hw) (fun p q => ⟨Rd.ro (hP2 p q).1 w hw, Rd.ro (hP2 p q).2 w hw⟩) hl2 (hT.at hw) (hT2.at hw)) ?_)
    refine S.as ?_
    refine S.nil ?_
    refine TC.ret ?_
    refine finQ.ret (RVs.tmp (by conv => lhs; whnf) RVs.nil) (Sub.nil _) ?_
    exact ⟨rfl, rfl⟩
theorem same_R (A : Option Addr) (c : Nat) (ps : List Px) (B : Option Addr) (e : Nat) (qs : List Px) (hn : ps.length ≤ 16384) (he : ps.map pxT = qs.map pxT)  (w0 : World) (hR : Ro w0 [] (SlA A (ps.flatMap pxL))) (hP : PxRo w0 [] ps) (hl : PxLe ps) (hR2 : Ro w0 [] (SlA B (qs.flatMap pxL))) (hP2 : PxRo w0 [] qs) (hl2 : PxLe qs) (hT : Tabs 3 1 w0 []) (hT2 : Tabs 2 0 w0 []) : Calls Tryz.prog 10 #[.slice A ps.length c, .slice B qs.length e] w0 (Ret w0 (.bool true)) := Calls.ret (same_walk A c ps B e qs hn he w0 hR hP hl hR2 hP2 hl2 hT hT2)

set_option maxHeartbeats 800000 in
theorem right11_walk (A : Option Addr) (c : Nat) (ps : List Px) (hn : ps.length ≤ 16384) (hp : plc (ps.map pxT) < ps.length) (w0 : World) (hR : Ro w0 [] (SlA A (ps.flatMap pxL))) (hP : PxRo w0 [] ps) (hl : PxLe ps) (hT : Tabs 3 1 w0 []) (hT2 : Tabs 2 0 w0 []) :
    Calls Tryz.prog 16 #[.slice A ps.length c] w0 (Post w0 [] fun v L => v = .bool true ∧ L = []) := by
  refine Calls.of (L := []) (n := 29) (rs := [.tmp 2]) Tryz.func16 rfl rfl rfl (Nat.le_of_ble_eq_true rfl) (Sat.nil _) ?_
  have hi : isF (pxT (ps.getD (plc (ps.map pxT)) px0)) = true := by have h := plc_is (l := (ps.map pxT)) (by rw [List.length_map]; exact hp); rwa [px_getD hp] at h
  obtain ⟨hi1, hi2⟩ : (ps.getD (plc (ps.map pxT)) px0).1.2.2 ≠ (ps.getD (plc (ps.map pxT)) px0).2.2.2 ∧ shaH (ps.getD (plc (ps.map pxT)) px0).1.2.2 = shaH (ps.getD (plc (ps.map pxT)) px0).2.2.2 := isF_iff.1 hi
  refine TC.seq ?_
  refine TC.region ?_
  refine S.as ?_
  refine S.nil ?_
  refine TC.seq ?_
  refine TC.region ?_
  refine S.mv ?_
  refine S.opS rfl rfl (OpV.con (Pre := []) (R := _) Tryz.ent44 rfl (List.Perm.refl _) (fun w hw => find_walkT A c ps hn hp w (Rd.ro hR w hw) (fun p q => ⟨Rd.ro (hP p q).1 w hw, Rd.ro (hP p q).2 w hw⟩) hl (hT.at hw)) ?_)
  rintro v L' ⟨Oa, da, Ob, db, rfl, rfl⟩
  refine S.mv ?_
  refine S.q rfl rfl (Qt.extract rfl rfl) ?_
  refine S.q rfl rfl (Qt.extract rfl rfl) ?_
  refine S.opS rfl rfl (OpV.alloc Tryz.zero114 (fun b3 => ?_))
  refine S.opN rfl (OpV.storeV0 (v := .agg #[.slice Oa (ps.getD (plc (ps.map pxT)) px0).1.2.2.length da, .slice Ob (ps.getD (plc (ps.map pxT)) px0).2.2.2.length db]) rfl rfl (by exact Tryz.cells114) (by rfl) (by rfl) ?_)
  refine S.as ?_
  refine S.nil ?_
  refine TC.seq ?_
  refine S.draw ([], []) Tryz.mixed (Sub.nil _) ?_
  refine D.qY 0 rfl (Qt.move (by conv => lhs; whnf)) ?_
  refine D.qY 1 rfl (Qt.move (by conv => lhs; whnf)) ?_
  refine D.qgX (k := 2) rfl (by kernel_rfl) (by kernel_rfl) (by kernel_rfl) rfl rfl rfl (Qt.field Tryz.underlying114 rfl Tryz.cells112 rfl) ?_
  refine D.qgX (k := 3) rfl (by kernel_rfl) (by kernel_rfl) (by kernel_rfl) rfl rfl rfl (Qt.load rfl (Ld.one (v := .slice Oa (ps.getD (plc (ps.map pxT)) px0).1.2.2.length da) (Has.at 0 rfl) Tryz.one112 rfl)) ?_
  refine D.qgX (k := 4) rfl (by kernel_rfl) (by kernel_rfl) (by kernel_rfl) rfl rfl rfl (Qt.bytesStrA (bs := (ps.getD (plc (ps.map pxT)) px0).1.2.2) Tryz.underlying112 Tryz.underlying5 Tryz.underlying9 rfl rfl (Has.own (Has.at 1 rfl))) ?_
  refine D.qgX (k := 5) rfl (by kernel_rfl) (by kernel_rfl) (by kernel_rfl) rfl rfl rfl (Qt.field Tryz.underlying114 rfl Tryz.cells112 rfl) ?_
  refine D.qgX (k := 6) rfl (by kernel_rfl) (by kernel_rfl) (by kernel_rfl) rfl rfl rfl (Qt.load rfl (Ld.one (v := .slice Ob (ps.getD (plc (ps.map pxT)) px0).2.2.2.length db) (Has.at 0 rfl) Tryz.one112 rfl)) ?_
  refine D.qgX (k := 7) rfl (by kernel_rfl) (by kernel_rfl) (by kernel_rfl) rfl rfl rfl (Qt.bytesStrA (bs := (ps.getD (plc (ps.map pxT)) px0).2.2.2) Tryz.underlying112 Tryz.underlying5 Tryz.underlying9 rfl rfl (Has.own (Has.at 2 rfl))) ?_
  refine D.qgX (k := 8) rfl (by kernel_rfl) (by kernel_rfl) (by kernel_rfl) rfl rfl rfl (Qt.dT (Qt.neStr (s := (ps.getD (plc (ps.map pxT)) px0).1.2.2) (t := (ps.getD (plc (ps.map pxT)) px0).2.2.2) rfl rfl) hi1) ?_
  refine D.qY 9 rfl (Qt.pick_t rfl (by conv => lhs; whnf)) ?_
  refine D.qY 10 rfl (Qt.move (by conv => lhs; whnf)) ?_
  refine D.qgX (k := 11) rfl (by kernel_rfl) (by kernel_rfl) (by kernel_rfl) rfl rfl rfl (Qt.field Tryz.underlying114 rfl Tryz.cells112 rfl) ?_
  refine D.qgX (k := 12) rfl (by kernel_rfl) (by kernel_rfl) (by kernel_rfl) rfl rfl rfl (Qt.load rfl (Ld.one (v := .slice Oa (ps.getD (plc (ps.map pxT)) px0).1.2.2.length da) (Has.at 0 rfl) Tryz.one112 rfl)) ?_
  refine D.cgX (k := 13) rfl (by kernel_rfl) (by kernel_rfl) (by kernel_rfl) rfl rfl rfl (CalU.con0 Tryz.ent57 rfl (fun w hw => Calls.ret (rsum_walk Oa da (ps.getD (plc (ps.map pxT)) px0).1.2.2 w (Rd.own (e := 5) (sz := 1) (Rd.at 1 rfl) w hw) (hl _ (px_mem hp)).1 (hT2.at hw)))) ?_
  refine D.qgX (k := 14) rfl (by kernel_rfl) (by kernel_rfl) (by kernel_rfl) rfl rfl rfl (Qt.field Tryz.underlying114 rfl Tryz.cells112 rfl) ?_
  refine D.qgX (k := 15) rfl (by kernel_rfl) (by kernel_rfl) (by kernel_rfl) rfl rfl rfl (Qt.load rfl (Ld.one (v := .slice Ob (ps.getD (plc (ps.map pxT)) px0).2.2.2.length db) (Has.at 0 rfl) Tryz.one112 rfl)) ?_
  refine D.cgX (k := 16) rfl (by kernel_rfl) (by kernel_rfl) (by kernel_rfl) rfl rfl rfl (CalU.con0 Tryz.ent57 rfl (fun w hw => Calls.ret (rsum_walk Ob db (ps.getD (plc (ps.map pxT)) px0).2.2.2 w (Rd.own (e := 5) (sz := 1) (Rd.at 2 rfl) w hw) (hl _ (px_mem hp)).2 (hT2.at hw)))) ?_
  refine D.qgX (k := 17) rfl (by kernel_rfl) (by kernel_rfl) (by kernel_rfl) rfl rfl rfl (Qt.dT (Qt.eqH (a := shaH (ps.getD (plc (ps.map pxT)) px0).1.2.2) (b := shaH (ps.getD (plc (ps.map pxT)) px0).2.2.2) Tryz.guard49 Tryz.underlying49 Tryz.underlying5 Tryz.cells5 rfl rfl) hi2) ?_
  refine D.qY 18 rfl (Qt.pick_t rfl (by conv => lhs; whnf)) ?_
  refine D.qY 19 rfl (Qt.assign (by conv => lhs; whnf)) ?_
  refine D.done (Sub.nil _) (by kernel_rfl) ?_
  refine TC.ret ?_
  refine finQ.ret (RVs.tmp (by conv => lhs; whnf) RVs.nil) (Sub.nil _) ?_
  exact ⟨rfl, rfl⟩
set_option maxHeartbeats 400000 in
theorem hashesD_walk (A : Option Addr) (c : Nat) (xs : List H32) (B : Option Addr) (d : Nat) (ys : List H32) (hx : xs.length ≤ 65536) (hy : ys.length ≤ 65536) (w0 : World) (hA : Ro w0 [] (SlA A (hcs xs))) (hB : Ro w0 [] (SlA B (hcs ys))) :
    Calls Tryz.prog 14 #[.slice A xs.length c, .slice B ys.length d] w0 (Post w0 [] fun v L => v = .bool (decide (xs = ys)) ∧ L = []) := by
  refine Calls.of (L := []) (n := 26) (rs := [.tmp 4]) Tryz.func14 rfl rfl rfl (Nat.le_of_ble_eq_true rfl) (Sat.nil _) ?_
  refine TC.seq ?_
  refine TC.region ?_
  refine S.as ?_
  refine S.nil ?_
  refine TC.seq ?_
  refine TC.seq ?_
  refine TC.region ?_
  refine S.mv ?_
  refine S.q rfl rfl (Qt.len_slice Tryz.underlying33 rfl) ?_
  refine S.mv ?_
  refine S.q rfl rfl (Qt.len_slice Tryz.underlying33 rfl) ?_
  refine S.dec rfl rfl (Qt.ne rfl rfl) (fun h10 => ?_) (fun h10 => ?_)
  · refine S.nil ?_
    refine S.if_t rfl ?_
    refine TC.seq ?_
    refine TC.region ?_
    refine S.as ?_
    refine S.nil ?_
    refine TC.ret ?_
    refine finQ.ret (RVs.tmp (by conv => lhs; whnf) RVs.nil) (Sub.nil _) ?_
    exact ⟨by rw [decide_eq_false (fun e => h10 (by rw [e]))]; rfl, rfl⟩
  · refine S.nil ?_
    refine S.if_f rfl ?_
    refine TC.skip ?_
    refine TC.seq ?_
    refine TC.seq ?_
    refine TC.region ?_
    refine S.mv ?_
    refine S.q rfl rfl (Qt.len_slice Tryz.underlying33 rfl) ?_
    refine S.mv ?_
    refine S.nil ?_
    refine TC.block ?_
    refine TC.loop (γ := Nat) [14, 15, 5, 16, 17, 18, 19, 20, 21, 22, 23, 24, 4, 25, 13] (fun k => [(13, .int .i64 (k : Int))]) (fun _ => _) (fun k => k ≤ xs.length ∧ ∀ i, i < k → xs.getD i zeroH = ys.getD i zeroH) (fun k => xs.length - k) (0)
      ⟨Nat.zero_le _, fun i h => absurd h (Nat.not_lt_zero _)⟩ ⟨Out.refl _ _, (List.forall_mem_cons.2 ⟨rfl, (fun _ h => nomatch h)⟩)⟩ (Sub.refl _) ?_
    rintro k u ⟨hk, hq⟩
    refine TC.seq ?_
    refine TC.region ?_
    refine S.dec rfl rfl (Qt.lt rfl rfl) (fun h14 => ?_) (fun h14 => ?_)
    · refine S.nil ?_
      refine TC.seq ?_
      refine S.if_t rfl ?_
      refine TC.skip ?_
      refine TC.seq ?_
      refine TC.block ?_
      refine TC.seq ?_
      refine TC.region ?_
      refine S.mv ?_
      refine S.as ?_
      refine S.nil ?_
      refine TC.seq ?_
      refine S.draw ([], []) Tryz.mixed (Sub.refl _) ?_
      refine D.qY 0 rfl (Qt.move (by conv => lhs; whnf)) ?_
      refine D.qY 1 rfl (Qt.move (by conv => lhs; whnf)) ?_
      refine D.qY 2 rfl (Qt.index Tryz.underlying33 Tryz.cells49 rfl rfl (by omega) (Has.ro hA) (by rw [hcs_length]; omega)) ?_
      refine D.qY 3 rfl (Qt.load rfl (Ld.hashS (Has.ro hA) k Tryz.row49 Tryz.cells49 (by omega) rfl)) ?_
      refine D.qY 4 rfl (Qt.move (by conv => lhs; whnf)) ?_
      refine D.qY 5 rfl (Qt.move (by conv => lhs; whnf)) ?_
      refine D.qY 6 rfl (Qt.index Tryz.underlying33 Tryz.cells49 rfl rfl (by omega) (Has.ro hB) (by rw [hcs_length]; omega)) ?_
      refine D.qY 7 rfl (Qt.load rfl (Ld.hashS (Has.ro hB) k Tryz.row49 Tryz.cells49 (by omega) rfl)) ?_
      refine D.decX (k := 8) rfl (by kernel_rfl) (by kernel_rfl) (by kernel_rfl) rfl rfl (Qt.neH (a := (xs.getD k zeroH)) (b := (ys.getD k zeroH)) Tryz.guard49 Tryz.underlying49 Tryz.underlying5 Tryz.cells5 rfl rfl) (fun h24 => ?_) (fun h24 => ?_)
      · refine D.done (Sub.refl _) (by kernel_rfl) ?_
        refine S.if_t rfl ?_
        refine TC.seq ?_
        refine TC.region ?_
        refine S.as ?_
        refine S.nil ?_
        refine TC.ret ?_
        refine finQ.ret (RVs.tmp (by conv => lhs; whnf) RVs.nil) (Sub.nil _) ?_
        exact ⟨by rw [decide_eq_false (fun e => h24 (by rw [e]))]; rfl, rfl⟩
      · refine D.done (Sub.refl _) (by kernel_rfl) ?_
        refine S.if_f rfl ?_
        refine TC.skip ?_
        refine TC.region ?_
        refine S.q rfl rfl (Qt.add (b := 1) rfl rfl (by simp only [kmax]; omega)) ?_
        refine S.mv ?_
        refine S.nil ?_
        refine ⟨k + 1, ?_, ?_, ⟨?_, (List.forall_mem_cons.2 ⟨rfl, (fun _ h => nomatch h)⟩)⟩, Sub.refl _⟩
        · exact ⟨by show _ ≤ _; omega, fun i hi => (Nat.lt_or_ge i k).elim (hq i) (fun h => by (obtain rfl : i = k := by omega); exact Decidable.not_not.1 h24)⟩
        · show _ < _; dsimp only; omega
        repeat (first | exact Out.refl _ _ | refine Out.put rfl ?_ | refine Out.puts rfl ?_ | refine Out.scr ?_ | refine Out.scr' rfl ?_)
    · refine S.nil ?_
      refine TC.seq ?_
      refine S.if_f rfl ?_
      refine TC.exit ?_
      refine TC.seq ?_
      refine TC.region ?_
      refine S.as ?_
      refine S.nil ?_
      refine TC.ret ?_
      refine finQ.ret (RVs.tmp (by conv => lhs; whnf) RVs.nil) (Sub.nil _) ?_
      have hl : xs.length = ys.length := Decidable.not_not.1 h10
      exact ⟨by rw [decide_eq_true (getD_ext zeroH hl (fun i hi => hq i (by omega)))]; rfl, rfl⟩
theorem hashesD_R (A : Option Addr) (c : Nat) (xs : List H32) (B : Option Addr) (d : Nat) (ys : List H32) (hx : xs.length ≤ 65536) (hy : ys.length ≤ 65536) (w0 : World) (hA : Ro w0 [] (SlA A (hcs xs))) (hB : Ro w0 [] (SlA B (hcs ys))) : Calls Tryz.prog 14 #[.slice A xs.length c, .slice B ys.length d] w0 (Ret w0 (.bool (decide (xs = ys)))) := Calls.ret (hashesD_walk A c xs B d ys hx hy w0 hA hB)

end Go.Proofs.YtgdjcmehlhebdaaGreatDoor
