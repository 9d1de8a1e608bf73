/-
  Walks: the document's texts of paths, pairs of two sources. Printed by a program of ours. Walks: pairs of paths and of openings, the program's and the document's. Printed by a program of ours.
-/
import Derived.Test.YtgdjcmehlhebdaaGreatDoorY7
namespace Go.Proofs.YtgdjcmehlhebdaaGreatDoor
open Go.E
set_option linter.unusedVariables false
set_option maxRecDepth 4000
set_option maxHeartbeats 400000 in
theorem both_walkN (fn : FuncId) (cap : Array Value) (hent : Enters Tryz.prog fn) (X2 : Option (List (List UInt8)))  (w0 : World) (h1 : ∀ w, St w0 [] [] w → Calls Tryz.prog fn ((([.bool true] : List Value) ++ cap.toList).toArray) w (Post w [] (TxQ none))) (h2 : ∀ w, St w0 [] [] w → Calls Tryz.prog fn ((([.bool false] : List Value) ++ cap.toList).toArray) w (Post w [] (TxQ X2))) :
    Calls Tryz.prog 45 #[.func (.func fn) #[] cap] w0 (Post w0 [] fun v L => PxQ 114 (pairX none X2) v L) := by
  refine Calls.of (L := []) (n := 48) (rs := [.tmp 2]) Tryz.func45 rfl rfl rfl (Nat.le_of_ble_eq_true rfl) (Sat.nil _) ?_
  refine TC.ownNil 114 2 ?_
  refine TC.manyNil ?_
  refine TC.seq ?_
  refine TC.region ?_
  refine S.as ?_
  refine S.nil ?_
  refine TC.seq ?_
  refine TC.region ?_
  refine S.mv ?_
  refine S.opS rfl rfl (OpV.con (Pre := []) (R := _) hent rfl (List.Perm.refl _) (fun w hw => h1 w (hw.sub (Sub.nil _))) ?_)
  rintro v L' ⟨k1, rfl, rfl⟩
  refine S.mv ?_
  refine S.q rfl rfl (Qt.extract rfl rfl) ?_
  refine S.q rfl rfl (Qt.extract rfl rfl) ?_
  refine S.as ?_
  refine S.as ?_
  refine S.nil ?_
  refine TC.seq ?_
  refine TC.seq ?_
  refine TC.region ?_
  refine S.mv ?_
  refine S.q rfl rfl (Qt.nenil_iface Tryz.underlying51 rfl) ?_
  refine S.nil ?_
  refine S.if_t rfl ?_
  refine TC.seq ?_
  refine TC.region ?_
  refine S.as ?_
  refine S.nil ?_
  refine TC.ret ?_
  refine finQ.ret (RVs.tmp (by conv => lhs; whnf) RVs.nil) (Sub.trans (Sub.keep _ (Sub.refl _)) (Sub.of_perm (List.perm_middle (l₁ := [_])))) ?_
  exact ⟨none, 0, [], [], rfl, rfl, rfl, Nat.zero_le _, fun p hp => nomatch hp⟩
set_option maxHeartbeats 400000 in
theorem both_walkN2 (fn : FuncId) (cap : Array Value) (hent : Enters Tryz.prog fn) (a : List (List UInt8))  (w0 : World) (h1 : ∀ w, St w0 [] [] w → Calls Tryz.prog fn ((([.bool true] : List Value) ++ cap.toList).toArray) w (Post w [] (TxQ (some a)))) (h2 : ∀ w, St w0 [] [] w → Calls Tryz.prog fn ((([.bool false] : List Value) ++ cap.toList).toArray) w (Post w [] (TxQ none))) :
    Calls Tryz.prog 45 #[.func (.func fn) #[] cap] w0 (Post w0 [] fun v L => PxQ 114 (pairX (some a) none) v L) := by
  refine Calls.of (L := []) (n := 48) (rs := [.tmp 2]) Tryz.func45 rfl rfl rfl (Nat.le_of_ble_eq_true rfl) (Sat.nil _) ?_
  refine TC.ownNil 114 2 ?_
  refine TC.manyNil ?_
  refine TC.seq ?_
  refine TC.region ?_
  refine S.as ?_
  refine S.nil ?_
  refine TC.seq ?_
  refine TC.region ?_
  refine S.mv ?_
  refine S.opS rfl rfl (OpV.con (Pre := []) (R := _) hent rfl (List.Perm.refl _) (fun w hw => h1 w (hw.sub (Sub.nil _))) ?_)
  rintro v L' ⟨O1, d1, t1, rfl, rfl, e1, l1⟩
  have n1 := congrArg List.length e1
  rw [List.length_map] at n1
  refine S.mv ?_
  refine S.q rfl rfl (Qt.extract rfl rfl) ?_
  refine S.q rfl rfl (Qt.extract rfl rfl) ?_
  refine S.as ?_
  refine S.as ?_
  refine S.nil ?_
  refine TC.seq ?_
  refine TC.seq ?_
  refine TC.region ?_
  refine S.mv ?_
  refine S.q rfl rfl (Qt.nenil_nil Tryz.underlying51 rfl) ?_
  refine S.nil ?_
  refine S.if_f rfl ?_
  refine TC.skip ?_
  refine TC.seq ?_
  refine TC.region ?_
  refine S.mv ?_
  refine S.opS rfl rfl (OpV.con (Pre := []) (R := _) hent rfl (List.Perm.refl _) (fun w hw => h2 w (hw.sub (Sub.nil _))) ?_)
  rintro v L' ⟨k2, rfl, rfl⟩
  refine S.mv ?_
  refine S.q rfl rfl (Qt.extract rfl rfl) ?_
  refine S.q rfl rfl (Qt.extract rfl rfl) ?_
  refine S.as ?_
  refine S.as ?_
  refine S.nil ?_
  refine TC.seq ?_
  refine TC.seq ?_
  refine TC.region ?_
  refine S.mv ?_
  refine S.q rfl rfl (Qt.nenil_iface Tryz.underlying51 rfl) ?_
  refine S.mv ?_
  refine S.pass rfl rfl ?_
  refine S.pass rfl rfl ?_
  refine S.pass rfl rfl ?_
  refine S.pass rfl rfl ?_
  refine S.pass rfl rfl ?_
  refine S.q rfl rfl (Qt.pick_t rfl (by conv => lhs; whnf)) ?_
  refine S.nil ?_
  refine S.if_t rfl ?_
  refine TC.seq ?_
  refine TC.region ?_
  refine S.as ?_
  refine S.nil ?_
  refine TC.ret ?_
  refine finQ.ret (RVs.tmp (by conv => lhs; whnf) RVs.nil) (Sub.trans (Sub.keep _ (Sub.keep _ (Sub.drop _ (Sub.drop _ (Sub.nil []))))) (Sub.trans (Sub.keep _ (Sub.trans (Sub.keep _ (Sub.refl _)) (Sub.of_perm (List.perm_middle (l₁ := [_, _]))))) (Sub.of_perm (List.perm_middle (l₁ := [_, _, _]))))) ?_
  exact ⟨none, 0, [], [], rfl, rfl, rfl, Nat.zero_le _, fun p hp => nomatch hp⟩
set_option maxHeartbeats 400000 in
theorem both_walkL (fn : FuncId) (cap : Array Value) (hent : Enters Tryz.prog fn) (a b : List (List UInt8)) (hl : a.length ≠ b.length) (w0 : World) (h1 : ∀ w, St w0 [] [] w → Calls Tryz.prog fn ((([.bool true] : List Value) ++ cap.toList).toArray) w (Post w [] (TxQ (some a)))) (h2 : ∀ w, St w0 [] [] w → Calls Tryz.prog fn ((([.bool false] : List Value) ++ cap.toList).toArray) w (Post w [] (TxQ (some b)))) :
    Calls Tryz.prog 45 #[.func (.func fn) #[] cap] w0 (Post w0 [] fun v L => PxQ 114 (pairX (some a) (some b)) v L) := by
  refine Calls.of (L := []) (n := 48) (rs := [.tmp 2]) Tryz.func45 rfl rfl rfl (Nat.le_of_ble_eq_true rfl) (Sat.nil _) ?_
  refine TC.ownNil 114 2 ?_
  refine TC.manyNil ?_
  refine TC.seq ?_
  refine TC.region ?_
  refine S.as ?_
  refine S.nil ?_
  refine TC.seq ?_
  refine TC.region ?_
  refine S.mv ?_
  refine S.opS rfl rfl (OpV.con (Pre := []) (R := _) hent rfl (List.Perm.refl _) (fun w hw => h1 w (hw.sub (Sub.nil _))) ?_)
  rintro v L' ⟨O1, d1, t1, rfl, rfl, e1, l1⟩
  have n1 := congrArg List.length e1
  rw [List.length_map] at n1
  refine S.mv ?_
  refine S.q rfl rfl (Qt.extract rfl rfl) ?_
  refine S.q rfl rfl (Qt.extract rfl rfl) ?_
  refine S.as ?_
  refine S.as ?_
  refine S.nil ?_
  refine TC.seq ?_
  refine TC.seq ?_
  refine TC.region ?_
  refine S.mv ?_
  refine S.q rfl rfl (Qt.nenil_nil Tryz.underlying51 rfl) ?_
  refine S.nil ?_
  refine S.if_f rfl ?_
  refine TC.skip ?_
  refine TC.seq ?_
  refine TC.region ?_
  refine S.mv ?_
  refine S.opS rfl rfl (OpV.con (Pre := []) (R := _) hent rfl (List.Perm.refl _) (fun w hw => h2 w (hw.sub (Sub.nil _))) ?_)
  rintro v L' ⟨O2, d2, t2, rfl, rfl, e2, l2⟩
  have n2 := congrArg List.length e2
  rw [List.length_map] at n2
  refine S.mv ?_
  refine S.q rfl rfl (Qt.extract rfl rfl) ?_
  refine S.q rfl rfl (Qt.extract rfl rfl) ?_
  refine S.as ?_
  refine S.as ?_
  refine S.nil ?_
  refine TC.seq ?_
  refine TC.seq ?_
  refine TC.region ?_
  refine S.mv ?_
  refine S.q rfl rfl (Qt.nenil_nil Tryz.underlying51 rfl) ?_
  refine S.mv ?_
  refine S.qg rfl rfl rfl (Qt.move (by conv => lhs; whnf)) ?_
  refine S.qg rfl rfl rfl (Qt.len_slice Tryz.underlying111 rfl) ?_
  refine S.qg rfl rfl rfl (Qt.move (by conv => lhs; whnf)) ?_
  refine S.qg rfl rfl rfl (Qt.len_slice Tryz.underlying111 rfl) ?_
  refine S.qg rfl rfl rfl (Qt.dT (Qt.ne rfl rfl) (by omega)) ?_
  refine S.q rfl rfl (Qt.pick_f rfl (by conv => lhs; whnf)) ?_
  refine S.nil ?_
  refine S.if_t rfl ?_
  refine TC.seq ?_
  refine TC.region ?_
  refine S.as ?_
  refine S.nil ?_
  refine TC.ret ?_
  refine finQ.ret (RVs.tmp (by conv => lhs; whnf) RVs.nil) (Sub.trans (Sub.keep _ (Sub.keep _ (Sub.drop _ (Sub.drop _ (Sub.drop _ (Sub.drop _ (Sub.nil []))))))) (Sub.trans (Sub.keep _ (Sub.trans (Sub.keep _ (Sub.refl _)) (Sub.of_perm (List.perm_middle (l₁ := [_, _, _, _]))))) (Sub.of_perm (List.perm_middle (l₁ := [_, _, _, _, _]))))) ?_
  exact ⟨none, 0, [], [], rfl, rfl, (zipX_ne hl).symm, Nat.zero_le _, fun p hp => nomatch hp⟩
set_option maxHeartbeats 1600000 in
theorem both_walk0 (fn : FuncId) (cap : Array Value) (hent : Enters Tryz.prog fn) (a b : List (List UInt8)) (hl : a.length = b.length) (w0 : World) (h1 : ∀ w, St w0 [] [] w → Calls Tryz.prog fn ((([.bool true] : List Value) ++ cap.toList).toArray) w (Post w [] (TxQ (some a)))) (h2 : ∀ w, St w0 [] [] w → Calls Tryz.prog fn ((([.bool false] : List Value) ++ cap.toList).toArray) w (Post w [] (TxQ (some b)))) :
    Calls Tryz.prog 45 #[.func (.func fn) #[] cap] w0 (Post w0 [] fun v L => PxQ 114 (pairX (some a) (some b)) v L) := by
  refine Calls.of (L := []) (n := 48) (rs := [.tmp 2]) Tryz.func45 rfl rfl rfl (Nat.le_of_ble_eq_true rfl) (Sat.nil _) ?_
  refine TC.ownNil 114 2 ?_
  refine TC.manyNil ?_
  refine TC.seq ?_
  refine TC.region ?_
  refine S.as ?_
  refine S.nil ?_
  refine TC.seq ?_
  refine TC.region ?_
  refine S.mv ?_
  refine S.opS rfl rfl (OpV.con (Pre := []) (R := _) hent rfl (List.Perm.refl _) (fun w hw => h1 w (hw.sub (Sub.nil _))) ?_)
  rintro v L' ⟨O1, d1, t1, rfl, rfl, e1, l1⟩
  have n1 := congrArg List.length e1
  rw [List.length_map] at n1
  refine S.mv ?_
  refine S.q rfl rfl (Qt.extract rfl rfl) ?_
  refine S.q rfl rfl (Qt.extract rfl rfl) ?_
  refine S.as ?_
  refine S.as ?_
  refine S.nil ?_
  refine TC.seq ?_
  refine TC.seq ?_
  refine TC.region ?_
  refine S.mv ?_
  refine S.q rfl rfl (Qt.nenil_nil Tryz.underlying51 rfl) ?_
  refine S.nil ?_
  refine S.if_f rfl ?_
  refine TC.skip ?_
  refine TC.seq ?_
  refine TC.region ?_
  refine S.mv ?_
  refine S.opS rfl rfl (OpV.con (Pre := []) (R := _) hent rfl (List.Perm.refl _) (fun w hw => h2 w (hw.sub (Sub.nil _))) ?_)
  rintro v L' ⟨O2, d2, t2, rfl, rfl, e2, l2⟩
  have n2 := congrArg List.length e2
  rw [List.length_map] at n2
  refine S.mv ?_
  refine S.q rfl rfl (Qt.extract rfl rfl) ?_
  refine S.q rfl rfl (Qt.extract rfl rfl) ?_
  refine S.as ?_
  refine S.as ?_
  refine S.nil ?_
  refine TC.seq ?_
  refine TC.seq ?_
  refine TC.region ?_
  refine S.mv ?_
  refine S.q rfl rfl (Qt.nenil_nil Tryz.underlying51 rfl) ?_
  refine S.mv ?_
  refine S.qg rfl rfl rfl (Qt.move (by conv => lhs; whnf)) ?_
  refine S.qg rfl rfl rfl (Qt.len_slice Tryz.underlying111 rfl) ?_
  refine S.qg rfl rfl rfl (Qt.move (by conv => lhs; whnf)) ?_
  refine S.qg rfl rfl rfl (Qt.len_slice Tryz.underlying111 rfl) ?_
  refine S.qg rfl rfl rfl (Qt.dF (Qt.ne rfl rfl) (by omega)) ?_
  refine S.q rfl rfl (Qt.pick_f rfl (by conv => lhs; whnf)) ?_
  refine S.nil ?_
  refine S.if_f rfl ?_
  refine TC.skip ?_
  refine TC.seq ?_
  refine TC.region ?_
  refine S.as ?_
  refine S.nil ?_
  refine TC.seq ?_
  refine TC.seq ?_
  refine TC.region ?_
  refine S.mv ?_
  refine S.q rfl rfl (Qt.len_slice Tryz.underlying111 rfl) ?_
  refine S.mv ?_
  refine S.nil ?_
  refine TC.block ?_
  refine TC.loop (γ := Nat × Option Addr × Nat) [32, 33, 7, 34, 35, 36, 37, 38, 39, 40, 41, 42, 43, 44, 45, 6, 46, 31] (fun g => [(31, .int .i64 ((g.1 : Nat) : Int)), (6, .slice g.2.1 g.1 g.2.2)]) (fun g => [OwnA 114 2 g.2.1 g.1 g.2.2 (((t1.take g.1).zip (t2.take g.1)).flatMap pxL), OwnA 112 1 O1 t1.length d1 (t1.flatMap txL), Many (t1.map txOwn), OwnA 112 1 O2 t2.length d2 (t2.flatMap txL), Many (t2.map txOwn)]) (fun g => g.1 ≤ t1.length) (fun g => t1.length - g.1) ((0, none, 0))
    (Nat.zero_le _) ⟨Out.refl _ _, (List.forall_mem_cons.2 ⟨rfl, (List.forall_mem_cons.2 ⟨rfl, (fun _ h => nomatch h)⟩)⟩)⟩ (Sub.trans (Sub.keep _ (Sub.keep _ (Sub.keep _ (Sub.keep _ (Sub.keep _ (Sub.drop _ (Sub.nil []))))))) (Sub.trans (Sub.keep _ (Sub.trans (Sub.keep _ (Sub.trans (Sub.keep _ (Sub.refl _)) (Sub.of_perm (List.perm_middle (l₁ := [_, _]))))) (Sub.of_perm (List.perm_middle (l₁ := [_, _]))))) (Sub.of_perm (List.perm_middle (l₁ := [_, _, _, _, _]))))) ?_
  rintro ⟨k, O, d⟩ u hk
  dsimp only at hk
  show TC _ _ _ (puts [(31, .int .i64 (k : Int)), (6, .slice O k d)] (scr _ u _)) [OwnA 114 2 O k d (((t1.take k).zip (t2.take k)).flatMap pxL), OwnA 112 1 O1 t1.length d1 (t1.flatMap txL), Many (t1.map txOwn), OwnA 112 1 O2 t2.length d2 (t2.flatMap txL), Many (t2.map txOwn)]
  refine TC.seq ?_
  refine TC.region ?_
  refine S.dec rfl rfl (Qt.lt rfl rfl) (fun h32 => ?_) (fun h32 => ?_)
  · refine S.nil ?_
    refine TC.seq ?_
    refine S.if_t rfl ?_
    refine TC.skip ?_
    refine TC.seq ?_
    refine TC.block ?_
    refine TC.seq ?_
    refine TC.region ?_
    refine S.mv ?_
    refine S.as ?_
    refine S.nil ?_
    refine S.draw ([11], [10]) Tryz.mixed (Sub.drop _ (Sub.keep _ (Sub.keep _ (Sub.keep _ (Sub.keep _ (Sub.nil [])))))) ?_
    refine D.qY 0 rfl (Qt.move (by conv => lhs; whnf)) ?_
    refine D.qY 1 rfl (Qt.move (by conv => lhs; whnf)) ?_
    refine D.qY 2 rfl (Qt.move (by conv => lhs; whnf)) ?_
    refine D.qY 3 rfl (Qt.index Tryz.underlying111 Tryz.cells112 rfl rfl (by omega) (Has.own (Has.at 1 rfl)) (by rw [txL_len]; omega)) ?_
    refine D.qY 4 rfl (Qt.load rfl (Ld.sl (v := .slice (t1.getD k tx0).1 (t1.getD k tx0).2.2.length (t1.getD k tx0).2.1) (Has.own (Has.at 1 rfl)) Tryz.one112 (txL_at (by omega)))) ?_
    refine D.qY 5 rfl (Qt.move (by conv => lhs; whnf)) ?_
    refine D.qY 6 rfl (Qt.move (by conv => lhs; whnf)) ?_
    refine D.qY 7 rfl (Qt.index Tryz.underlying111 Tryz.cells112 rfl rfl (by omega) (Has.own (Has.at 3 rfl)) (by rw [txL_len]; omega)) ?_
    refine D.qY 8 rfl (Qt.load rfl (Ld.sl (v := .slice (t2.getD k tx0).1 (t2.getD k tx0).2.2.length (t2.getD k tx0).2.1) (Has.own (Has.at 3 rfl)) Tryz.one112 (txL_at (by omega)))) ?_
    refine D.qY 9 rfl (Qt.build2 (a := .slice (t1.getD k tx0).1 (t1.getD k tx0).2.2.length (t1.getD k tx0).2.1) (b := .slice (t2.getD k tx0).1 (t2.getD k tx0).2.2.length (t2.getD k tx0).2.1) rfl rfl (Tryz.build66 _ _ _ _ _ _)) ?_
    refine D.nS (k := 10) (Sub.drop _ (Sub.keep _ (Sub.keep _ (Sub.keep _ (Sub.keep _ (Sub.nil [])))))) rfl (by kernel_rfl) (by kernel_rfl) rfl rfl (OpV.slice1 (bytes := 48) (v := .agg #[.slice (t1.getD k tx0).1 (t1.getD k tx0).2.2.length (t1.getD k tx0).2.1, .slice (t2.getD k tx0).1 (t2.getD k tx0).2.2.length (t2.getD k tx0).2.1]) Tryz.underlying26 Tryz.elem114 (by decide) rfl rfl (fun gp => ⟨Sub.drop _ (Sub.keep _ (Sub.keep _ (Sub.keep _ (Sub.keep _ (Sub.keep _ (Sub.nil [])))))), ?_⟩))
    refine D.opS (k := 11) (Sub.drop _ (Sub.drop _ (Sub.keep _ (Sub.keep _ (Sub.keep _ (Sub.keep _ (Sub.nil []))))))) rfl (by kernel_rfl) (by kernel_rfl) rfl rfl (OpV.app1 (bytes := 48) (news := [.slice (t1.getD k tx0).1 (t1.getD k tx0).2.2.length (t1.getD k tx0).2.1, .slice (t2.getD k tx0).1 (t2.getD k tx0).2.2.length (t2.getD k tx0).2.1]) Tryz.underlying26 Tryz.elem114 rfl rfl (Has.blk (cs := [.slice (t1.getD k tx0).1 (t1.getD k tx0).2.2.length (t1.getD k tx0).2.1, .slice (t2.getD k tx0).1 (t2.getD k tx0).2.2.length (t2.getD k tx0).2.1]) (Has.at 0 rfl)) rfl two_one (by simp only [maxLen]; omega) (by omega) (fun O3 d3 => ⟨Sub.drop _ (Sub.drop _ (Sub.keep _ (Sub.keep _ (Sub.keep _ (Sub.keep _ (Sub.nil [])))))), ?_⟩))
    refine D.qY 12 rfl (Qt.assign (by conv => lhs; whnf)) ?_
    refine D.done (Sub.drop _ (Sub.drop _ (Sub.keep _ (Sub.keep _ (Sub.keep _ (Sub.keep _ (Sub.nil []))))))) (by kernel_rfl) ?_
    refine TC.region ?_
    refine S.q rfl rfl (Qt.add (b := 1) rfl rfl (by simp only [kmax]; omega)) ?_
    refine S.mv ?_
    refine S.nil ?_
    refine ⟨(k + 1, O3, d3), ?_, ?_, ⟨?_, (List.forall_mem_cons.2 ⟨rfl, (List.forall_mem_cons.2 ⟨rfl, (fun _ h => nomatch h)⟩)⟩)⟩, (by dsimp only; rw [zip_take (by omega) (by omega), List.flatMap_append]; exact Sub.trans (Sub.keep _ (Sub.keep _ (Sub.keep _ (Sub.keep _ (Sub.keep _ (Sub.drop _ (Sub.nil []))))))) (Sub.trans (Sub.keep _ (Sub.trans (Sub.keep _ (Sub.trans (Sub.keep _ (Sub.trans (Sub.keep _ (Sub.trans (Sub.keep _ (Sub.refl _)) (Sub.of_perm (List.perm_middle (l₁ := [_]))))) (Sub.of_perm (List.perm_middle (l₁ := [_]))))) (Sub.of_perm (List.perm_middle (l₁ := [_]))))) (Sub.of_perm (List.perm_middle (l₁ := [_]))))) (Sub.of_perm (List.perm_middle (l₁ := [_])))))⟩
    · show _ ≤ _; dsimp only; omega
    · show _ < _; dsimp only; omega
    repeat (first | exact Out.refl _ _ | refine Out.put rfl ?_ | refine Out.puts rfl ?_ | refine Out.scr ?_ | refine Out.scr' rfl ?_)
  · refine S.nil ?_
    refine TC.seq ?_
    refine S.if_f rfl ?_
    refine TC.exit ?_
    refine TC.seq ?_
    refine TC.region ?_
    refine TL.manyTwo ((List.perm_middle (l₁ := [_, _])).trans (List.Perm.cons _ (List.perm_middle (l₁ := [_, _, _])))) ?_
    refine S.mv ?_
    refine S.as ?_
    refine S.nil ?_
    refine TC.ret ?_
    refine finQ.ret (RVs.tmp (by conv => lhs; whnf) RVs.nil) (Sub.trans (Sub.keep _ (Sub.keep _ (Sub.drop _ (Sub.drop _ (Sub.nil []))))) (Sub.trans (Sub.keep _ (Sub.refl _)) (Sub.of_perm (List.perm_middle (l₁ := [_]))))) ?_
    obtain rfl : k = t1.length := by omega
    have hz := zip_full t1 t2 (Nat.le_refl _) (by omega)
    have hE : zipE t1 t2 = zipP t1 t2 := if_pos (by omega)
    have hl : (zipE t1 t2).length = t1.length := by rw [hE, zipP, List.length_zip]; omega
    refine ⟨O, d, zipE t1 t2, t1.map txOwn ++ t2.map txOwn, by rw [hl]; rfl, by rw [hl, hE, ← hz], ?_, by omega, zipE_own⟩
    rw [zipE_T, e1, e2]; rfl
theorem both_C (fn : FuncId) (cap : Array Value) (hent : Enters Tryz.prog fn) (X1 X2 : Option (List (List UInt8))) (w0 : World) (h1 : ∀ w, St w0 [] [] w → Calls Tryz.prog fn ((([.bool true] : List Value) ++ cap.toList).toArray) w (Post w [] (TxQ X1))) (h2 : ∀ w, St w0 [] [] w → Calls Tryz.prog fn ((([.bool false] : List Value) ++ cap.toList).toArray) w (Post w [] (TxQ X2))) :
    Calls Tryz.prog 45 #[.func (.func fn) #[] cap] w0 (Post w0 [] fun v L => PxQ 114 (pairX X1 X2) v L) := by
  cases X1 with
  | none => exact both_walkN fn cap hent X2 w0 h1 h2
  | some a => cases X2 with
    | none => exact both_walkN2 fn cap hent a w0 h1 h2
    | some b =>
      by_cases hl : a.length = b.length
      · exact both_walk0 fn cap hent a b hl w0 h1 h2
      · exact both_walkL fn cap hent a b hl w0 h1 h2

set_option maxHeartbeats 400000 in
theorem pairs_walk0 (A : Option Addr) (c : Nat) (t1 : List Tx) (B : Option Addr) (e : Nat) (t2 : List Tx) (hl : t1.length = t2.length) (hm : t1.length ≤ 16384) (w0 : World) (hA : Ro w0 [] (SlA A (t1.flatMap txL))) (hB : Ro w0 [] (SlA B (t2.flatMap txL))) :
    Calls Tryz.prog 62 #[.slice A t1.length c, .slice B t2.length e] w0 (Post w0 [] fun v L => ∃ (O : Option Addr) (d : Nat), v = .slice O (zipE t1 t2).length d ∧ L = [OwnA 115 2 O (zipE t1 t2).length d ((zipE t1 t2).flatMap pxL)]) := by
  refine Calls.of (L := []) (n := 33) (rs := [.tmp 4]) Tryz.func62 rfl rfl rfl (Nat.le_of_ble_eq_true rfl) (Sat.nil _) ?_
  refine TC.seq ?_
  refine TC.region ?_
  refine S.as ?_
  refine S.nil ?_
  refine TC.seq ?_
  refine TC.region ?_
  refine S.as ?_
  refine S.nil ?_
  refine TC.seq ?_
  refine TC.seq ?_
  refine TC.region ?_
  refine S.as ?_
  refine S.nil ?_
  refine TC.block ?_
  refine TC.ownNil 115 2 ?_
  refine TC.loop (γ := Nat × Option Addr × Nat) [7, 8, 9, 10, 11, 12, 13, 14, 15, 16, 17, 20, 21, 22, 23, 24, 25, 26, 27, 28, 29, 30, 31, 5, 18, 19, 6] (fun g => [(6, .int .i64 ((g.1 : Nat) : Int)), (5, .slice g.2.1 g.1 g.2.2)]) (fun g => [OwnA 115 2 g.2.1 g.1 g.2.2 (((t1.take g.1).zip (t2.take g.1)).flatMap pxL)]) (fun g => g.1 ≤ t1.length) (fun g => t1.length - g.1) ((0, none, 0))
    (Nat.zero_le _) ⟨Out.refl _ _, (List.forall_mem_cons.2 ⟨rfl, (List.forall_mem_cons.2 ⟨rfl, (fun _ h => nomatch h)⟩)⟩)⟩ (Sub.refl _) ?_
  rintro ⟨k, O, d⟩ u hk
  dsimp only at hk
  show TC _ _ _ (puts [(6, .int .i64 (k : Int)), (5, .slice O k d)] (scr _ u _)) [OwnA 115 2 O k d (((t1.take k).zip (t2.take k)).flatMap pxL)]
  refine TC.seq ?_
  refine TC.seq ?_
  refine TC.region ?_
  refine S.mv ?_
  refine S.mv ?_
  refine S.q rfl rfl (Qt.len_slice Tryz.underlying111 rfl) ?_
  refine S.dec rfl rfl (Qt.lt rfl rfl) (fun h10 => ?_) (fun h10 => ?_)
  · refine S.mv ?_
    refine S.qg rfl rfl rfl (Qt.move (by conv => lhs; whnf)) ?_
    refine S.qg rfl rfl rfl (Qt.len_slice Tryz.underlying111 rfl) ?_
    refine S.qg rfl rfl rfl (Qt.move (by conv => lhs; whnf)) ?_
    refine S.qg rfl rfl rfl (Qt.len_slice Tryz.underlying111 rfl) ?_
    refine S.qg rfl rfl rfl (Qt.dT (Qt.eq rfl rfl) (hl)) ?_
    refine S.q rfl rfl (Qt.pick_t rfl (by conv => lhs; whnf)) ?_
    refine S.nil ?_
    refine S.if_t rfl ?_
    refine TC.skip ?_
    refine TC.seq ?_
    refine TC.block ?_
    refine S.draw ([11], [10]) Tryz.mixed (Sub.nil _) ?_
    refine D.qY 0 rfl (Qt.move (by conv => lhs; whnf)) ?_
    refine D.qY 1 rfl (Qt.move (by conv => lhs; whnf)) ?_
    refine D.qY 2 rfl (Qt.move (by conv => lhs; whnf)) ?_
    refine D.qY 3 rfl (Qt.index Tryz.underlying111 Tryz.cells112 rfl rfl (by omega) (Has.ro hA) (by rw [txL_len]; omega)) ?_
    refine D.qY 4 rfl (Qt.load rfl (Ld.sl (v := .slice (t1.getD k tx0).1 (t1.getD k tx0).2.2.length (t1.getD k tx0).2.1) (Has.ro hA) Tryz.one112 (txL_at (by omega)))) ?_
    refine D.qY 5 rfl (Qt.move (by conv => lhs; whnf)) ?_
    refine D.qY 6 rfl (Qt.move (by conv => lhs; whnf)) ?_
    refine D.qY 7 rfl (Qt.index Tryz.underlying111 Tryz.cells112 rfl rfl (by omega) (Has.ro hB) (by rw [txL_len]; omega)) ?_
    refine D.qY 8 rfl (Qt.load rfl (Ld.sl (v := .slice (t2.getD k tx0).1 (t2.getD k tx0).2.2.length (t2.getD k tx0).2.1) (Has.ro hB) Tryz.one112 (txL_at (by omega)))) ?_
    refine D.qY 9 rfl (Qt.build2 (a := .slice (t1.getD k tx0).1 (t1.getD k tx0).2.2.length (t1.getD k tx0).2.1) (b := .slice (t2.getD k tx0).1 (t2.getD k tx0).2.2.length (t2.getD k tx0).2.1) rfl rfl (Tryz.build77 _ _ _ _ _ _)) ?_
    refine D.nS (k := 10) (Sub.nil _) rfl (by kernel_rfl) (by kernel_rfl) rfl rfl (OpV.slice1 (bytes := 48) (v := .agg #[.slice (t1.getD k tx0).1 (t1.getD k tx0).2.2.length (t1.getD k tx0).2.1, .slice (t2.getD k tx0).1 (t2.getD k tx0).2.2.length (t2.getD k tx0).2.1]) Tryz.underlying29 Tryz.elem115 (by decide) rfl rfl (fun gp => ⟨Sub.drop _ (Sub.keep _ (Sub.nil [])), ?_⟩))
    refine D.opS (k := 11) (Sub.nil _) rfl (by kernel_rfl) (by kernel_rfl) rfl rfl (OpV.app1 (bytes := 48) (news := [.slice (t1.getD k tx0).1 (t1.getD k tx0).2.2.length (t1.getD k tx0).2.1, .slice (t2.getD k tx0).1 (t2.getD k tx0).2.2.length (t2.getD k tx0).2.1]) Tryz.underlying29 Tryz.elem115 rfl rfl (Has.blk (cs := [.slice (t1.getD k tx0).1 (t1.getD k tx0).2.2.length (t1.getD k tx0).2.1, .slice (t2.getD k tx0).1 (t2.getD k tx0).2.2.length (t2.getD k tx0).2.1]) (Has.at 0 rfl)) rfl two_one (by simp only [maxLen]; omega) (by omega) (fun O3 d3 => ⟨Sub.nil _, ?_⟩))
    refine D.qY 12 rfl (Qt.assign (by conv => lhs; whnf)) ?_
    refine D.done (Sub.nil _) (by kernel_rfl) ?_
    refine TC.region ?_
    refine S.mv ?_
    refine S.q rfl rfl (Qt.add (b := 1) rfl rfl (by simp only [kmax]; omega)) ?_
    refine S.as ?_
    refine S.nil ?_
    refine ⟨(k + 1, O3, d3), ?_, ?_, ⟨?_, (List.forall_mem_cons.2 ⟨rfl, (List.forall_mem_cons.2 ⟨rfl, (fun _ h => nomatch h)⟩)⟩)⟩, (by dsimp only; rw [zip_take (by omega) (by omega), List.flatMap_append]; exact Sub.trans (Sub.keep _ (Sub.drop _ (Sub.nil []))) (Sub.trans (Sub.keep _ (Sub.refl _)) (Sub.of_perm (List.perm_middle (l₁ := [_])))))⟩
    · show _ ≤ _; dsimp only; omega
    · show _ < _; dsimp only; omega
    repeat (first | exact Out.refl _ _ | refine Out.put rfl ?_ | refine Out.puts rfl ?_ | refine Out.scr ?_ | refine Out.scr' rfl ?_)
  · refine S.mv ?_
    refine S.pass rfl rfl ?_
    refine S.pass rfl rfl ?_
    refine S.pass rfl rfl ?_
    refine S.pass rfl rfl ?_
    refine S.pass rfl rfl ?_
    refine S.q rfl rfl (Qt.pick_f rfl (by conv => lhs; whnf)) ?_
    refine S.nil ?_
    refine S.if_f rfl ?_
    refine TC.exit ?_
    refine TC.seq ?_
    refine TC.region ?_
    refine S.mv ?_
    refine S.as ?_
    refine S.nil ?_
    refine TC.ret ?_
    refine finQ.ret (RVs.tmp (by conv => lhs; whnf) RVs.nil) (Sub.refl _) ?_
    obtain rfl : k = t1.length := by omega
    have hz := zip_full t1 t2 (Nat.le_refl _) (by omega)
    have hE : zipE t1 t2 = zipP t1 t2 := if_pos (by omega)
    have hl2 : (zipE t1 t2).length = t1.length := by rw [hE, zipP, List.length_zip]; omega
    exact ⟨O, d, by rw [hl2]; rfl, by rw [hl2, hE, ← hz]⟩
set_option maxHeartbeats 400000 in
theorem pairs_walkN (A : Option Addr) (c : Nat) (t1 : List Tx) (B : Option Addr) (e : Nat) (t2 : List Tx) (hl : t1.length ≠ t2.length) (w0 : World) (hA : Ro w0 [] (SlA A (t1.flatMap txL))) (hB : Ro w0 [] (SlA B (t2.flatMap txL))) :
    Calls Tryz.prog 62 #[.slice A t1.length c, .slice B t2.length e] w0 (Post w0 [] fun v L => ∃ (O : Option Addr) (d : Nat), v = .slice O (zipE t1 t2).length d ∧ L = [OwnA 115 2 O (zipE t1 t2).length d ((zipE t1 t2).flatMap pxL)]) := by
  refine Calls.of (L := []) (n := 33) (rs := [.tmp 4]) Tryz.func62 rfl rfl rfl (Nat.le_of_ble_eq_true rfl) (Sat.nil _) ?_
  refine TC.seq ?_
  refine TC.region ?_
  refine S.as ?_
  refine S.nil ?_
  refine TC.seq ?_
  refine TC.region ?_
  refine S.as ?_
  refine S.nil ?_
  refine TC.seq ?_
  refine TC.seq ?_
  refine TC.region ?_
  refine S.as ?_
  refine S.nil ?_
  refine TC.block ?_
  refine TC.ownNil 115 2 ?_
  refine TC.loop (γ := Nat × Option Addr × Nat) [7, 8, 9, 10, 11, 12, 13, 14, 15, 16, 17, 20, 21, 22, 23, 24, 25, 26, 27, 28, 29, 30, 31, 5, 18, 19, 6] (fun g => [(6, .int .i64 ((g.1 : Nat) : Int)), (5, .slice g.2.1 g.1 g.2.2)]) (fun g => [OwnA 115 2 g.2.1 g.1 g.2.2 (((t1.take g.1).zip (t2.take g.1)).flatMap pxL)]) (fun g => g.1 = 0) (fun g => 0) ((0, none, 0))
    rfl ⟨Out.refl _ _, (List.forall_mem_cons.2 ⟨rfl, (List.forall_mem_cons.2 ⟨rfl, (fun _ h => nomatch h)⟩)⟩)⟩ (Sub.refl _) ?_
  rintro ⟨k, O, d⟩ u hk
  dsimp only at hk
  show TC _ _ _ (puts [(6, .int .i64 (k : Int)), (5, .slice O k d)] (scr _ u _)) [OwnA 115 2 O k d (((t1.take k).zip (t2.take k)).flatMap pxL)]
  refine TC.seq ?_
  refine TC.seq ?_
  refine TC.region ?_
  refine S.mv ?_
  refine S.mv ?_
  refine S.q rfl rfl (Qt.len_slice Tryz.underlying111 rfl) ?_
  refine S.dec rfl rfl (Qt.lt rfl rfl) (fun h10 => ?_) (fun h10 => ?_)
  · refine S.mv ?_
    refine S.qg rfl rfl rfl (Qt.move (by conv => lhs; whnf)) ?_
    refine S.qg rfl rfl rfl (Qt.len_slice Tryz.underlying111 rfl) ?_
    refine S.qg rfl rfl rfl (Qt.move (by conv => lhs; whnf)) ?_
    refine S.qg rfl rfl rfl (Qt.len_slice Tryz.underlying111 rfl) ?_
    refine S.qg rfl rfl rfl (Qt.dF (Qt.eq rfl rfl) (hl)) ?_
    refine S.q rfl rfl (Qt.pick_t rfl (by conv => lhs; whnf)) ?_
    refine S.nil ?_
    refine S.if_f rfl ?_
    refine TC.exit ?_
    refine TC.seq ?_
    refine TC.region ?_
    refine S.mv ?_
    refine S.as ?_
    refine S.nil ?_
    refine TC.ret ?_
    refine finQ.ret (RVs.tmp (by conv => lhs; whnf) RVs.nil) (Sub.refl _) ?_
    have hE : zipE t1 t2 = [] := if_neg hl
    rw [hE]
    obtain rfl : k = 0 := hk
    exact ⟨O, d, rfl, rfl⟩
  · refine S.mv ?_
    refine S.pass rfl rfl ?_
    refine S.pass rfl rfl ?_
    refine S.pass rfl rfl ?_
    refine S.pass rfl rfl ?_
    refine S.pass rfl rfl ?_
    refine S.q rfl rfl (Qt.pick_f rfl (by conv => lhs; whnf)) ?_
    refine S.nil ?_
    refine S.if_f rfl ?_
    refine TC.exit ?_
    refine TC.seq ?_
    refine TC.region ?_
    refine S.mv ?_
    refine S.as ?_
    refine S.nil ?_
    refine TC.ret ?_
    refine finQ.ret (RVs.tmp (by conv => lhs; whnf) RVs.nil) (Sub.refl _) ?_
    have hE : zipE t1 t2 = [] := if_neg hl
    rw [hE]
    obtain rfl : k = 0 := hk
    exact ⟨O, d, rfl, rfl⟩
end Go.Proofs.YtgdjcmehlhebdaaGreatDoor
namespace Go.Proofs.YtgdjcmehlhebdaaGreatDoor
open Go.E
set_option linter.unusedVariables false
set_option maxRecDepth 4000
theorem path22_C (x : H32) (i : Nat) (A : Option Addr) (c : Nat) (ps : List H32) (hi : i < 18446744073709551616) (w0 : World) (hR : Ro w0 [] (SlA A (hcs ps))) (hT : Tabs 3 1 w0 []) : Calls Tryz.prog 155 #[.int .u64 (i : Int), .agg (hvl x ++ [Value.slice A ps.length c]).toArray] w0 (Post w0 [] fun v L => TxQ (pathQ x i ps) v L) := by
  by_cases hf : fitsP i ps.length
  · rw [pathQ_T hf]; exact path22_walk x i A c ps hi hf w0 hR hT
  · rw [pathQ_F hf]; exact path22_walkF x i A c ps hi hf w0
theorem pairs_C (A : Option Addr) (c : Nat) (t1 : List Tx) (B : Option Addr) (e : Nat) (t2 : List Tx) (hm : t1.length ≤ 16384) (w0 : World) (hA : Ro w0 [] (SlA A (t1.flatMap txL))) (hB : Ro w0 [] (SlA B (t2.flatMap txL))) : Calls Tryz.prog 62 #[.slice A t1.length c, .slice B t2.length e] w0 (Post w0 [] fun v L => ∃ (O : Option Addr) (d : Nat), v = .slice O (zipE t1 t2).length d ∧ L = [OwnA 115 2 O (zipE t1 t2).length d ((zipE t1 t2).flatMap pxL)]) := by
  by_cases hl : t1.length = t2.length
  · exact pairs_walk0 A c t1 B e t2 hl hm w0 hA hB
  · exact pairs_walkN A c t1 B e t2 hl w0 hA hB
set_option maxHeartbeats 400000 in
theorem pcl_trueN (q1 q2 q3 i : Nat) (cs ds : List Value) (hc : cs.length = 33) (hd : ds.length = 33) (hc1 : cs.all (·.oneCell') = true) (hd1 : ds.all (·.oneCell') = true) (w0 : World) (h1 : Ro w0 [] (Blk q1 40 [.int .u64 (i : Int)])) (h2 : Ro w0 [] (Blk q2 198 cs)) (h3 : Ro w0 [] (Blk q3 198 ds)) (hX : ∀ w, St w0 [] [] w → Calls Tryz.prog 155 #[.int .u64 (i : Int), .agg cs.toArray] w (Post w [] (TxQ none))) :
    Calls Tryz.prog 154 #[.bool true, .pointer (some ⟨q1, 0, none⟩), .pointer (some ⟨q2, 0, none⟩), .pointer (some ⟨q3, 0, none⟩)] w0 (Post w0 [] fun v L => TxQ none v L) := by
  refine Calls.of (L := []) (n := 15) (rs := [.tmp 5, .tmp 6]) Tryz.func154 rfl rfl rfl (Nat.le_of_ble_eq_true rfl) (Sat.nil _) ?_
  refine TC.seq ?_
  refine TC.region ?_
  refine S.as ?_
  refine S.as ?_
  refine S.nil ?_
  refine TC.seq ?_
  refine S.draw ([], [5]) Tryz.mixed (Sub.refl _) ?_
  refine D.qY 0 rfl (Qt.load rfl (Ld.one (v := .int .u64 (i : Int)) (Has.ro h1) Tryz.one40 rfl)) ?_
  refine D.qY 1 rfl (Qt.move (by conv => lhs; whnf)) ?_
  refine D.qY 2 rfl (Qt.load rfl (Ld.all (vs := cs) (Has.ro h2) Tryz.row198 (by rw [hc]; exact Tryz.cells198))) ?_
  refine D.qY 3 rfl (Qt.load rfl (Ld.all (vs := ds) (Has.ro h3) Tryz.row198 (by rw [hd]; exact Tryz.cells198))) ?_
  refine D.cX (k := 4) rfl (by kernel_rfl) (by kernel_rfl) (by kernel_rfl) rfl rfl (CalU.con0 Tryz.ent156 rfl (fun w hw => Calls.ret (pickC_true cs ds hc hd hc1 hd1 w))) ?_
  refine D.nS (k := 5) (Sub.refl _) rfl (by kernel_rfl) (by kernel_rfl) rfl rfl (OpV.con (Pre := []) (R := _) Tryz.ent155 rfl (List.Perm.refl _) (fun w hw => hX w (hw.sub (Sub.nil _))) ?_)
  rintro v L' ⟨k1, rfl, rfl⟩
  refine ⟨Sub.refl _, ?_⟩
  refine D.qY 6 rfl (Qt.extract rfl rfl) ?_
  refine D.qY 7 rfl (Qt.extract rfl rfl) ?_
  refine D.qY 8 rfl (Qt.assign (by conv => lhs; whnf)) ?_
  refine D.qY 9 rfl (Qt.assign (by conv => lhs; whnf)) ?_
  refine D.done (Sub.refl _) (by kernel_rfl) ?_
  refine TC.ret ?_
  refine finQ.ret (RVs.tmp (by conv => lhs; whnf) (RVs.tmp (by conv => lhs; whnf) RVs.nil)) (Sub.nil _) ?_
  exact ⟨k1, rfl, rfl⟩
set_option maxHeartbeats 400000 in
theorem pcl_trueS (q1 q2 q3 i : Nat) (cs ds : List Value) (hc : cs.length = 33) (hd : ds.length = 33) (hc1 : cs.all (·.oneCell') = true) (hd1 : ds.all (·.oneCell') = true) (a : List (List UInt8)) (w0 : World) (h1 : Ro w0 [] (Blk q1 40 [.int .u64 (i : Int)])) (h2 : Ro w0 [] (Blk q2 198 cs)) (h3 : Ro w0 [] (Blk q3 198 ds)) (hX : ∀ w, St w0 [] [] w → Calls Tryz.prog 155 #[.int .u64 (i : Int), .agg cs.toArray] w (Post w [] (TxQ (some a)))) :
    Calls Tryz.prog 154 #[.bool true, .pointer (some ⟨q1, 0, none⟩), .pointer (some ⟨q2, 0, none⟩), .pointer (some ⟨q3, 0, none⟩)] w0 (Post w0 [] fun v L => TxQ (some a) v L) := by
  refine Calls.of (L := []) (n := 15) (rs := [.tmp 5, .tmp 6]) Tryz.func154 rfl rfl rfl (Nat.le_of_ble_eq_true rfl) (Sat.nil _) ?_
  refine TC.seq ?_
  refine TC.region ?_
  refine S.as ?_
  refine S.as ?_
  refine S.nil ?_
  refine TC.seq ?_
  refine S.draw ([], [5]) Tryz.mixed (Sub.refl _) ?_
  refine D.qY 0 rfl (Qt.load rfl (Ld.one (v := .int .u64 (i : Int)) (Has.ro h1) Tryz.one40 rfl)) ?_
  refine D.qY 1 rfl (Qt.move (by conv => lhs; whnf)) ?_
  refine D.qY 2 rfl (Qt.load rfl (Ld.all (vs := cs) (Has.ro h2) Tryz.row198 (by rw [hc]; exact Tryz.cells198))) ?_
  refine D.qY 3 rfl (Qt.load rfl (Ld.all (vs := ds) (Has.ro h3) Tryz.row198 (by rw [hd]; exact Tryz.cells198))) ?_
  refine D.cX (k := 4) rfl (by kernel_rfl) (by kernel_rfl) (by kernel_rfl) rfl rfl (CalU.con0 Tryz.ent156 rfl (fun w hw => Calls.ret (pickC_true cs ds hc hd hc1 hd1 w))) ?_
  refine D.nS (k := 5) (Sub.refl _) rfl (by kernel_rfl) (by kernel_rfl) rfl rfl (OpV.con (Pre := []) (R := _) Tryz.ent155 rfl (List.Perm.refl _) (fun w hw => hX w (hw.sub (Sub.nil _))) ?_)
  rintro v L' ⟨O1, d1, t1, rfl, rfl, e1, l1⟩
  refine ⟨Sub.nil _, ?_⟩
  refine D.qY 6 rfl (Qt.extract rfl rfl) ?_
  refine D.qY 7 rfl (Qt.extract rfl rfl) ?_
  refine D.qY 8 rfl (Qt.assign (by conv => lhs; whnf)) ?_
  refine D.qY 9 rfl (Qt.assign (by conv => lhs; whnf)) ?_
  refine D.done (Sub.nil _) (by kernel_rfl) ?_
  refine TC.ret ?_
  refine finQ.ret (RVs.tmp (by conv => lhs; whnf) (RVs.tmp (by conv => lhs; whnf) RVs.nil)) (Sub.refl _) ?_
  exact ⟨O1, d1, t1, rfl, rfl, e1, l1⟩
theorem pcl_trueC (q1 q2 q3 i : Nat) (cs ds : List Value) (hc : cs.length = 33) (hd : ds.length = 33) (hc1 : cs.all (·.oneCell') = true) (hd1 : ds.all (·.oneCell') = true) (X : Option (List (List UInt8))) (w0 : World) (h1 : Ro w0 [] (Blk q1 40 [.int .u64 (i : Int)])) (h2 : Ro w0 [] (Blk q2 198 cs)) (h3 : Ro w0 [] (Blk q3 198 ds)) (hX : ∀ w, St w0 [] [] w → Calls Tryz.prog 155 #[.int .u64 (i : Int), .agg cs.toArray] w (Post w [] (TxQ X))) :
    Calls Tryz.prog 154 #[.bool true, .pointer (some ⟨q1, 0, none⟩), .pointer (some ⟨q2, 0, none⟩), .pointer (some ⟨q3, 0, none⟩)] w0 (Post w0 [] (TxQ X)) := by
  cases X with
  | none => exact pcl_trueN q1 q2 q3 i cs ds hc hd hc1 hd1 w0 h1 h2 h3 hX
  | some a => exact pcl_trueS q1 q2 q3 i cs ds hc hd hc1 hd1 a w0 h1 h2 h3 hX
theorem paths_htrue (b3 b4 b5 : Nat) (i : Nat) (hi : i < 18446744073709551616) (x : H32) (A : Option Addr) (c : Nat) (ps : List H32) (y : H32) (B : Option Addr) (e : Nat) (qs : List H32) (w0 : World) (hR : Ro w0 [] (SlA A (hcs ps))) (hR2 : Ro w0 [] (SlA B (hcs qs))) (hT : Tabs 3 1 w0 []) (h3 : Ro w0 [] (Blk b3 40 [.int .u64 (i : Int)])) (h4 : Ro w0 [] (Blk b4 198 (hvl x ++ [Value.slice A ps.length c]))) (h5 : Ro w0 [] (Blk b5 198 (hvl y ++ [Value.slice B qs.length e]))) :
    ∀ w, St w0 [] [] w → Calls Tryz.prog 154 ((([.bool true] : List Value) ++ (#[.pointer (some ⟨b3, 0, none⟩), .pointer (some ⟨b4, 0, none⟩), .pointer (some ⟨b5, 0, none⟩)] : Array Value).toList).toArray) w (Post w [] (TxQ (pathQ x i ps))) := fun w s =>
  pcl_trueC b3 b4 b5 i (hvl x ++ [Value.slice A ps.length c]) (hvl y ++ [Value.slice B qs.length e]) (cut_size x _) (cut_size y _) (by rw [List.all_append, hvl_one]; rfl) (by rw [List.all_append, hvl_one]; rfl) (pathQ x i ps) w (h3.go s (fun b hb => by cases hb)) (h4.go s (fun b hb => by cases hb)) (h5.go s (fun b hb => by cases hb)) (fun w2 s2 => path22_C x i A c ps hi w2 ((hR.go s (fun b hb => by cases hb)).go s2 (fun b hb => by cases hb)) ((hT.of_go s (fun b hb => by cases hb)).of_go s2 (fun b hb => by cases hb)))

set_option maxHeartbeats 400000 in
theorem pcl_falseN (q1 q2 q3 i : Nat) (cs ds : List Value) (hc : cs.length = 33) (hd : ds.length = 33) (hc1 : cs.all (·.oneCell') = true) (hd1 : ds.all (·.oneCell') = true) (w0 : World) (h1 : Ro w0 [] (Blk q1 40 [.int .u64 (i : Int)])) (h2 : Ro w0 [] (Blk q2 198 cs)) (h3 : Ro w0 [] (Blk q3 198 ds)) (hX : ∀ w, St w0 [] [] w → Calls Tryz.prog 155 #[.int .u64 (i : Int), .agg ds.toArray] w (Post w [] (TxQ none))) :
    Calls Tryz.prog 154 #[.bool false, .pointer (some ⟨q1, 0, none⟩), .pointer (some ⟨q2, 0, none⟩), .pointer (some ⟨q3, 0, none⟩)] w0 (Post w0 [] fun v L => TxQ none v L) := by
  refine Calls.of (L := []) (n := 15) (rs := [.tmp 5, .tmp 6]) Tryz.func154 rfl rfl rfl (Nat.le_of_ble_eq_true rfl) (Sat.nil _) ?_
  refine TC.seq ?_
  refine TC.region ?_
  refine S.as ?_
  refine S.as ?_
  refine S.nil ?_
  refine TC.seq ?_
  refine S.draw ([], [5]) Tryz.mixed (Sub.refl _) ?_
  refine D.qY 0 rfl (Qt.load rfl (Ld.one (v := .int .u64 (i : Int)) (Has.ro h1) Tryz.one40 rfl)) ?_
  refine D.qY 1 rfl (Qt.move (by conv => lhs; whnf)) ?_
  refine D.qY 2 rfl (Qt.load rfl (Ld.all (vs := cs) (Has.ro h2) Tryz.row198 (by rw [hc]; exact Tryz.cells198))) ?_
  refine D.qY 3 rfl (Qt.load rfl (Ld.all (vs := ds) (Has.ro h3) Tryz.row198 (by rw [hd]; exact Tryz.cells198))) ?_
  refine D.cX (k := 4) rfl (by kernel_rfl) (by kernel_rfl) (by kernel_rfl) rfl rfl (CalU.con0 Tryz.ent156 rfl (fun w hw => Calls.ret (pickC_false cs ds hc hd hc1 hd1 w))) ?_
  refine D.nS (k := 5) (Sub.refl _) rfl (by kernel_rfl) (by kernel_rfl) rfl rfl (OpV.con (Pre := []) (R := _) Tryz.ent155 rfl (List.Perm.refl _) (fun w hw => hX w (hw.sub (Sub.nil _))) ?_)
  rintro v L' ⟨k1, rfl, rfl⟩
  refine ⟨Sub.refl _, ?_⟩
  refine D.qY 6 rfl (Qt.extract rfl rfl) ?_
  refine D.qY 7 rfl (Qt.extract rfl rfl) ?_
  refine D.qY 8 rfl (Qt.assign (by conv => lhs; whnf)) ?_
  refine D.qY 9 rfl (Qt.assign (by conv => lhs; whnf)) ?_
  refine D.done (Sub.refl _) (by kernel_rfl) ?_
  refine TC.ret ?_
  refine finQ.ret (RVs.tmp (by conv => lhs; whnf) (RVs.tmp (by conv => lhs; whnf) RVs.nil)) (Sub.nil _) ?_
  exact ⟨k1, rfl, rfl⟩
set_option maxHeartbeats 400000 in
theorem pcl_falseS (q1 q2 q3 i : Nat) (cs ds : List Value) (hc : cs.length = 33) (hd : ds.length = 33) (hc1 : cs.all (·.oneCell') = true) (hd1 : ds.all (·.oneCell') = true) (a : List (List UInt8)) (w0 : World) (h1 : Ro w0 [] (Blk q1 40 [.int .u64 (i : Int)])) (h2 : Ro w0 [] (Blk q2 198 cs)) (h3 : Ro w0 [] (Blk q3 198 ds)) (hX : ∀ w, St w0 [] [] w → Calls Tryz.prog 155 #[.int .u64 (i : Int), .agg ds.toArray] w (Post w [] (TxQ (some a)))) :
    Calls Tryz.prog 154 #[.bool false, .pointer (some ⟨q1, 0, none⟩), .pointer (some ⟨q2, 0, none⟩), .pointer (some ⟨q3, 0, none⟩)] w0 (Post w0 [] fun v L => TxQ (some a) v L) := by
  refine Calls.of (L := []) (n := 15) (rs := [.tmp 5, .tmp 6]) Tryz.func154 rfl rfl rfl (Nat.le_of_ble_eq_true rfl) (Sat.nil _) ?_
  refine TC.seq ?_
  refine TC.region ?_
  refine S.as ?_
  refine S.as ?_
  refine S.nil ?_
  refine TC.seq ?_
  refine S.draw ([], [5]) Tryz.mixed (Sub.refl _) ?_
  refine D.qY 0 rfl (Qt.load rfl (Ld.one (v := .int .u64 (i : Int)) (Has.ro h1) Tryz.one40 rfl)) ?_
  refine D.qY 1 rfl (Qt.move (by conv => lhs; whnf)) ?_
  refine D.qY 2 rfl (Qt.load rfl (Ld.all (vs := cs) (Has.ro h2) Tryz.row198 (by rw [hc]; exact Tryz.cells198))) ?_
  refine D.qY 3 rfl (Qt.load rfl (Ld.all (vs := ds) (Has.ro h3) Tryz.row198 (by rw [hd]; exact Tryz.cells198))) ?_
  refine D.cX (k := 4) rfl (by kernel_rfl) (by kernel_rfl) (by kernel_rfl) rfl rfl (CalU.con0 Tryz.ent156 rfl (fun w hw => Calls.ret (pickC_false cs ds hc hd hc1 hd1 w))) ?_
  refine D.nS (k := 5) (Sub.refl _) rfl (by kernel_rfl) (by kernel_rfl) rfl rfl (OpV.con (Pre := []) (R := _) Tryz.ent155 rfl (List.Perm.refl _) (fun w hw => hX w (hw.sub (Sub.nil _))) ?_)
  rintro v L' ⟨O1, d1, t1, rfl, rfl, e1, l1⟩
  refine ⟨Sub.nil _, ?_⟩
  refine D.qY 6 rfl (Qt.extract rfl rfl) ?_
  refine D.qY 7 rfl (Qt.extract rfl rfl) ?_
  refine D.qY 8 rfl (Qt.assign (by conv => lhs; whnf)) ?_
  refine D.qY 9 rfl (Qt.assign (by conv => lhs; whnf)) ?_
  refine D.done (Sub.nil _) (by kernel_rfl) ?_
  refine TC.ret ?_
  refine finQ.ret (RVs.tmp (by conv => lhs; whnf) (RVs.tmp (by conv => lhs; whnf) RVs.nil)) (Sub.refl _) ?_
  exact ⟨O1, d1, t1, rfl, rfl, e1, l1⟩
theorem pcl_falseC (q1 q2 q3 i : Nat) (cs ds : List Value) (hc : cs.length = 33) (hd : ds.length = 33) (hc1 : cs.all (·.oneCell') = true) (hd1 : ds.all (·.oneCell') = true) (X : Option (List (List UInt8))) (w0 : World) (h1 : Ro w0 [] (Blk q1 40 [.int .u64 (i : Int)])) (h2 : Ro w0 [] (Blk q2 198 cs)) (h3 : Ro w0 [] (Blk q3 198 ds)) (hX : ∀ w, St w0 [] [] w → Calls Tryz.prog 155 #[.int .u64 (i : Int), .agg ds.toArray] w (Post w [] (TxQ X))) :
    Calls Tryz.prog 154 #[.bool false, .pointer (some ⟨q1, 0, none⟩), .pointer (some ⟨q2, 0, none⟩), .pointer (some ⟨q3, 0, none⟩)] w0 (Post w0 [] (TxQ X)) := by
  cases X with
  | none => exact pcl_falseN q1 q2 q3 i cs ds hc hd hc1 hd1 w0 h1 h2 h3 hX
  | some a => exact pcl_falseS q1 q2 q3 i cs ds hc hd hc1 hd1 a w0 h1 h2 h3 hX
theorem paths_hfalse (b3 b4 b5 : Nat) (i : Nat) (hi : i < 18446744073709551616) (x : H32) (A : Option Addr) (c : Nat) (ps : List H32) (y : H32) (B : Option Addr) (e : Nat) (qs : List H32) (w0 : World) (hR : Ro w0 [] (SlA A (hcs ps))) (hR2 : Ro w0 [] (SlA B (hcs qs))) (hT : Tabs 3 1 w0 []) (h3 : Ro w0 [] (Blk b3 40 [.int .u64 (i : Int)])) (h4 : Ro w0 [] (Blk b4 198 (hvl x ++ [Value.slice A ps.length c]))) (h5 : Ro w0 [] (Blk b5 198 (hvl y ++ [Value.slice B qs.length e]))) :
    ∀ w, St w0 [] [] w → Calls Tryz.prog 154 ((([.bool false] : List Value) ++ (#[.pointer (some ⟨b3, 0, none⟩), .pointer (some ⟨b4, 0, none⟩), .pointer (some ⟨b5, 0, none⟩)] : Array Value).toList).toArray) w (Post w [] (TxQ (pathQ y i qs))) := fun w s =>
  pcl_falseC b3 b4 b5 i (hvl x ++ [Value.slice A ps.length c]) (hvl y ++ [Value.slice B qs.length e]) (cut_size x _) (cut_size y _) (by rw [List.all_append, hvl_one]; rfl) (by rw [List.all_append, hvl_one]; rfl) (pathQ y i qs) w (h3.go s (fun b hb => by cases hb)) (h4.go s (fun b hb => by cases hb)) (h5.go s (fun b hb => by cases hb)) (fun w2 s2 => path22_C y i B e qs hi w2 ((hR2.go s (fun b hb => by cases hb)).go s2 (fun b hb => by cases hb)) ((hT.of_go s (fun b hb => by cases hb)).of_go s2 (fun b hb => by cases hb)))

set_option maxHeartbeats 800000 in
theorem paths6_walk (i : Nat) (hi : i < 18446744073709551616) (x : H32) (A : Option Addr) (c : Nat) (ps : List H32) (y : H32) (B : Option Addr) (e : Nat) (qs : List H32) (w0 : World) (hR : Ro w0 [] (SlA A (hcs ps))) (hR2 : Ro w0 [] (SlA B (hcs qs))) (hT : Tabs 3 1 w0 []) :
    Calls Tryz.prog 96 #[.int .u64 (i : Int), .agg (hvl x ++ [Value.slice A ps.length c]).toArray, .agg (hvl y ++ [Value.slice B qs.length e]).toArray] w0 (Post w0 [] fun v L => PxQ 114 (pairX (pathQ x i ps) (pathQ y i qs)) v L) := by
  refine Calls.of (L := []) (n := 9) (rs := [.tmp 6]) Tryz.func96 rfl rfl rfl (Nat.le_of_ble_eq_true rfl) (Sat.nil _) ?_
  refine TC.seq ?_
  refine TC.region ?_
  refine S.opS rfl rfl (OpV.box (v := .int .u64 (i : Int)) rfl (fun b3 => ?_))
  refine S.opS rfl rfl (OpV.box (v := .agg (hvl x ++ [Value.slice A ps.length c]).toArray) rfl (fun b4 => ?_))
  refine S.opS rfl rfl (OpV.box (v := .agg (hvl y ++ [Value.slice B qs.length e]).toArray) rfl (fun b5 => ?_))
  refine S.as ?_
  refine S.nil ?_
  refine TC.seq ?_
  refine TC.region ?_
  refine S.q rfl rfl (Qt.makeFuncL (fs := []) (cs := [.pointer (some ⟨b3, 0, none⟩), .pointer (some ⟨b4, 0, none⟩), .pointer (some ⟨b5, 0, none⟩)]) rfl rfl) ?_
  refine S.opS rfl rfl (OpV.con (Pre := []) (R := _) Tryz.ent45 rfl (List.Perm.refl _) (fun w hw => both_C 154 #[.pointer (some ⟨b3, 0, none⟩), .pointer (some ⟨b4, 0, none⟩), .pointer (some ⟨b5, 0, none⟩)] Tryz.ent154 (pathQ x i ps) (pathQ y i qs) w (paths_htrue b3 b4 b5 i hi x A c ps y B e qs w (Rd.ro hR w hw) (Rd.ro hR2 w hw) (hT.at hw) (Rd.at 2 rfl w hw) (Rd.at 1 rfl w hw) (Rd.at 0 rfl w hw)) (paths_hfalse b3 b4 b5 i hi x A c ps y B e qs w (Rd.ro hR w hw) (Rd.ro hR2 w hw) (hT.at hw) (Rd.at 2 rfl w hw) (Rd.at 1 rfl w hw) (Rd.at 0 rfl w hw))) ?_)
  rintro v L' ⟨O, d, pp, Ls, rfl, rfl, q1, q2, q3⟩
  refine S.as ?_
  refine S.nil ?_
  refine TC.ret ?_
  refine finQ.ret (RVs.tmp (by conv => lhs; whnf) RVs.nil) (Sub.keep _ (Sub.keep _ (Sub.drop _ (Sub.drop _ (Sub.drop _ (Sub.nil [])))))) ?_
  exact ⟨O, d, pp, Ls, rfl, rfl, q1, q2, q3⟩
theorem openTx_C (z : Int) (A : Option Addr) (c : Nat) (xs : List Nat) (hc : xs.length ≤ c) (B : Option Addr) (b : Nat) (ls : List H32) (Z : Option Addr) (e : Nat) (bs : List H32) (hb : ls.length ≤ b) (hbs : bs.length ≤ e) (w0 : World) (hlow : ∀ x ∈ xs, x < 18446744073709551616) (hR : Ro w0 [] (SlA A (u64s xs))) (hB : Ro w0 [] (SlA B (hcs ls))) (hD : Ro w0 [] (SlA Z (hcs bs))) (hT : Tabs 3 1 w0 []) : Calls Tryz.prog 144 #[.int .i64 z, .slice A xs.length c, .slice B ls.length b, .slice Z bs.length e] w0 (Post w0 [] fun v L => TxQ (openQ z xs ls bs) v L) := by
  have hE : ∀ (z : Int) (k : Nat), (∀ w, Ro w [] (SlA A (u64s xs)) → Ro w [] (SlA B (hcs ls)) → Ro w [] (SlA Z (hcs bs)) → Calls Tryz.prog 188 #[.int .i64 z, .slice A xs.length c, .slice B ls.length b, .slice Z bs.length e] w (Ret w (.tuple #[hv zeroH, .slice none 0 0, .iface 73 (.int .i64 (k : Int))]))) → Calls Tryz.prog 144 #[.int .i64 z, .slice A xs.length c, .slice B ls.length b, .slice Z bs.length e] w0 (Post w0 [] fun v L => TxQ none v L) :=
    fun z k h => (txt_walkE z k A c xs B b ls Z e bs h w0 hR hB hD).mono fun q w ⟨v, L, h1, h2, h3, h4⟩ => ⟨v, L, h1, h2, (k : Int), h3, h4⟩
  by_cases hz : z < 0 ∨ 32 < z
  · rw [openQ_F (by rw [rootR, if_pos hz]; decide)]; exact hE z 1 (fun w r1 r2 r3 => come_F1 z A c xs hc B b ls Z e bs (by omega) hlow w r1)
  · obtain ⟨height, rfl⟩ : ∃ n : Nat, z = (n : Int) := ⟨z.toNat, by omega⟩
    have hh : height ≤ 32 := by omega
    by_cases hi : idxOk height xs
    · by_cases h2 : ls.length = xs.length
      · by_cases h3 : bs.length = (spots height xs 0).length
        · rw [openQ_T hh hi h2 h3]; exact (txt_walk0 height hh A c xs hc B b ls Z e bs hi h2 h3 hb hbs w0 hlow hR hB hD hT).mono fun q w ⟨v, L, k1, k2, O, d, tt, k3, k4, k5⟩ => ⟨v, L, k1, k2, O, d, tt, k3, k4, k5, by have n1 := congrArg List.length k5; rw [List.length_map] at n1; have n2 := climbT_len height xs 0 ls bs; have n3 : xs.length * height ≤ 256 * 32 := Nat.mul_le_mul hi.2.1 hh; omega⟩
        · rw [openQ_F (by rw [rootR_nat hh, rootN_5 hi h2 h3]; show (5 : Nat) ≠ 0; decide)]; exact hE _ 5 (fun w r1 r2 r3 => Calls.ret (come_walk5 height hh A c xs hc B b ls Z e bs hi h2 h3 w hlow r1 r2 r3))
      · rw [openQ_F (by rw [rootR_nat hh, rootN_2 hi h2]; show (2 : Nat) ≠ 0; decide)]; exact hE _ 2 (fun w r1 r2 r3 => Calls.ret (come_walk2 height hh A c xs hc B b ls Z e bs hi h2 w hlow r1 r2 r3))
    · rw [openQ_F (by rw [rootR_nat hh, rootN_1 hi]; show (1 : Nat) ≠ 0; decide)]; exact hE _ 1 (fun w r1 r2 r3 => come_F1 _ A c xs hc B b ls Z e bs (.inr (.inr ⟨height, rfl, hh, hi⟩)) hlow w r1)

set_option maxHeartbeats 400000 in
theorem ocl_trueN (q1 q2 q3 q4 : Nat) (z : Int) (A : Option Addr) (n c : Nat) (B1 : Option Addr) (n1 a1 : Nat) (Z1 : Option Addr) (m1 e1 : Nat) (B2 : Option Addr) (n2 a2 : Nat) (Z2 : Option Addr) (m2 e2 : Nat) (w0 : World) (h1 : Ro w0 [] (Blk q1 182 (vl (.agg #[.slice B1 n1 a1, .slice Z1 m1 e1])))) (h2 : Ro w0 [] (Blk q2 182 (vl (.agg #[.slice B2 n2 a2, .slice Z2 m2 e2])))) (h3 : Ro w0 [] (Blk q3 3 [.int .i64 z])) (h4 : Ro w0 [] (Blk q4 22 [.slice A n c])) (hX : ∀ w, St w0 [] [] w → Calls Tryz.prog 144 #[.int .i64 z, .slice A n c, .slice B1 n1 a1, .slice Z1 m1 e1] w (Post w [] (TxQ none))) :
    Calls Tryz.prog 142 #[.bool true, .pointer (some ⟨q1, 0, none⟩), .pointer (some ⟨q2, 0, none⟩), .pointer (some ⟨q3, 0, none⟩), .pointer (some ⟨q4, 0, none⟩)] w0 (Post w0 [] fun v L => TxQ none v L) := by
  refine Calls.of (L := []) (n := 22) (rs := [.tmp 6, .tmp 7]) Tryz.func142 rfl rfl rfl (Nat.le_of_ble_eq_true rfl) (Sat.nil _) ?_
  refine TC.seq ?_
  refine TC.region ?_
  refine S.as ?_
  refine S.as ?_
  refine S.nil ?_
  refine TC.seq ?_
  refine TC.region ?_
  refine S.mv ?_
  refine S.q rfl rfl (Qt.load rfl (Ld.all (vs := vl (.agg #[.slice B1 n1 a1, .slice Z1 m1 e1])) (Has.ro h1) Tryz.row182 Tryz.cells182)) ?_
  refine S.q rfl rfl (Qt.load rfl (Ld.all (vs := vl (.agg #[.slice B2 n2 a2, .slice Z2 m2 e2])) (Has.ro h2) Tryz.row182 Tryz.cells182)) ?_
  refine S.opS rfl rfl (OpV.con0 Tryz.ent143 rfl (fun w hw => Calls.ret (pickO_true B1 n1 a1 Z1 m1 e1 B2 n2 a2 Z2 m2 e2 w)) ?_)
  refine S.opS rfl rfl (OpV.alloc Tryz.zero182 (fun b8 => ?_))
  refine S.opN rfl (OpV.storeV0 (v := .agg #[.slice B1 n1 a1, .slice Z1 m1 e1]) rfl rfl (by exact Tryz.cells182) (by rfl) (by rfl) ?_)
  refine S.nil ?_
  refine TC.seq ?_
  refine TC.region ?_
  refine S.q rfl rfl (Qt.load rfl (Ld.one (v := .int .i64 z) (Has.ro h3) Tryz.one3 rfl)) ?_
  refine S.q rfl rfl (Qt.load rfl (Ld.one (v := .slice A n c) (Has.ro h4) Tryz.one22 rfl)) ?_
  refine S.q rfl rfl (Qt.field Tryz.underlying182 rfl Tryz.cells33 rfl) ?_
  refine S.q rfl rfl (Qt.load rfl (Ld.one (v := .slice B1 n1 a1) (Has.at 0 rfl) Tryz.one33 rfl)) ?_
  refine S.q rfl rfl (Qt.field Tryz.underlying182 rfl Tryz.cells33 rfl) ?_
  refine S.q rfl rfl (Qt.load rfl (Ld.one (v := .slice Z1 m1 e1) (Has.at 0 rfl) Tryz.one33 rfl)) ?_
  refine S.opS rfl rfl (OpV.con (Pre := []) (R := _) Tryz.ent144 rfl (List.Perm.refl _) (fun w hw => hX w (hw.sub (Sub.nil _))) ?_)
  rintro v L' ⟨k1, rfl, rfl⟩
  refine S.q rfl rfl (Qt.extract rfl rfl) ?_
  refine S.q rfl rfl (Qt.extract rfl rfl) ?_
  refine S.as ?_
  refine S.as ?_
  refine S.nil ?_
  refine TC.ret ?_
  refine finQ.ret (RVs.tmp (by conv => lhs; whnf) (RVs.tmp (by conv => lhs; whnf) RVs.nil)) (Sub.nil _) ?_
  exact ⟨k1, rfl, rfl⟩
set_option maxHeartbeats 400000 in
theorem ocl_trueS (q1 q2 q3 q4 : Nat) (z : Int) (A : Option Addr) (n c : Nat) (B1 : Option Addr) (n1 a1 : Nat) (Z1 : Option Addr) (m1 e1 : Nat) (B2 : Option Addr) (n2 a2 : Nat) (Z2 : Option Addr) (m2 e2 : Nat) (a : List (List UInt8)) (w0 : World) (h1 : Ro w0 [] (Blk q1 182 (vl (.agg #[.slice B1 n1 a1, .slice Z1 m1 e1])))) (h2 : Ro w0 [] (Blk q2 182 (vl (.agg #[.slice B2 n2 a2, .slice Z2 m2 e2])))) (h3 : Ro w0 [] (Blk q3 3 [.int .i64 z])) (h4 : Ro w0 [] (Blk q4 22 [.slice A n c])) (hX : ∀ w, St w0 [] [] w → Calls Tryz.prog 144 #[.int .i64 z, .slice A n c, .slice B1 n1 a1, .slice Z1 m1 e1] w (Post w [] (TxQ (some a)))) :
    Calls Tryz.prog 142 #[.bool true, .pointer (some ⟨q1, 0, none⟩), .pointer (some ⟨q2, 0, none⟩), .pointer (some ⟨q3, 0, none⟩), .pointer (some ⟨q4, 0, none⟩)] w0 (Post w0 [] fun v L => TxQ (some a) v L) := by
  refine Calls.of (L := []) (n := 22) (rs := [.tmp 6, .tmp 7]) Tryz.func142 rfl rfl rfl (Nat.le_of_ble_eq_true rfl) (Sat.nil _) ?_
  refine TC.seq ?_
  refine TC.region ?_
  refine S.as ?_
  refine S.as ?_
  refine S.nil ?_
  refine TC.seq ?_
  refine TC.region ?_
  refine S.mv ?_
  refine S.q rfl rfl (Qt.load rfl (Ld.all (vs := vl (.agg #[.slice B1 n1 a1, .slice Z1 m1 e1])) (Has.ro h1) Tryz.row182 Tryz.cells182)) ?_
  refine S.q rfl rfl (Qt.load rfl (Ld.all (vs := vl (.agg #[.slice B2 n2 a2, .slice Z2 m2 e2])) (Has.ro h2) Tryz.row182 Tryz.cells182)) ?_
  refine S.opS rfl rfl (OpV.con0 Tryz.ent143 rfl (fun w hw => Calls.ret (pickO_true B1 n1 a1 Z1 m1 e1 B2 n2 a2 Z2 m2 e2 w)) ?_)
  refine S.opS rfl rfl (OpV.alloc Tryz.zero182 (fun b8 => ?_))
  refine S.opN rfl (OpV.storeV0 (v := .agg #[.slice B1 n1 a1, .slice Z1 m1 e1]) rfl rfl (by exact Tryz.cells182) (by rfl) (by rfl) ?_)
  refine S.nil ?_
  refine TC.seq ?_
  refine TC.region ?_
  refine S.q rfl rfl (Qt.load rfl (Ld.one (v := .int .i64 z) (Has.ro h3) Tryz.one3 rfl)) ?_
  refine S.q rfl rfl (Qt.load rfl (Ld.one (v := .slice A n c) (Has.ro h4) Tryz.one22 rfl)) ?_
  refine S.q rfl rfl (Qt.field Tryz.underlying182 rfl Tryz.cells33 rfl) ?_
  refine S.q rfl rfl (Qt.load rfl (Ld.one (v := .slice B1 n1 a1) (Has.at 0 rfl) Tryz.one33 rfl)) ?_
  refine S.q rfl rfl (Qt.field Tryz.underlying182 rfl Tryz.cells33 rfl) ?_
  refine S.q rfl rfl (Qt.load rfl (Ld.one (v := .slice Z1 m1 e1) (Has.at 0 rfl) Tryz.one33 rfl)) ?_
  refine S.opS rfl rfl (OpV.con (Pre := []) (R := _) Tryz.ent144 rfl (List.Perm.refl _) (fun w hw => hX w (hw.sub (Sub.nil _))) ?_)
  rintro v L' ⟨O1, d1, t1, rfl, rfl, e1, l1⟩
  refine S.q rfl rfl (Qt.extract rfl rfl) ?_
  refine S.q rfl rfl (Qt.extract rfl rfl) ?_
  refine S.as ?_
  refine S.as ?_
  refine S.nil ?_
  refine TC.ret ?_
  refine finQ.ret (RVs.tmp (by conv => lhs; whnf) (RVs.tmp (by conv => lhs; whnf) RVs.nil)) (Sub.keep _ (Sub.keep _ (Sub.drop _ (Sub.nil [])))) ?_
  exact ⟨O1, d1, t1, rfl, rfl, e1, l1⟩
theorem ocl_trueC (q1 q2 q3 q4 : Nat) (z : Int) (A : Option Addr) (n c : Nat) (B1 : Option Addr) (n1 a1 : Nat) (Z1 : Option Addr) (m1 e1 : Nat) (B2 : Option Addr) (n2 a2 : Nat) (Z2 : Option Addr) (m2 e2 : Nat) (X : Option (List (List UInt8))) (w0 : World) (h1 : Ro w0 [] (Blk q1 182 (vl (.agg #[.slice B1 n1 a1, .slice Z1 m1 e1])))) (h2 : Ro w0 [] (Blk q2 182 (vl (.agg #[.slice B2 n2 a2, .slice Z2 m2 e2])))) (h3 : Ro w0 [] (Blk q3 3 [.int .i64 z])) (h4 : Ro w0 [] (Blk q4 22 [.slice A n c])) (hX : ∀ w, St w0 [] [] w → Calls Tryz.prog 144 #[.int .i64 z, .slice A n c, .slice B1 n1 a1, .slice Z1 m1 e1] w (Post w [] (TxQ X))) :
    Calls Tryz.prog 142 #[.bool true, .pointer (some ⟨q1, 0, none⟩), .pointer (some ⟨q2, 0, none⟩), .pointer (some ⟨q3, 0, none⟩), .pointer (some ⟨q4, 0, none⟩)] w0 (Post w0 [] (TxQ X)) := by
  cases X with
  | none => exact ocl_trueN q1 q2 q3 q4 z A n c B1 n1 a1 Z1 m1 e1 B2 n2 a2 Z2 m2 e2 w0 h1 h2 h3 h4 hX
  | some a => exact ocl_trueS q1 q2 q3 q4 z A n c B1 n1 a1 Z1 m1 e1 B2 n2 a2 Z2 m2 e2 a w0 h1 h2 h3 h4 hX
theorem opens_htrue (b4 b5 b6 b7 : Nat) (z : Int) (A : Option Addr) (c : Nat) (xs : List Nat) (hc : xs.length ≤ c) (B1 : Option Addr) (a1 : Nat) (ls1 : List H32) (Z1 : Option Addr) (e1 : Nat) (bs1 : List H32) (B2 : Option Addr) (a2 : Nat) (ls2 : List H32) (Z2 : Option Addr) (e2 : Nat) (bs2 : List H32) (hb1 : ls1.length ≤ a1) (he1 : bs1.length ≤ e1) (hb2 : ls2.length ≤ a2) (he2 : bs2.length ≤ e2) (w0 : World) (hlow : ∀ x ∈ xs, x < 18446744073709551616) (hR : Ro w0 [] (SlA A (u64s xs))) (hB1 : Ro w0 [] (SlA B1 (hcs ls1))) (hD1 : Ro w0 [] (SlA Z1 (hcs bs1))) (hB2 : Ro w0 [] (SlA B2 (hcs ls2))) (hD2 : Ro w0 [] (SlA Z2 (hcs bs2))) (hT : Tabs 3 1 w0 []) (h6 : Ro w0 [] (Blk b6 182 (vl (.agg #[.slice B1 ls1.length a1, .slice Z1 bs1.length e1])))) (h7 : Ro w0 [] (Blk b7 182 (vl (.agg #[.slice B2 ls2.length a2, .slice Z2 bs2.length e2])))) (h4 : Ro w0 [] (Blk b4 3 [.int .i64 z])) (h5 : Ro w0 [] (Blk b5 22 [.slice A xs.length c])) :
    ∀ w, St w0 [] [] w → Calls Tryz.prog 142 ((([.bool true] : List Value) ++ (#[.pointer (some ⟨b6, 0, none⟩), .pointer (some ⟨b7, 0, none⟩), .pointer (some ⟨b4, 0, none⟩), .pointer (some ⟨b5, 0, none⟩)] : Array Value).toList).toArray) w (Post w [] (TxQ (openQ z xs ls1 bs1))) := fun w s =>
  ocl_trueC b6 b7 b4 b5 z A xs.length c B1 ls1.length a1 Z1 bs1.length e1 B2 ls2.length a2 Z2 bs2.length e2 (openQ z xs ls1 bs1) w (h6.go s (fun b hb => by cases hb)) (h7.go s (fun b hb => by cases hb)) (h4.go s (fun b hb => by cases hb)) (h5.go s (fun b hb => by cases hb)) (fun w2 s2 => openTx_C z A c xs hc B1 a1 ls1 Z1 e1 bs1 hb1 he1 w2 hlow ((hR.go s (fun b hb => by cases hb)).go s2 (fun b hb => by cases hb)) ((hB1.go s (fun b hb => by cases hb)).go s2 (fun b hb => by cases hb)) ((hD1.go s (fun b hb => by cases hb)).go s2 (fun b hb => by cases hb)) ((hT.of_go s (fun b hb => by cases hb)).of_go s2 (fun b hb => by cases hb)))

set_option maxHeartbeats 400000 in
theorem ocl_falseN (q1 q2 q3 q4 : Nat) (z : Int) (A : Option Addr) (n c : Nat) (B1 : Option Addr) (n1 a1 : Nat) (Z1 : Option Addr) (m1 e1 : Nat) (B2 : Option Addr) (n2 a2 : Nat) (Z2 : Option Addr) (m2 e2 : Nat) (w0 : World) (h1 : Ro w0 [] (Blk q1 182 (vl (.agg #[.slice B1 n1 a1, .slice Z1 m1 e1])))) (h2 : Ro w0 [] (Blk q2 182 (vl (.agg #[.slice B2 n2 a2, .slice Z2 m2 e2])))) (h3 : Ro w0 [] (Blk q3 3 [.int .i64 z])) (h4 : Ro w0 [] (Blk q4 22 [.slice A n c])) (hX : ∀ w, St w0 [] [] w → Calls Tryz.prog 144 #[.int .i64 z, .slice A n c, .slice B2 n2 a2, .slice Z2 m2 e2] w (Post w [] (TxQ none))) :
    Calls Tryz.prog 142 #[.bool false, .pointer (some ⟨q1, 0, none⟩), .pointer (some ⟨q2, 0, none⟩), .pointer (some ⟨q3, 0, none⟩), .pointer (some ⟨q4, 0, none⟩)] w0 (Post w0 [] fun v L => TxQ none v L) := by
  refine Calls.of (L := []) (n := 22) (rs := [.tmp 6, .tmp 7]) Tryz.func142 rfl rfl rfl (Nat.le_of_ble_eq_true rfl) (Sat.nil _) ?_
  refine TC.seq ?_
  refine TC.region ?_
  refine S.as ?_
  refine S.as ?_
  refine S.nil ?_
  refine TC.seq ?_
  refine TC.region ?_
  refine S.mv ?_
  refine S.q rfl rfl (Qt.load rfl (Ld.all (vs := vl (.agg #[.slice B1 n1 a1, .slice Z1 m1 e1])) (Has.ro h1) Tryz.row182 Tryz.cells182)) ?_
  refine S.q rfl rfl (Qt.load rfl (Ld.all (vs := vl (.agg #[.slice B2 n2 a2, .slice Z2 m2 e2])) (Has.ro h2) Tryz.row182 Tryz.cells182)) ?_
  refine S.opS rfl rfl (OpV.con0 Tryz.ent143 rfl (fun w hw => Calls.ret (pickO_false B1 n1 a1 Z1 m1 e1 B2 n2 a2 Z2 m2 e2 w)) ?_)
  refine S.opS rfl rfl (OpV.alloc Tryz.zero182 (fun b8 => ?_))
  refine S.opN rfl (OpV.storeV0 (v := .agg #[.slice B2 n2 a2, .slice Z2 m2 e2]) rfl rfl (by exact Tryz.cells182) (by rfl) (by rfl) ?_)
  refine S.nil ?_
  refine TC.seq ?_
  refine TC.region ?_
  refine S.q rfl rfl (Qt.load rfl (Ld.one (v := .int .i64 z) (Has.ro h3) Tryz.one3 rfl)) ?_
  refine S.q rfl rfl (Qt.load rfl (Ld.one (v := .slice A n c) (Has.ro h4) Tryz.one22 rfl)) ?_
  refine S.q rfl rfl (Qt.field Tryz.underlying182 rfl Tryz.cells33 rfl) ?_
  refine S.q rfl rfl (Qt.load rfl (Ld.one (v := .slice B2 n2 a2) (Has.at 0 rfl) Tryz.one33 rfl)) ?_
  refine S.q rfl rfl (Qt.field Tryz.underlying182 rfl Tryz.cells33 rfl) ?_
  refine S.q rfl rfl (Qt.load rfl (Ld.one (v := .slice Z2 m2 e2) (Has.at 0 rfl) Tryz.one33 rfl)) ?_
  refine S.opS rfl rfl (OpV.con (Pre := []) (R := _) Tryz.ent144 rfl (List.Perm.refl _) (fun w hw => hX w (hw.sub (Sub.nil _))) ?_)
  rintro v L' ⟨k1, rfl, rfl⟩
  refine S.q rfl rfl (Qt.extract rfl rfl) ?_
  refine S.q rfl rfl (Qt.extract rfl rfl) ?_
  refine S.as ?_
  refine S.as ?_
  refine S.nil ?_
  refine TC.ret ?_
  refine finQ.ret (RVs.tmp (by conv => lhs; whnf) (RVs.tmp (by conv => lhs; whnf) RVs.nil)) (Sub.nil _) ?_
  exact ⟨k1, rfl, rfl⟩
set_option maxHeartbeats 400000 in
theorem ocl_falseS (q1 q2 q3 q4 : Nat) (z : Int) (A : Option Addr) (n c : Nat) (B1 : Option Addr) (n1 a1 : Nat) (Z1 : Option Addr) (m1 e1 : Nat) (B2 : Option Addr) (n2 a2 : Nat) (Z2 : Option Addr) (m2 e2 : Nat) (a : List (List UInt8)) (w0 : World) (h1 : Ro w0 [] (Blk q1 182 (vl (.agg #[.slice B1 n1 a1, .slice Z1 m1 e1])))) (h2 : Ro w0 [] (Blk q2 182 (vl (.agg #[.slice B2 n2 a2, .slice Z2 m2 e2])))) (h3 : Ro w0 [] (Blk q3 3 [.int .i64 z])) (h4 : Ro w0 [] (Blk q4 22 [.slice A n c])) (hX : ∀ w, St w0 [] [] w → Calls Tryz.prog 144 #[.int .i64 z, .slice A n c, .slice B2 n2 a2, .slice Z2 m2 e2] w (Post w [] (TxQ (some a)))) :
    Calls Tryz.prog 142 #[.bool false, .pointer (some ⟨q1, 0, none⟩), .pointer (some ⟨q2, 0, none⟩), .pointer (some ⟨q3, 0, none⟩), .pointer (some ⟨q4, 0, none⟩)] w0 (Post w0 [] fun v L => TxQ (some a) v L) := by
  refine Calls.of (L := []) (n := 22) (rs := [.tmp 6, .tmp 7]) Tryz.func142 rfl rfl rfl (Nat.le_of_ble_eq_true rfl) (Sat.nil _) ?_
  refine TC.seq ?_
  refine TC.region ?_
  refine S.as ?_
  refine S.as ?_
  refine S.nil ?_
  refine TC.seq ?_
  refine TC.region ?_
  refine S.mv ?_
  refine S.q rfl rfl (Qt.load rfl (Ld.all (vs := vl (.agg #[.slice B1 n1 a1, .slice Z1 m1 e1])) (Has.ro h1) Tryz.row182 Tryz.cells182)) ?_
  refine S.q rfl rfl (Qt.load rfl (Ld.all (vs := vl (.agg #[.slice B2 n2 a2, .slice Z2 m2 e2])) (Has.ro h2) Tryz.row182 Tryz.cells182)) ?_
  refine S.opS rfl rfl (OpV.con0 Tryz.ent143 rfl (fun w hw => Calls.ret (pickO_false B1 n1 a1 Z1 m1 e1 B2 n2 a2 Z2 m2 e2 w)) ?_)
  refine S.opS rfl rfl (OpV.alloc Tryz.zero182 (fun b8 => ?_))
  refine S.opN rfl (OpV.storeV0 (v := .agg #[.slice B2 n2 a2, .slice Z2 m2 e2]) rfl rfl (by exact Tryz.cells182) (by rfl) (by rfl) ?_)
  refine S.nil ?_
  refine TC.seq ?_
  refine TC.region ?_
  refine S.q rfl rfl (Qt.load rfl (Ld.one (v := .int .i64 z) (Has.ro h3) Tryz.one3 rfl)) ?_
  refine S.q rfl rfl (Qt.load rfl (Ld.one (v := .slice A n c) (Has.ro h4) Tryz.one22 rfl)) ?_
  refine S.q rfl rfl (Qt.field Tryz.underlying182 rfl Tryz.cells33 rfl) ?_
  refine S.q rfl rfl (Qt.load rfl (Ld.one (v := .slice B2 n2 a2) (Has.at 0 rfl) Tryz.one33 rfl)) ?_
  refine S.q rfl rfl (Qt.field Tryz.underlying182 rfl Tryz.cells33 rfl) ?_
  refine S.q rfl rfl (Qt.load rfl (Ld.one (v := .slice Z2 m2 e2) (Has.at 0 rfl) Tryz.one33 rfl)) ?_
  refine S.opS rfl rfl (OpV.con (Pre := []) (R := _) Tryz.ent144 rfl (List.Perm.refl _) (fun w hw => hX w (hw.sub (Sub.nil _))) ?_)
  rintro v L' ⟨O1, d1, t1, rfl, rfl, e1, l1⟩
  refine S.q rfl rfl (Qt.extract rfl rfl) ?_
  refine S.q rfl rfl (Qt.extract rfl rfl) ?_
  refine S.as ?_
  refine S.as ?_
  refine S.nil ?_
  refine TC.ret ?_
  refine finQ.ret (RVs.tmp (by conv => lhs; whnf) (RVs.tmp (by conv => lhs; whnf) RVs.nil)) (Sub.keep _ (Sub.keep _ (Sub.drop _ (Sub.nil [])))) ?_
  exact ⟨O1, d1, t1, rfl, rfl, e1, l1⟩
theorem ocl_falseC (q1 q2 q3 q4 : Nat) (z : Int) (A : Option Addr) (n c : Nat) (B1 : Option Addr) (n1 a1 : Nat) (Z1 : Option Addr) (m1 e1 : Nat) (B2 : Option Addr) (n2 a2 : Nat) (Z2 : Option Addr) (m2 e2 : Nat) (X : Option (List (List UInt8))) (w0 : World) (h1 : Ro w0 [] (Blk q1 182 (vl (.agg #[.slice B1 n1 a1, .slice Z1 m1 e1])))) (h2 : Ro w0 [] (Blk q2 182 (vl (.agg #[.slice B2 n2 a2, .slice Z2 m2 e2])))) (h3 : Ro w0 [] (Blk q3 3 [.int .i64 z])) (h4 : Ro w0 [] (Blk q4 22 [.slice A n c])) (hX : ∀ w, St w0 [] [] w → Calls Tryz.prog 144 #[.int .i64 z, .slice A n c, .slice B2 n2 a2, .slice Z2 m2 e2] w (Post w [] (TxQ X))) :
    Calls Tryz.prog 142 #[.bool false, .pointer (some ⟨q1, 0, none⟩), .pointer (some ⟨q2, 0, none⟩), .pointer (some ⟨q3, 0, none⟩), .pointer (some ⟨q4, 0, none⟩)] w0 (Post w0 [] (TxQ X)) := by
  cases X with
  | none => exact ocl_falseN q1 q2 q3 q4 z A n c B1 n1 a1 Z1 m1 e1 B2 n2 a2 Z2 m2 e2 w0 h1 h2 h3 h4 hX
  | some a => exact ocl_falseS q1 q2 q3 q4 z A n c B1 n1 a1 Z1 m1 e1 B2 n2 a2 Z2 m2 e2 a w0 h1 h2 h3 h4 hX
theorem opens_hfalse (b4 b5 b6 b7 : Nat) (z : Int) (A : Option Addr) (c : Nat) (xs : List Nat) (hc : xs.length ≤ c) (B1 : Option Addr) (a1 : Nat) (ls1 : List H32) (Z1 : Option Addr) (e1 : Nat) (bs1 : List H32) (B2 : Option Addr) (a2 : Nat) (ls2 : List H32) (Z2 : Option Addr) (e2 : Nat) (bs2 : List H32) (hb1 : ls1.length ≤ a1) (he1 : bs1.length ≤ e1) (hb2 : ls2.length ≤ a2) (he2 : bs2.length ≤ e2) (w0 : World) (hlow : ∀ x ∈ xs, x < 18446744073709551616) (hR : Ro w0 [] (SlA A (u64s xs))) (hB1 : Ro w0 [] (SlA B1 (hcs ls1))) (hD1 : Ro w0 [] (SlA Z1 (hcs bs1))) (hB2 : Ro w0 [] (SlA B2 (hcs ls2))) (hD2 : Ro w0 [] (SlA Z2 (hcs bs2))) (hT : Tabs 3 1 w0 []) (h6 : Ro w0 [] (Blk b6 182 (vl (.agg #[.slice B1 ls1.length a1, .slice Z1 bs1.length e1])))) (h7 : Ro w0 [] (Blk b7 182 (vl (.agg #[.slice B2 ls2.length a2, .slice Z2 bs2.length e2])))) (h4 : Ro w0 [] (Blk b4 3 [.int .i64 z])) (h5 : Ro w0 [] (Blk b5 22 [.slice A xs.length c])) :
    ∀ w, St w0 [] [] w → Calls Tryz.prog 142 ((([.bool false] : List Value) ++ (#[.pointer (some ⟨b6, 0, none⟩), .pointer (some ⟨b7, 0, none⟩), .pointer (some ⟨b4, 0, none⟩), .pointer (some ⟨b5, 0, none⟩)] : Array Value).toList).toArray) w (Post w [] (TxQ (openQ z xs ls2 bs2))) := fun w s =>
  ocl_falseC b6 b7 b4 b5 z A xs.length c B1 ls1.length a1 Z1 bs1.length e1 B2 ls2.length a2 Z2 bs2.length e2 (openQ z xs ls2 bs2) w (h6.go s (fun b hb => by cases hb)) (h7.go s (fun b hb => by cases hb)) (h4.go s (fun b hb => by cases hb)) (h5.go s (fun b hb => by cases hb)) (fun w2 s2 => openTx_C z A c xs hc B2 a2 ls2 Z2 e2 bs2 hb2 he2 w2 hlow ((hR.go s (fun b hb => by cases hb)).go s2 (fun b hb => by cases hb)) ((hB2.go s (fun b hb => by cases hb)).go s2 (fun b hb => by cases hb)) ((hD2.go s (fun b hb => by cases hb)).go s2 (fun b hb => by cases hb)) ((hT.of_go s (fun b hb => by cases hb)).of_go s2 (fun b hb => by cases hb)))

set_option maxHeartbeats 800000 in
theorem opens13_walk (z : Int) (A : Option Addr) (c : Nat) (xs : List Nat) (hc : xs.length ≤ c) (B1 : Option Addr) (a1 : Nat) (ls1 : List H32) (Z1 : Option Addr) (e1 : Nat) (bs1 : List H32) (B2 : Option Addr) (a2 : Nat) (ls2 : List H32) (Z2 : Option Addr) (e2 : Nat) (bs2 : List H32) (hb1 : ls1.length ≤ a1) (he1 : bs1.length ≤ e1) (hb2 : ls2.length ≤ a2) (he2 : bs2.length ≤ e2) (w0 : World) (hlow : ∀ x ∈ xs, x < 18446744073709551616) (hR : Ro w0 [] (SlA A (u64s xs))) (hB1 : Ro w0 [] (SlA B1 (hcs ls1))) (hD1 : Ro w0 [] (SlA Z1 (hcs bs1))) (hB2 : Ro w0 [] (SlA B2 (hcs ls2))) (hD2 : Ro w0 [] (SlA Z2 (hcs bs2))) (hT : Tabs 3 1 w0 []) :
    Calls Tryz.prog 84 #[.int .i64 z, .slice A xs.length c, .agg #[.slice B1 ls1.length a1, .slice Z1 bs1.length e1], .agg #[.slice B2 ls2.length a2, .slice Z2 bs2.length e2]] w0 (Post w0 [] fun v L => PxQ 114 (pairX (openQ z xs ls1 bs1) (openQ z xs ls2 bs2)) v L) := by
  refine Calls.of (L := []) (n := 11) (rs := [.tmp 8]) Tryz.func84 rfl rfl rfl (Nat.le_of_ble_eq_true rfl) (Sat.nil _) ?_
  refine TC.seq ?_
  refine TC.region ?_
  refine S.opS rfl rfl (OpV.box (v := .int .i64 z) rfl (fun b4 => ?_))
  refine S.opS rfl rfl (OpV.box (v := .slice A xs.length c) rfl (fun b5 => ?_))
  refine S.opS rfl rfl (OpV.box (v := .agg #[.slice B1 ls1.length a1, .slice Z1 bs1.length e1]) rfl (fun b6 => ?_))
  refine S.opS rfl rfl (OpV.box (v := .agg #[.slice B2 ls2.length a2, .slice Z2 bs2.length e2]) rfl (fun b7 => ?_))
  refine S.as ?_
  refine S.nil ?_
  refine TC.seq ?_
  refine TC.region ?_
  refine S.q rfl rfl (Qt.makeFuncL (fs := []) (cs := [.pointer (some ⟨b6, 0, none⟩), .pointer (some ⟨b7, 0, none⟩), .pointer (some ⟨b4, 0, none⟩), .pointer (some ⟨b5, 0, none⟩)]) rfl rfl) ?_
  refine S.opS rfl rfl (OpV.con (Pre := []) (R := _) Tryz.ent45 rfl (List.Perm.refl _) (fun w hw => both_C 142 #[.pointer (some ⟨b6, 0, none⟩), .pointer (some ⟨b7, 0, none⟩), .pointer (some ⟨b4, 0, none⟩), .pointer (some ⟨b5, 0, none⟩)] Tryz.ent142 (openQ z xs ls1 bs1) (openQ z xs ls2 bs2) w (opens_htrue b4 b5 b6 b7 z A c xs hc B1 a1 ls1 Z1 e1 bs1 B2 a2 ls2 Z2 e2 bs2 hb1 he1 hb2 he2 w hlow (Rd.ro hR w hw) (Rd.ro hB1 w hw) (Rd.ro hD1 w hw) (Rd.ro hB2 w hw) (Rd.ro hD2 w hw) (hT.at hw) (Rd.at 1 rfl w hw) (Rd.at 0 rfl w hw) (Rd.at 3 rfl w hw) (Rd.at 2 rfl w hw)) (opens_hfalse b4 b5 b6 b7 z A c xs hc B1 a1 ls1 Z1 e1 bs1 B2 a2 ls2 Z2 e2 bs2 hb1 he1 hb2 he2 w hlow (Rd.ro hR w hw) (Rd.ro hB1 w hw) (Rd.ro hD1 w hw) (Rd.ro hB2 w hw) (Rd.ro hD2 w hw) (hT.at hw) (Rd.at 1 rfl w hw) (Rd.at 0 rfl w hw) (Rd.at 3 rfl w hw) (Rd.at 2 rfl w hw))) ?_)
  rintro v L' ⟨O, d, pp, Ls, rfl, rfl, q1, q2, q3⟩
  refine S.as ?_
  refine S.nil ?_
  refine TC.ret ?_
  refine finQ.ret (RVs.tmp (by conv => lhs; whnf) RVs.nil) (Sub.keep _ (Sub.keep _ (Sub.drop _ (Sub.drop _ (Sub.drop _ (Sub.drop _ (Sub.nil []))))))) ?_
  exact ⟨O, d, pp, Ls, rfl, rfl, q1, q2, q3⟩
end Go.Proofs.YtgdjcmehlhebdaaGreatDoor
