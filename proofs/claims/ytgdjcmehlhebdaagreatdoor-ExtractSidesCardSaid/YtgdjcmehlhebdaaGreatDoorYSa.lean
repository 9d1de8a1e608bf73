/-
  Walks: lists of hashes put together; a row joined by twos, the texts kept. Printed by a program of ours. Walks: a level's row joined by twos, the texts kept. Printed by a program of ours. Walks: the texts of a side. Printed by a program of ours.
-/
import Derived.Test.YtgdjcmehlhebdaaGreatDoorYR
import Derived.Test.YtgdjcmehlhebdaaGreatDoorYV
import Derived.Test.YtgdjcmehlhebdaaGreatDoorXR
import Derived.Test.YtgdjcmehlhebdaaGreatDoorY7
import Derived.Test.YtgdjcmehlhebdaaGreatDoorO1
import Derived.Test.YtgdjcmehlhebdaaGreatDoorYW
namespace Go.Proofs.YtgdjcmehlhebdaaGreatDoor
open Go.E
set_option linter.unusedVariables false
set_option maxRecDepth 4000
theorem Tryz.one227 : oneT Tryz.prog 227 = true := by kernel_rfl
theorem Tryz.ent182 : Enters Tryz.prog 182 := ⟨_, Tryz.func182, by kernel_rfl, rfl⟩

set_option maxHeartbeats 400000 in
theorem grow182_walk (n : Nat) (h1 : 1 ≤ n) (h2 : n ≤ 65536) (w0 : World) :
    Calls Tryz.prog 182 #[.slice none 0 0, .int .i64 (n : Int)] w0 (Post w0 [] fun v L => ∃ O d, v = .slice O 0 d ∧ L = [OwnA 49 32 O 0 d ([])]) := by
  refine Calls.of (L := []) (n := 27) (rs := [.tmp 4]) Tryz.func182 rfl rfl rfl (Nat.le_of_ble_eq_true rfl) (Sat.nil _) ?_
  refine TC.seq ?_
  refine TC.region ?_
  refine S.as ?_
  refine S.nil ?_
  refine TC.seq ?_
  refine TC.seq ?_
  refine TC.region ?_
  refine S.mv ?_
  refine S.q rfl rfl (Qt.dF (Qt.lt (b := 0) rfl rfl) (by omega)) ?_
  refine S.nil ?_
  refine S.if_f rfl ?_
  refine TC.skip ?_
  refine TC.seq ?_
  refine TC.seq ?_
  refine TC.region ?_
  refine S.mv ?_
  refine S.mv ?_
  refine S.q rfl rfl (Qt.capS Tryz.underlying33 rfl) ?_
  refine S.mv ?_
  refine S.q rfl rfl (Qt.len_slice Tryz.underlying33 rfl) ?_
  refine S.q rfl rfl (Qt.sub (a := 0) (b := 0) rfl rfl (Nat.le_refl _) (by simp only [kmax]; omega)) ?_
  refine S.q rfl rfl (Qt.as (Qt.sub (b := 0) rfl rfl (by omega) (by simp only [kmax]; omega)) (by rw [Nat.sub_zero])) ?_
  refine S.as ?_
  refine S.nil ?_
  refine TC.seq ?_
  refine TC.region ?_
  refine S.mv ?_
  refine S.q rfl rfl (Qt.dT (Qt.gt (b := 0) rfl rfl) (by omega)) ?_
  refine S.nil ?_
  refine S.if_t rfl ?_
  refine TC.region ?_
  refine S.mv ?_
  refine S.mv ?_
  refine S.q rfl rfl (Qt.capS Tryz.underlying33 rfl) ?_
  refine S.q rfl rfl (Qt.slice_hi (h := 0) Tryz.underlying33 Tryz.cells49 rfl rfl (Nat.le_refl _)) ?_
  refine S.mv ?_
  refine S.opS rfl rfl (OpV.appZ Tryz.underlying33 Tryz.underlying3 Tryz.elem49 rfl rfl (by omega) (by simp only [maxLen]; omega) (by omega) (fun n1 c1 cs1 hc1 hm1 hl1 => ?_))
  refine S.mv ?_
  refine S.q rfl rfl (Qt.len_slice Tryz.underlying33 rfl) ?_
  refine S.q rfl rfl (Qt.slice_hi (h := 0) Tryz.underlying33 Tryz.cells49 rfl rfl (Nat.zero_le _)) ?_
  refine S.as ?_
  refine S.nil ?_
  refine TC.seq ?_
  refine TC.region ?_
  refine TL.shutOwn (n := 0) (sz := 32) (hl1) (Nat.zero_le _) (hm1) (List.Perm.refl _) ?_
  rw [Nat.zero_mul, List.take_zero]
  refine S.mv ?_
  refine S.as ?_
  refine S.nil ?_
  refine TC.ret ?_
  refine finQ.ret (RVs.tmp (by conv => lhs; whnf) RVs.nil) (Sub.refl _) ?_
  exact ⟨some ⟨n1, 0, none⟩, c1, rfl, rfl⟩
set_option maxHeartbeats 800000 in
theorem concat122_walk (A : Option Addr) (c : Nat) (ss : List Hx) (hn : ss.length ≤ 16) (h1 : 1 ≤ (cat ss ss.length).length) (h2 : (cat ss ss.length).length ≤ 65536) (w0 : World) (hR : Ro w0 [] (SlA A (ss.flatMap hxL))) (hS : ∀ t ∈ ss, Ro w0 [] (SlA t.1 (hcs t.2.2))) :
    Calls Tryz.prog 122 #[.slice A ss.length c] w0 (Post w0 [] fun v L => ∃ O d, v = .slice O (cat ss ss.length).length d ∧ L = [OwnA 49 32 O (cat ss ss.length).length d (hcs (cat ss ss.length))]) := by
  refine Calls.of (L := []) (n := 36) (rs := [.tmp 2]) Tryz.func122 rfl rfl rfl (Nat.le_of_ble_eq_true rfl) (Sat.nil _) ?_
  refine TC.seq ?_
  refine TC.region ?_
  refine S.as ?_
  refine S.nil ?_
  refine TC.seq ?_
  refine TC.region ?_
  refine S.as ?_
  refine S.nil ?_
  refine TC.seq ?_
  refine TC.seq ?_
  refine TC.region ?_
  refine S.mv ?_
  refine S.q rfl rfl (Qt.len_slice Tryz.underlying304 rfl) ?_
  refine S.mv ?_
  refine S.nil ?_
  refine TC.block ?_
  refine TC.loop (γ := Nat) [12, 13, 14, 5, 15, 16, 17, 18, 3, 19, 20, 21, 22, 11] (fun k => [(11, .int .i64 (k : Int)), (3, .int .i64 (((cat ss k).length : Nat) : Int))]) (fun _ => _) (fun k => k ≤ ss.length) (fun k => ss.length - k) (0)
    (Nat.zero_le _) ⟨Out.refl _ _, (List.forall_mem_cons.2 ⟨rfl, (List.forall_mem_cons.2 ⟨rfl, (fun _ h => nomatch h)⟩)⟩)⟩ (Sub.refl _) ?_
  rintro k u hk
  have hc1 : k < ss.length → (cat ss (k + 1)).length = (cat ss k).length + (ss.getD k hx0).2.2.length := cat_len
  have hc2 : k < ss.length → (cat ss (k + 1)).length ≤ (cat ss ss.length).length := fun h => cat_le ss h (Nat.le_refl _)
  refine TC.seq ?_
  refine TC.region ?_
  refine S.dec rfl rfl (Qt.lt rfl rfl) (fun h12 => ?_) (fun h12 => ?_)
  · refine S.nil ?_
    refine TC.seq ?_
    refine S.if_t rfl ?_
    refine TC.skip ?_
    refine TC.seq ?_
    refine TC.block ?_
    refine TC.seq ?_
    refine TC.region ?_
    refine S.q rfl rfl (Qt.index Tryz.underlying304 Tryz.cells33 rfl rfl (by omega) (Has.ro hR) (by rw [hx_len]; omega)) ?_
    refine S.q rfl rfl (Qt.load rfl (Ld.sl (v := .slice (ss.getD k hx0).1 (ss.getD k hx0).2.2.length (ss.getD k hx0).2.1) (Has.ro hR) Tryz.one33 (hx_at (by omega)))) ?_
    refine S.as ?_
    refine S.nil ?_
    refine TC.seq ?_
    refine TC.region ?_
    refine S.mv ?_
    refine S.mv ?_
    refine S.q rfl rfl (Qt.len_slice Tryz.underlying33 rfl) ?_
    refine S.q rfl rfl (Qt.add rfl rfl (by simp only [kmax]; omega)) ?_
    refine S.as ?_
    refine S.nil ?_
    refine TC.seq ?_
    refine TC.region ?_
    refine S.mv ?_
    refine S.q rfl rfl (Qt.dF (Qt.lt (b := 0) rfl rfl) (by omega)) ?_
    refine S.nil ?_
    refine S.if_f rfl ?_
    refine TC.skip ?_
    refine TC.region ?_
    refine S.q rfl rfl (Qt.add (b := 1) rfl rfl (by simp only [kmax]; omega)) ?_
    refine S.mv ?_
    refine S.nil ?_
    refine ⟨k + 1, ?_, ?_, ⟨?_, (List.forall_mem_cons.2 ⟨rfl, (List.forall_mem_cons.2 ⟨(by show Value.int .i64 (((cat ss k).length + (ss.getD k hx0).2.2.length : Nat) : Int) = Value.int .i64 (((cat ss (k + 1)).length : Nat) : Int); rw [hc1 (by omega)]), (fun _ h => nomatch h)⟩)⟩)⟩, Sub.refl _⟩
    · show _ ≤ _; omega
    · show _ < _; dsimp only; omega
    repeat (first | exact Out.refl _ _ | refine Out.put rfl ?_ | refine Out.puts rfl ?_ | refine Out.scr ?_ | refine Out.scr' rfl ?_)
  · refine S.nil ?_
    refine TC.seq ?_
    refine S.if_f rfl ?_
    refine TC.exit ?_
    refine TC.seq ?_
    refine TC.region ?_
    refine S.mv ?_
    obtain rfl : k = ss.length := by omega
    refine S.opS rfl rfl (OpV.con (Pre := []) (R := _) Tryz.ent182 rfl (List.Perm.refl _) (fun w hw => grow182_walk (cat ss ss.length).length h1 h2 w) ?_)
    rintro v L' ⟨O0, d0, rfl, rfl⟩
    refine S.as ?_
    refine S.nil ?_
    refine TC.seq ?_
    refine TC.seq ?_
    refine TC.region ?_
    refine S.mv ?_
    refine S.q rfl rfl (Qt.len_slice Tryz.underlying304 rfl) ?_
    refine S.mv ?_
    refine S.nil ?_
    refine TC.block ?_
    refine TC.loop (γ := Nat × Option Addr × Nat) [28, 29, 30, 8, 31, 32, 33, 6, 34, 27] (fun g => [(27, .int .i64 ((g.1 : Nat) : Int)), (6, .slice g.2.1 (cat ss g.1).length g.2.2)]) (fun g => [OwnA 49 32 g.2.1 (cat ss g.1).length g.2.2 (hcs (cat ss g.1))]) (fun g => g.1 ≤ ss.length) (fun g => ss.length - g.1) ((0, O0, d0))
      (Nat.zero_le _) ⟨Out.refl _ _, (List.forall_mem_cons.2 ⟨rfl, (List.forall_mem_cons.2 ⟨rfl, (fun _ h => nomatch h)⟩)⟩)⟩ (Sub.refl _) ?_
    rintro ⟨j, O, d⟩ u hk
    dsimp only at hk
    have hc1 : j < ss.length → (cat ss (j + 1)).length = (cat ss j).length + (ss.getD j hx0).2.2.length := cat_len
    have hc2 : j < ss.length → (cat ss (j + 1)).length ≤ (cat ss ss.length).length := fun h => cat_le ss h (Nat.le_refl _)
    refine TC.seq ?_
    refine TC.region ?_
    refine S.dec rfl rfl (Qt.lt rfl rfl) (fun h28 => ?_) (fun h28 => ?_)
    · refine S.nil ?_
      refine TC.seq ?_
      refine S.if_t rfl ?_
      refine TC.skip ?_
      refine TC.seq ?_
      refine TC.block ?_
      refine TC.seq ?_
      refine TC.region ?_
      refine S.q rfl rfl (Qt.index Tryz.underlying304 Tryz.cells33 rfl rfl (by omega) (Has.ro hR) (by rw [hx_len]; omega)) ?_
      refine S.q rfl rfl (Qt.load rfl (Ld.sl (v := .slice (ss.getD j hx0).1 (ss.getD j hx0).2.2.length (ss.getD j hx0).2.1) (Has.ro hR) Tryz.one33 (hx_at (by omega)))) ?_
      refine S.as ?_
      refine S.nil ?_
      refine TC.region ?_
      refine S.mv ?_
      refine S.mv ?_
      refine S.opS rfl rfl (OpV.app0 (bytes := 32) (news := hcs (ss.getD j hx0).2.2) Tryz.underlying33 Tryz.elem49 rfl rfl (Has.ro (hS _ (getD_mem hx0 (by omega)))) (by rw [hcs_length]) (hcs_one _) (by have a := hc1 (by omega); have b := hc2 (by omega); simp only [maxLen]; omega) (by show ((cat ss j).length + (ss.getD j hx0).2.2.length) * 32 ≤ 140737488355328; have a := hc1 (by omega); have b := hc2 (by omega); omega) (fun O3 d3 => ?_))
      refine S.as ?_
      refine S.nil ?_
      refine TC.region ?_
      refine S.q rfl rfl (Qt.add (b := 1) rfl rfl (by simp only [kmax]; omega)) ?_
      refine S.mv ?_
      refine S.nil ?_
      refine ⟨(j + 1, O3, d3), ?_, ?_, ⟨?_, (List.forall_mem_cons.2 ⟨rfl, (List.forall_mem_cons.2 ⟨(by show Value.slice O3 ((cat ss j).length + (ss.getD j hx0).2.2.length) d3 = Value.slice O3 (cat ss (j + 1)).length d3; rw [hc1 (by omega)]), (fun _ h => nomatch h)⟩)⟩)⟩, (by dsimp only; rw [hc1 (by omega), cat_succ (by omega), hcs_append]; exact Sub.refl _)⟩
      · show _ ≤ _; dsimp only; omega
      · show _ < _; dsimp only; omega
      repeat (first | exact Out.refl _ _ | refine Out.put rfl ?_ | refine Out.puts rfl ?_ | refine Out.scr ?_ | refine Out.scr' rfl ?_)
    · refine S.nil ?_
      refine TC.seq ?_
      refine S.if_f rfl ?_
      refine TC.exit ?_
      refine TC.seq ?_
      refine TC.region ?_
      refine S.mv ?_
      refine S.as ?_
      refine S.nil ?_
      refine TC.ret ?_
      refine finQ.ret (RVs.tmp (by conv => lhs; whnf) RVs.nil) (Sub.refl _) ?_
      obtain rfl : j = ss.length := by omega
      exact ⟨O, d, rfl, rfl⟩
end Go.Proofs.YtgdjcmehlhebdaaGreatDoor
namespace Go.Proofs.YtgdjcmehlhebdaaGreatDoor
open Go.E
set_option linter.unusedVariables false
set_option maxRecDepth 4000

set_option maxHeartbeats 3200000 in
theorem row123_walk (cb : Nat) (Ot0 : Option Addr) (tt : List Tx) (dt0 : Nat) (lv : Nat) (h1 : 1 ≤ lv) (h2 : lv ≤ 32) (A : Option Addr) (m c : Nat) (xs : List H32) (hm : xs.length = 2 * m) (hc : 2 * m ≤ c) (hcm : c ≤ 9223372036854775807) (hb : tt.length + m ≤ 16384) (w0 : World) (h0 : Sat w0 [Blk cb 229 [.slice Ot0 (tt).length dt0], OwnA 112 1 Ot0 (tt).length dt0 ((tt).flatMap txL), Many ((tt).map txOwn)]) (hR : Ro w0 (fps [Blk cb 229 [.slice Ot0 (tt).length dt0], OwnA 112 1 Ot0 (tt).length dt0 ((tt).flatMap txL), Many ((tt).map txOwn)]) (SlA A (hcs xs))) (hT : Tabs 3 1 w0 (fps [Blk cb 229 [.slice Ot0 (tt).length dt0], OwnA 112 1 Ot0 (tt).length dt0 ((tt).flatMap txL), Many ((tt).map txOwn)])) :
    Calls Tryz.prog 123 #[.pointer (some ⟨cb, 0, none⟩), .int .i64 (lv : Int), .slice A (2 * m) c] w0 (Post w0 (fps [Blk cb 229 [.slice Ot0 (tt).length dt0], OwnA 112 1 Ot0 (tt).length dt0 ((tt).flatMap txL), Many ((tt).map txOwn)]) fun v L => ∃ O d Ot dt, ∃ t3 : List Tx, v = .tuple #[.slice O m d, .nilIface] ∧ L = [OwnA 49 32 O m d (hcs ((List.finRange m).map (fun i : Fin m => pairF lv xs i.val))), Blk cb 229 [.slice Ot (t3).length dt], OwnA 112 1 Ot (t3).length dt ((t3).flatMap txL), Many ((t3).map txOwn)] ∧ (t3).map (fun t => t.2.2) = (tt).map (fun t => t.2.2) ++ (List.finRange m).map (fun i : Fin m => joinT lv (xs.getD (2 * i.val) zeroH) (xs.getD (2 * i.val + 1) zeroH))) := by
  refine Calls.of (L := [Blk cb 229 [.slice Ot0 (tt).length dt0], OwnA 112 1 Ot0 (tt).length dt0 ((tt).flatMap txL), Many ((tt).map txOwn)]) (n := 35) (rs := [.cell 6 33, .cell 7 51]) Tryz.func123 rfl rfl rfl (Nat.le_of_ble_eq_true rfl) (h0) ?_
  refine TC.ownNil 49 32 ?_
  refine TC.seq ?_
  refine TC.region ?_
  refine S.opS rfl rfl (OpV.box (v := .pointer (some ⟨cb, 0, none⟩)) rfl (fun b3 => ?_))
  refine S.opS rfl rfl (OpV.box (v := .int .i64 (lv : Int)) rfl (fun b4 => ?_))
  refine S.opS rfl rfl (OpV.alloc Tryz.zero33 (fun b6 => ?_))
  refine S.opS rfl rfl (OpV.alloc Tryz.zero51 (fun b7 => ?_))
  refine S.nil ?_
  refine TC.seq ?_
  refine TC.region ?_
  refine S.opS rfl rfl (OpV.alloc Tryz.zero33 (fun b8 => ?_))
  refine S.nil ?_
  refine TC.seq ?_
  refine TC.seq ?_
  refine TC.region ?_
  refine S.mv ?_
  refine S.opS rfl rfl (OpV.con (Pre := []) (R := _) Tryz.ent132 rfl (List.Perm.refl _) (fun w hw => chunkh_walk A (2 * m) c 2 (by decide) w) ?_)
  rintro v L' ⟨c2, c3, rfl, rfl⟩
  refine S.nil ?_
  refine TC.block ?_
  refine TC.rangeFunc2 (α := Fin m) (fun i : Fin m => [Value.slice (A.map (·.add (2 * i.val * 32))) 2 2]) (fun ys => ys = List.finRange m) (fun _ => True) (fun ys : List (Fin m) => ∃ j, j ≤ m ∧ ys = (List.finRange m).take j) (fun pre L' => ∃ O d Ot dt, ∃ t3 : List Tx, L' = [Blk b8 33 [.slice O pre.length d], OwnA 49 32 O pre.length d (hcs (pre.map (fun i : Fin m => pairF lv xs i.val))), Blk cb 229 [.slice Ot (t3).length dt], OwnA 112 1 Ot (t3).length dt ((t3).flatMap txL), Many ((t3).map txOwn)] ∧ (t3).map (fun t => t.2.2) = (tt).map (fun t => t.2.2) ++ pre.map (fun i : Fin m => joinT lv (xs.getD (2 * i.val) zeroH) (xs.getD (2 * i.val + 1) zeroH))) (fun _ _ _ => False) (L0 := [Blk b8 33 [.slice none ([] : List (Fin m)).length 0], OwnA 49 32 none ([] : List (Fin m)).length 0 (hcs (([] : List (Fin m)).map (fun i : Fin m => pairF lv xs i.val))), Blk cb 229 [.slice Ot0 (tt).length dt0], OwnA 112 1 Ot0 (tt).length dt0 ((tt).flatMap txL), Many ((tt).map txOwn)]) rfl rfl Tryz.ent186 rfl (fun _ => rfl) ((List.perm_middle (l₁ := [_, _])).trans (List.Perm.cons _ ((List.perm_middle (l₁ := [_, _, _, _, _, _])).trans (List.Perm.cons _ ((List.perm_middle (l₁ := [_, _, _, _, _, _])).trans (List.Perm.cons _ ((List.perm_middle (l₁ := [_, _, _, _, _, _])).trans (List.Perm.cons _ (List.perm_middle (l₁ := [_, _, _, _, _, _])))))))))) ⟨none, 0, Ot0, dt0, tt, rfl, (List.append_nil _).symm⟩ (fun w L' hw => chunkh_gen A m c 2 (by decide) hc hcm c2 c3 w L' hw.sat.left (Ro.of_rest hw (.tail _ (.head _))) (Ro.of_rest hw (.head _))) ?_ ?_ (fun _ _ _ _ _ h => h.elim)
  · rintro w' l Dd Rr Rb pre x L' hPf ⟨O, d, Ot, dt, t3, rfl, e3⟩ hst
    have hpl : pre.length + 1 ≤ m := by obtain ⟨j, hj, e⟩ := hPf; have q := congrArg List.length e; rw [len_snoc, List.length_take, List.length_finRange] at q; omega
    have htl : t3.length = tt.length + pre.length := by have q := congrArg List.length e3; rw [List.length_append, List.length_map, List.length_map, List.length_map] at q; exact q
    have hP : Ro w' (fps (Rr :: dfA Dd :: [Blk b8 33 [.slice O pre.length d], OwnA 49 32 O pre.length d (hcs (pre.map (fun i : Fin m => pairF lv xs i.val))), Blk cb 229 [.slice Ot (t3).length dt], OwnA 112 1 Ot (t3).length dt ((t3).flatMap txL), Many ((t3).map txOwn)])) (SlA (A.map (·.add (2 * x.val * 32))) (hcs [(xs.getD (2 * x.val) zeroH), (xs.getD (2 * x.val + 1) zeroH)])) := by
      rw [← pair_part hm x.isLt]; exact (Ro.of_pre hst hR).part _ _
    have hLv : Ro w' (fps (Rr :: dfA Dd :: [Blk b8 33 [.slice O pre.length d], OwnA 49 32 O pre.length d (hcs (pre.map (fun i : Fin m => pairF lv xs i.val))), Blk cb 229 [.slice Ot (t3).length dt], OwnA 112 1 Ot (t3).length dt ((t3).flatMap txL), Many ((t3).map txOwn)])) (Blk b4 3 [.int .i64 (lv : Int)]) := Ro.of_rest hst (List.mem_of_getElem? (i := 4) rfl)
    have hCb : Ro w' (fps (Rr :: dfA Dd :: [Blk b8 33 [.slice O pre.length d], OwnA 49 32 O pre.length d (hcs (pre.map (fun i : Fin m => pairF lv xs i.val))), Blk cb 229 [.slice Ot (t3).length dt], OwnA 112 1 Ot (t3).length dt ((t3).flatMap txL), Many ((t3).map txOwn)])) (Blk b3 227 [.pointer (some ⟨cb, 0, none⟩)]) := Ro.of_rest hst (List.mem_of_getElem? (i := 5) rfl)
    have hT2 := Tabs.pre hT hst
    refine TC.region ?_
    refine S.as ?_
    refine S.nil ?_
    refine ⟨_, Sub.refl _, ?_⟩
    refine TC.block ?_
    refine TC.seq ?_
    refine S.draw ([8, 13], [12]) Tryz.mixed (Sub.nil _) ?_
    refine D.qY 0 rfl (Qt.load rfl (Ld.one (v := .pointer (some ⟨cb, 0, none⟩)) (Has.ro hCb) Tryz.one227 rfl)) ?_
    refine D.qY 1 rfl (Qt.load rfl (Ld.one (v := .int .i64 (lv : Int)) (Has.ro hLv) Tryz.one3 rfl)) ?_
    refine D.qY 2 rfl (Qt.move (by conv => lhs; whnf)) ?_
    refine D.qY 3 rfl (Qt.index (i := 0) Tryz.underlying33 Tryz.cells49 rfl rfl (by decide) (Has.ro hP) (by rw [hcs_length]; show 0 * 32 < 2 * 32; decide)) ?_
    refine D.qY 4 rfl (Qt.load rfl (Ld.hashS (l := [(xs.getD (2 * x.val) zeroH), (xs.getD (2 * x.val + 1) zeroH)]) (Has.ro hP) 0 Tryz.row49 Tryz.cells49 (show 0 < 2 by decide) rfl)) ?_
    refine D.qY 5 rfl (Qt.move (by conv => lhs; whnf)) ?_
    refine D.qY 6 rfl (Qt.index (i := 1) Tryz.underlying33 Tryz.cells49 rfl rfl (by decide) (Has.ro hP) (by rw [hcs_length]; show 1 * 32 < 2 * 32; decide)) ?_
    refine D.qY 7 rfl (Qt.load rfl (Ld.hashS (l := [(xs.getD (2 * x.val) zeroH), (xs.getD (2 * x.val + 1) zeroH)]) (Has.ro hP) 1 Tryz.row49 Tryz.cells49 (show 1 < 2 by decide) rfl)) ?_
    refine D.orNE (k1 := 12) (k2 := 8) (Sub.nil _) rfl rfl (by kernel_rfl) (by kernel_rfl) rfl rfl rfl rfl ?_ ?_
    · refine (OpV.alloc Tryz.zero49 (fun b10 => ⟨Sub.drop _ (Sub.refl _), ?_⟩))
      refine D.opS (k := 8) (Sub.nil _) rfl (by kernel_rfl) (by kernel_rfl) rfl rfl (OpV.con (Pre := [Blk cb 229 [.slice Ot (t3).length dt], OwnA 112 1 Ot (t3).length dt ((t3).flatMap txL), Many ((t3).map txOwn)]) (R := _) Tryz.ent183 rfl ((List.perm_middle (l₁ := [_, _, _, _, _])).trans (List.Perm.cons _ ((List.perm_middle (l₁ := [_, _, _, _, _])).trans (List.Perm.cons _ (List.perm_middle (l₁ := [_, _, _, _, _])))))) (fun w hw => join45_walk cb Ot t3 dt lv h1 h2 (xs.getD (2 * x.val) zeroH) (xs.getD (2 * x.val + 1) zeroH) (by omega) w hw.sat.left (hT2.pre hw)) ?_)
      rintro v L' ⟨O5, d5, t, rfl, rfl, et⟩
      refine ⟨Sub.nil _, ?_⟩
      refine D.qY 9 rfl (Qt.move (by conv => lhs; whnf)) ?_
      refine D.qY 10 rfl (Qt.extract rfl rfl) ?_
      refine D.q (k := 11) rfl (by kernel_rfl) (by kernel_rfl) rfl rfl (Qt.extract rfl rfl) ?_
      refine D.opN (k := 13) (Sub.nil _) rfl (by kernel_rfl) (by kernel_rfl) rfl (OpV.storeV3 (v := hv (pairF lv xs x.val)) rfl rfl (hv_size Tryz.cells49) (hv_all _) (hv_len _) ⟨Sub.nil _, ?_⟩)
      refine D.qY 14 rfl (Qt.assign (by conv => lhs; whnf)) ?_
      refine D.done (Sub.nil _) (by kernel_rfl) ?_
      refine TC.seq ?_
      refine TC.seq ?_
      refine TC.region ?_
      refine S.mv ?_
      refine S.q rfl rfl (Qt.nenil_nil Tryz.underlying51 rfl) ?_
      refine S.nil ?_
      refine S.if_f rfl ?_
      refine TC.skip ?_
      refine TC.region ?_
      refine S.q rfl rfl (Qt.load rfl (Ld.one (v := .slice O pre.length d) (Has.at 6 rfl) Tryz.one33 rfl)) ?_
      refine S.q rfl rfl (Qt.load rfl (Ld.hash1 (x := pairF lv xs x.val) (Has.at 3 rfl) Tryz.row49 Tryz.cells49)) ?_
      refine S.opS rfl rfl (OpV.slice1 (bytes := 32) (v := hv (pairF lv xs x.val)) Tryz.underlying33 Tryz.elem49 (by decide) rfl (hv_len _) (fun g32 => ?_))
      refine S.opS rfl rfl (OpV.app8 (bytes := 32) (news := hvl (pairF lv xs x.val)) Tryz.underlying33 Tryz.elem49 rfl rfl (Has.blk (cs := hvl (pairF lv xs x.val)) (Has.at 0 rfl)) (by rw [hvl_length]) (bytesL_one _) (by simp only [maxLen]; omega) (by omega) (fun O' d' => ?_))
      refine S.opN rfl (OpV.storeV7 rfl (by conv => lhs; whnf) (by exact Tryz.cells33) (by rfl) (by rfl) ?_)
      refine S.nil ?_
      refine ⟨_, Sub.trans (Sub.keep _ (Sub.keep _ (Sub.keep _ (Sub.keep _ (Sub.keep _ (Sub.keep _ (Sub.keep _ (Sub.drop _ (Sub.drop _ (Sub.nil [])))))))))) (Sub.trans (Sub.keep _ (Sub.trans (Sub.keep _ (Sub.trans (Sub.keep _ (Sub.trans (Sub.keep _ (Sub.trans (Sub.keep _ (Sub.trans (Sub.keep _ (Sub.trans (Sub.keep _ (Sub.refl _)) (Sub.of_perm (List.perm_middle (l₁ := [_]))))) (Sub.of_perm (List.perm_middle (l₁ := [_]))))) (Sub.of_perm (List.perm_middle (l₁ := [_]))))) (Sub.of_perm (List.perm_middle (l₁ := [_, _, _, _, _]))))) (Sub.of_perm (List.perm_middle (l₁ := [_, _, _, _, _]))))) (Sub.of_perm (List.perm_middle (l₁ := [_, _, _, _, _]))))) (Sub.of_perm (List.perm_middle (l₁ := [_, _, _, _, _])))), O', d', O5, d5, t3 ++ [t], ?_, ?_⟩
      · simp only [len_snoc, List.map_append, hcs_append, List.map_cons, List.map_nil, hcs_cons, hcs_nil, List.append_nil]
        rfl
      · rw [List.map_append, List.map_append, e3, List.append_assoc, List.map_singleton, List.map_singleton, et]
    · refine (OpV.con (Pre := [Blk cb 229 [.slice Ot (t3).length dt], OwnA 112 1 Ot (t3).length dt ((t3).flatMap txL), Many ((t3).map txOwn)]) (R := _) Tryz.ent183 rfl ((List.perm_middle (l₁ := [_, _, _, _])).trans (List.Perm.cons _ ((List.perm_middle (l₁ := [_, _, _, _])).trans (List.Perm.cons _ (List.perm_middle (l₁ := [_, _, _, _])))))) (fun w hw => join45_walk cb Ot t3 dt lv h1 h2 (xs.getD (2 * x.val) zeroH) (xs.getD (2 * x.val + 1) zeroH) (by omega) w hw.sat.left (hT2.pre hw)) ?_)
      rintro v L' ⟨O5, d5, t, rfl, rfl, et⟩
      refine ⟨Sub.nil _, ?_⟩
      refine D.qY 9 rfl (Qt.move (by conv => lhs; whnf)) ?_
      refine D.qY 10 rfl (Qt.extract rfl rfl) ?_
      refine D.q (k := 11) rfl (by kernel_rfl) (by kernel_rfl) rfl rfl (Qt.extract rfl rfl) ?_
      refine D.nS (k := 12) (Sub.nil _) rfl (by kernel_rfl) (by kernel_rfl) rfl rfl (OpV.alloc Tryz.zero49 (fun b10 => ⟨Sub.drop _ (Sub.refl _), ?_⟩))
      refine D.opN (k := 13) (Sub.nil _) rfl (by kernel_rfl) (by kernel_rfl) rfl (OpV.storeV0 (v := hv (pairF lv xs x.val)) rfl rfl (hv_size Tryz.cells49) (hv_all _) (hv_len _) ⟨Sub.nil _, ?_⟩)
      refine D.qY 14 rfl (Qt.assign (by conv => lhs; whnf)) ?_
      refine D.done (Sub.nil _) (by kernel_rfl) ?_
      refine TC.seq ?_
      refine TC.seq ?_
      refine TC.region ?_
      refine S.mv ?_
      refine S.q rfl rfl (Qt.nenil_nil Tryz.underlying51 rfl) ?_
      refine S.nil ?_
      refine S.if_f rfl ?_
      refine TC.skip ?_
      refine TC.region ?_
      refine S.q rfl rfl (Qt.load rfl (Ld.one (v := .slice O pre.length d) (Has.at 6 rfl) Tryz.one33 rfl)) ?_
      refine S.q rfl rfl (Qt.load rfl (Ld.hash1 (x := pairF lv xs x.val) (Has.at 0 rfl) Tryz.row49 Tryz.cells49)) ?_
      refine S.opS rfl rfl (OpV.slice1 (bytes := 32) (v := hv (pairF lv xs x.val)) Tryz.underlying33 Tryz.elem49 (by decide) rfl (hv_len _) (fun g32 => ?_))
      refine S.opS rfl rfl (OpV.app8 (bytes := 32) (news := hvl (pairF lv xs x.val)) Tryz.underlying33 Tryz.elem49 rfl rfl (Has.blk (cs := hvl (pairF lv xs x.val)) (Has.at 0 rfl)) (by rw [hvl_length]) (bytesL_one _) (by simp only [maxLen]; omega) (by omega) (fun O' d' => ?_))
      refine S.opN rfl (OpV.storeV7 rfl (by conv => lhs; whnf) (by exact Tryz.cells33) (by rfl) (by rfl) ?_)
      refine S.nil ?_
      refine ⟨_, Sub.trans (Sub.keep _ (Sub.keep _ (Sub.keep _ (Sub.keep _ (Sub.keep _ (Sub.keep _ (Sub.keep _ (Sub.drop _ (Sub.drop _ (Sub.nil [])))))))))) (Sub.trans (Sub.keep _ (Sub.trans (Sub.keep _ (Sub.trans (Sub.keep _ (Sub.trans (Sub.keep _ (Sub.trans (Sub.keep _ (Sub.trans (Sub.keep _ (Sub.trans (Sub.keep _ (Sub.refl _)) (Sub.of_perm (List.perm_middle (l₁ := [_, _]))))) (Sub.of_perm (List.perm_middle (l₁ := [_, _]))))) (Sub.of_perm (List.perm_middle (l₁ := [_, _]))))) (Sub.of_perm (List.perm_middle (l₁ := [_, _, _, _, _]))))) (Sub.of_perm (List.perm_middle (l₁ := [_, _, _, _, _]))))) (Sub.of_perm (List.perm_middle (l₁ := [_, _, _, _, _]))))) (Sub.of_perm (List.perm_middle (l₁ := [_, _, _, _, _])))), O', d', O5, d5, t3 ++ [t], ?_, ?_⟩
      · simp only [len_snoc, List.map_append, hcs_append, List.map_cons, List.map_nil, hcs_cons, hcs_nil, List.append_nil]
        rfl
      · rw [List.map_append, List.map_append, e3, List.append_assoc, List.map_singleton, List.map_singleton, et]
  · rintro Dd ys L' rfl ⟨O, d, Ot, dt, t3, rfl, e3⟩
    refine TC.seq ?_
    refine TC.region ?_
    refine S.q rfl rfl (Qt.load rfl (Ld.one (v := .slice O (List.finRange m).length d) (Has.at 1 rfl) Tryz.one33 rfl)) ?_
    refine S.opN rfl (OpV.storeV9 rfl (by conv => lhs; whnf) (by exact Tryz.cells33) (by rfl) (by rfl) ?_)
    refine S.opN rfl (OpV.storeV8 rfl (by conv => lhs; whnf) (by exact Tryz.cells51) (by rfl) (by rfl) ?_)
    refine S.nil ?_
    refine TC.ret ?_
    refine finQ.retM rfl (Sub.refl _) (RVs.cell rfl (Ld.one (Has.at 8 rfl) Tryz.one33 (rfl)) (RVs.cell rfl (Ld.one (Has.at 7 rfl) Tryz.one51 (rfl)) RVs.nil)) (Sub.trans (Sub.keep _ (Sub.keep _ (Sub.keep _ (Sub.keep _ (Sub.drop _ (Sub.drop _ (Sub.drop _ (Sub.drop _ (Sub.drop _ (Sub.drop _ (Sub.drop _ (Sub.nil [])))))))))))) (Sub.trans (Sub.keep _ (Sub.trans (Sub.keep _ (Sub.trans (Sub.keep _ (Sub.trans (Sub.keep _ (Sub.refl _)) (Sub.of_perm (List.perm_middle (l₁ := [_]))))) (Sub.of_perm (List.perm_middle (l₁ := [_]))))) (Sub.of_perm (List.perm_middle (l₁ := [_]))))) (Sub.of_perm (List.perm_middle (l₁ := [_]))))) ?_
    rw [List.length_finRange]
    exact ⟨O, d, Ot, dt, t3, rfl, rfl, e3⟩
end Go.Proofs.YtgdjcmehlhebdaaGreatDoor
namespace Go.Proofs.YtgdjcmehlhebdaaGreatDoor
open Go.E
set_option linter.unusedVariables false
set_option maxRecDepth 4000
theorem Tryz.cells46 : (Tryz.prog.info? 46).map (·.size) = some 3 := by kernel_rfl
theorem Tryz.row46 : rowT Tryz.prog 46 = true := by kernel_rfl
theorem Tryz.zero46 : zeroOf Tryz.prog 46 = some ([.slice none 0 0] ++ ([.slice none 0 0] ++ [.slice none 0 0])) := by kernel_rfl
theorem Tryz.ent122 : Enters Tryz.prog 122 := ⟨_, Tryz.func122, by kernel_rfl, rfl⟩
theorem Tryz.ent123 : Enters Tryz.prog 123 := ⟨_, Tryz.func123, by kernel_rfl, rfl⟩
theorem Tryz.elem33 : elemT Tryz.prog 33 1 24 := elemT_of (by kernel_rfl)
theorem concat2_walk (G : Option Addr) (gc : Nat) (A : Option Addr) (c : Nat) (l1 : List H32) (B : Option Addr) (d : Nat) (l2 : List H32) (h1 : 1 ≤ (l1 ++ l2).length) (h2 : (l1 ++ l2).length ≤ 65536) (w0 : World) (hG : Ro w0 [] (SlA G [.slice A l1.length c, .slice B l2.length d])) (hA : Ro w0 [] (SlA A (hcs l1))) (hB : Ro w0 [] (SlA B (hcs l2))) :
    Calls Tryz.prog 122 #[.slice G 2 gc] w0 (Post w0 [] fun v L => ∃ O d, v = .slice O (l1 ++ l2).length d ∧ L = [OwnA 49 32 O (l1 ++ l2).length d (hcs (l1 ++ l2))]) := by
  have e : cat [(A, c, l1), (B, d, l2)] 2 = l1 ++ l2 := by simp [cat]
  have h := concat122_walk G gc [(A, c, l1), (B, d, l2)] (by show 2 ≤ 16; decide) (by show 1 ≤ (cat [(A, c, l1), (B, d, l2)] 2).length; rw [e]; exact h1) (by show (cat [(A, c, l1), (B, d, l2)] 2).length ≤ 65536; rw [e]; exact h2) w0 hG (fun t ht => by
    rcases List.mem_cons.1 ht with rfl | ht
    · exact hA
    · rw [List.mem_singleton.1 ht]; exact hB)
  have h' : Calls Tryz.prog 122 #[.slice G 2 gc] w0 (Post w0 [] fun v L => ∃ O d', v = .slice O (cat [(A, c, l1), (B, d, l2)] 2).length d' ∧ L = [OwnA 49 32 O (cat [(A, c, l1), (B, d, l2)] 2).length d' (hcs (cat [(A, c, l1), (B, d, l2)] 2))]) := h
  rwa [e] at h'
set_option maxHeartbeats 400000 in
theorem pickS_true (A1 : Option Addr) (c1 : Nat) (l1 : List H32) (B1 : Option Addr) (d1 : Nat) (a1 : List H32) (Z1 : Option Addr) (e1 : Nat) (b1 : List H32) (A2 : Option Addr) (c2 : Nat) (l2 : List H32) (B2 : Option Addr) (d2 : Nat) (a2 : List H32) (Z2 : Option Addr) (e2 : Nat) (b2 : List H32) (w0 : World) :
    Calls Tryz.prog 60 #[.bool true, .agg #[.slice A1 l1.length c1, .slice B1 a1.length d1, .slice Z1 b1.length e1], .agg #[.slice A2 l2.length c2, .slice B2 a2.length d2, .slice Z2 b2.length e2]] w0 (Post w0 [] fun v L => v = .agg #[.slice A1 l1.length c1, .slice B1 a1.length d1, .slice Z1 b1.length e1] ∧ L = []) := by
  refine Calls.of (L := []) (n := 10) (rs := [.cell 6 46]) Tryz.func60 rfl rfl rfl (Nat.le_of_ble_eq_true rfl) (Sat.nil _) ?_
  refine TC.seq ?_
  refine TC.region ?_
  refine S.opS rfl rfl (OpV.box (v := .agg #[.slice A1 l1.length c1, .slice B1 a1.length d1, .slice Z1 b1.length e1]) rfl (fun b4 => ?_))
  refine S.opS rfl rfl (OpV.box (v := .agg #[.slice A2 l2.length c2, .slice B2 a2.length d2, .slice Z2 b2.length e2]) rfl (fun b5 => ?_))
  refine S.opS rfl rfl (OpV.alloc Tryz.zero46 (fun b6 => ?_))
  refine S.nil ?_
  refine TC.seq ?_
  refine TC.seq ?_
  refine TC.region ?_
  refine S.mv ?_
  refine S.nil ?_
  refine S.if_t rfl ?_
  refine TC.seq ?_
  refine TC.region ?_
  refine S.q rfl rfl (Qt.load rfl (Ld.all (vs := (vl (.agg #[.slice A1 l1.length c1, .slice B1 a1.length d1, .slice Z1 b1.length e1]))) (Has.at 2 rfl) Tryz.row46 Tryz.cells46)) ?_
  refine S.opN rfl (OpV.storeV0 (v := .agg #[.slice A1 l1.length c1, .slice B1 a1.length d1, .slice Z1 b1.length e1]) rfl rfl (by exact Tryz.cells46) (rfl) (by rfl) ?_)
  refine S.nil ?_
  refine TC.ret ?_
  refine finQ.ret (RVs.cell rfl (Ld.all (Has.at 0 rfl) Tryz.row46 ((by exact Tryz.cells46))) RVs.nil) (Sub.nil _) ?_
  exact ⟨rfl, rfl⟩
set_option maxHeartbeats 400000 in
theorem pickS_false (A1 : Option Addr) (c1 : Nat) (l1 : List H32) (B1 : Option Addr) (d1 : Nat) (a1 : List H32) (Z1 : Option Addr) (e1 : Nat) (b1 : List H32) (A2 : Option Addr) (c2 : Nat) (l2 : List H32) (B2 : Option Addr) (d2 : Nat) (a2 : List H32) (Z2 : Option Addr) (e2 : Nat) (b2 : List H32) (w0 : World) :
    Calls Tryz.prog 60 #[.bool false, .agg #[.slice A1 l1.length c1, .slice B1 a1.length d1, .slice Z1 b1.length e1], .agg #[.slice A2 l2.length c2, .slice B2 a2.length d2, .slice Z2 b2.length e2]] w0 (Post w0 [] fun v L => v = .agg #[.slice A2 l2.length c2, .slice B2 a2.length d2, .slice Z2 b2.length e2] ∧ L = []) := by
  refine Calls.of (L := []) (n := 10) (rs := [.cell 6 46]) Tryz.func60 rfl rfl rfl (Nat.le_of_ble_eq_true rfl) (Sat.nil _) ?_
  refine TC.seq ?_
  refine TC.region ?_
  refine S.opS rfl rfl (OpV.box (v := .agg #[.slice A1 l1.length c1, .slice B1 a1.length d1, .slice Z1 b1.length e1]) rfl (fun b4 => ?_))
  refine S.opS rfl rfl (OpV.box (v := .agg #[.slice A2 l2.length c2, .slice B2 a2.length d2, .slice Z2 b2.length e2]) rfl (fun b5 => ?_))
  refine S.opS rfl rfl (OpV.alloc Tryz.zero46 (fun b6 => ?_))
  refine S.nil ?_
  refine TC.seq ?_
  refine TC.seq ?_
  refine TC.region ?_
  refine S.mv ?_
  refine S.nil ?_
  refine S.if_f rfl ?_
  refine TC.skip ?_
  refine TC.seq ?_
  refine TC.region ?_
  refine S.q rfl rfl (Qt.load rfl (Ld.all (vs := (vl (.agg #[.slice A2 l2.length c2, .slice B2 a2.length d2, .slice Z2 b2.length e2]))) (Has.at 1 rfl) Tryz.row46 Tryz.cells46)) ?_
  refine S.opN rfl (OpV.storeV0 (v := .agg #[.slice A2 l2.length c2, .slice B2 a2.length d2, .slice Z2 b2.length e2]) rfl rfl (by exact Tryz.cells46) (rfl) (by rfl) ?_)
  refine S.nil ?_
  refine TC.ret ?_
  refine finQ.ret (RVs.cell rfl (Ld.all (Has.at 0 rfl) Tryz.row46 ((by exact Tryz.cells46))) RVs.nil) (Sub.nil _) ?_
  exact ⟨rfl, rfl⟩
set_option maxHeartbeats 400000 in
theorem side59_walkF (z : Int) (f : Nat) (hf64 : f < 18446744073709551616) (A : Option Addr) (c : Nat) (ls : List H32) (Bl : Option Addr) (cl : Nat) (left : List H32) (Br : Option Addr) (cr : Nat) (right : List H32) (hc : ls.length ≤ c) (hcm : c ≤ maxLen) (hcl : left.length ≤ cl) (hcr : right.length ≤ cr) (hz : (spanR z f ls left right).2 ≠ 0) (w0 : World) (hR : Ro w0 [] (SlA A (hcs ls))) (hl : Ro w0 [] (SlA Bl (hcs left))) (hr : Ro w0 [] (SlA Br (hcs right))) (hT : Tabs 3 1 w0 []) :
    Calls Tryz.prog 59 #[.int .i64 z, .int .u64 (f : Int), .agg #[.slice A ls.length c, .slice Bl left.length cl, .slice Br right.length cr]] w0 (Post w0 [] fun v L => TxQ none v L) := by
  refine Calls.of (L := []) (n := 94) (rs := [.tmp 6, .tmp 7]) Tryz.func59 rfl rfl rfl (Nat.le_of_ble_eq_true rfl) (Sat.nil _) ?_
  refine TC.seq ?_
  refine TC.region ?_
  refine S.opS rfl rfl (OpV.box (v := .agg #[.slice A ls.length c, .slice Bl left.length cl, .slice Br right.length cr]) rfl (fun b5 => ?_))
  refine S.as ?_
  refine S.as ?_
  refine S.nil ?_
  refine TC.seq ?_
  refine TC.seq ?_
  refine TC.region ?_
  refine S.mv ?_
  refine S.mv ?_
  refine S.q rfl rfl (Qt.field Tryz.underlying46 rfl Tryz.cells33 rfl) ?_
  refine S.q rfl rfl (Qt.load rfl (Ld.one (v := .slice A ls.length c) (Has.at 0 rfl) Tryz.one33 rfl)) ?_
  refine S.q rfl rfl (Qt.field Tryz.underlying46 rfl Tryz.cells43 rfl) ?_
  refine S.q rfl rfl (Qt.load rfl (Ld.row (vs := [.slice Bl left.length cl, .slice Br right.length cr]) (Has.at 0 rfl) Tryz.row43 Tryz.cells43 two_in)) ?_
  refine S.opS rfl rfl (OpV.con0 Tryz.ent19 rfl (fun w hw => (by have h := sroot_R z f hf64 A c ls Bl cl left Br cr right hcl hcr w (Rd.ro hR w hw) (Rd.ro hl w hw) (Rd.ro hr w hw) (hT.at hw); rw [errv_pos hz] at h; exact h : Calls Tryz.prog 19 #[.int .i64 z, .int .u64 (f : Int), .slice A ls.length c, .agg #[.slice Bl left.length cl, .slice Br right.length cr]] w (Ret w (.tuple #[hv (spanR z f ls left right).1, .iface 73 (.int .i64 ((spanR z f ls left right).2 : Int))])))) ?_)
  refine S.mv ?_
  refine S.q rfl rfl (Qt.extract rfl rfl) ?_
  refine S.q rfl rfl (Qt.extract rfl rfl) ?_
  refine S.opS rfl rfl (OpV.alloc Tryz.zero49 (fun b8 => ?_))
  refine S.opN rfl (OpV.storeV0 (v := hv (_)) rfl rfl (hv_size Tryz.cells49) (hv_all _) (hv_len _) ?_)
  refine S.as ?_
  refine S.nil ?_
  refine TC.seq ?_
  refine TC.region ?_
  refine S.mv ?_
  refine S.q rfl rfl (Qt.nenil_iface Tryz.underlying51 rfl) ?_
  refine S.nil ?_
  refine S.if_t rfl ?_
  refine TC.seq ?_
  refine TC.region ?_
  refine S.mv ?_
  refine S.as ?_
  refine S.as ?_
  refine S.nil ?_
  refine TC.ret ?_
  refine finQ.ret (RVs.tmp (by conv => lhs; whnf) (RVs.tmp (by conv => lhs; whnf) RVs.nil)) (Sub.nil _) ?_
  exact ⟨_, rfl, rfl⟩
set_option maxHeartbeats 6400000 in
theorem side59_walk (h f : Nat) (hh : h ≤ 32) (hf64 : f < 18446744073709551616) (A : Option Addr) (c : Nat) (ls : List H32) (Bl : Option Addr) (cl : Nat) (left : List H32) (Br : Option Addr) (cr : Nat) (right : List H32) (hc : ls.length ≤ c) (hcm : c ≤ maxLen) (hcl : left.length ≤ cl) (hcr : right.length ≤ cr) (h2 : ls.length ≤ 256) (ctx : RowCtx f ls.length h ls left right) (hz : (spanR (h : Int) f ls left right).2 = 0) (w0 : World) (hR : Ro w0 [] (SlA A (hcs ls))) (hl : Ro w0 [] (SlA Bl (hcs left))) (hr : Ro w0 [] (SlA Br (hcs right))) (hT : Tabs 3 1 w0 []) :
    Calls Tryz.prog 59 #[.int .i64 (h : Int), .int .u64 (f : Int), .agg #[.slice A ls.length c, .slice Bl left.length cl, .slice Br right.length cr]] w0 (Post w0 [] fun v L => TxQ (some (sideX f ls.length h ls left right h)) v L) := by
  refine Calls.of (L := []) (n := 94) (rs := [.tmp 6, .tmp 7]) Tryz.func59 rfl rfl rfl (Nat.le_of_ble_eq_true rfl) (Sat.nil _) ?_
  have hpw : 2 ^ h ≤ 4294967296 := (show 2 ^ h ≤ 2 ^ 32 from Nat.pow_le_pow_right (by decide) hh)
  have h1 := ctx.n1
  have hfit := ctx.fit
  refine TC.seq ?_
  refine TC.region ?_
  refine S.opS rfl rfl (OpV.box (v := .agg #[.slice A ls.length c, .slice Bl left.length cl, .slice Br right.length cr]) rfl (fun b5 => ?_))
  refine S.as ?_
  refine S.as ?_
  refine S.nil ?_
  refine TC.seq ?_
  refine TC.seq ?_
  refine TC.region ?_
  refine S.mv ?_
  refine S.mv ?_
  refine S.q rfl rfl (Qt.field Tryz.underlying46 rfl Tryz.cells33 rfl) ?_
  refine S.q rfl rfl (Qt.load rfl (Ld.one (v := .slice A ls.length c) (Has.at 0 rfl) Tryz.one33 rfl)) ?_
  refine S.q rfl rfl (Qt.field Tryz.underlying46 rfl Tryz.cells43 rfl) ?_
  refine S.q rfl rfl (Qt.load rfl (Ld.row (vs := [.slice Bl left.length cl, .slice Br right.length cr]) (Has.at 0 rfl) Tryz.row43 Tryz.cells43 two_in)) ?_
  refine S.opS rfl rfl (OpV.con0 Tryz.ent19 rfl (fun w hw => (by have h := sroot_R (h : Int) f hf64 A c ls Bl cl left Br cr right hcl hcr w (Rd.ro hR w hw) (Rd.ro hl w hw) (Rd.ro hr w hw) (hT.at hw); rw [hz, errv_zero] at h; exact h : Calls Tryz.prog 19 #[.int .i64 (h : Int), .int .u64 (f : Int), .slice A ls.length c, .agg #[.slice Bl left.length cl, .slice Br right.length cr]] w (Ret w (.tuple #[hv (spanR (h : Int) f ls left right).1, .nilIface])))) ?_)
  refine S.mv ?_
  refine S.q rfl rfl (Qt.extract rfl rfl) ?_
  refine S.q rfl rfl (Qt.extract rfl rfl) ?_
  refine S.opS rfl rfl (OpV.alloc Tryz.zero49 (fun b8 => ?_))
  refine S.opN rfl (OpV.storeV0 (v := hv (_)) rfl rfl (hv_size Tryz.cells49) (hv_all _) (hv_len _) ?_)
  refine S.as ?_
  refine S.nil ?_
  refine TC.seq ?_
  refine TC.region ?_
  refine S.mv ?_
  refine S.q rfl rfl (Qt.nenil_nil Tryz.underlying51 rfl) ?_
  refine S.nil ?_
  refine S.if_f rfl ?_
  refine TC.skip ?_
  refine TC.seq ?_
  refine TC.region ?_
  refine S.q rfl rfl (Qt.build (v := .agg #[.slice none 0 0]) rfl (fun _ => by kernel_rfl)) ?_
  refine S.opS rfl rfl (OpV.box (v := .agg #[.slice none 0 0]) rfl (fun b33 => ?_))
  refine S.as ?_
  refine S.nil ?_
  refine TC.seq ?_
  refine S.draw ([], []) Tryz.mixed (Sub.nil _) ?_
  refine D.qY 0 rfl (Qt.field Tryz.underlying46 rfl Tryz.cells33 rfl) ?_
  refine D.qY 1 rfl (Qt.load rfl (Ld.one (v := .slice A ls.length c) (Has.at 2 rfl) Tryz.one33 rfl)) ?_
  refine D.qY 2 rfl (Qt.field Tryz.underlying46 rfl Tryz.cells43 rfl) ?_
  refine D.qY 3 rfl (Qt.field Tryz.underlying43 rfl Tryz.cells33 rfl) ?_
  refine D.qY 4 rfl (Qt.load rfl (Ld.one (v := .slice Bl left.length cl) (Has.at 2 rfl) Tryz.one33 rfl)) ?_
  refine D.qY 5 rfl (Qt.field Tryz.underlying46 rfl Tryz.cells43 rfl) ?_
  refine D.qY 6 rfl (Qt.field Tryz.underlying43 rfl Tryz.cells33 rfl) ?_
  refine D.qY 7 rfl (Qt.load rfl (Ld.one (v := .slice Br right.length cr) (Has.at 2 rfl) Tryz.one33 rfl)) ?_
  refine D.qY 8 rfl (Qt.assign (by conv => lhs; whnf)) ?_
  refine D.qY 9 rfl (Qt.assign (by conv => lhs; whnf)) ?_
  refine D.qY 10 rfl (Qt.assign (by conv => lhs; whnf)) ?_
  refine D.done (Sub.nil _) (by kernel_rfl) ?_
  refine TC.seq ?_
  refine TC.region ?_
  refine S.mv ?_
  refine S.mv ?_
  refine S.mv ?_
  refine S.q rfl rfl (Qt.len_slice Tryz.underlying33 rfl) ?_
  refine S.q rfl rfl (Qt.convert Tryz.underlying3 Tryz.underlying40 rfl (by simp only [kmax]; omega)) ?_
  refine S.q rfl rfl (Qt.add rfl rfl (by simp only [kmax]; omega)) ?_
  refine S.q rfl rfl (Qt.sub (b := 1) rfl rfl (by omega) (by simp only [kmax]; omega)) ?_
  refine S.as ?_
  refine S.as ?_
  refine S.nil ?_
  refine TC.seq ?_
  refine TC.seq ?_
  refine TC.region ?_
  refine S.mv ?_
  refine S.mv ?_
  refine S.nil ?_
  refine TC.block ?_
  refine TC.ownNil 112 1 ?_
  refine TC.manyNil ?_
  refine TC.manyNil ?_
  refine TC.loop (γ := Nat × (Option Addr × Nat × List Assn) × (Option Addr × Nat) × (Option Addr × Nat) × Option Addr × List Tx × Nat) [51, 52, 16, 53, 54, 55, 56, 57, 58, 59, 60, 11, 61, 62, 12, 63, 64, 65, 66, 67, 68, 69, 70, 71, 72, 13, 74, 75, 76, 77, 78, 73, 79, 80, 17, 18, 81, 82, 83, 6, 7, 84, 85, 86, 87, 88, 14, 15, 89, 50] (fun g => [(50, .int .i64 ((g.1 : Nat) : Int)), (11, .slice g.2.1.1 (rowLv f ls.length h ls left right g.1).length g.2.1.2.1), (14, .int .u64 ((f / 2 ^ g.1 : Nat) : Int)), (15, .int .u64 (((f + ls.length - 1) / 2 ^ g.1 : Nat) : Int)), (12, .slice g.2.2.1.1 (left.drop (sideL f g.1).length).length g.2.2.1.2), (13, .slice g.2.2.2.1.1 (right.drop (sideR (f + ls.length - 1) g.1).length).length g.2.2.2.1.2)]) (fun g => [Blk b33 229 [.slice g.2.2.2.2.1 g.2.2.2.2.2.1.length g.2.2.2.2.2.2], OwnA 112 1 g.2.2.2.2.1 (g.2.2.2.2.2.1).length g.2.2.2.2.2.2 ((g.2.2.2.2.2.1).flatMap txL), Many ((g.2.2.2.2.2.1).map txOwn), Many g.2.1.2.2, Blk b8 49 (hvl (spanR (h : Int) f ls left right).1), Blk b5 46 [.slice A ls.length c, .slice Bl left.length cl, .slice Br right.length cr]]) (fun g => g.1 ≤ h ∧ Less Bl left (sideL f g.1).length g.2.2.1.1 g.2.2.1.2 ∧ Less Br right (sideR (f + ls.length - 1) g.1).length g.2.2.2.1.1 g.2.2.2.1.2 ∧ (OwnA 49 32 g.2.1.1 (rowLv f ls.length h ls left right g.1).length g.2.1.2.1 (hcs (rowLv f ls.length h ls left right g.1)) ∈ g.2.1.2.2 ∨ Ro w0 [] (SlA g.2.1.1 (hcs (rowLv f ls.length h ls left right g.1))) ∧ (rowLv f ls.length h ls left right g.1).length ≤ g.2.1.2.1 ∧ g.2.1.2.1 ≤ maxLen) ∧ g.2.2.2.2.2.1.map (fun t => t.2.2) = (sideX f ls.length h ls left right g.1)) (fun g => h - g.1) ((0, (A, c, []), (Bl, cl), (Br, cr), none, [], 0))
    ⟨Nat.zero_le _, Less.zero hcl, Less.zero hcr, .inr (by rw [ctx.zero]; exact ⟨hR, hc, hcm⟩), rfl⟩ ⟨Out.refl _ _, (List.forall_mem_cons.2 ⟨rfl, (List.forall_mem_cons.2 ⟨(by show Value.slice A ls.length c = Value.slice A (rowLv f ls.length h ls left right 0).length c; rw [ctx.zero]), (List.forall_mem_cons.2 ⟨(by show Value.int .u64 (f : Int) = Value.int .u64 ((f / 2 ^ 0 : Nat) : Int); rw [Nat.pow_zero, Nat.div_one]), (List.forall_mem_cons.2 ⟨(by show Value.int .u64 (((f + ls.length - 1) : Nat) : Int) = Value.int .u64 (((f + ls.length - 1) / 2 ^ 0 : Nat) : Int); rw [Nat.pow_zero, Nat.div_one]), (List.forall_mem_cons.2 ⟨rfl, (List.forall_mem_cons.2 ⟨rfl, (fun _ h => nomatch h)⟩)⟩)⟩)⟩)⟩)⟩)⟩ ((by dsimp only; exact Sub.trans (Sub.keep _ (Sub.trans (Sub.keep _ (Sub.trans (Sub.keep _ (Sub.refl _)) (Sub.of_perm (List.perm_middle (l₁ := [_]))))) (Sub.of_perm (List.perm_middle (l₁ := [_, _]))))) (Sub.of_perm (List.perm_middle (l₁ := [_, _, _]))))) ?_
  rintro ⟨k, ⟨O, d, Lr⟩, ⟨A1, c1⟩, ⟨A2, c2⟩, Ot, tt, dt⟩ u ⟨hk, le1, le2, hrow, htt⟩
  dsimp only at hk le1 le2 hrow htt
  obtain ⟨hpos, hlen⟩ := ctx.lenAt k
  refine TC.seq ?_
  refine TC.region ?_
  refine S.dec rfl rfl (Qt.lt rfl rfl) (fun h51 => ?_) (fun h51 => ?_)
  · refine S.nil ?_
    refine TC.seq ?_
    refine S.if_t rfl ?_
    refine TC.skip ?_
    refine TC.seq ?_
    refine TC.block ?_
    refine TC.seq ?_
    refine TC.region ?_
    refine S.mv ?_
    refine S.as ?_
    refine S.nil ?_
    refine TC.seq ?_
    refine TC.seq ?_
    refine TC.region ?_
    refine S.mv ?_
    refine S.q rfl rfl (Qt.rem (b := 2) rfl rfl (by omega)) ?_
    refine S.dec rfl rfl (Qt.eq (b := 1) rfl rfl) (fun h55 => ?_) (fun h55 => ?_)
    · refine S.nil ?_
      refine S.if_t rfl ?_
      refine TC.seq ?_
      refine TC.region ?_
      refine S.mv ?_
      refine S.q rfl rfl (Qt.slice_hi (h := 1) Tryz.underlying33 Tryz.cells49 rfl rfl (by show 1 ≤ c1; have q : (left.drop (sideL f k).length).length ≤ c1 := le1.cap; rw [List.length_drop] at q; have := lenL_lt ctx.lenL (show k < h from h51) (show f / 2 ^ k % 2 = 1 from h55); omega)) ?_
      refine S.mv ?_
      refine S.opS rfl rfl (OpV.sliceLO (vs := [.slice A1 1 c1, .slice O (rowLv f ls.length h ls left right k).length d]) Tryz.underlying304 Tryz.elem33 rfl (by decide) rfl (two_slices rfl rfl) (fun g59 => ?_))
      have hx1 : Ro w0 [] (SlA A1 (hcs [(left.getD (sideL f k).length zeroH)])) := by have q := (le1.ro _ _ hl).take 32; rwa [hcs_take1 (lenL_lt ctx.lenL (show k < h from h51) (show f / 2 ^ k % 2 = 1 from h55))] at q
      refine S.opS rfl rfl (OpV.con (Pre := []) (R := _) Tryz.ent122 rfl (List.Perm.refl _) (fun w hw => (concat2_walk (some ⟨g59, 0, none⟩) 2 A1 c1 [(left.getD (sideL f k).length zeroH)] O d (rowLv f ls.length h ls left right k) (by rw [List.length_append, List.length_singleton]; omega) (by rw [List.length_append, List.length_singleton]; omega) w (Rd.own (Rd.at 0 rfl) w hw) (Rd.ro hx1 w hw) (rowRd (Rd.at 4 rfl) (hrow.imp_right (·.1)) w hw) : Calls Tryz.prog 122 #[.slice (some ⟨g59, 0, none⟩) 2 2] w (Post w [] fun v L => ∃ O d, v = .slice O ([(left.getD (sideL f k).length zeroH)] ++ (rowLv f ls.length h ls left right k)).length d ∧ L = [OwnA 49 32 O ([(left.getD (sideL f k).length zeroH)] ++ (rowLv f ls.length h ls left right k)).length d (hcs ([(left.getD (sideL f k).length zeroH)] ++ (rowLv f ls.length h ls left right k)))]))) ?_)
      rintro v L' ⟨O1, d1, rfl, rfl⟩
      refine S.as ?_
      refine S.nil ?_
      refine TC.region ?_
      refine S.mv ?_
      refine S.q rfl rfl (Qt.slice_lo (l := 1) Tryz.underlying33 Tryz.cells49 rfl rfl (by show 1 ≤ (left.drop (sideL f k).length).length; rw [List.length_drop]; have := lenL_lt ctx.lenL (show k < h from h51) (show f / 2 ^ k % 2 = 1 from h55); omega)) ?_
      refine S.as ?_
      refine S.nil ?_
      refine TC.seq ?_
      refine TC.seq ?_
      refine TC.region ?_
      refine S.mv ?_
      refine S.q rfl rfl (Qt.rem (b := 2) rfl rfl (by omega)) ?_
      refine S.dec rfl rfl (Qt.eq (b := 0) rfl rfl) (fun h65 => ?_) (fun h65 => ?_)
      · refine S.nil ?_
        refine S.if_t rfl ?_
        refine TC.seq ?_
        refine TC.region ?_
        refine S.mv ?_
        refine S.mv ?_
        refine S.q rfl rfl (Qt.slice_hi (h := 1) Tryz.underlying33 Tryz.cells49 rfl rfl (by show 1 ≤ c2; have q : (right.drop (sideR (f + ls.length - 1) k).length).length ≤ c2 := le2.cap; rw [List.length_drop] at q; have := lenR_lt ctx.lenR (show k < h from h51) (show (f + ls.length - 1) / 2 ^ k % 2 = 0 from h65); omega)) ?_
        refine S.opS rfl rfl (OpV.sliceLO (vs := [.slice O1 ([(left.getD (sideL f k).length zeroH)] ++ (rowLv f ls.length h ls left right k)).length d1, .slice A2 1 c2]) Tryz.underlying304 Tryz.elem33 rfl (by decide) rfl (two_slices rfl rfl) (fun g69 => ?_))
        have hx2 : Ro w0 [] (SlA A2 (hcs [(right.getD (sideR (f + ls.length - 1) k).length zeroH)])) := by have q := (le2.ro _ _ hr).take 32; rwa [hcs_take1 (lenR_lt ctx.lenR (show k < h from h51) (show (f + ls.length - 1) / 2 ^ k % 2 = 0 from h65))] at q
        refine S.opS rfl rfl (OpV.con (Pre := []) (R := _) Tryz.ent122 rfl (List.Perm.refl _) (fun w hw => (concat2_walk (some ⟨g69, 0, none⟩) 2 O1 d1 ([(left.getD (sideL f k).length zeroH)] ++ (rowLv f ls.length h ls left right k)) A2 c2 [(right.getD (sideR (f + ls.length - 1) k).length zeroH)] (by rw [List.length_append, List.length_singleton]; omega) (by simp only [List.length_append, List.length_singleton]; omega) w (Rd.own (Rd.at 0 rfl) w hw) ((Rd.own (Rd.at 1 rfl) w hw)) (Rd.ro hx2 w hw) : Calls Tryz.prog 122 #[.slice (some ⟨g69, 0, none⟩) 2 2] w (Post w [] fun v L => ∃ O d, v = .slice O (([(left.getD (sideL f k).length zeroH)] ++ (rowLv f ls.length h ls left right k)) ++ [(right.getD (sideR (f + ls.length - 1) k).length zeroH)]).length d ∧ L = [OwnA 49 32 O (([(left.getD (sideL f k).length zeroH)] ++ (rowLv f ls.length h ls left right k)) ++ [(right.getD (sideR (f + ls.length - 1) k).length zeroH)]).length d (hcs (([(left.getD (sideL f k).length zeroH)] ++ (rowLv f ls.length h ls left right k)) ++ [(right.getD (sideR (f + ls.length - 1) k).length zeroH)]))]))) ?_)
        rintro v L' ⟨O2, d2, rfl, rfl⟩
        refine S.as ?_
        refine S.nil ?_
        refine TC.region ?_
        refine S.mv ?_
        refine S.q rfl rfl (Qt.slice_lo (l := 1) Tryz.underlying33 Tryz.cells49 rfl rfl (by show 1 ≤ (right.drop (sideR (f + ls.length - 1) k).length).length; rw [List.length_drop]; have := lenR_lt ctx.lenR (show k < h from h51) (show (f + ls.length - 1) / 2 ^ k % 2 = 0 from h65); omega)) ?_
        refine S.as ?_
        refine S.nil ?_
        refine TC.seq ?_
        refine TC.region ?_
        refine S.mv ?_
        refine S.mv ?_
        refine S.q rfl rfl (Qt.add (b := 1) rfl rfl (by simp only [kmax]; omega)) ?_
        refine S.mv ?_
        have hmid : (([(left.getD (sideL f k).length zeroH)] ++ (rowLv f ls.length h ls left right k)) ++ [(right.getD (sideR (f + ls.length - 1) k).length zeroH)]) = (rowMd f ls.length h ls left right k) := by rw [rowMd, if_pos (show f / 2 ^ k % 2 = 1 from h55), if_pos (show (f + ls.length - 1) / 2 ^ k % 2 = 0 from h65)]
        have hml : (([(left.getD (sideL f k).length zeroH)] ++ (rowLv f ls.length h ls left right k)) ++ [(right.getD (sideR (f + ls.length - 1) k).length zeroH)]).length = 2 * ((f + ls.length - 1) / 2 ^ (k + 1) + 1 - f / 2 ^ (k + 1)) := by rw [hmid]; exact ctx.midLen (show k < h from h51)
        have htt2 := side_texts_len h1 h2 (show k ≤ 32 by omega) htt
        refine S.opS rfl rfl (OpV.con (Pre := [Blk b33 229 [.slice Ot tt.length dt], OwnA 112 1 Ot (tt).length dt ((tt).flatMap txL), Many ((tt).map txOwn)]) (R := _) Tryz.ent123 rfl ((List.perm_middle (l₁ := [_, _, _, _])).trans (List.Perm.cons _ ((List.perm_middle (l₁ := [_, _, _, _])).trans (List.Perm.cons _ (List.perm_middle (l₁ := [_, _, _, _])))))) (fun w hw => (by have cap := own_cap (hw.ok (List.mem_of_getElem? (i := 3) rfl)); have hc0 := cap.1; have hm0 := cap.2.1; have hro := (Ro.of_rest hw (List.mem_of_getElem? (i := 0) rfl)).own; rw [hmid] at hro; have q := row123_walk b33 Ot tt dt (k + 1) (by omega) (by omega) O2 ((f + ls.length - 1) / 2 ^ (k + 1) + 1 - f / 2 ^ (k + 1)) d2 (rowMd f ls.length h ls left right k) (ctx.midLen (show k < h from h51)) (by rw [← hml]; exact hc0) (by simp only [maxLen] at hm0; omega) (by have := ctx.lenAt (k + 1); have e2 : (rowLv f ls.length h ls left right (k + 1)).length = ((f + ls.length - 1) / 2 ^ (k + 1) + 1 - f / 2 ^ (k + 1)) := (by rw [rowLv, rowV_len]); omega) w hw.sat.left hro (hT.pre hw); rw [← hml] at q; exact q : Calls Tryz.prog 123 #[.pointer (some ⟨b33, 0, none⟩), .int .i64 ((k + 1 : Nat) : Int), .slice O2 (([(left.getD (sideL f k).length zeroH)] ++ (rowLv f ls.length h ls left right k)) ++ [(right.getD (sideR (f + ls.length - 1) k).length zeroH)]).length d2] w (Post w (fps [Blk b33 229 [.slice Ot tt.length dt], OwnA 112 1 Ot (tt).length dt ((tt).flatMap txL), Many ((tt).map txOwn)]) fun v L => ∃ O d Ot3 dt3, ∃ t3 : List Tx, v = .tuple #[.slice O ((f + ls.length - 1) / 2 ^ (k + 1) + 1 - f / 2 ^ (k + 1)) d, .nilIface] ∧ L = [OwnA 49 32 O ((f + ls.length - 1) / 2 ^ (k + 1) + 1 - f / 2 ^ (k + 1)) d (hcs ((List.finRange ((f + ls.length - 1) / 2 ^ (k + 1) + 1 - f / 2 ^ (k + 1))).map (fun i : Fin ((f + ls.length - 1) / 2 ^ (k + 1) + 1 - f / 2 ^ (k + 1)) => pairF (k + 1) (rowMd f ls.length h ls left right k) i.val))), Blk b33 229 [.slice Ot3 (t3).length dt3], OwnA 112 1 Ot3 (t3).length dt3 ((t3).flatMap txL), Many ((t3).map txOwn)] ∧ t3.map (fun t => t.2.2) = tt.map (fun t => t.2.2) ++ (List.finRange ((f + ls.length - 1) / 2 ^ (k + 1) + 1 - f / 2 ^ (k + 1))).map (fun i : Fin ((f + ls.length - 1) / 2 ^ (k + 1) + 1 - f / 2 ^ (k + 1)) => joinT (k + 1) ((rowMd f ls.length h ls left right k).getD (2 * i.val) zeroH) ((rowMd f ls.length h ls left right k).getD (2 * i.val + 1) zeroH))))) ?_)
        rintro v L' ⟨O3, d3, O4, d4, t3, rfl, rfl, e3⟩
        have hnx : (List.finRange ((f + ls.length - 1) / 2 ^ (k + 1) + 1 - f / 2 ^ (k + 1))).map (fun i : Fin ((f + ls.length - 1) / 2 ^ (k + 1) + 1 - f / 2 ^ (k + 1)) => pairF (k + 1) (rowMd f ls.length h ls left right k) i.val) = (rowLv f ls.length h ls left right (k + 1)) := ctx.next (show k < h from h51) rfl
        have hnl : ((f + ls.length - 1) / 2 ^ (k + 1) + 1 - f / 2 ^ (k + 1)) = (rowLv f ls.length h ls left right (k + 1)).length := by rw [rowLv, rowV_len]
        have ht3 : t3.map (fun t => t.2.2) = (sideX f ls.length h ls left right (k + 1)) := by rw [e3, htt, sideX_succ]; exact congrArg _ (finRange_vals ((f + ls.length - 1) / 2 ^ (k + 1) + 1 - f / 2 ^ (k + 1)) (fun i => joinT (k + 1) ((rowMd f ls.length h ls left right k).getD (2 * i) zeroH) ((rowMd f ls.length h ls left right k).getD (2 * i + 1) zeroH)))
        rw [hnx, hnl]
        refine TL.manyOne ?_
        refine S.mv ?_
        refine S.q rfl rfl (Qt.extract rfl rfl) ?_
        refine S.q rfl rfl (Qt.extract rfl rfl) ?_
        refine S.as ?_
        refine S.as ?_
        refine S.nil ?_
        refine TC.seq ?_
        refine TC.seq ?_
        refine TC.region ?_
        refine S.mv ?_
        refine S.q rfl rfl (Qt.nenil_nil Tryz.underlying51 rfl) ?_
        refine S.nil ?_
        refine S.if_f rfl ?_
        refine TC.skip ?_
        refine TC.seq ?_
        refine TC.region ?_
        refine S.mv ?_
        refine S.as ?_
        refine S.nil ?_
        refine TC.region ?_
        refine S.mv ?_
        refine S.q rfl rfl (Qt.as (Qt.quo (b := 2) rfl rfl (by omega) (by have := Nat.div_le_self f (2 ^ k); simp only [kmax]; omega)) (by rw [half_step])) ?_
        refine S.mv ?_
        refine S.q rfl rfl (Qt.as (Qt.quo (b := 2) rfl rfl (by omega) (by have := Nat.div_le_self (f + ls.length - 1) (2 ^ k); simp only [kmax]; omega)) (by rw [half_step])) ?_
        refine S.as ?_
        refine S.as ?_
        refine S.nil ?_
        refine TC.region ?_
        refine S.q rfl rfl (Qt.add (b := 1) rfl rfl (by simp only [kmax]; omega)) ?_
        refine S.mv ?_
        refine S.nil ?_
        refine ⟨(k + 1, (O3, d3, [OwnA 49 32 O3 (rowLv f ls.length h ls left right (k + 1)).length d3 (hcs (rowLv f ls.length h ls left right (k + 1)))]), ((if c1 = 1 then A1 else A1.map (·.add (1 * 32))), (c1 - 1)), ((if c2 = 1 then A2 else A2.map (·.add (1 * 32))), (c2 - 1)), O4, t3, d4), ?_, ?_, ⟨?_, (List.forall_mem_cons.2 ⟨rfl, (List.forall_mem_cons.2 ⟨rfl, (List.forall_mem_cons.2 ⟨rfl, (List.forall_mem_cons.2 ⟨rfl, (List.forall_mem_cons.2 ⟨(by show Value.slice (if c1 = 1 then A1 else A1.map (·.add (1 * 32))) ((left.drop (sideL f k).length).length - 1) (c1 - 1) = Value.slice (if c1 = 1 then A1 else A1.map (·.add (1 * 32))) (left.drop (sideL f (k + 1)).length).length (c1 - 1); rw [sideL_1 (show f / 2 ^ k % 2 = 1 from h55), len_snoc, List.length_drop, List.length_drop]; congr 1), (List.forall_mem_cons.2 ⟨(by show Value.slice (if c2 = 1 then A2 else A2.map (·.add (1 * 32))) ((right.drop (sideR (f + ls.length - 1) k).length).length - 1) (c2 - 1) = Value.slice (if c2 = 1 then A2 else A2.map (·.add (1 * 32))) (right.drop (sideR (f + ls.length - 1) (k + 1)).length).length (c2 - 1); rw [sideR_1 (show (f + ls.length - 1) / 2 ^ k % 2 = 0 from h65), len_snoc, List.length_drop, List.length_drop]; congr 1), (fun _ h => nomatch h)⟩)⟩)⟩)⟩)⟩)⟩)⟩, (by dsimp only; exact Sub.trans (Sub.keep _ (Sub.keep _ (Sub.keep _ (Sub.keep _ (Sub.keep _ (Sub.keep _ (Sub.drop _ (Sub.drop _ (Sub.drop _ (Sub.drop _ (Sub.drop _ (Sub.nil [])))))))))))) (Sub.trans (Sub.keep _ (Sub.trans (Sub.keep _ (Sub.trans (Sub.keep _ (Sub.keep _ (Sub.trans (Sub.keep _ (Sub.trans (Sub.keep _ (Sub.refl _)) (Sub.of_perm (List.perm_middle (l₁ := [_, _, _, _, _]))))) (Sub.of_perm (List.perm_middle (l₁ := [_, _, _, _, _])))))) (Sub.of_perm (List.perm_middle (l₁ := [_]))))) (Sub.of_perm (List.perm_middle (l₁ := [_]))))) (Sub.of_perm (List.perm_middle (l₁ := [_])))))⟩
        · exact ⟨by show _ ≤ _; dsimp only; omega, by rw [sideL_1 (show f / 2 ^ k % 2 = 1 from h55), len_snoc]; exact le1.next (Less.one le1.cap (by (try dsimp only); rw [List.length_drop]; have := lenL_lt ctx.lenL (show k < h from h51) (show f / 2 ^ k % 2 = 1 from h55); omega)), by rw [sideR_1 (show (f + ls.length - 1) / 2 ^ k % 2 = 0 from h65), len_snoc]; exact le2.next (Less.one le2.cap (by (try dsimp only); rw [List.length_drop]; have := lenR_lt ctx.lenR (show k < h from h51) (show (f + ls.length - 1) / 2 ^ k % 2 = 0 from h65); omega)), .inl (List.mem_singleton.2 rfl), ht3⟩
        · show _ < _; dsimp only; omega
        repeat (first | exact Out.refl _ _ | refine Out.put rfl ?_ | refine Out.puts rfl ?_ | refine Out.scr ?_ | refine Out.scr' rfl ?_)
      · refine S.nil ?_
        refine S.if_f rfl ?_
        refine TC.skip ?_
        refine TC.seq ?_
        refine TC.region ?_
        refine S.mv ?_
        refine S.mv ?_
        refine S.q rfl rfl (Qt.add (b := 1) rfl rfl (by simp only [kmax]; omega)) ?_
        refine S.mv ?_
        have hmid : ([(left.getD (sideL f k).length zeroH)] ++ (rowLv f ls.length h ls left right k)) = (rowMd f ls.length h ls left right k) := by rw [rowMd, if_pos (show f / 2 ^ k % 2 = 1 from h55), if_neg (show ¬ (f + ls.length - 1) / 2 ^ k % 2 = 0 from h65)]; simp only [List.nil_append, List.append_nil]
        have hml : ([(left.getD (sideL f k).length zeroH)] ++ (rowLv f ls.length h ls left right k)).length = 2 * ((f + ls.length - 1) / 2 ^ (k + 1) + 1 - f / 2 ^ (k + 1)) := by rw [hmid]; exact ctx.midLen (show k < h from h51)
        have htt2 := side_texts_len h1 h2 (show k ≤ 32 by omega) htt
        refine S.opS rfl rfl (OpV.con (Pre := [Blk b33 229 [.slice Ot tt.length dt], OwnA 112 1 Ot (tt).length dt ((tt).flatMap txL), Many ((tt).map txOwn)]) (R := _) Tryz.ent123 rfl ((List.perm_middle (l₁ := [_, _])).trans (List.Perm.cons _ ((List.perm_middle (l₁ := [_, _])).trans (List.Perm.cons _ (List.perm_middle (l₁ := [_, _])))))) (fun w hw => (by have cap := own_cap (hw.ok (List.mem_of_getElem? (i := 3) rfl)); have hc0 := cap.1; have hm0 := cap.2.1; have hro := (Ro.of_rest hw (List.mem_of_getElem? (i := 0) rfl)).own; rw [hmid] at hro; have q := row123_walk b33 Ot tt dt (k + 1) (by omega) (by omega) O1 ((f + ls.length - 1) / 2 ^ (k + 1) + 1 - f / 2 ^ (k + 1)) d1 (rowMd f ls.length h ls left right k) (ctx.midLen (show k < h from h51)) (by rw [← hml]; exact hc0) (by simp only [maxLen] at hm0; omega) (by have := ctx.lenAt (k + 1); have e2 : (rowLv f ls.length h ls left right (k + 1)).length = ((f + ls.length - 1) / 2 ^ (k + 1) + 1 - f / 2 ^ (k + 1)) := (by rw [rowLv, rowV_len]); omega) w hw.sat.left hro (hT.pre hw); rw [← hml] at q; exact q : Calls Tryz.prog 123 #[.pointer (some ⟨b33, 0, none⟩), .int .i64 ((k + 1 : Nat) : Int), .slice O1 ([(left.getD (sideL f k).length zeroH)] ++ (rowLv f ls.length h ls left right k)).length d1] w (Post w (fps [Blk b33 229 [.slice Ot tt.length dt], OwnA 112 1 Ot (tt).length dt ((tt).flatMap txL), Many ((tt).map txOwn)]) fun v L => ∃ O d Ot3 dt3, ∃ t3 : List Tx, v = .tuple #[.slice O ((f + ls.length - 1) / 2 ^ (k + 1) + 1 - f / 2 ^ (k + 1)) d, .nilIface] ∧ L = [OwnA 49 32 O ((f + ls.length - 1) / 2 ^ (k + 1) + 1 - f / 2 ^ (k + 1)) d (hcs ((List.finRange ((f + ls.length - 1) / 2 ^ (k + 1) + 1 - f / 2 ^ (k + 1))).map (fun i : Fin ((f + ls.length - 1) / 2 ^ (k + 1) + 1 - f / 2 ^ (k + 1)) => pairF (k + 1) (rowMd f ls.length h ls left right k) i.val))), Blk b33 229 [.slice Ot3 (t3).length dt3], OwnA 112 1 Ot3 (t3).length dt3 ((t3).flatMap txL), Many ((t3).map txOwn)] ∧ t3.map (fun t => t.2.2) = tt.map (fun t => t.2.2) ++ (List.finRange ((f + ls.length - 1) / 2 ^ (k + 1) + 1 - f / 2 ^ (k + 1))).map (fun i : Fin ((f + ls.length - 1) / 2 ^ (k + 1) + 1 - f / 2 ^ (k + 1)) => joinT (k + 1) ((rowMd f ls.length h ls left right k).getD (2 * i.val) zeroH) ((rowMd f ls.length h ls left right k).getD (2 * i.val + 1) zeroH))))) ?_)
        rintro v L' ⟨O3, d3, O4, d4, t3, rfl, rfl, e3⟩
        have hnx : (List.finRange ((f + ls.length - 1) / 2 ^ (k + 1) + 1 - f / 2 ^ (k + 1))).map (fun i : Fin ((f + ls.length - 1) / 2 ^ (k + 1) + 1 - f / 2 ^ (k + 1)) => pairF (k + 1) (rowMd f ls.length h ls left right k) i.val) = (rowLv f ls.length h ls left right (k + 1)) := ctx.next (show k < h from h51) rfl
        have hnl : ((f + ls.length - 1) / 2 ^ (k + 1) + 1 - f / 2 ^ (k + 1)) = (rowLv f ls.length h ls left right (k + 1)).length := by rw [rowLv, rowV_len]
        have ht3 : t3.map (fun t => t.2.2) = (sideX f ls.length h ls left right (k + 1)) := by rw [e3, htt, sideX_succ]; exact congrArg _ (finRange_vals ((f + ls.length - 1) / 2 ^ (k + 1) + 1 - f / 2 ^ (k + 1)) (fun i => joinT (k + 1) ((rowMd f ls.length h ls left right k).getD (2 * i) zeroH) ((rowMd f ls.length h ls left right k).getD (2 * i + 1) zeroH)))
        rw [hnx, hnl]
        refine TL.manyOne ?_
        refine S.mv ?_
        refine S.q rfl rfl (Qt.extract rfl rfl) ?_
        refine S.q rfl rfl (Qt.extract rfl rfl) ?_
        refine S.as ?_
        refine S.as ?_
        refine S.nil ?_
        refine TC.seq ?_
        refine TC.seq ?_
        refine TC.region ?_
        refine S.mv ?_
        refine S.q rfl rfl (Qt.nenil_nil Tryz.underlying51 rfl) ?_
        refine S.nil ?_
        refine S.if_f rfl ?_
        refine TC.skip ?_
        refine TC.seq ?_
        refine TC.region ?_
        refine S.mv ?_
        refine S.as ?_
        refine S.nil ?_
        refine TC.region ?_
        refine S.mv ?_
        refine S.q rfl rfl (Qt.as (Qt.quo (b := 2) rfl rfl (by omega) (by have := Nat.div_le_self f (2 ^ k); simp only [kmax]; omega)) (by rw [half_step])) ?_
        refine S.mv ?_
        refine S.q rfl rfl (Qt.as (Qt.quo (b := 2) rfl rfl (by omega) (by have := Nat.div_le_self (f + ls.length - 1) (2 ^ k); simp only [kmax]; omega)) (by rw [half_step])) ?_
        refine S.as ?_
        refine S.as ?_
        refine S.nil ?_
        refine TC.region ?_
        refine S.q rfl rfl (Qt.add (b := 1) rfl rfl (by simp only [kmax]; omega)) ?_
        refine S.mv ?_
        refine S.nil ?_
        refine ⟨(k + 1, (O3, d3, [OwnA 49 32 O3 (rowLv f ls.length h ls left right (k + 1)).length d3 (hcs (rowLv f ls.length h ls left right (k + 1)))]), ((if c1 = 1 then A1 else A1.map (·.add (1 * 32))), (c1 - 1)), (A2, c2), O4, t3, d4), ?_, ?_, ⟨?_, (List.forall_mem_cons.2 ⟨rfl, (List.forall_mem_cons.2 ⟨rfl, (List.forall_mem_cons.2 ⟨rfl, (List.forall_mem_cons.2 ⟨rfl, (List.forall_mem_cons.2 ⟨(by show Value.slice (if c1 = 1 then A1 else A1.map (·.add (1 * 32))) ((left.drop (sideL f k).length).length - 1) (c1 - 1) = Value.slice (if c1 = 1 then A1 else A1.map (·.add (1 * 32))) (left.drop (sideL f (k + 1)).length).length (c1 - 1); rw [sideL_1 (show f / 2 ^ k % 2 = 1 from h55), len_snoc, List.length_drop, List.length_drop]; congr 1), (List.forall_mem_cons.2 ⟨(by show Value.slice A2 (right.drop (sideR (f + ls.length - 1) k).length).length c2 = Value.slice A2 (right.drop (sideR (f + ls.length - 1) (k + 1)).length).length c2; rw [sideR_0 (show ¬ (f + ls.length - 1) / 2 ^ k % 2 = 0 from h65)]), (fun _ h => nomatch h)⟩)⟩)⟩)⟩)⟩)⟩)⟩, (by dsimp only; exact Sub.trans (Sub.keep _ (Sub.keep _ (Sub.keep _ (Sub.keep _ (Sub.keep _ (Sub.keep _ (Sub.drop _ (Sub.drop _ (Sub.drop _ (Sub.nil [])))))))))) (Sub.trans (Sub.keep _ (Sub.trans (Sub.keep _ (Sub.trans (Sub.keep _ (Sub.keep _ (Sub.trans (Sub.keep _ (Sub.trans (Sub.keep _ (Sub.refl _)) (Sub.of_perm (List.perm_middle (l₁ := [_, _, _]))))) (Sub.of_perm (List.perm_middle (l₁ := [_, _, _])))))) (Sub.of_perm (List.perm_middle (l₁ := [_]))))) (Sub.of_perm (List.perm_middle (l₁ := [_]))))) (Sub.of_perm (List.perm_middle (l₁ := [_])))))⟩
        · exact ⟨by show _ ≤ _; dsimp only; omega, by rw [sideL_1 (show f / 2 ^ k % 2 = 1 from h55), len_snoc]; exact le1.next (Less.one le1.cap (by (try dsimp only); rw [List.length_drop]; have := lenL_lt ctx.lenL (show k < h from h51) (show f / 2 ^ k % 2 = 1 from h55); omega)), by rw [sideR_0 (show ¬ (f + ls.length - 1) / 2 ^ k % 2 = 0 from h65)]; exact le2, .inl (List.mem_singleton.2 rfl), ht3⟩
        · show _ < _; dsimp only; omega
        repeat (first | exact Out.refl _ _ | refine Out.put rfl ?_ | refine Out.puts rfl ?_ | refine Out.scr ?_ | refine Out.scr' rfl ?_)
    · refine S.nil ?_
      refine S.if_f rfl ?_
      refine TC.skip ?_
      refine TC.seq ?_
      refine TC.seq ?_
      refine TC.region ?_
      refine S.mv ?_
      refine S.q rfl rfl (Qt.rem (b := 2) rfl rfl (by omega)) ?_
      refine S.dec rfl rfl (Qt.eq (b := 0) rfl rfl) (fun h65 => ?_) (fun h65 => ?_)
      · refine S.nil ?_
        refine S.if_t rfl ?_
        refine TC.seq ?_
        refine TC.region ?_
        refine S.mv ?_
        refine S.mv ?_
        refine S.q rfl rfl (Qt.slice_hi (h := 1) Tryz.underlying33 Tryz.cells49 rfl rfl (by show 1 ≤ c2; have q : (right.drop (sideR (f + ls.length - 1) k).length).length ≤ c2 := le2.cap; rw [List.length_drop] at q; have := lenR_lt ctx.lenR (show k < h from h51) (show (f + ls.length - 1) / 2 ^ k % 2 = 0 from h65); omega)) ?_
        refine S.opS rfl rfl (OpV.sliceLO (vs := [.slice O (rowLv f ls.length h ls left right k).length d, .slice A2 1 c2]) Tryz.underlying304 Tryz.elem33 rfl (by decide) rfl (two_slices rfl rfl) (fun g69 => ?_))
        have hx2 : Ro w0 [] (SlA A2 (hcs [(right.getD (sideR (f + ls.length - 1) k).length zeroH)])) := by have q := (le2.ro _ _ hr).take 32; rwa [hcs_take1 (lenR_lt ctx.lenR (show k < h from h51) (show (f + ls.length - 1) / 2 ^ k % 2 = 0 from h65))] at q
        refine S.opS rfl rfl (OpV.con (Pre := []) (R := _) Tryz.ent122 rfl (List.Perm.refl _) (fun w hw => (concat2_walk (some ⟨g69, 0, none⟩) 2 O d (rowLv f ls.length h ls left right k) A2 c2 [(right.getD (sideR (f + ls.length - 1) k).length zeroH)] (by rw [List.length_append, List.length_singleton]; omega) (by simp only [List.length_append, List.length_singleton]; omega) w (Rd.own (Rd.at 0 rfl) w hw) (rowRd (Rd.at 4 rfl) (hrow.imp_right (·.1)) w hw) (Rd.ro hx2 w hw) : Calls Tryz.prog 122 #[.slice (some ⟨g69, 0, none⟩) 2 2] w (Post w [] fun v L => ∃ O d, v = .slice O ((rowLv f ls.length h ls left right k) ++ [(right.getD (sideR (f + ls.length - 1) k).length zeroH)]).length d ∧ L = [OwnA 49 32 O ((rowLv f ls.length h ls left right k) ++ [(right.getD (sideR (f + ls.length - 1) k).length zeroH)]).length d (hcs ((rowLv f ls.length h ls left right k) ++ [(right.getD (sideR (f + ls.length - 1) k).length zeroH)]))]))) ?_)
        rintro v L' ⟨O2, d2, rfl, rfl⟩
        refine S.as ?_
        refine S.nil ?_
        refine TC.region ?_
        refine S.mv ?_
        refine S.q rfl rfl (Qt.slice_lo (l := 1) Tryz.underlying33 Tryz.cells49 rfl rfl (by show 1 ≤ (right.drop (sideR (f + ls.length - 1) k).length).length; rw [List.length_drop]; have := lenR_lt ctx.lenR (show k < h from h51) (show (f + ls.length - 1) / 2 ^ k % 2 = 0 from h65); omega)) ?_
        refine S.as ?_
        refine S.nil ?_
        refine TC.seq ?_
        refine TC.region ?_
        refine S.mv ?_
        refine S.mv ?_
        refine S.q rfl rfl (Qt.add (b := 1) rfl rfl (by simp only [kmax]; omega)) ?_
        refine S.mv ?_
        have hmid : ((rowLv f ls.length h ls left right k) ++ [(right.getD (sideR (f + ls.length - 1) k).length zeroH)]) = (rowMd f ls.length h ls left right k) := by rw [rowMd, if_neg (show ¬ f / 2 ^ k % 2 = 1 from h55), if_pos (show (f + ls.length - 1) / 2 ^ k % 2 = 0 from h65)]; simp only [List.nil_append, List.append_nil]
        have hml : ((rowLv f ls.length h ls left right k) ++ [(right.getD (sideR (f + ls.length - 1) k).length zeroH)]).length = 2 * ((f + ls.length - 1) / 2 ^ (k + 1) + 1 - f / 2 ^ (k + 1)) := by rw [hmid]; exact ctx.midLen (show k < h from h51)
        have htt2 := side_texts_len h1 h2 (show k ≤ 32 by omega) htt
        refine S.opS rfl rfl (OpV.con (Pre := [Blk b33 229 [.slice Ot tt.length dt], OwnA 112 1 Ot (tt).length dt ((tt).flatMap txL), Many ((tt).map txOwn)]) (R := _) Tryz.ent123 rfl ((List.perm_middle (l₁ := [_, _])).trans (List.Perm.cons _ ((List.perm_middle (l₁ := [_, _])).trans (List.Perm.cons _ (List.perm_middle (l₁ := [_, _])))))) (fun w hw => (by have cap := own_cap (hw.ok (List.mem_of_getElem? (i := 3) rfl)); have hc0 := cap.1; have hm0 := cap.2.1; have hro := (Ro.of_rest hw (List.mem_of_getElem? (i := 0) rfl)).own; rw [hmid] at hro; have q := row123_walk b33 Ot tt dt (k + 1) (by omega) (by omega) O2 ((f + ls.length - 1) / 2 ^ (k + 1) + 1 - f / 2 ^ (k + 1)) d2 (rowMd f ls.length h ls left right k) (ctx.midLen (show k < h from h51)) (by rw [← hml]; exact hc0) (by simp only [maxLen] at hm0; omega) (by have := ctx.lenAt (k + 1); have e2 : (rowLv f ls.length h ls left right (k + 1)).length = ((f + ls.length - 1) / 2 ^ (k + 1) + 1 - f / 2 ^ (k + 1)) := (by rw [rowLv, rowV_len]); omega) w hw.sat.left hro (hT.pre hw); rw [← hml] at q; exact q : Calls Tryz.prog 123 #[.pointer (some ⟨b33, 0, none⟩), .int .i64 ((k + 1 : Nat) : Int), .slice O2 ((rowLv f ls.length h ls left right k) ++ [(right.getD (sideR (f + ls.length - 1) k).length zeroH)]).length d2] w (Post w (fps [Blk b33 229 [.slice Ot tt.length dt], OwnA 112 1 Ot (tt).length dt ((tt).flatMap txL), Many ((tt).map txOwn)]) fun v L => ∃ O d Ot3 dt3, ∃ t3 : List Tx, v = .tuple #[.slice O ((f + ls.length - 1) / 2 ^ (k + 1) + 1 - f / 2 ^ (k + 1)) d, .nilIface] ∧ L = [OwnA 49 32 O ((f + ls.length - 1) / 2 ^ (k + 1) + 1 - f / 2 ^ (k + 1)) d (hcs ((List.finRange ((f + ls.length - 1) / 2 ^ (k + 1) + 1 - f / 2 ^ (k + 1))).map (fun i : Fin ((f + ls.length - 1) / 2 ^ (k + 1) + 1 - f / 2 ^ (k + 1)) => pairF (k + 1) (rowMd f ls.length h ls left right k) i.val))), Blk b33 229 [.slice Ot3 (t3).length dt3], OwnA 112 1 Ot3 (t3).length dt3 ((t3).flatMap txL), Many ((t3).map txOwn)] ∧ t3.map (fun t => t.2.2) = tt.map (fun t => t.2.2) ++ (List.finRange ((f + ls.length - 1) / 2 ^ (k + 1) + 1 - f / 2 ^ (k + 1))).map (fun i : Fin ((f + ls.length - 1) / 2 ^ (k + 1) + 1 - f / 2 ^ (k + 1)) => joinT (k + 1) ((rowMd f ls.length h ls left right k).getD (2 * i.val) zeroH) ((rowMd f ls.length h ls left right k).getD (2 * i.val + 1) zeroH))))) ?_)
        rintro v L' ⟨O3, d3, O4, d4, t3, rfl, rfl, e3⟩
        have hnx : (List.finRange ((f + ls.length - 1) / 2 ^ (k + 1) + 1 - f / 2 ^ (k + 1))).map (fun i : Fin ((f + ls.length - 1) / 2 ^ (k + 1) + 1 - f / 2 ^ (k + 1)) => pairF (k + 1) (rowMd f ls.length h ls left right k) i.val) = (rowLv f ls.length h ls left right (k + 1)) := ctx.next (show k < h from h51) rfl
        have hnl : ((f + ls.length - 1) / 2 ^ (k + 1) + 1 - f / 2 ^ (k + 1)) = (rowLv f ls.length h ls left right (k + 1)).length := by rw [rowLv, rowV_len]
        have ht3 : t3.map (fun t => t.2.2) = (sideX f ls.length h ls left right (k + 1)) := by rw [e3, htt, sideX_succ]; exact congrArg _ (finRange_vals ((f + ls.length - 1) / 2 ^ (k + 1) + 1 - f / 2 ^ (k + 1)) (fun i => joinT (k + 1) ((rowMd f ls.length h ls left right k).getD (2 * i) zeroH) ((rowMd f ls.length h ls left right k).getD (2 * i + 1) zeroH)))
        rw [hnx, hnl]
        refine TL.manyOne ?_
        refine S.mv ?_
        refine S.q rfl rfl (Qt.extract rfl rfl) ?_
        refine S.q rfl rfl (Qt.extract rfl rfl) ?_
        refine S.as ?_
        refine S.as ?_
        refine S.nil ?_
        refine TC.seq ?_
        refine TC.seq ?_
        refine TC.region ?_
        refine S.mv ?_
        refine S.q rfl rfl (Qt.nenil_nil Tryz.underlying51 rfl) ?_
        refine S.nil ?_
        refine S.if_f rfl ?_
        refine TC.skip ?_
        refine TC.seq ?_
        refine TC.region ?_
        refine S.mv ?_
        refine S.as ?_
        refine S.nil ?_
        refine TC.region ?_
        refine S.mv ?_
        refine S.q rfl rfl (Qt.as (Qt.quo (b := 2) rfl rfl (by omega) (by have := Nat.div_le_self f (2 ^ k); simp only [kmax]; omega)) (by rw [half_step])) ?_
        refine S.mv ?_
        refine S.q rfl rfl (Qt.as (Qt.quo (b := 2) rfl rfl (by omega) (by have := Nat.div_le_self (f + ls.length - 1) (2 ^ k); simp only [kmax]; omega)) (by rw [half_step])) ?_
        refine S.as ?_
        refine S.as ?_
        refine S.nil ?_
        refine TC.region ?_
        refine S.q rfl rfl (Qt.add (b := 1) rfl rfl (by simp only [kmax]; omega)) ?_
        refine S.mv ?_
        refine S.nil ?_
        refine ⟨(k + 1, (O3, d3, [OwnA 49 32 O3 (rowLv f ls.length h ls left right (k + 1)).length d3 (hcs (rowLv f ls.length h ls left right (k + 1)))]), (A1, c1), ((if c2 = 1 then A2 else A2.map (·.add (1 * 32))), (c2 - 1)), O4, t3, d4), ?_, ?_, ⟨?_, (List.forall_mem_cons.2 ⟨rfl, (List.forall_mem_cons.2 ⟨rfl, (List.forall_mem_cons.2 ⟨rfl, (List.forall_mem_cons.2 ⟨rfl, (List.forall_mem_cons.2 ⟨(by show Value.slice A1 (left.drop (sideL f k).length).length c1 = Value.slice A1 (left.drop (sideL f (k + 1)).length).length c1; rw [sideL_0 (show ¬ f / 2 ^ k % 2 = 1 from h55)]), (List.forall_mem_cons.2 ⟨(by show Value.slice (if c2 = 1 then A2 else A2.map (·.add (1 * 32))) ((right.drop (sideR (f + ls.length - 1) k).length).length - 1) (c2 - 1) = Value.slice (if c2 = 1 then A2 else A2.map (·.add (1 * 32))) (right.drop (sideR (f + ls.length - 1) (k + 1)).length).length (c2 - 1); rw [sideR_1 (show (f + ls.length - 1) / 2 ^ k % 2 = 0 from h65), len_snoc, List.length_drop, List.length_drop]; congr 1), (fun _ h => nomatch h)⟩)⟩)⟩)⟩)⟩)⟩)⟩, (by dsimp only; exact Sub.trans (Sub.keep _ (Sub.keep _ (Sub.keep _ (Sub.keep _ (Sub.keep _ (Sub.keep _ (Sub.drop _ (Sub.drop _ (Sub.drop _ (Sub.nil [])))))))))) (Sub.trans (Sub.keep _ (Sub.trans (Sub.keep _ (Sub.trans (Sub.keep _ (Sub.keep _ (Sub.trans (Sub.keep _ (Sub.trans (Sub.keep _ (Sub.refl _)) (Sub.of_perm (List.perm_middle (l₁ := [_, _, _]))))) (Sub.of_perm (List.perm_middle (l₁ := [_, _, _])))))) (Sub.of_perm (List.perm_middle (l₁ := [_]))))) (Sub.of_perm (List.perm_middle (l₁ := [_]))))) (Sub.of_perm (List.perm_middle (l₁ := [_])))))⟩
        · exact ⟨by show _ ≤ _; dsimp only; omega, by rw [sideL_0 (show ¬ f / 2 ^ k % 2 = 1 from h55)]; exact le1, by rw [sideR_1 (show (f + ls.length - 1) / 2 ^ k % 2 = 0 from h65), len_snoc]; exact le2.next (Less.one le2.cap (by (try dsimp only); rw [List.length_drop]; have := lenR_lt ctx.lenR (show k < h from h51) (show (f + ls.length - 1) / 2 ^ k % 2 = 0 from h65); omega)), .inl (List.mem_singleton.2 rfl), ht3⟩
        · show _ < _; dsimp only; omega
        repeat (first | exact Out.refl _ _ | refine Out.put rfl ?_ | refine Out.puts rfl ?_ | refine Out.scr ?_ | refine Out.scr' rfl ?_)
      · refine S.nil ?_
        refine S.if_f rfl ?_
        refine TC.skip ?_
        refine TC.seq ?_
        refine TC.region ?_
        refine S.mv ?_
        refine S.mv ?_
        refine S.q rfl rfl (Qt.add (b := 1) rfl rfl (by simp only [kmax]; omega)) ?_
        refine S.mv ?_
        have hmid : (rowLv f ls.length h ls left right k) = (rowMd f ls.length h ls left right k) := by rw [rowMd, if_neg (show ¬ f / 2 ^ k % 2 = 1 from h55), if_neg (show ¬ (f + ls.length - 1) / 2 ^ k % 2 = 0 from h65)]; simp only [List.nil_append, List.append_nil]
        have hml : (rowLv f ls.length h ls left right k).length = 2 * ((f + ls.length - 1) / 2 ^ (k + 1) + 1 - f / 2 ^ (k + 1)) := by rw [hmid]; exact ctx.midLen (show k < h from h51)
        have htt2 := side_texts_len h1 h2 (show k ≤ 32 by omega) htt
        refine S.opS rfl rfl (OpV.con (Pre := [Blk b33 229 [.slice Ot tt.length dt], OwnA 112 1 Ot (tt).length dt ((tt).flatMap txL), Many ((tt).map txOwn)]) (R := _) Tryz.ent123 rfl (List.Perm.refl _) (fun w hw => (by have hmm : ∀ B ∈ Lr, B.ok w := hw.ok (A := Many Lr) (List.mem_of_getElem? (i := 3) rfl); have hcap : (rowLv f ls.length h ls left right k).length ≤ d ∧ d ≤ maxLen := hrow.elim (fun m => have q := own_cap (hmm _ m); ⟨q.1, q.2.1⟩) (fun q => q.2); have hc0 := hcap.1; have hm0 := hcap.2; have hro := rowPre hw (List.mem_of_getElem? (i := 0) rfl) (hrow.imp_right (·.1)); rw [hmid] at hro; have q := row123_walk b33 Ot tt dt (k + 1) (by omega) (by omega) O ((f + ls.length - 1) / 2 ^ (k + 1) + 1 - f / 2 ^ (k + 1)) d (rowMd f ls.length h ls left right k) (ctx.midLen (show k < h from h51)) (by rw [← hml]; exact hc0) (by simp only [maxLen] at hm0; omega) (by have := ctx.lenAt (k + 1); have e2 : (rowLv f ls.length h ls left right (k + 1)).length = ((f + ls.length - 1) / 2 ^ (k + 1) + 1 - f / 2 ^ (k + 1)) := (by rw [rowLv, rowV_len]); omega) w hw.sat.left hro (hT.pre hw); rw [← hml] at q; exact q : Calls Tryz.prog 123 #[.pointer (some ⟨b33, 0, none⟩), .int .i64 ((k + 1 : Nat) : Int), .slice O (rowLv f ls.length h ls left right k).length d] w (Post w (fps [Blk b33 229 [.slice Ot tt.length dt], OwnA 112 1 Ot (tt).length dt ((tt).flatMap txL), Many ((tt).map txOwn)]) fun v L => ∃ O d Ot3 dt3, ∃ t3 : List Tx, v = .tuple #[.slice O ((f + ls.length - 1) / 2 ^ (k + 1) + 1 - f / 2 ^ (k + 1)) d, .nilIface] ∧ L = [OwnA 49 32 O ((f + ls.length - 1) / 2 ^ (k + 1) + 1 - f / 2 ^ (k + 1)) d (hcs ((List.finRange ((f + ls.length - 1) / 2 ^ (k + 1) + 1 - f / 2 ^ (k + 1))).map (fun i : Fin ((f + ls.length - 1) / 2 ^ (k + 1) + 1 - f / 2 ^ (k + 1)) => pairF (k + 1) (rowMd f ls.length h ls left right k) i.val))), Blk b33 229 [.slice Ot3 (t3).length dt3], OwnA 112 1 Ot3 (t3).length dt3 ((t3).flatMap txL), Many ((t3).map txOwn)] ∧ t3.map (fun t => t.2.2) = tt.map (fun t => t.2.2) ++ (List.finRange ((f + ls.length - 1) / 2 ^ (k + 1) + 1 - f / 2 ^ (k + 1))).map (fun i : Fin ((f + ls.length - 1) / 2 ^ (k + 1) + 1 - f / 2 ^ (k + 1)) => joinT (k + 1) ((rowMd f ls.length h ls left right k).getD (2 * i.val) zeroH) ((rowMd f ls.length h ls left right k).getD (2 * i.val + 1) zeroH))))) ?_)
        rintro v L' ⟨O3, d3, O4, d4, t3, rfl, rfl, e3⟩
        have hnx : (List.finRange ((f + ls.length - 1) / 2 ^ (k + 1) + 1 - f / 2 ^ (k + 1))).map (fun i : Fin ((f + ls.length - 1) / 2 ^ (k + 1) + 1 - f / 2 ^ (k + 1)) => pairF (k + 1) (rowMd f ls.length h ls left right k) i.val) = (rowLv f ls.length h ls left right (k + 1)) := ctx.next (show k < h from h51) rfl
        have hnl : ((f + ls.length - 1) / 2 ^ (k + 1) + 1 - f / 2 ^ (k + 1)) = (rowLv f ls.length h ls left right (k + 1)).length := by rw [rowLv, rowV_len]
        have ht3 : t3.map (fun t => t.2.2) = (sideX f ls.length h ls left right (k + 1)) := by rw [e3, htt, sideX_succ]; exact congrArg _ (finRange_vals ((f + ls.length - 1) / 2 ^ (k + 1) + 1 - f / 2 ^ (k + 1)) (fun i => joinT (k + 1) ((rowMd f ls.length h ls left right k).getD (2 * i) zeroH) ((rowMd f ls.length h ls left right k).getD (2 * i + 1) zeroH)))
        rw [hnx, hnl]
        refine TL.manyOne ?_
        refine S.mv ?_
        refine S.q rfl rfl (Qt.extract rfl rfl) ?_
        refine S.q rfl rfl (Qt.extract rfl rfl) ?_
        refine S.as ?_
        refine S.as ?_
        refine S.nil ?_
        refine TC.seq ?_
        refine TC.seq ?_
        refine TC.region ?_
        refine S.mv ?_
        refine S.q rfl rfl (Qt.nenil_nil Tryz.underlying51 rfl) ?_
        refine S.nil ?_
        refine S.if_f rfl ?_
        refine TC.skip ?_
        refine TC.seq ?_
        refine TC.region ?_
        refine S.mv ?_
        refine S.as ?_
        refine S.nil ?_
        refine TC.region ?_
        refine S.mv ?_
        refine S.q rfl rfl (Qt.as (Qt.quo (b := 2) rfl rfl (by omega) (by have := Nat.div_le_self f (2 ^ k); simp only [kmax]; omega)) (by rw [half_step])) ?_
        refine S.mv ?_
        refine S.q rfl rfl (Qt.as (Qt.quo (b := 2) rfl rfl (by omega) (by have := Nat.div_le_self (f + ls.length - 1) (2 ^ k); simp only [kmax]; omega)) (by rw [half_step])) ?_
        refine S.as ?_
        refine S.as ?_
        refine S.nil ?_
        refine TC.region ?_
        refine S.q rfl rfl (Qt.add (b := 1) rfl rfl (by simp only [kmax]; omega)) ?_
        refine S.mv ?_
        refine S.nil ?_
        refine ⟨(k + 1, (O3, d3, [OwnA 49 32 O3 (rowLv f ls.length h ls left right (k + 1)).length d3 (hcs (rowLv f ls.length h ls left right (k + 1)))]), (A1, c1), (A2, c2), O4, t3, d4), ?_, ?_, ⟨?_, (List.forall_mem_cons.2 ⟨rfl, (List.forall_mem_cons.2 ⟨rfl, (List.forall_mem_cons.2 ⟨rfl, (List.forall_mem_cons.2 ⟨rfl, (List.forall_mem_cons.2 ⟨(by show Value.slice A1 (left.drop (sideL f k).length).length c1 = Value.slice A1 (left.drop (sideL f (k + 1)).length).length c1; rw [sideL_0 (show ¬ f / 2 ^ k % 2 = 1 from h55)]), (List.forall_mem_cons.2 ⟨(by show Value.slice A2 (right.drop (sideR (f + ls.length - 1) k).length).length c2 = Value.slice A2 (right.drop (sideR (f + ls.length - 1) (k + 1)).length).length c2; rw [sideR_0 (show ¬ (f + ls.length - 1) / 2 ^ k % 2 = 0 from h65)]), (fun _ h => nomatch h)⟩)⟩)⟩)⟩)⟩)⟩)⟩, (by dsimp only; exact Sub.trans (Sub.keep _ (Sub.keep _ (Sub.keep _ (Sub.keep _ (Sub.keep _ (Sub.keep _ (Sub.drop _ (Sub.nil [])))))))) (Sub.trans (Sub.keep _ (Sub.trans (Sub.keep _ (Sub.trans (Sub.keep _ (Sub.keep _ (Sub.trans (Sub.keep _ (Sub.trans (Sub.keep _ (Sub.refl _)) (Sub.of_perm (List.perm_middle (l₁ := [_]))))) (Sub.of_perm (List.perm_middle (l₁ := [_])))))) (Sub.of_perm (List.perm_middle (l₁ := [_]))))) (Sub.of_perm (List.perm_middle (l₁ := [_]))))) (Sub.of_perm (List.perm_middle (l₁ := [_])))))⟩
        · exact ⟨by show _ ≤ _; dsimp only; omega, by rw [sideL_0 (show ¬ f / 2 ^ k % 2 = 1 from h55)]; exact le1, by rw [sideR_0 (show ¬ (f + ls.length - 1) / 2 ^ k % 2 = 0 from h65)]; exact le2, .inl (List.mem_singleton.2 rfl), ht3⟩
        · show _ < _; dsimp only; omega
        repeat (first | exact Out.refl _ _ | refine Out.put rfl ?_ | refine Out.puts rfl ?_ | refine Out.scr ?_ | refine Out.scr' rfl ?_)
  · refine S.nil ?_
    refine TC.seq ?_
    refine S.if_f rfl ?_
    refine TC.exit ?_
    refine TC.seq ?_
    refine TC.region ?_
    refine S.mv ?_
    refine S.q rfl rfl (Qt.nilCheck rfl) ?_
    refine S.q rfl rfl (Qt.field Tryz.underlying229 rfl Tryz.cells111 rfl) ?_
    refine S.q rfl rfl (Qt.load rfl (Ld.one (v := .slice Ot tt.length dt) (Has.at 0 rfl) Tryz.one111 rfl)) ?_
    refine S.as ?_
    refine S.as ?_
    refine S.nil ?_
    refine TC.ret ?_
    refine finQ.ret (RVs.tmp (by conv => lhs; whnf) (RVs.tmp (by conv => lhs; whnf) RVs.nil)) (Sub.trans (Sub.keep _ (Sub.keep _ (Sub.drop _ (Sub.drop _ (Sub.drop _ (Sub.drop _ (Sub.nil []))))))) (Sub.trans (Sub.keep _ (Sub.trans (Sub.keep _ (Sub.refl _)) (Sub.of_perm (List.perm_middle (l₁ := [_]))))) (Sub.of_perm (List.perm_middle (l₁ := [_]))))) ?_
    obtain rfl : k = h := by omega
    exact ⟨Ot, dt, tt, rfl, rfl, htt, by have := side_texts_len h1 h2 hh htt; omega⟩
end Go.Proofs.YtgdjcmehlhebdaaGreatDoor
