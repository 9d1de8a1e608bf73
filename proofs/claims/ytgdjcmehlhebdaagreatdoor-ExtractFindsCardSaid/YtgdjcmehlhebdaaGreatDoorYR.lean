/-
  Walks: more than is looked at; what a nil truth answers. Printed by a program of ours. Walks: the law of finds. Printed by a program of ours.
-/
import Derived.Test.YtgdjcmehlhebdaaGreatDoorYQ
import Derived.Test.YtgdjcmehlhebdaaGreatDoorXQ
import Derived.Test.YtgdjcmehlhebdaaGreatDoorYD
import Derived.Test.YtgdjcmehlhebdaaGreatDoorYK
namespace Go.Proofs.YtgdjcmehlhebdaaGreatDoor
open Go.E
set_option linter.unusedVariables false
set_option maxRecDepth 4000
theorem Tryz.cells63 : (Tryz.prog.info? 63).map (·.size) = some 28 := by kernel_rfl
theorem Tryz.row63 : rowT Tryz.prog 63 = true := by kernel_rfl
theorem Tryz.cells65 : (Tryz.prog.info? 65).map (·.size) = some 29 := by kernel_rfl
theorem Tryz.row65 : rowT Tryz.prog 65 = true := by kernel_rfl
theorem Tryz.cells67 : (Tryz.prog.info? 67).map (·.size) = some 61 := by kernel_rfl
theorem Tryz.row67 : rowT Tryz.prog 67 = true := by kernel_rfl
theorem Tryz.zero58 : zeroOf Tryz.prog 58 = some ([.int .i64 0] ++ [.slice none 0 0] ++ [.slice none 0 0] ++ [.int .u64 0]) := by kernel_rfl
theorem Tryz.elem58 : elemT Tryz.prog 58 4 64 := elemT_of (by kernel_rfl)
set_option maxHeartbeats 3200000 in
theorem large20_walk (OA : Option Addr) (oc : Nat) (os : List OrdA) (ho : os.length ≤ 1099511627776) (q : ReqA) (p : RepA) (x : OrdA) (w0 : World) (hO : Ro w0 [] (SlA OA (os.flatMap ordL))) :
    Calls Tryz.prog 20 #[.slice OA os.length oc, .agg (askL q p x).toArray] w0 (Post w0 [] fun v L => v = .bool (decide (largeO os q p x)) ∧ L = []) := by
  refine Calls.of (L := []) (n := 65) (rs := [.tmp 4]) Tryz.func20 rfl rfl rfl (Nat.le_of_ble_eq_true rfl) (Sat.nil _) ?_
  refine TC.seq ?_
  refine TC.region ?_
  refine S.opS rfl rfl (OpV.box (v := .agg (askL q p x).toArray) rfl (fun b3 => ?_))
  refine S.q rfl rfl (Qt.assign (by conv => lhs; whnf)) ?_
  refine S.nil ?_
  refine TC.seq ?_
  refine TC.seq ?_
  refine TC.region ?_
  refine S.q rfl rfl (Qt.field Tryz.underlying67 rfl Tryz.cells58 rfl) ?_
  refine S.q rfl rfl (Qt.load rfl (Ld.row (vs := ordL x) (Has.at 0 rfl) Tryz.row58 Tryz.cells58 (ask_ord _ _ _))) ?_
  refine S.opS rfl rfl (OpV.sliceLO (vs := [.agg (ordL x).toArray]) Tryz.underlying55 Tryz.elem58 rfl (by decide) rfl (by intro v hv; rw [List.mem_singleton.1 hv]; rfl) (fun g9 => ?_))
  refine S.q rfl rfl (Qt.move (by conv => lhs; whnf)) ?_
  refine S.opS rfl rfl (OpV.app0 (bytes := 64) (news := os.flatMap ordL) Tryz.underlying55 Tryz.elem58 rfl rfl (Has.ro hO) (by rw [ords_len]) (ords_one _) (by simp only [maxLen]; omega) (by omega) (fun O d => ?_))
  refine S.q rfl rfl (Qt.len_slice Tryz.underlying55 rfl) ?_
  refine S.q rfl rfl (Qt.move (by conv => lhs; whnf)) ?_
  refine S.nil ?_
  refine TC.block ?_
  refine TC.loop (γ := Nat) [14, 15, 16, 6, 17, 18, 19, 20, 21, 22, 23, 24, 25, 26, 4, 27, 13] (fun k => [(13, .int .i64 (k : Int))]) (fun k => [OwnA 58 4 O (1 + os.length) d (ordL x ++ os.flatMap ordL), Blk b3 67 (askL q p x)]) (fun k => k ≤ 1 + os.length ∧ ∀ i, i < k → ¬ bigO ((x :: os).getD i ord0)) (fun k => 1 + os.length - k) (0)
    ⟨Nat.zero_le _, fun i h => absurd h (Nat.not_lt_zero _)⟩ ⟨Out.refl _ _, (List.forall_mem_cons.2 ⟨rfl, (fun _ h => nomatch h)⟩)⟩ (Sub.refl _) ?_
  rintro k u ⟨hk, hq⟩
  refine TC.seq ?_
  refine TC.region ?_
  refine S.dec rfl rfl (Qt.lt rfl rfl) (fun h14 => ?_) (fun h14 => ?_)
  · refine S.nil ?_
    refine TC.seq ?_
    refine S.if_t rfl ?_
    refine TC.skip ?_
    refine TC.seq ?_
    refine TC.block ?_
    refine TC.seq ?_
    refine TC.region ?_
    refine S.q rfl rfl (Qt.index Tryz.underlying55 Tryz.cells58 rfl rfl (by omega) (Has.own (Has.at 0 rfl)) (by rw [show ordL x ++ os.flatMap ordL = (x :: os).flatMap ordL from rfl, ords_len, List.length_cons]; omega)) ?_
    refine S.q rfl rfl (Qt.load rfl (Ld.slr (vs := ordL ((x :: os).getD k ord0)) (Has.own (Has.at 0 rfl)) Tryz.row58 Tryz.cells58 (Nat.zero_lt_succ _) (ords_at (os := (x :: os)) (by rw [List.length_cons]; omega) rfl))) ?_
    refine S.opS rfl rfl (OpV.alloc Tryz.zero58 (fun b6 => ?_))
    refine S.opN rfl (OpV.storeV0 (v := .agg (ordL ((x :: os).getD k ord0)).toArray) rfl rfl (by exact Tryz.cells58) (ordL_one _) (by rfl) ?_)
    refine S.nil ?_
    refine TC.seq ?_
    refine TC.region ?_
    refine S.q rfl rfl (Qt.field Tryz.underlying58 rfl Tryz.cells22 rfl) ?_
    refine S.q rfl rfl (Qt.load rfl (Ld.one (v := .slice ((x :: os).getD k ord0).A ((x :: os).getD k ord0).o.xs.length ((x :: os).getD k ord0).c) (Has.at 0 rfl) Tryz.one22 rfl)) ?_
    refine S.q rfl rfl (Qt.len_slice Tryz.underlying22 rfl) ?_
    refine S.dec rfl rfl (Qt.gt (b := 12) rfl rfl) (fun h20 => ?_) (fun h20 => ?_)
    · refine S.q rfl rfl (Qt.move (by conv => lhs; whnf)) ?_
      refine S.pass rfl rfl ?_
      refine S.pass rfl rfl ?_
      refine S.pass rfl rfl ?_
      refine S.pass rfl rfl ?_
      refine S.q rfl rfl (Qt.pick_t rfl (by conv => lhs; whnf)) ?_
      refine S.nil ?_
      refine S.if_t rfl ?_
      refine TC.seq ?_
      refine TC.region ?_
      refine S.q rfl rfl (Qt.assign (by conv => lhs; whnf)) ?_
      refine S.nil ?_
      refine TC.ret ?_
      refine finQ.ret (RVs.tmp (by conv => lhs; whnf) RVs.nil) (Sub.nil _) ?_
      exact ⟨congrArg Value.bool (decide_eq_true (p := largeO os q p x) (.inl (big_mem (by rw [List.length_cons]; omega) (.inl h20)))).symm, rfl⟩
    · refine S.q rfl rfl (Qt.move (by conv => lhs; whnf)) ?_
      refine S.qg rfl rfl rfl (Qt.field Tryz.underlying58 rfl Tryz.cells56 rfl) ?_
      refine S.qg rfl rfl rfl (Qt.load rfl (Ld.one (v := .slice ((x :: os).getD k ord0).B ((x :: os).getD k ord0).o.ss.length ((x :: os).getD k ord0).d) (Has.at 0 rfl) Tryz.one56 rfl)) ?_
      refine S.qg rfl rfl rfl (Qt.len_slice Tryz.underlying56 rfl) ?_
      refine S.decg rfl rfl rfl (Qt.gt (b := 12) rfl rfl) (fun h25 => ?_) (fun h25 => ?_)
      · refine S.q rfl rfl (Qt.pick_f rfl (by conv => lhs; whnf)) ?_
        refine S.nil ?_
        refine S.if_t rfl ?_
        refine TC.seq ?_
        refine TC.region ?_
        refine S.q rfl rfl (Qt.assign (by conv => lhs; whnf)) ?_
        refine S.nil ?_
        refine TC.ret ?_
        refine finQ.ret (RVs.tmp (by conv => lhs; whnf) RVs.nil) (Sub.nil _) ?_
        exact ⟨congrArg Value.bool (decide_eq_true (p := largeO os q p x) (.inl (big_mem (by rw [List.length_cons]; omega) (.inr h25)))).symm, rfl⟩
      · refine S.q rfl rfl (Qt.pick_f rfl (by conv => lhs; whnf)) ?_
        refine S.nil ?_
        refine S.if_f rfl ?_
        refine TC.skip ?_
        refine TC.region ?_
        refine S.q rfl rfl (Qt.add (b := 1) rfl rfl (by simp only [kmax]; omega)) ?_
        refine S.q rfl rfl (Qt.move (by conv => lhs; whnf)) ?_
        refine S.nil ?_
        refine ⟨k + 1, ?_, ?_, ⟨?_, (List.forall_mem_cons.2 ⟨rfl, (fun _ h => nomatch h)⟩)⟩, Sub.trans (Sub.keep _ (Sub.keep _ (Sub.drop _ (Sub.nil [])))) (Sub.trans (Sub.keep _ (Sub.trans (Sub.keep _ (Sub.refl _)) (Sub.of_perm (List.perm_middle (l₁ := [_]))))) (Sub.of_perm (List.perm_middle (l₁ := [_]))))⟩
        · exact ⟨by show _ ≤ _; omega, fun i hi => (Nat.lt_or_ge i k).elim (hq i) (fun h => by (obtain rfl : i = k := by omega); exact fun hb => hb.elim h20 h25)⟩
        · show _ < _; dsimp only; omega
        repeat (first | exact Out.refl _ _ | refine Out.put rfl ?_ | refine Out.puts rfl ?_ | refine Out.scr ?_ | refine Out.scr' rfl ?_)
  · refine S.nil ?_
    refine TC.seq ?_
    refine S.if_f rfl ?_
    refine TC.exit ?_
    refine TC.seq ?_
    refine TC.region ?_
    refine S.q rfl rfl (Qt.move (by conv => lhs; whnf)) ?_
    refine S.q rfl rfl (Qt.len_slice Tryz.underlying55 rfl) ?_
    refine S.dec rfl rfl (Qt.gt (b := 20) rfl rfl) (fun h30 => ?_) (fun h30 => ?_)
    · refine S.q rfl rfl (Qt.move (by conv => lhs; whnf)) ?_
      refine S.pass rfl rfl ?_
      refine S.pass rfl rfl ?_
      refine S.pass rfl rfl ?_
      refine S.pass rfl rfl ?_
      refine S.pass rfl rfl ?_
      refine S.q rfl rfl (Qt.pick_t rfl (by conv => lhs; whnf)) ?_
      refine S.q rfl rfl (Qt.move (by conv => lhs; whnf)) ?_
      refine S.pass rfl rfl ?_
      refine S.pass rfl rfl ?_
      refine S.pass rfl rfl ?_
      refine S.pass rfl rfl ?_
      refine S.q rfl rfl (Qt.pick_t rfl (by conv => lhs; whnf)) ?_
      refine S.q rfl rfl (Qt.move (by conv => lhs; whnf)) ?_
      refine S.pass rfl rfl ?_
      refine S.pass rfl rfl ?_
      refine S.pass rfl rfl ?_
      refine S.pass rfl rfl ?_
      refine S.pass rfl rfl ?_
      refine S.q rfl rfl (Qt.pick_t rfl (by conv => lhs; whnf)) ?_
      refine S.q rfl rfl (Qt.move (by conv => lhs; whnf)) ?_
      refine S.pass rfl rfl ?_
      refine S.pass rfl rfl ?_
      refine S.pass rfl rfl ?_
      refine S.pass rfl rfl ?_
      refine S.pass rfl rfl ?_
      refine S.q rfl rfl (Qt.pick_t rfl (by conv => lhs; whnf)) ?_
      refine S.q rfl rfl (Qt.move (by conv => lhs; whnf)) ?_
      refine S.pass rfl rfl ?_
      refine S.pass rfl rfl ?_
      refine S.pass rfl rfl ?_
      refine S.pass rfl rfl ?_
      refine S.pass rfl rfl ?_
      refine S.q rfl rfl (Qt.pick_t rfl (by conv => lhs; whnf)) ?_
      refine S.q rfl rfl (Qt.assign (by conv => lhs; whnf)) ?_
      refine S.nil ?_
      refine TC.ret ?_
      refine finQ.ret (RVs.tmp (by conv => lhs; whnf) RVs.nil) (Sub.nil _) ?_
      exact ⟨congrArg Value.bool (decide_eq_true (p := largeO os q p x) (.inr (.inl h30))).symm, rfl⟩
    · refine S.q rfl rfl (Qt.move (by conv => lhs; whnf)) ?_
      refine S.qg rfl rfl rfl (Qt.field Tryz.underlying67 rfl Tryz.cells63 rfl) ?_
      refine S.qg rfl rfl rfl (Qt.field Tryz.underlying63 rfl Tryz.cells22 rfl) ?_
      refine S.qg rfl rfl rfl (Qt.load rfl (Ld.one (v := .slice q.A q.xs.length q.c) (Has.at 1 rfl) Tryz.one22 (ask_rq0 _ _ _ q.k2))) ?_
      refine S.qg rfl rfl rfl (Qt.len_slice Tryz.underlying22 rfl) ?_
      refine S.decg rfl rfl rfl (Qt.gt (b := 30) rfl rfl) (fun h36 => ?_) (fun h36 => ?_)
      · refine S.q rfl rfl (Qt.pick_f rfl (by conv => lhs; whnf)) ?_
        refine S.q rfl rfl (Qt.move (by conv => lhs; whnf)) ?_
        refine S.pass rfl rfl ?_
        refine S.pass rfl rfl ?_
        refine S.pass rfl rfl ?_
        refine S.pass rfl rfl ?_
        refine S.q rfl rfl (Qt.pick_t rfl (by conv => lhs; whnf)) ?_
        refine S.q rfl rfl (Qt.move (by conv => lhs; whnf)) ?_
        refine S.pass rfl rfl ?_
        refine S.pass rfl rfl ?_
        refine S.pass rfl rfl ?_
        refine S.pass rfl rfl ?_
        refine S.pass rfl rfl ?_
        refine S.q rfl rfl (Qt.pick_t rfl (by conv => lhs; whnf)) ?_
        refine S.q rfl rfl (Qt.move (by conv => lhs; whnf)) ?_
        refine S.pass rfl rfl ?_
        refine S.pass rfl rfl ?_
        refine S.pass rfl rfl ?_
        refine S.pass rfl rfl ?_
        refine S.pass rfl rfl ?_
        refine S.q rfl rfl (Qt.pick_t rfl (by conv => lhs; whnf)) ?_
        refine S.q rfl rfl (Qt.move (by conv => lhs; whnf)) ?_
        refine S.pass rfl rfl ?_
        refine S.pass rfl rfl ?_
        refine S.pass rfl rfl ?_
        refine S.pass rfl rfl ?_
        refine S.pass rfl rfl ?_
        refine S.q rfl rfl (Qt.pick_t rfl (by conv => lhs; whnf)) ?_
        refine S.q rfl rfl (Qt.assign (by conv => lhs; whnf)) ?_
        refine S.nil ?_
        refine TC.ret ?_
        refine finQ.ret (RVs.tmp (by conv => lhs; whnf) RVs.nil) (Sub.nil _) ?_
        exact ⟨congrArg Value.bool (decide_eq_true (p := largeO os q p x) (.inr (.inr (.inl h36)))).symm, rfl⟩
      · refine S.q rfl rfl (Qt.pick_f rfl (by conv => lhs; whnf)) ?_
        refine S.q rfl rfl (Qt.move (by conv => lhs; whnf)) ?_
        refine S.qg rfl rfl rfl (Qt.field Tryz.underlying67 rfl Tryz.cells63 rfl) ?_
        refine S.qg rfl rfl rfl (Qt.field Tryz.underlying63 rfl Tryz.cells3 rfl) ?_
        refine S.qg rfl rfl rfl (Qt.load rfl (Ld.one (v := .int .i64 q.many) (Has.at 1 rfl) Tryz.one3 (ask_rq0 _ _ _ q.k4))) ?_
        refine S.decg rfl rfl rfl (Qt.gti rfl rfl) (fun h42 => ?_) (fun h42 => ?_)
        · refine S.q rfl rfl (Qt.pick_f rfl (by conv => lhs; whnf)) ?_
          refine S.q rfl rfl (Qt.move (by conv => lhs; whnf)) ?_
          refine S.pass rfl rfl ?_
          refine S.pass rfl rfl ?_
          refine S.pass rfl rfl ?_
          refine S.pass rfl rfl ?_
          refine S.pass rfl rfl ?_
          refine S.q rfl rfl (Qt.pick_t rfl (by conv => lhs; whnf)) ?_
          refine S.q rfl rfl (Qt.move (by conv => lhs; whnf)) ?_
          refine S.pass rfl rfl ?_
          refine S.pass rfl rfl ?_
          refine S.pass rfl rfl ?_
          refine S.pass rfl rfl ?_
          refine S.pass rfl rfl ?_
          refine S.q rfl rfl (Qt.pick_t rfl (by conv => lhs; whnf)) ?_
          refine S.q rfl rfl (Qt.move (by conv => lhs; whnf)) ?_
          refine S.pass rfl rfl ?_
          refine S.pass rfl rfl ?_
          refine S.pass rfl rfl ?_
          refine S.pass rfl rfl ?_
          refine S.pass rfl rfl ?_
          refine S.q rfl rfl (Qt.pick_t rfl (by conv => lhs; whnf)) ?_
          refine S.q rfl rfl (Qt.assign (by conv => lhs; whnf)) ?_
          refine S.nil ?_
          refine TC.ret ?_
          refine finQ.ret (RVs.tmp (by conv => lhs; whnf) RVs.nil) (Sub.nil _) ?_
          exact ⟨congrArg Value.bool (decide_eq_true (p := largeO os q p x) (.inr (.inr (.inr (.inl h42))))).symm, rfl⟩
        · refine S.q rfl rfl (Qt.pick_f rfl (by conv => lhs; whnf)) ?_
          refine S.q rfl rfl (Qt.move (by conv => lhs; whnf)) ?_
          refine S.qg rfl rfl rfl (Qt.field Tryz.underlying67 rfl Tryz.cells65 rfl) ?_
          refine S.qg rfl rfl rfl (Qt.field Tryz.underlying65 rfl Tryz.cells23 rfl) ?_
          refine S.qg rfl rfl rfl (Qt.load rfl (Ld.one (v := .slice p.I p.its.length p.i) (Has.at 1 rfl) Tryz.one23 (ask_rs _ _ _ 3 _ p.k3))) ?_
          refine S.qg rfl rfl rfl (Qt.len_slice Tryz.underlying23 rfl) ?_
          refine S.decg rfl rfl rfl (Qt.gt (b := 40) rfl rfl) (fun h49 => ?_) (fun h49 => ?_)
          · refine S.q rfl rfl (Qt.pick_f rfl (by conv => lhs; whnf)) ?_
            refine S.q rfl rfl (Qt.move (by conv => lhs; whnf)) ?_
            refine S.pass rfl rfl ?_
            refine S.pass rfl rfl ?_
            refine S.pass rfl rfl ?_
            refine S.pass rfl rfl ?_
            refine S.pass rfl rfl ?_
            refine S.q rfl rfl (Qt.pick_t rfl (by conv => lhs; whnf)) ?_
            refine S.q rfl rfl (Qt.move (by conv => lhs; whnf)) ?_
            refine S.pass rfl rfl ?_
            refine S.pass rfl rfl ?_
            refine S.pass rfl rfl ?_
            refine S.pass rfl rfl ?_
            refine S.pass rfl rfl ?_
            refine S.q rfl rfl (Qt.pick_t rfl (by conv => lhs; whnf)) ?_
            refine S.q rfl rfl (Qt.assign (by conv => lhs; whnf)) ?_
            refine S.nil ?_
            refine TC.ret ?_
            refine finQ.ret (RVs.tmp (by conv => lhs; whnf) RVs.nil) (Sub.nil _) ?_
            exact ⟨congrArg Value.bool (decide_eq_true (p := largeO os q p x) (.inr (.inr (.inr (.inr (.inl h49)))))).symm, rfl⟩
          · refine S.q rfl rfl (Qt.pick_f rfl (by conv => lhs; whnf)) ?_
            refine S.q rfl rfl (Qt.move (by conv => lhs; whnf)) ?_
            refine S.qg rfl rfl rfl (Qt.field Tryz.underlying67 rfl Tryz.cells65 rfl) ?_
            refine S.qg rfl rfl rfl (Qt.field Tryz.underlying65 rfl Tryz.cells33 rfl) ?_
            refine S.qg rfl rfl rfl (Qt.load rfl (Ld.one (v := .slice p.P p.pa.length p.p) (Has.at 1 rfl) Tryz.one33 (ask_rs _ _ _ 27 _ p.k27))) ?_
            refine S.qg rfl rfl rfl (Qt.len_slice Tryz.underlying33 rfl) ?_
            refine S.decg rfl rfl rfl (Qt.gt (b := 60) rfl rfl) (fun h56 => ?_) (fun h56 => ?_)
            · refine S.q rfl rfl (Qt.pick_f rfl (by conv => lhs; whnf)) ?_
              refine S.q rfl rfl (Qt.move (by conv => lhs; whnf)) ?_
              refine S.pass rfl rfl ?_
              refine S.pass rfl rfl ?_
              refine S.pass rfl rfl ?_
              refine S.pass rfl rfl ?_
              refine S.pass rfl rfl ?_
              refine S.q rfl rfl (Qt.pick_t rfl (by conv => lhs; whnf)) ?_
              refine S.q rfl rfl (Qt.assign (by conv => lhs; whnf)) ?_
              refine S.nil ?_
              refine TC.ret ?_
              refine finQ.ret (RVs.tmp (by conv => lhs; whnf) RVs.nil) (Sub.nil _) ?_
              exact ⟨congrArg Value.bool (decide_eq_true (p := largeO os q p x) (.inr (.inr (.inr (.inr (.inr (.inl h56))))))).symm, rfl⟩
            · refine S.q rfl rfl (Qt.pick_f rfl (by conv => lhs; whnf)) ?_
              refine S.q rfl rfl (Qt.move (by conv => lhs; whnf)) ?_
              refine S.qg rfl rfl rfl (Qt.field Tryz.underlying67 rfl Tryz.cells65 rfl) ?_
              refine S.qg rfl rfl rfl (Qt.field Tryz.underlying65 rfl Tryz.cells33 rfl) ?_
              refine S.qg rfl rfl rfl (Qt.load rfl (Ld.one (v := .slice p.Q p.pb.length p.q) (Has.at 1 rfl) Tryz.one33 (ask_rs _ _ _ 28 _ p.k28))) ?_
              refine S.qg rfl rfl rfl (Qt.len_slice Tryz.underlying33 rfl) ?_
              refine S.decg rfl rfl rfl (Qt.gt (b := 300) rfl rfl) (fun h63 => ?_) (fun h63 => ?_)
              · refine S.q rfl rfl (Qt.pick_f rfl (by conv => lhs; whnf)) ?_
                refine S.q rfl rfl (Qt.assign (by conv => lhs; whnf)) ?_
                refine S.nil ?_
                refine TC.ret ?_
                refine finQ.ret (RVs.tmp (by conv => lhs; whnf) RVs.nil) (Sub.nil _) ?_
                exact ⟨congrArg Value.bool (decide_eq_true (p := largeO os q p x) (.inr (.inr (.inr (.inr (.inr (.inr (h63)))))))).symm, rfl⟩
              · refine S.q rfl rfl (Qt.pick_f rfl (by conv => lhs; whnf)) ?_
                refine S.q rfl rfl (Qt.assign (by conv => lhs; whnf)) ?_
                refine S.nil ?_
                refine TC.ret ?_
                refine finQ.ret (RVs.tmp (by conv => lhs; whnf) RVs.nil) (Sub.nil _) ?_
                have hnb := big_none (fun i hi => hq i (by rw [List.length_cons] at hi; omega))
                refine ⟨congrArg Value.bool (decide_eq_false (p := largeO os q p x) fun h => ?_).symm, rfl⟩
                rcases h with h | h | h | h | h | h | h
                · exact hnb h
                · exact h30 h
                · exact h36 h
                · exact h42 h
                · exact h49 h
                · exact h56 h
                · exact h63 h
set_option maxHeartbeats 400000 in
theorem root24_walkN (w0 : World) :
    Calls Tryz.prog 24 #[.pointer none] w0 (Post w0 [] fun v L => v = hv zeroH ∧ L = []) := by
  refine Calls.of (L := []) (n := 11) (rs := [.cell 2 49]) Tryz.func24 rfl rfl rfl (Nat.le_of_ble_eq_true rfl) (Sat.nil _) ?_
  refine TC.seq ?_
  refine TC.region ?_
  refine S.opS rfl rfl (OpV.alloc Tryz.zero49 (fun b2 => ?_))
  refine S.nil ?_
  refine TC.seq ?_
  refine TC.seq ?_
  refine TC.region ?_
  refine S.q rfl rfl (Qt.move (by conv => lhs; whnf)) ?_
  refine S.q rfl rfl (Qt.eqp_none Tryz.underlying69 rfl) ?_
  refine S.nil ?_
  refine S.if_t rfl ?_
  refine TC.seq ?_
  refine TC.region ?_
  refine S.q rfl rfl (Qt.build (v := hv zeroH) rfl (fun _ => by kernel_rfl)) ?_
  refine S.opN rfl (OpV.storeV0 (v := hv (zeroH)) rfl rfl (hv_size Tryz.cells49) (hv_all _) (hv_len _) ?_)
  refine S.nil ?_
  refine TC.ret ?_
  refine finQ.ret (RVs.cell rfl (Ld.all (Has.at 0 rfl) Tryz.row49 (hv_size Tryz.cells49)) RVs.nil) (Sub.nil _) ?_
  exact ⟨rfl, rfl⟩
set_option maxHeartbeats 400000 in
theorem blocks27_walkN (w0 : World) :
    Calls Tryz.prog 27 #[.pointer none] w0 (Post w0 [] fun v L => v = .int .u64 0 ∧ L = []) := by
  refine Calls.of (L := []) (n := 9) (rs := [.tmp 2]) Tryz.func27 rfl rfl rfl (Nat.le_of_ble_eq_true rfl) (Sat.nil _) ?_
  refine TC.seq ?_
  refine TC.region ?_
  refine S.q rfl rfl (Qt.assign (by conv => lhs; whnf)) ?_
  refine S.nil ?_
  refine TC.seq ?_
  refine TC.seq ?_
  refine TC.region ?_
  refine S.q rfl rfl (Qt.move (by conv => lhs; whnf)) ?_
  refine S.q rfl rfl (Qt.eqp_none Tryz.underlying69 rfl) ?_
  refine S.nil ?_
  refine S.if_t rfl ?_
  refine TC.seq ?_
  refine TC.region ?_
  refine S.q rfl rfl (Qt.assign (by conv => lhs; whnf)) ?_
  refine S.nil ?_
  refine TC.ret ?_
  refine finQ.ret (RVs.tmp (by conv => lhs; whnf) RVs.nil) (Sub.nil _) ?_
  exact ⟨rfl, rfl⟩
set_option maxHeartbeats 400000 in
theorem len28_walkN (w0 : World) :
    Calls Tryz.prog 28 #[.pointer none] w0 (Post w0 [] fun v L => v = .int .i64 0 ∧ L = []) := by
  refine Calls.of (L := []) (n := 10) (rs := [.tmp 2]) Tryz.func28 rfl rfl rfl (Nat.le_of_ble_eq_true rfl) (Sat.nil _) ?_
  refine TC.seq ?_
  refine TC.region ?_
  refine S.q rfl rfl (Qt.assign (by conv => lhs; whnf)) ?_
  refine S.nil ?_
  refine TC.seq ?_
  refine TC.seq ?_
  refine TC.region ?_
  refine S.q rfl rfl (Qt.move (by conv => lhs; whnf)) ?_
  refine S.q rfl rfl (Qt.eqp_none Tryz.underlying69 rfl) ?_
  refine S.nil ?_
  refine S.if_t rfl ?_
  refine TC.seq ?_
  refine TC.region ?_
  refine S.q rfl rfl (Qt.assign (by conv => lhs; whnf)) ?_
  refine S.nil ?_
  refine TC.ret ?_
  refine finQ.ret (RVs.tmp (by conv => lhs; whnf) RVs.nil) (Sub.nil _) ?_
  exact ⟨rfl, rfl⟩
set_option maxHeartbeats 400000 in
theorem items29_walkN (s : Value) (w0 : World) :
    Calls Tryz.prog 29 #[.pointer none, s] w0 (Post w0 [] fun v L => v = .slice none 0 0 ∧ L = []) := by
  refine Calls.of (L := []) (n := 35) (rs := [.tmp 4]) Tryz.func29 rfl rfl rfl (Nat.le_of_ble_eq_true rfl) (Sat.nil _) ?_
  refine TC.seq ?_
  refine TC.region ?_
  refine S.q rfl rfl (Qt.assign (by conv => lhs; whnf)) ?_
  refine S.nil ?_
  refine TC.seq ?_
  refine TC.seq ?_
  refine TC.region ?_
  refine S.q rfl rfl (Qt.move (by conv => lhs; whnf)) ?_
  refine S.q rfl rfl (Qt.eqp_none Tryz.underlying69 rfl) ?_
  refine S.nil ?_
  refine S.if_t rfl ?_
  refine TC.seq ?_
  refine TC.region ?_
  refine S.q rfl rfl (Qt.assign (by conv => lhs; whnf)) ?_
  refine S.nil ?_
  refine TC.ret ?_
  refine finQ.ret (RVs.tmp (by conv => lhs; whnf) RVs.nil) (Sub.nil _) ?_
  exact ⟨rfl, rfl⟩
set_option maxHeartbeats 400000 in
theorem do38_walkN (x : OrdA) (w0 : World) :
    Calls Tryz.prog 38 #[.pointer none, .agg (ordL x).toArray] w0 (Post w0 [] fun v L => v = .iface 73 (.int .i64 11) ∧ L = []) := by
  refine Calls.of (L := []) (n := 84) (rs := [.tmp 4]) Tryz.func38 rfl rfl rfl (Nat.le_of_ble_eq_true rfl) (Sat.nil _) ?_
  refine TC.seq ?_
  refine TC.region ?_
  refine S.opS rfl rfl (OpV.box (v := .agg (ordL x).toArray) rfl (fun b3 => ?_))
  refine S.q rfl rfl (Qt.assign (by conv => lhs; whnf)) ?_
  refine S.nil ?_
  refine TC.seq ?_
  refine TC.block ?_
  refine TC.seq ?_
  refine TC.region ?_
  refine S.q rfl rfl (Qt.move (by conv => lhs; whnf)) ?_
  refine S.q rfl rfl (Qt.eqp_none Tryz.underlying69 rfl) ?_
  refine S.q rfl rfl (Qt.assign (by conv => lhs; whnf)) ?_
  refine S.nil ?_
  refine S.if_t rfl ?_
  refine TC.seq ?_
  refine TC.region ?_
  refine S.q rfl rfl (Qt.makeInterface Tryz.underlying73 (fun _ h => nomatch h) (by conv => lhs; whnf)) ?_
  refine S.q rfl rfl (Qt.assign (by conv => lhs; whnf)) ?_
  refine S.nil ?_
  refine TC.ret ?_
  refine finQ.ret (RVs.tmp (by conv => lhs; whnf) RVs.nil) (Sub.nil _) ?_
  exact ⟨rfl, rfl⟩
set_option maxHeartbeats 400000 in
theorem step35_walkN (x : OrdA) (p : RepA) (w0 : World) :
    Calls Tryz.prog 35 #[.pointer none, .agg (ordL x).toArray, .agg p.rs.toArray] w0 (Post w0 [] fun v L => v = .slice none 0 0 ∧ L = []) := by
  refine Calls.of (L := []) (n := 100) (rs := [.tmp 6]) Tryz.func35 rfl rfl rfl (Nat.le_of_ble_eq_true rfl) (Sat.nil _) ?_
  refine TC.seq ?_
  refine TC.region ?_
  refine S.opS rfl rfl (OpV.box (v := .agg (ordL x).toArray) rfl (fun b4 => ?_))
  refine S.opS rfl rfl (OpV.box (v := .agg p.rs.toArray) rfl (fun b5 => ?_))
  refine S.q rfl rfl (Qt.assign (by conv => lhs; whnf)) ?_
  refine S.nil ?_
  refine TC.seq ?_
  refine TC.block ?_
  refine TC.seq ?_
  refine S.draw ([13], []) Tryz.mixed (Sub.nil _) ?_
  refine D.qX (k := 0) rfl (by kernel_rfl) (by kernel_rfl) (by kernel_rfl) rfl rfl (Qt.move (by conv => lhs; whnf)) ?_
  refine D.qX (k := 1) rfl (by kernel_rfl) (by kernel_rfl) (by kernel_rfl) rfl rfl (Qt.eqp_none Tryz.underlying69 rfl) ?_
  refine D.qX (k := 2) rfl (by kernel_rfl) (by kernel_rfl) (by kernel_rfl) rfl rfl (Qt.move (by conv => lhs; whnf)) ?_
  refine D.pass (k := 3) rfl (by kernel_rfl) (by kernel_rfl) rfl rfl rfl ?_
  refine D.pass (k := 4) rfl (by kernel_rfl) (by kernel_rfl) rfl rfl rfl ?_
  refine D.pass (k := 5) rfl (by kernel_rfl) (by kernel_rfl) rfl rfl rfl ?_
  refine D.qX (k := 6) rfl (by kernel_rfl) (by kernel_rfl) (by kernel_rfl) rfl rfl (Qt.pick_t rfl (by conv => lhs; whnf)) ?_
  refine D.qX (k := 7) rfl (by kernel_rfl) (by kernel_rfl) (by kernel_rfl) rfl rfl (Qt.move (by conv => lhs; whnf)) ?_
  refine D.pass (k := 8) rfl (by kernel_rfl) (by kernel_rfl) rfl rfl rfl ?_
  refine D.pass (k := 9) rfl (by kernel_rfl) (by kernel_rfl) rfl rfl rfl ?_
  refine D.pass (k := 10) rfl (by kernel_rfl) (by kernel_rfl) rfl rfl rfl ?_
  refine D.pass (k := 11) rfl (by kernel_rfl) (by kernel_rfl) rfl rfl rfl ?_
  refine D.pass (k := 12) rfl (by kernel_rfl) (by kernel_rfl) rfl rfl rfl ?_
  refine D.pass (k := 13) rfl (by kernel_rfl) (by kernel_rfl) rfl rfl rfl ?_
  refine D.pass (k := 14) rfl (by kernel_rfl) (by kernel_rfl) rfl rfl rfl ?_
  refine D.qX (k := 15) rfl (by kernel_rfl) (by kernel_rfl) (by kernel_rfl) rfl rfl (Qt.pick_t rfl (by conv => lhs; whnf)) ?_
  refine D.qX (k := 16) rfl (by kernel_rfl) (by kernel_rfl) (by kernel_rfl) rfl rfl (Qt.assign (by conv => lhs; whnf)) ?_
  refine D.done (Sub.nil _) (by kernel_rfl) ?_
  refine S.if_t rfl ?_
  refine TC.seq ?_
  refine TC.region ?_
  refine S.q rfl rfl (Qt.assign (by conv => lhs; whnf)) ?_
  refine S.nil ?_
  refine TC.ret ?_
  refine finQ.ret (RVs.tmp (by conv => lhs; whnf) RVs.nil) (Sub.nil _) ?_
  exact ⟨rfl, rfl⟩
end Go.Proofs.YtgdjcmehlhebdaaGreatDoor
namespace Go.Proofs.YtgdjcmehlhebdaaGreatDoor
open Go.E
set_option linter.unusedVariables false
set_option maxRecDepth 4000
theorem Tryz.ent20 : Enters Tryz.prog 20 := ⟨_, Tryz.func20, by kernel_rfl, rfl⟩
theorem Tryz.ent22 : Enters Tryz.prog 22 := ⟨_, Tryz.func22, by kernel_rfl, rfl⟩
theorem Tryz.ent24 : Enters Tryz.prog 24 := ⟨_, Tryz.func24, by kernel_rfl, rfl⟩
theorem Tryz.ent28 : Enters Tryz.prog 28 := ⟨_, Tryz.func28, by kernel_rfl, rfl⟩
theorem Tryz.ent29 : Enters Tryz.prog 29 := ⟨_, Tryz.func29, by kernel_rfl, rfl⟩
theorem Tryz.ent32 : Enters Tryz.prog 32 := ⟨_, Tryz.func32, by kernel_rfl, rfl⟩
theorem Tryz.ent38 : Enters Tryz.prog 38 := ⟨_, Tryz.func38, by kernel_rfl, rfl⟩
theorem Tryz.ent40 : Enters Tryz.prog 40 := ⟨_, Tryz.func40, by kernel_rfl, rfl⟩
theorem Tryz.ent79 : Enters Tryz.prog 79 := ⟨_, Tryz.func79, by kernel_rfl, rfl⟩

set_option maxHeartbeats 400000 in
theorem askedR_walk (q : ReqA) (hk : q.kind = 1) (w0 : World) :
    Calls Tryz.prog 79 #[.agg q.rq.toArray] w0 (Post w0 [] fun v L => v = .slice q.A q.xs.length q.c ∧ L = []) := by
  refine Calls.of (L := []) (n := 16) (rs := [.tmp 2]) Tryz.func79 rfl rfl rfl (Nat.le_of_ble_eq_true rfl) (Sat.nil _) ?_
  refine TC.seq ?_
  refine TC.region ?_
  refine S.opS rfl rfl (OpV.box (v := .agg q.rq.toArray) rfl (fun b1 => ?_))
  refine S.q rfl rfl (Qt.assign (by conv => lhs; whnf)) ?_
  refine S.nil ?_
  refine TC.seq ?_
  refine TC.seq ?_
  refine TC.region ?_
  refine S.q rfl rfl (Qt.field Tryz.underlying63 rfl Tryz.cells3 rfl) ?_
  refine S.q rfl rfl (Qt.load rfl (Ld.one (v := .int .i64 q.kind) (Has.at 0 rfl) Tryz.one3 (q.k1))) ?_
  refine S.nil ?_
  refine TC.block ?_
  refine TC.seq ?_
  refine TC.region ?_
  refine S.q rfl rfl (Qt.dT (Qt.eqi rfl rfl) (hk)) ?_
  refine S.q rfl rfl (Qt.assign (by conv => lhs; whnf)) ?_
  refine S.nil ?_
  refine S.if_t rfl ?_
  refine TC.seq ?_
  refine TC.region ?_
  refine S.q rfl rfl (Qt.field Tryz.underlying63 rfl Tryz.cells22 rfl) ?_
  refine S.q rfl rfl (Qt.load rfl (Ld.one (v := .slice q.A q.xs.length q.c) (Has.at 0 rfl) Tryz.one22 (q.k2))) ?_
  refine S.q rfl rfl (Qt.assign (by conv => lhs; whnf)) ?_
  refine S.nil ?_
  refine TC.ret ?_
  refine finQ.ret (RVs.tmp (by conv => lhs; whnf) RVs.nil) (Sub.nil _) ?_
  exact ⟨rfl, rfl⟩
set_option maxHeartbeats 400000 in
theorem askedO_walk (q : ReqA) (hk : ¬ q.kind = 1) (hk2 : ¬ q.kind = 2) (w0 : World) :
    Calls Tryz.prog 79 #[.agg q.rq.toArray] w0 (Post w0 [] fun v L => v = .slice none 0 0 ∧ L = []) := by
  refine Calls.of (L := []) (n := 16) (rs := [.tmp 2]) Tryz.func79 rfl rfl rfl (Nat.le_of_ble_eq_true rfl) (Sat.nil _) ?_
  refine TC.seq ?_
  refine TC.region ?_
  refine S.opS rfl rfl (OpV.box (v := .agg q.rq.toArray) rfl (fun b1 => ?_))
  refine S.q rfl rfl (Qt.assign (by conv => lhs; whnf)) ?_
  refine S.nil ?_
  refine TC.seq ?_
  refine TC.seq ?_
  refine TC.region ?_
  refine S.q rfl rfl (Qt.field Tryz.underlying63 rfl Tryz.cells3 rfl) ?_
  refine S.q rfl rfl (Qt.load rfl (Ld.one (v := .int .i64 q.kind) (Has.at 0 rfl) Tryz.one3 (q.k1))) ?_
  refine S.nil ?_
  refine TC.block ?_
  refine TC.seq ?_
  refine TC.region ?_
  refine S.q rfl rfl (Qt.dF (Qt.eqi rfl rfl) (hk)) ?_
  refine S.q rfl rfl (Qt.assign (by conv => lhs; whnf)) ?_
  refine S.nil ?_
  refine S.if_f rfl ?_
  refine TC.seq ?_
  refine TC.region ?_
  refine S.q rfl rfl (Qt.dF (Qt.eqi rfl rfl) (hk2)) ?_
  refine S.q rfl rfl (Qt.assign (by conv => lhs; whnf)) ?_
  refine S.nil ?_
  refine S.if_f rfl ?_
  refine TC.skip ?_
  refine TC.seq ?_
  refine TC.region ?_
  refine S.q rfl rfl (Qt.assign (by conv => lhs; whnf)) ?_
  refine S.nil ?_
  refine TC.ret ?_
  refine finQ.ret (RVs.tmp (by conv => lhs; whnf) RVs.nil) (Sub.nil _) ?_
  exact ⟨rfl, rfl⟩
set_option maxHeartbeats 400000 in
theorem askedS_walk (q : ReqA) (hk : ¬ q.kind = 1) (hk2 : q.kind = 2) (n : Nat) (hn : q.many = (n : Int)) (h1 : 1 ≤ n) (h2 : n ≤ 256) (hf : q.first + n ≤ 2 ^ 32) (w0 : World) :
    Calls Tryz.prog 79 #[.agg q.rq.toArray] w0 (Post w0 [] fun v L => ∃ O d, v = .slice O n d ∧ L = [OwnA 40 1 O n d (u64s ((List.range n).map (q.first + ·)))]) := by
  refine Calls.of (L := []) (n := 16) (rs := [.tmp 2]) Tryz.func79 rfl rfl rfl (Nat.le_of_ble_eq_true rfl) (Sat.nil _) ?_
  refine TC.seq ?_
  refine TC.region ?_
  refine S.opS rfl rfl (OpV.box (v := .agg q.rq.toArray) rfl (fun b1 => ?_))
  refine S.q rfl rfl (Qt.assign (by conv => lhs; whnf)) ?_
  refine S.nil ?_
  refine TC.seq ?_
  refine TC.seq ?_
  refine TC.region ?_
  refine S.q rfl rfl (Qt.field Tryz.underlying63 rfl Tryz.cells3 rfl) ?_
  refine S.q rfl rfl (Qt.load rfl (Ld.one (v := .int .i64 q.kind) (Has.at 0 rfl) Tryz.one3 (q.k1))) ?_
  refine S.nil ?_
  refine TC.block ?_
  refine TC.seq ?_
  refine TC.region ?_
  refine S.q rfl rfl (Qt.dF (Qt.eqi rfl rfl) (hk)) ?_
  refine S.q rfl rfl (Qt.assign (by conv => lhs; whnf)) ?_
  refine S.nil ?_
  refine S.if_f rfl ?_
  refine TC.seq ?_
  refine TC.region ?_
  refine S.q rfl rfl (Qt.dT (Qt.eqi rfl rfl) (hk2)) ?_
  refine S.q rfl rfl (Qt.assign (by conv => lhs; whnf)) ?_
  refine S.nil ?_
  refine S.if_t rfl ?_
  refine TC.seq ?_
  refine TC.region ?_
  refine S.q rfl rfl (Qt.field Tryz.underlying63 rfl Tryz.cells40 rfl) ?_
  refine S.q rfl rfl (Qt.load rfl (Ld.one (v := .int .u64 (q.first : Int)) (Has.at 0 rfl) Tryz.one40 (q.k3))) ?_
  refine S.q rfl rfl (Qt.field Tryz.underlying63 rfl Tryz.cells3 rfl) ?_
  refine S.q rfl rfl (Qt.load rfl (Ld.one (v := .int .i64 (n : Int)) (Has.at 0 rfl) Tryz.one3 ((by rw [← hn]; exact q.k4)))) ?_
  refine S.opS rfl rfl (OpV.con (Pre := []) (R := _) Tryz.ent40 rfl (List.Perm.refl _) (fun w hw => indices_walk q.first n h1 h2 hf w) ?_)
  rintro v L' ⟨O, d, rfl, rfl⟩
  refine S.q rfl rfl (Qt.assign (by conv => lhs; whnf)) ?_
  refine S.nil ?_
  refine TC.ret ?_
  refine finQ.ret (RVs.tmp (by conv => lhs; whnf) RVs.nil) (Sub.keep _ (Sub.drop _ (Sub.nil []))) ?_
  exact ⟨O, d, rfl, rfl⟩
set_option maxHeartbeats 400000 in
theorem askedF_walk (q : ReqA) (hk : ¬ q.kind = 1) (hk2 : q.kind = 2) (n : Nat) (hn : q.many = (n : Int)) (h1 : 1 ≤ n) (h2 : n ≤ 256) (hq : q.first < 18446744073709551616) (hf : ¬ q.first + n ≤ 2 ^ 32) (w0 : World) :
    Calls Tryz.prog 79 #[.agg q.rq.toArray] w0 (Post w0 [] fun v L => v = .slice none 0 0 ∧ L = []) := by
  refine Calls.of (L := []) (n := 16) (rs := [.tmp 2]) Tryz.func79 rfl rfl rfl (Nat.le_of_ble_eq_true rfl) (Sat.nil _) ?_
  refine TC.seq ?_
  refine TC.region ?_
  refine S.opS rfl rfl (OpV.box (v := .agg q.rq.toArray) rfl (fun b1 => ?_))
  refine S.q rfl rfl (Qt.assign (by conv => lhs; whnf)) ?_
  refine S.nil ?_
  refine TC.seq ?_
  refine TC.seq ?_
  refine TC.region ?_
  refine S.q rfl rfl (Qt.field Tryz.underlying63 rfl Tryz.cells3 rfl) ?_
  refine S.q rfl rfl (Qt.load rfl (Ld.one (v := .int .i64 q.kind) (Has.at 0 rfl) Tryz.one3 (q.k1))) ?_
  refine S.nil ?_
  refine TC.block ?_
  refine TC.seq ?_
  refine TC.region ?_
  refine S.q rfl rfl (Qt.dF (Qt.eqi rfl rfl) (hk)) ?_
  refine S.q rfl rfl (Qt.assign (by conv => lhs; whnf)) ?_
  refine S.nil ?_
  refine S.if_f rfl ?_
  refine TC.seq ?_
  refine TC.region ?_
  refine S.q rfl rfl (Qt.dT (Qt.eqi rfl rfl) (hk2)) ?_
  refine S.q rfl rfl (Qt.assign (by conv => lhs; whnf)) ?_
  refine S.nil ?_
  refine S.if_t rfl ?_
  refine TC.seq ?_
  refine TC.region ?_
  refine S.q rfl rfl (Qt.field Tryz.underlying63 rfl Tryz.cells40 rfl) ?_
  refine S.q rfl rfl (Qt.load rfl (Ld.one (v := .int .u64 (q.first : Int)) (Has.at 0 rfl) Tryz.one40 (q.k3))) ?_
  refine S.q rfl rfl (Qt.field Tryz.underlying63 rfl Tryz.cells3 rfl) ?_
  refine S.q rfl rfl (Qt.load rfl (Ld.one (v := .int .i64 (n : Int)) (Has.at 0 rfl) Tryz.one3 ((by rw [← hn]; exact q.k4)))) ?_
  refine S.opS rfl rfl (OpV.con0 Tryz.ent40 rfl (fun w hw => Calls.ret (indices_walkF q.first n hq h1 h2 hf w)) ?_)
  refine S.q rfl rfl (Qt.assign (by conv => lhs; whnf)) ?_
  refine S.nil ?_
  refine TC.ret ?_
  refine finQ.ret (RVs.tmp (by conv => lhs; whnf) RVs.nil) (Sub.nil _) ?_
  exact ⟨rfl, rfl⟩
set_option maxHeartbeats 400000 in
theorem askedZ_walk (q : ReqA) (hk : ¬ q.kind = 1) (hk2 : q.kind = 2) (hm : q.many < 1 ∨ 256 < q.many) (w0 : World) :
    Calls Tryz.prog 79 #[.agg q.rq.toArray] w0 (Post w0 [] fun v L => v = .slice none 0 0 ∧ L = []) := by
  refine Calls.of (L := []) (n := 16) (rs := [.tmp 2]) Tryz.func79 rfl rfl rfl (Nat.le_of_ble_eq_true rfl) (Sat.nil _) ?_
  refine TC.seq ?_
  refine TC.region ?_
  refine S.opS rfl rfl (OpV.box (v := .agg q.rq.toArray) rfl (fun b1 => ?_))
  refine S.q rfl rfl (Qt.assign (by conv => lhs; whnf)) ?_
  refine S.nil ?_
  refine TC.seq ?_
  refine TC.seq ?_
  refine TC.region ?_
  refine S.q rfl rfl (Qt.field Tryz.underlying63 rfl Tryz.cells3 rfl) ?_
  refine S.q rfl rfl (Qt.load rfl (Ld.one (v := .int .i64 q.kind) (Has.at 0 rfl) Tryz.one3 (q.k1))) ?_
  refine S.nil ?_
  refine TC.block ?_
  refine TC.seq ?_
  refine TC.region ?_
  refine S.q rfl rfl (Qt.dF (Qt.eqi rfl rfl) (hk)) ?_
  refine S.q rfl rfl (Qt.assign (by conv => lhs; whnf)) ?_
  refine S.nil ?_
  refine S.if_f rfl ?_
  refine TC.seq ?_
  refine TC.region ?_
  refine S.q rfl rfl (Qt.dT (Qt.eqi rfl rfl) (hk2)) ?_
  refine S.q rfl rfl (Qt.assign (by conv => lhs; whnf)) ?_
  refine S.nil ?_
  refine S.if_t rfl ?_
  refine TC.seq ?_
  refine TC.region ?_
  refine S.q rfl rfl (Qt.field Tryz.underlying63 rfl Tryz.cells40 rfl) ?_
  refine S.q rfl rfl (Qt.load rfl (Ld.one (v := .int .u64 (q.first : Int)) (Has.at 0 rfl) Tryz.one40 (q.k3))) ?_
  refine S.q rfl rfl (Qt.field Tryz.underlying63 rfl Tryz.cells3 rfl) ?_
  refine S.q rfl rfl (Qt.load rfl (Ld.one (v := .int .i64 q.many) (Has.at 0 rfl) Tryz.one3 (q.k4))) ?_
  refine S.opS rfl rfl (OpV.con0 Tryz.ent40 rfl (fun w hw => Calls.ret (indices_walkZ q.first q.many hm w)) ?_)
  refine S.q rfl rfl (Qt.assign (by conv => lhs; whnf)) ?_
  refine S.nil ?_
  refine TC.ret ?_
  refine finQ.ret (RVs.tmp (by conv => lhs; whnf) RVs.nil) (Sub.nil _) ?_
  exact ⟨rfl, rfl⟩
theorem asked_C (q : ReqA) (hq : q.first < 18446744073709551616) (w0 : World) : Calls Tryz.prog 79 #[.agg q.rq.toArray] w0 (Post w0 [] fun v L => ∃ A n c Ls, v = .slice A n c ∧ L = [Many Ls]) := by
  by_cases hk : q.kind = 1
  · exact (askedR_walk q hk w0).mono fun e w' ⟨v, L', h1, h2, h3, h4⟩ => ⟨v, [Many []], h1, by subst h4; exact St.many.2 h2, _, _, _, [], h3, rfl⟩
  by_cases hk2 : q.kind = 2
  · by_cases hm : q.many < 1 ∨ 256 < q.many
    · exact (askedZ_walk q hk hk2 hm w0).mono fun e w' ⟨v, L', h1, h2, h3, h4⟩ => ⟨v, [Many []], h1, by subst h4; exact St.many.2 h2, _, _, _, [], h3, rfl⟩
    obtain ⟨n, hn⟩ : ∃ n : Nat, q.many = (n : Int) := ⟨q.many.toNat, by omega⟩
    by_cases hf : q.first + n ≤ 2 ^ 32
    · exact (askedS_walk q hk hk2 n hn (by omega) (by omega) hf w0).mono fun e w' ⟨v, L', h1, h2, O, d, h3, h4⟩ => ⟨v, [Many L'], h1, St.many.2 (by rw [List.append_nil]; exact h2), _, _, _, L', h3, rfl⟩
    · exact (askedF_walk q hk hk2 n hn (by omega) (by omega) hq hf w0).mono fun e w' ⟨v, L', h1, h2, h3, h4⟩ => ⟨v, [Many []], h1, by subst h4; exact St.many.2 h2, _, _, _, [], h3, rfl⟩
  · exact (askedO_walk q hk hk2 w0).mono fun e w' ⟨v, L', h1, h2, h3, h4⟩ => ⟨v, [Many []], h1, by subst h4; exact St.many.2 h2, _, _, _, [], h3, rfl⟩

set_option maxHeartbeats 400000 in
theorem read32_walkN (q : ReqA) (hq : q.first < 18446744073709551616) (p : RepA) (w0 : World) :
    Calls Tryz.prog 32 #[.pointer none, .agg q.rq.toArray, .agg p.rs.toArray] w0 (Post w0 [] fun v L => v = .slice none 0 0 ∧ L = []) := by
  refine Calls.of (L := []) (n := 132) (rs := [.tmp 6]) Tryz.func32 rfl rfl rfl (Nat.le_of_ble_eq_true rfl) (Sat.nil _) ?_
  refine TC.seq ?_
  refine TC.region ?_
  refine S.opS rfl rfl (OpV.box (v := .agg q.rq.toArray) rfl (fun b4 => ?_))
  refine S.opS rfl rfl (OpV.box (v := .agg p.rs.toArray) rfl (fun b5 => ?_))
  refine S.q rfl rfl (Qt.assign (by conv => lhs; whnf)) ?_
  refine S.nil ?_
  refine TC.seq ?_
  refine TC.region ?_
  refine S.q rfl rfl (Qt.load rfl (Ld.all (vs := q.rq) (Has.at 1 rfl) Tryz.row63 (by rw [q.len]; exact Tryz.cells63))) ?_
  refine S.opS rfl rfl (OpV.con (Pre := []) (R := _) Tryz.ent79 rfl (List.Perm.refl _) (fun w hw => asked_C q hq w) ?_)
  rintro v L' ⟨A7, n7, c7, Ls, rfl, rfl⟩
  refine S.q rfl rfl (Qt.assign (by conv => lhs; whnf)) ?_
  refine S.nil ?_
  refine TC.seq ?_
  refine TC.seq ?_
  refine TC.region ?_
  refine S.q rfl rfl (Qt.move (by conv => lhs; whnf)) ?_
  refine S.q rfl rfl (Qt.eqp_none Tryz.underlying69 rfl) ?_
  refine S.q rfl rfl (Qt.move (by conv => lhs; whnf)) ?_
  refine S.pass rfl rfl ?_
  refine S.pass rfl rfl ?_
  refine S.pass rfl rfl ?_
  refine S.q rfl rfl (Qt.pick_t rfl (by conv => lhs; whnf)) ?_
  refine S.q rfl rfl (Qt.move (by conv => lhs; whnf)) ?_
  refine S.pass rfl rfl ?_
  refine S.pass rfl rfl ?_
  refine S.pass rfl rfl ?_
  refine S.pass rfl rfl ?_
  refine S.pass rfl rfl ?_
  refine S.pass rfl rfl ?_
  refine S.pass rfl rfl ?_
  refine S.pass rfl rfl ?_
  refine S.q rfl rfl (Qt.pick_t rfl (by conv => lhs; whnf)) ?_
  refine S.q rfl rfl (Qt.move (by conv => lhs; whnf)) ?_
  refine S.pass rfl rfl ?_
  refine S.pass rfl rfl ?_
  refine S.pass rfl rfl ?_
  refine S.pass rfl rfl ?_
  refine S.pass rfl rfl ?_
  refine S.pass rfl rfl ?_
  refine S.q rfl rfl (Qt.pick_t rfl (by conv => lhs; whnf)) ?_
  refine S.nil ?_
  refine S.if_t rfl ?_
  refine TC.seq ?_
  refine TC.region ?_
  refine S.q rfl rfl (Qt.assign (by conv => lhs; whnf)) ?_
  refine S.nil ?_
  refine TC.ret ?_
  refine finQ.ret (RVs.tmp (by conv => lhs; whnf) RVs.nil) (Sub.nil _) ?_
  exact ⟨rfl, rfl⟩
set_option maxHeartbeats 1600000 in
theorem law6_walk (E : Nat → H32) (hEm : ∀ w, Tabs 3 1 w [] → Calls Tryz.prog 55 #[] w (Ret w (.agg (hcs (emptL E)).toArray))) (hE0 : E 0 = shaH [0]) (A : Option Addr) (c : Nat) (ts : List Tx) (q : ReqA) (hq : q.first < 18446744073709551616) (p : RepA) (x : OrdA) (hn : ts.length ≤ 40) (w0 : World) (hR : Ro w0 [] (SlA A (ts.flatMap txL))) (ht : ∀ t ∈ ts, Ro w0 [] (SlA t.1 (bytesL t.2.2))) (hT : Tabs 3 1 w0 []) (hT2 : Tabs 2 0 w0 []) :
    Calls Tryz.prog 6 #[.slice A ts.length c, .agg (askL q p x).toArray] w0 (Post w0 [] fun v L => v = .bool true ∧ L = []) := by
  refine Calls.of (L := []) (n := 102) (rs := [.tmp 4]) Tryz.func6 rfl rfl rfl (Nat.le_of_ble_eq_true rfl) (Sat.nil _) ?_
  refine TC.seq ?_
  refine TC.region ?_
  refine S.opS rfl rfl (OpV.box (v := .agg (askL q p x).toArray) rfl (fun b3 => ?_))
  refine S.q rfl rfl (Qt.assign (by conv => lhs; whnf)) ?_
  refine S.nil ?_
  refine TC.seq ?_
  refine TC.seq ?_
  refine TC.region ?_
  refine S.opS rfl rfl (OpV.con0 Tryz.ent8 rfl (fun w hw => Calls.ret (alive5_walk E hEm w (hT.at hw))) ?_)
  refine S.q rfl rfl (Qt.not_t rfl) ?_
  refine S.nil ?_
  refine S.if_f rfl ?_
  refine TC.skip ?_
  refine TC.seq ?_
  refine TC.seq ?_
  refine TC.region ?_
  refine S.q rfl rfl (Qt.move (by conv => lhs; whnf)) ?_
  refine S.q rfl rfl (Qt.len_slice Tryz.underlying111 rfl) ?_
  refine S.q rfl rfl (Qt.dF (Qt.gt (b := 40) rfl rfl) (by omega)) ?_
  refine S.q rfl rfl (Qt.move (by conv => lhs; whnf)) ?_
  refine S.qg rfl rfl rfl (Qt.load rfl (Ld.all (vs := askL q p x) (Has.at 0 rfl) Tryz.row67 (by rw [askL_length]; exact Tryz.cells67))) ?_
  by_cases hlg : largeO [] q p x
  · refine S.opg rfl rfl rfl (OpV.con0 Tryz.ent20 rfl (fun w hw => (by have h := Calls.ret (large20_walk none 0 [] (Nat.zero_le _) q p x w (ro_none w)); rw [decide_eq_true hlg] at h; exact h : Calls Tryz.prog 20 #[.slice none 0 0, .agg (askL q p x).toArray] w (Ret w (.bool true)))) ?_)
    refine S.q rfl rfl (Qt.pick_f rfl (by conv => lhs; whnf)) ?_
    refine S.nil ?_
    refine S.if_t rfl ?_
    refine TC.seq ?_
    refine TC.region ?_
    refine S.q rfl rfl (Qt.assign (by conv => lhs; whnf)) ?_
    refine S.nil ?_
    refine TC.ret ?_
    refine finQ.ret (RVs.tmp (by conv => lhs; whnf) RVs.nil) (Sub.nil _) ?_
    exact ⟨rfl, rfl⟩
  · refine S.opg rfl rfl rfl (OpV.con0 Tryz.ent20 rfl (fun w hw => (by have h := Calls.ret (large20_walk none 0 [] (Nat.zero_le _) q p x w (ro_none w)); rw [decide_eq_false hlg] at h; exact h : Calls Tryz.prog 20 #[.slice none 0 0, .agg (askL q p x).toArray] w (Ret w (.bool false)))) ?_)
    refine S.q rfl rfl (Qt.pick_f rfl (by conv => lhs; whnf)) ?_
    refine S.nil ?_
    refine S.if_f rfl ?_
    refine TC.skip ?_
    refine TC.seq ?_
    refine TC.region ?_
    refine S.q rfl rfl (Qt.assign (by conv => lhs; whnf)) ?_
    refine S.nil ?_
    refine TC.seq ?_
    refine TC.region ?_
    refine S.q rfl rfl (Qt.assign (by conv => lhs; whnf)) ?_
    refine S.nil ?_
    refine TC.seq ?_
    refine TC.seq ?_
    refine TC.region ?_
    refine S.q rfl rfl (Qt.move (by conv => lhs; whnf)) ?_
    refine S.q rfl rfl (Qt.len_slice Tryz.underlying111 rfl) ?_
    refine S.q rfl rfl (Qt.move (by conv => lhs; whnf)) ?_
    refine S.nil ?_
    refine TC.block ?_
    refine TC.ownNil 115 2 ?_
    refine TC.ownNil 114 2 ?_
    refine TC.loop (γ := Nat × (Option Addr × Nat) × Option Addr × Nat) [23, 24, 25, 26, 7, 8, 27, 28, 29, 4, 30, 31, 32, 33, 34, 35, 36, 37, 9, 38, 39, 40, 41, 42, 43, 5, 44, 45, 46, 47, 48, 49, 6, 50, 22] (fun g => [(22, .int .i64 ((g.1 : Nat) : Int)), (5, .slice g.2.1.1 g.1 g.2.1.2), (6, .slice g.2.2.1 g.1 g.2.2.2)]) (fun g => [OwnA 114 2 g.2.1.1 g.1 g.2.1.2 ((revP ts g.1).flatMap pxL), OwnA 115 2 g.2.2.1 g.1 g.2.2.2 ((revP ts g.1).flatMap pxL), Blk b3 67 (askL q p x)]) (fun g => g.1 ≤ ts.length ∧ ∀ i, i < g.1 → (ts.getD i tx0).2.2.length ≤ 300) (fun g => ts.length - g.1) ((0, (none, 0), none, 0))
      ⟨Nat.zero_le _, fun i h => absurd h (Nat.not_lt_zero _)⟩ ⟨Out.refl _ _, (List.forall_mem_cons.2 ⟨rfl, (List.forall_mem_cons.2 ⟨rfl, (List.forall_mem_cons.2 ⟨rfl, (fun _ h => nomatch h)⟩)⟩)⟩)⟩ (Sub.refl _) ?_
    rintro ⟨k, ⟨O, d⟩, O', d'⟩ u ⟨hk, h3⟩
    dsimp only at hk h3
    show TC _ _ _ (puts [(22, .int .i64 (k : Int)), (5, .slice O k d), (6, .slice O' k d')] (scr _ u _)) [OwnA 114 2 O k d ((revP ts k).flatMap pxL), OwnA 115 2 O' k d' ((revP ts k).flatMap pxL), Blk b3 67 (askL q p x)]
    refine TC.seq ?_
    refine TC.region ?_
    refine S.dec rfl rfl (Qt.lt rfl rfl) (fun h23 => ?_) (fun h23 => ?_)
    · refine S.nil ?_
      refine TC.seq ?_
      refine S.if_t rfl ?_
      refine TC.skip ?_
      refine TC.seq ?_
      refine TC.block ?_
      refine TC.seq ?_
      refine TC.region ?_
      refine S.q rfl rfl (Qt.move (by conv => lhs; whnf)) ?_
      refine S.q rfl rfl (Qt.index Tryz.underlying111 Tryz.cells112 rfl rfl (by omega) (Has.ro hR) (by rw [txL_len]; omega)) ?_
      refine S.q rfl rfl (Qt.load rfl (Ld.sl (v := .slice (ts.getD k tx0).1 (ts.getD k tx0).2.2.length (ts.getD k tx0).2.1) (Has.ro hR) Tryz.one112 (txL_at (by omega)))) ?_
      refine S.q rfl rfl (Qt.assign (by conv => lhs; whnf)) ?_
      refine S.q rfl rfl (Qt.assign (by conv => lhs; whnf)) ?_
      refine S.nil ?_
      refine TC.seq ?_
      refine TC.seq ?_
      refine TC.region ?_
      refine S.q rfl rfl (Qt.move (by conv => lhs; whnf)) ?_
      refine S.q rfl rfl (Qt.len_slice Tryz.underlying112 rfl) ?_
      refine S.dec rfl rfl (Qt.gt (b := 300) rfl rfl) (fun h29 => ?_) (fun h29 => ?_)
      · refine S.nil ?_
        refine S.if_t rfl ?_
        refine TC.seq ?_
        refine TC.region ?_
        refine S.q rfl rfl (Qt.assign (by conv => lhs; whnf)) ?_
        refine S.nil ?_
        refine TC.ret ?_
        refine finQ.ret (RVs.tmp (by conv => lhs; whnf) RVs.nil) (Sub.nil _) ?_
        exact ⟨rfl, rfl⟩
      · refine S.nil ?_
        refine S.if_f rfl ?_
        refine TC.skip ?_
        refine TC.seq ?_
        refine TC.region ?_
        refine S.q rfl rfl (Qt.move (by conv => lhs; whnf)) ?_
        refine S.q rfl rfl (Qt.move (by conv => lhs; whnf)) ?_
        refine S.q rfl rfl (Qt.len_slice Tryz.underlying111 rfl) ?_
        refine S.q rfl rfl (Qt.sub (b := 1) rfl rfl (by omega) (by simp only [kmax]; omega)) ?_
        refine S.q rfl rfl (Qt.move (by conv => lhs; whnf)) ?_
        refine S.q rfl rfl (Qt.sub (b := k) rfl rfl (by omega) (by simp only [kmax]; omega)) ?_
        refine S.q rfl rfl (Qt.index Tryz.underlying111 Tryz.cells112 rfl rfl (by omega) (Has.ro hR) (by rw [txL_len]; omega)) ?_
        refine S.q rfl rfl (Qt.load rfl (Ld.sl (v := .slice (ts.getD (ts.length - 1 - k) tx0).1 (ts.getD (ts.length - 1 - k) tx0).2.2.length (ts.getD (ts.length - 1 - k) tx0).2.1) (Has.ro hR) Tryz.one112 (txL_at (by omega)))) ?_
        refine S.q rfl rfl (Qt.assign (by conv => lhs; whnf)) ?_
        refine S.nil ?_
        refine TC.seq ?_
        refine TC.region ?_
        refine S.q rfl rfl (Qt.move (by conv => lhs; whnf)) ?_
        refine S.q rfl rfl (Qt.move (by conv => lhs; whnf)) ?_
        refine S.q rfl rfl (Qt.move (by conv => lhs; whnf)) ?_
        refine S.q rfl rfl (Qt.build2 (a := .slice (ts.getD k tx0).1 (ts.getD k tx0).2.2.length (ts.getD k tx0).2.1) (b := .slice (ts.getD (ts.length - 1 - k) tx0).1 (ts.getD (ts.length - 1 - k) tx0).2.2.length (ts.getD (ts.length - 1 - k) tx0).2.1) rfl rfl (Tryz.build66 _ _ _ _ _ _)) ?_
        refine S.opS rfl rfl (OpV.slice1 (bytes := 48) (v := .agg #[.slice (ts.getD k tx0).1 (ts.getD k tx0).2.2.length (ts.getD k tx0).2.1, .slice (ts.getD (ts.length - 1 - k) tx0).1 (ts.getD (ts.length - 1 - k) tx0).2.2.length (ts.getD (ts.length - 1 - k) tx0).2.1]) Tryz.underlying26 Tryz.elem114 (by decide) rfl rfl (fun gp => ?_))
        refine S.opS rfl rfl (OpV.app1 (bytes := 48) (news := [.slice (ts.getD k tx0).1 (ts.getD k tx0).2.2.length (ts.getD k tx0).2.1, .slice (ts.getD (ts.length - 1 - k) tx0).1 (ts.getD (ts.length - 1 - k) tx0).2.2.length (ts.getD (ts.length - 1 - k) tx0).2.1]) Tryz.underlying26 Tryz.elem114 rfl rfl (Has.blk (cs := [.slice (ts.getD k tx0).1 (ts.getD k tx0).2.2.length (ts.getD k tx0).2.1, .slice (ts.getD (ts.length - 1 - k) tx0).1 (ts.getD (ts.length - 1 - k) tx0).2.2.length (ts.getD (ts.length - 1 - k) tx0).2.1]) (Has.at 0 rfl)) rfl two_one (by simp only [maxLen]; omega) (by omega) (fun O3 d3 => ?_))
        refine S.q rfl rfl (Qt.assign (by conv => lhs; whnf)) ?_
        refine S.nil ?_
        refine TC.region ?_
        refine S.q rfl rfl (Qt.move (by conv => lhs; whnf)) ?_
        refine S.q rfl rfl (Qt.move (by conv => lhs; whnf)) ?_
        refine S.q rfl rfl (Qt.move (by conv => lhs; whnf)) ?_
        refine S.q rfl rfl (Qt.build2 (a := .slice (ts.getD k tx0).1 (ts.getD k tx0).2.2.length (ts.getD k tx0).2.1) (b := .slice (ts.getD (ts.length - 1 - k) tx0).1 (ts.getD (ts.length - 1 - k) tx0).2.2.length (ts.getD (ts.length - 1 - k) tx0).2.1) rfl rfl (Tryz.build77 _ _ _ _ _ _)) ?_
        refine S.opS rfl rfl (OpV.slice1 (bytes := 48) (v := .agg #[.slice (ts.getD k tx0).1 (ts.getD k tx0).2.2.length (ts.getD k tx0).2.1, .slice (ts.getD (ts.length - 1 - k) tx0).1 (ts.getD (ts.length - 1 - k) tx0).2.2.length (ts.getD (ts.length - 1 - k) tx0).2.1]) Tryz.underlying29 Tryz.elem115 (by decide) rfl rfl (fun gq => ?_))
        refine S.opS rfl rfl (OpV.app3 (bytes := 48) (news := [.slice (ts.getD k tx0).1 (ts.getD k tx0).2.2.length (ts.getD k tx0).2.1, .slice (ts.getD (ts.length - 1 - k) tx0).1 (ts.getD (ts.length - 1 - k) tx0).2.2.length (ts.getD (ts.length - 1 - k) tx0).2.1]) Tryz.underlying29 Tryz.elem115 rfl rfl (Has.blk (cs := [.slice (ts.getD k tx0).1 (ts.getD k tx0).2.2.length (ts.getD k tx0).2.1, .slice (ts.getD (ts.length - 1 - k) tx0).1 (ts.getD (ts.length - 1 - k) tx0).2.2.length (ts.getD (ts.length - 1 - k) tx0).2.1]) (Has.at 0 rfl)) rfl two_one (by simp only [maxLen]; omega) (by omega) (fun O4 d4 => ?_))
        refine S.q rfl rfl (Qt.assign (by conv => lhs; whnf)) ?_
        refine S.nil ?_
        refine TC.region ?_
        refine S.q rfl rfl (Qt.add (b := 1) rfl rfl (by simp only [kmax]; omega)) ?_
        refine S.q rfl rfl (Qt.move (by conv => lhs; whnf)) ?_
        refine S.nil ?_
        refine ⟨(k + 1, (O3, d3), O4, d4), ?_, ?_, ⟨?_, (List.forall_mem_cons.2 ⟨rfl, (List.forall_mem_cons.2 ⟨rfl, (List.forall_mem_cons.2 ⟨rfl, (fun _ h => nomatch h)⟩)⟩)⟩)⟩, (by dsimp only; rw [revP_step (by omega), List.flatMap_append]; exact Sub.trans (Sub.keep _ (Sub.keep _ (Sub.keep _ (Sub.drop _ (Sub.drop _ (Sub.nil [])))))) (Sub.trans (Sub.keep _ (Sub.trans (Sub.keep _ (Sub.trans (Sub.keep _ (Sub.refl _)) (Sub.of_perm (List.perm_middle (l₁ := [_, _]))))) (Sub.of_perm (List.perm_middle (l₁ := [_, _]))))) (Sub.of_perm (List.perm_middle (l₁ := [_, _])))))⟩
        · exact ⟨by show _ ≤ _; dsimp only; omega, fun i hi => (Nat.lt_or_ge i k).elim (h3 i) (fun h => by (obtain rfl : i = k := by dsimp only at hi; omega); omega)⟩
        · show _ < _; dsimp only; omega
        repeat (first | exact Out.refl _ _ | refine Out.put rfl ?_ | refine Out.puts rfl ?_ | refine Out.scr ?_ | refine Out.scr' rfl ?_)
    · refine S.nil ?_
      refine TC.seq ?_
      refine S.if_f rfl ?_
      refine TC.exit ?_
      refine TC.seq ?_
      refine TC.region ?_
      refine S.q rfl rfl (Qt.assign (by conv => lhs; whnf)) ?_
      refine S.nil ?_
      refine TC.seq ?_
      refine S.draw ([], []) Tryz.mixed (Sub.nil _) ?_
      obtain rfl : k = ts.length := by omega
      have h300 : ∀ i, i < ts.length → (ts.getD i tx0).2.2.length ≤ 300 := h3
      have el := revP_len (Nat.le_refl ts.length)
      refine D.qX (k := 0) rfl (by kernel_rfl) (by kernel_rfl) (by kernel_rfl) rfl rfl (Qt.move (by conv => lhs; whnf)) ?_
      refine D.qX (k := 1) rfl (by kernel_rfl) (by kernel_rfl) (by kernel_rfl) rfl rfl (Qt.move (by conv => lhs; whnf)) ?_
      refine D.cX (k := 2) rfl (by kernel_rfl) (by kernel_rfl) (by kernel_rfl) rfl rfl (CalU.con0 Tryz.ent10 rfl (fun w hw => (by have h := same_R O d (revP ts ts.length) O' d' (revP ts ts.length) (by rw [el]; omega) rfl w (Rd.own (Rd.at 0 rfl) w hw) (revP_ro fun t h => Rd.ro (ht t h) w hw) (revP_le h300) (Rd.own (Rd.at 1 rfl) w hw) (revP_ro fun t h => Rd.ro (ht t h) w hw) (revP_le h300) (hT.at hw) (hT2.at hw); rw [el] at h; exact h : Calls Tryz.prog 10 #[.slice O ts.length d, .slice O' ts.length d'] w (Ret w (.bool true))))) ?_
      refine D.qX (k := 3) rfl (by kernel_rfl) (by kernel_rfl) (by kernel_rfl) rfl rfl (Qt.move (by conv => lhs; whnf)) ?_
      refine D.qgX (k := 4) rfl (by kernel_rfl) (by kernel_rfl) (by kernel_rfl) rfl rfl rfl (Qt.move (by conv => lhs; whnf)) ?_
      refine D.qgX (k := 5) rfl (by kernel_rfl) (by kernel_rfl) (by kernel_rfl) rfl rfl rfl (Qt.field Tryz.underlying67 rfl Tryz.cells58 rfl) ?_
      refine D.qgX (k := 6) rfl (by kernel_rfl) (by kernel_rfl) (by kernel_rfl) rfl rfl rfl (Qt.load rfl (Ld.row (vs := ordL x) (Has.at 2 rfl) Tryz.row58 Tryz.cells58 (ask_ord _ _ _))) ?_
      refine D.cgX (k := 7) rfl (by kernel_rfl) (by kernel_rfl) (by kernel_rfl) rfl rfl rfl (CalU.con0 Tryz.ent38 rfl (fun w hw => Calls.ret (do38_walkN x w))) ?_
      refine D.cgX (k := 8) rfl (by kernel_rfl) (by kernel_rfl) (by kernel_rfl) rfl rfl rfl (CalU.con0 Tryz.ent22 rfl (fun w hw => is11 w)) ?_
      refine D.qX (k := 9) rfl (by kernel_rfl) (by kernel_rfl) (by kernel_rfl) rfl rfl (Qt.pick_t rfl (by conv => lhs; whnf)) ?_
      refine D.qX (k := 10) rfl (by kernel_rfl) (by kernel_rfl) (by kernel_rfl) rfl rfl (Qt.move (by conv => lhs; whnf)) ?_
      refine D.qgX (k := 11) rfl (by kernel_rfl) (by kernel_rfl) (by kernel_rfl) rfl rfl rfl (Qt.move (by conv => lhs; whnf)) ?_
      refine D.cgX (k := 12) rfl (by kernel_rfl) (by kernel_rfl) (by kernel_rfl) rfl rfl rfl (CalU.con0 Tryz.ent24 rfl (fun w hw => Calls.ret (root24_walkN w))) ?_
      refine D.qgX (k := 13) rfl (by kernel_rfl) (by kernel_rfl) (by kernel_rfl) rfl rfl rfl (Qt.build (v := hv zeroH) rfl (fun _ => by kernel_rfl)) ?_
      refine D.qgX (k := 14) rfl (by kernel_rfl) (by kernel_rfl) (by kernel_rfl) rfl rfl rfl (Qt.dT (Qt.eqH (a := zeroH) (b := zeroH) Tryz.guard49 Tryz.underlying49 Tryz.underlying5 Tryz.cells5 rfl rfl) rfl) ?_
      refine D.qX (k := 15) rfl (by kernel_rfl) (by kernel_rfl) (by kernel_rfl) rfl rfl (Qt.pick_t rfl (by conv => lhs; whnf)) ?_
      refine D.qX (k := 16) rfl (by kernel_rfl) (by kernel_rfl) (by kernel_rfl) rfl rfl (Qt.move (by conv => lhs; whnf)) ?_
      refine D.qgX (k := 17) rfl (by kernel_rfl) (by kernel_rfl) (by kernel_rfl) rfl rfl rfl (Qt.move (by conv => lhs; whnf)) ?_
      refine D.cgX (k := 18) rfl (by kernel_rfl) (by kernel_rfl) (by kernel_rfl) rfl rfl rfl (CalU.con0 Tryz.ent27 rfl (fun w hw => Calls.ret (blocks27_walkN w))) ?_
      refine D.qgX (k := 19) rfl (by kernel_rfl) (by kernel_rfl) (by kernel_rfl) rfl rfl rfl (Qt.dT (Qt.eq (b := 0) rfl rfl) (rfl)) ?_
      refine D.qX (k := 20) rfl (by kernel_rfl) (by kernel_rfl) (by kernel_rfl) rfl rfl (Qt.pick_t rfl (by conv => lhs; whnf)) ?_
      refine D.qX (k := 21) rfl (by kernel_rfl) (by kernel_rfl) (by kernel_rfl) rfl rfl (Qt.move (by conv => lhs; whnf)) ?_
      refine D.qgX (k := 22) rfl (by kernel_rfl) (by kernel_rfl) (by kernel_rfl) rfl rfl rfl (Qt.move (by conv => lhs; whnf)) ?_
      refine D.cgX (k := 23) rfl (by kernel_rfl) (by kernel_rfl) (by kernel_rfl) rfl rfl rfl (CalU.con0 Tryz.ent28 rfl (fun w hw => Calls.ret (len28_walkN w))) ?_
      refine D.qgX (k := 24) rfl (by kernel_rfl) (by kernel_rfl) (by kernel_rfl) rfl rfl rfl (Qt.dT (Qt.eq (b := 0) rfl rfl) (rfl)) ?_
      refine D.qX (k := 25) rfl (by kernel_rfl) (by kernel_rfl) (by kernel_rfl) rfl rfl (Qt.pick_t rfl (by conv => lhs; whnf)) ?_
      refine D.qX (k := 26) rfl (by kernel_rfl) (by kernel_rfl) (by kernel_rfl) rfl rfl (Qt.move (by conv => lhs; whnf)) ?_
      refine D.qgX (k := 27) rfl (by kernel_rfl) (by kernel_rfl) (by kernel_rfl) rfl rfl rfl (Qt.move (by conv => lhs; whnf)) ?_
      refine D.qgX (k := 28) rfl (by kernel_rfl) (by kernel_rfl) (by kernel_rfl) rfl rfl rfl (Qt.field Tryz.underlying67 rfl Tryz.cells63 rfl) ?_
      refine D.qgX (k := 29) rfl (by kernel_rfl) (by kernel_rfl) (by kernel_rfl) rfl rfl rfl (Qt.field Tryz.underlying63 rfl Tryz.cells22 rfl) ?_
      refine D.qgX (k := 30) rfl (by kernel_rfl) (by kernel_rfl) (by kernel_rfl) rfl rfl rfl (Qt.load rfl (Ld.one (v := .slice q.A q.xs.length q.c) (Has.at 2 rfl) Tryz.one22 (ask_rq0 _ _ _ q.k2))) ?_
      refine D.cgX (k := 31) rfl (by kernel_rfl) (by kernel_rfl) (by kernel_rfl) rfl rfl rfl (CalU.con0 Tryz.ent29 rfl (fun w hw => Calls.ret (items29_walkN _ w))) ?_
      refine D.qgX (k := 32) rfl (by kernel_rfl) (by kernel_rfl) (by kernel_rfl) rfl rfl rfl (Qt.len_slice Tryz.underlying23 rfl) ?_
      refine D.qgX (k := 33) rfl (by kernel_rfl) (by kernel_rfl) (by kernel_rfl) rfl rfl rfl (Qt.move (by conv => lhs; whnf)) ?_
      refine D.qgX (k := 34) rfl (by kernel_rfl) (by kernel_rfl) (by kernel_rfl) rfl rfl rfl (Qt.field Tryz.underlying67 rfl Tryz.cells63 rfl) ?_
      refine D.qgX (k := 35) rfl (by kernel_rfl) (by kernel_rfl) (by kernel_rfl) rfl rfl rfl (Qt.load rfl (Ld.row (vs := q.rq) (Has.at 2 rfl) Tryz.row63 (by rw [q.len]; exact Tryz.cells63) (ask_rq _ _ _))) ?_
      refine D.qgX (k := 36) rfl (by kernel_rfl) (by kernel_rfl) (by kernel_rfl) rfl rfl rfl (Qt.field Tryz.underlying67 rfl Tryz.cells65 rfl) ?_
      refine D.qgX (k := 37) rfl (by kernel_rfl) (by kernel_rfl) (by kernel_rfl) rfl rfl rfl (Qt.load rfl (Ld.row (vs := p.rs) (Has.at 2 rfl) Tryz.row65 (by rw [p.len]; exact Tryz.cells65) (ask_rs _ _ _))) ?_
      refine D.cgX (k := 38) rfl (by kernel_rfl) (by kernel_rfl) (by kernel_rfl) rfl rfl rfl (CalU.con0 Tryz.ent32 rfl (fun w hw => Calls.ret (read32_walkN q hq p w))) ?_
      refine D.qgX (k := 39) rfl (by kernel_rfl) (by kernel_rfl) (by kernel_rfl) rfl rfl rfl (Qt.len_slice Tryz.underlying26 rfl) ?_
      refine D.qgX (k := 40) rfl (by kernel_rfl) (by kernel_rfl) (by kernel_rfl) rfl rfl rfl (Qt.add rfl rfl (by simp only [kmax]; omega)) ?_
      refine D.qgX (k := 41) rfl (by kernel_rfl) (by kernel_rfl) (by kernel_rfl) rfl rfl rfl (Qt.move (by conv => lhs; whnf)) ?_
      refine D.qgX (k := 42) rfl (by kernel_rfl) (by kernel_rfl) (by kernel_rfl) rfl rfl rfl (Qt.field Tryz.underlying67 rfl Tryz.cells58 rfl) ?_
      refine D.qgX (k := 43) rfl (by kernel_rfl) (by kernel_rfl) (by kernel_rfl) rfl rfl rfl (Qt.load rfl (Ld.row (vs := ordL x) (Has.at 2 rfl) Tryz.row58 Tryz.cells58 (ask_ord _ _ _))) ?_
      refine D.qgX (k := 44) rfl (by kernel_rfl) (by kernel_rfl) (by kernel_rfl) rfl rfl rfl (Qt.field Tryz.underlying67 rfl Tryz.cells65 rfl) ?_
      refine D.qgX (k := 45) rfl (by kernel_rfl) (by kernel_rfl) (by kernel_rfl) rfl rfl rfl (Qt.load rfl (Ld.row (vs := p.rs) (Has.at 2 rfl) Tryz.row65 (by rw [p.len]; exact Tryz.cells65) (ask_rs _ _ _))) ?_
      refine D.cgX (k := 46) rfl (by kernel_rfl) (by kernel_rfl) (by kernel_rfl) rfl rfl rfl (CalU.con0 Tryz.ent35 rfl (fun w hw => Calls.ret (step35_walkN x p w))) ?_
      refine D.qgX (k := 47) rfl (by kernel_rfl) (by kernel_rfl) (by kernel_rfl) rfl rfl rfl (Qt.len_slice Tryz.underlying26 rfl) ?_
      refine D.qgX (k := 48) rfl (by kernel_rfl) (by kernel_rfl) (by kernel_rfl) rfl rfl rfl (Qt.add rfl rfl (by simp only [kmax]; omega)) ?_
      refine D.qgX (k := 49) rfl (by kernel_rfl) (by kernel_rfl) (by kernel_rfl) rfl rfl rfl (Qt.dT (Qt.eq (b := 0) rfl rfl) (rfl)) ?_
      refine D.qX (k := 50) rfl (by kernel_rfl) (by kernel_rfl) (by kernel_rfl) rfl rfl (Qt.pick_t rfl (by conv => lhs; whnf)) ?_
      refine D.qX (k := 51) rfl (by kernel_rfl) (by kernel_rfl) (by kernel_rfl) rfl rfl (Qt.assign (by conv => lhs; whnf)) ?_
      refine D.done (Sub.nil _) (by kernel_rfl) ?_
      refine TC.ret ?_
      refine finQ.ret (RVs.tmp (by conv => lhs; whnf) RVs.nil) (Sub.nil _) ?_
      exact ⟨rfl, rfl⟩
set_option maxHeartbeats 400000 in
theorem law6_walkE (E : Nat → H32) (hEm : ∀ w, Tabs 3 1 w [] → Calls Tryz.prog 55 #[] w (Ret w (.agg (hcs (emptL E)).toArray))) (hE0 : E 0 = shaH [0]) (A : Option Addr) (c : Nat) (ts : List Tx) (q : ReqA) (hq : q.first < 18446744073709551616) (p : RepA) (x : OrdA) (hn : 40 < ts.length) (w0 : World) (hR : Ro w0 [] (SlA A (ts.flatMap txL))) (ht : ∀ t ∈ ts, Ro w0 [] (SlA t.1 (bytesL t.2.2))) (hT : Tabs 3 1 w0 []) (hT2 : Tabs 2 0 w0 []) :
    Calls Tryz.prog 6 #[.slice A ts.length c, .agg (askL q p x).toArray] w0 (Post w0 [] fun v L => v = .bool true ∧ L = []) := by
  refine Calls.of (L := []) (n := 102) (rs := [.tmp 4]) Tryz.func6 rfl rfl rfl (Nat.le_of_ble_eq_true rfl) (Sat.nil _) ?_
  refine TC.seq ?_
  refine TC.region ?_
  refine S.opS rfl rfl (OpV.box (v := .agg (askL q p x).toArray) rfl (fun b3 => ?_))
  refine S.q rfl rfl (Qt.assign (by conv => lhs; whnf)) ?_
  refine S.nil ?_
  refine TC.seq ?_
  refine TC.seq ?_
  refine TC.region ?_
  refine S.opS rfl rfl (OpV.con0 Tryz.ent8 rfl (fun w hw => Calls.ret (alive5_walk E hEm w (hT.at hw))) ?_)
  refine S.q rfl rfl (Qt.not_t rfl) ?_
  refine S.nil ?_
  refine S.if_f rfl ?_
  refine TC.skip ?_
  refine TC.seq ?_
  refine TC.seq ?_
  refine TC.region ?_
  refine S.q rfl rfl (Qt.move (by conv => lhs; whnf)) ?_
  refine S.q rfl rfl (Qt.len_slice Tryz.underlying111 rfl) ?_
  refine S.q rfl rfl (Qt.dT (Qt.gt (b := 40) rfl rfl) (by omega)) ?_
  refine S.q rfl rfl (Qt.move (by conv => lhs; whnf)) ?_
  refine S.pass rfl rfl ?_
  refine S.pass rfl rfl ?_
  refine S.q rfl rfl (Qt.pick_t rfl (by conv => lhs; whnf)) ?_
  refine S.nil ?_
  refine S.if_t rfl ?_
  refine TC.seq ?_
  refine TC.region ?_
  refine S.q rfl rfl (Qt.assign (by conv => lhs; whnf)) ?_
  refine S.nil ?_
  refine TC.ret ?_
  refine finQ.ret (RVs.tmp (by conv => lhs; whnf) RVs.nil) (Sub.nil _) ?_
  exact ⟨rfl, rfl⟩
theorem extractFinds_R (A : Option Addr) (c : Nat) (ts : List Tx) (q : ReqA) (p : RepA) (x : OrdA) (w0 : World) (hq : q.Ok w0) (hR : Ro w0 [] (SlA A (ts.flatMap txL))) (ht : ∀ t ∈ ts, Ro w0 [] (SlA t.1 (bytesL t.2.2))) (hT : Tabs 3 1 w0 []) (hT2 : Tabs 2 0 w0 []) : Calls Tryz.prog 6 #[.slice A ts.length c, .agg (askL q p x).toArray] w0 (Post w0 [] fun v L => v = .bool true ∧ L = []) := by
  have hEm : ∀ w, Tabs 3 1 w [] → Calls Tryz.prog 55 #[] w (Ret w (.agg (hcs (emptL emptyH)).toArray)) := fun w h => empties_R w h
  by_cases hn : ts.length ≤ 40
  · exact law6_walk emptyH hEm rfl A c ts q hq.lt p x hn w0 hR ht hT hT2
  · exact law6_walkE emptyH hEm rfl A c ts q hq.lt p x (by omega) w0 hR ht hT hT2

end Go.Proofs.YtgdjcmehlhebdaaGreatDoor
