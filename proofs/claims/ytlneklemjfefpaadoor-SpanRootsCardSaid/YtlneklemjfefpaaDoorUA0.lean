/-
  Walks: the document's sides. Printed by a program of ours.
-/
import Derived.Test.YtlneklemjfefpaaDoorTU
import Derived.Test.YtlneklemjfefpaaDoorP1
namespace Go.Proofs.YtlneklemjfefpaaDoor
open Go.E
set_option linter.unusedVariables false
set_option maxRecDepth 4000

theorem Tryd.elem171 : elemT Tryd.prog 171 2 16 := elemT_of (by kernel_rfl)
theorem m2n0 {n : Nat} (h : n % 2 ≠ 0) : n % 2 = 1 := by omega
theorem m2n0f {n : Nat} (h : ¬ n % 2 ≠ 0) : ¬ n % 2 = 1 := by omega
theorem m2n1 {n : Nat} (h : n % 2 ≠ 1) : n % 2 = 0 := by omega
theorem m2n1f {n : Nat} (h : ¬ n % 2 ≠ 1) : ¬ n % 2 = 0 := by omega
set_option maxHeartbeats 400000 in
theorem rsides_walk (h f n : Nat) (hh : h ≤ 32) (hf : f + n ≤ 2 ^ h) (h1 : 1 ≤ n) (h2 : n ≤ 256) (w0 : World) :
    Calls Tryd.prog 50 #[.int .i64 (h : Int), .int .u64 (f : Int), .int .i64 (n : Int)] w0 (Post w0 [] fun v L => ∃ A1 c1 A2 c2, v = .tuple #[.slice A1 (sideL f h).length c1, .slice A2 (sideR (f + n - 1) h).length c2] ∧ L = [OwnA 171 2 A1 (sideL f h).length c1 (sdL (sideL f h)), OwnA 171 2 A2 (sideR (f + n - 1) h).length c2 (sdL (sideR (f + n - 1) h))]) := by
  refine Calls.of (L := []) (n := 54) (rs := [.tmp 6, .tmp 7]) Tryd.func50 rfl rfl rfl (Nat.le_of_ble_eq_true rfl) (Sat.nil _) ?_
  have hpw : 2 ^ h ≤ 4294967296 := (show 2 ^ h ≤ 2 ^ 32 from Nat.pow_le_pow_right (by decide) hh)
  refine TC.ownNil 171 2 ?_
  refine TC.ownNil 171 2 ?_
  refine TC.seq ?_
  refine TC.region ?_
  refine S.q rfl rfl (Qt.assign (by conv => lhs; whnf)) ?_
  refine S.q rfl rfl (Qt.assign (by conv => lhs; whnf)) ?_
  refine S.nil ?_
  refine TC.seq ?_
  refine TC.region ?_
  refine S.q rfl rfl (Qt.assign (by conv => lhs; whnf)) ?_
  refine S.q rfl rfl (Qt.assign (by conv => lhs; whnf)) ?_
  refine S.nil ?_
  refine TC.seq ?_
  refine TC.region ?_
  refine S.q rfl rfl (Qt.move (by conv => lhs; whnf)) ?_
  refine S.q rfl rfl (Qt.move (by conv => lhs; whnf)) ?_
  refine S.q rfl rfl (Qt.convert Tryd.underlying3 Tryd.underlying24 rfl (by simp only [kmax]; omega)) ?_
  refine S.q rfl rfl (Qt.add rfl rfl (by simp only [kmax]; omega)) ?_
  refine S.q rfl rfl (Qt.sub (b := 1) rfl rfl (by omega) (by simp only [kmax]; omega)) ?_
  refine S.q rfl rfl (Qt.assign (by conv => lhs; whnf)) ?_
  refine S.nil ?_
  refine TC.seq ?_
  refine TC.seq ?_
  refine TC.region ?_
  refine S.q rfl rfl (Qt.assign (by conv => lhs; whnf)) ?_
  refine S.nil ?_
  refine TC.block ?_
  refine TC.loop (γ := Nat × (Option Addr × Nat) × (Option Addr × Nat)) [19, 20, 21, 24, 25, 26, 27, 28, 29, 30, 31, 12, 13, 32, 33, 34, 35, 36, 37, 38, 39, 40, 41, 8, 42, 43, 44, 45, 46, 47, 48, 49, 50, 51, 9, 22, 23, 11] (fun g => [(11, .int .i64 ((g.1 : Nat) : Int)), (8, .slice g.2.1.1 (sideL f g.1).length g.2.1.2), (9, .slice g.2.2.1 (sideR (f + n - 1) g.1).length g.2.2.2)]) (fun g => [OwnA 171 2 g.2.1.1 (sideL f g.1).length g.2.1.2 (sdL (sideL f g.1)), OwnA 171 2 g.2.2.1 (sideR (f + n - 1) g.1).length g.2.2.2 (sdL (sideR (f + n - 1) g.1))]) (fun g => g.1 ≤ h) (fun g => h - g.1) ((0, (none, 0), (none, 0)))
    (Nat.zero_le _) ⟨Out.refl _ _, (List.forall_mem_cons.2 ⟨rfl, (List.forall_mem_cons.2 ⟨rfl, (List.forall_mem_cons.2 ⟨rfl, (fun _ h => nomatch h)⟩)⟩)⟩)⟩ (Sub.refl _) ?_
  rintro ⟨k, ⟨A1, c1⟩, ⟨A2, c2⟩⟩ u hk
  dsimp only at hk
  refine TC.seq ?_
  refine TC.seq ?_
  refine TC.region ?_
  refine S.q rfl rfl (Qt.move (by conv => lhs; whnf)) ?_
  refine S.q rfl rfl (Qt.move (by conv => lhs; whnf)) ?_
  refine S.dec rfl rfl (Qt.lt rfl rfl) (fun h21 => ?_) (fun h21 => ?_)
  · refine S.nil ?_
    refine S.if_t rfl ?_
    refine TC.skip ?_
    refine TC.seq ?_
    refine TC.block ?_
    refine TC.seq ?_
    refine TC.region ?_
    refine S.q rfl rfl (Qt.move (by conv => lhs; whnf)) ?_
    refine S.q rfl rfl (Qt.move (by conv => lhs; whnf)) ?_
    refine S.q rfl rfl (Qt.convert Tryd.underlying3 Tryd.underlying155 rfl (by simp only [kmax]; omega)) ?_
    refine S.q rfl rfl (Qt.shrN rfl rfl (by simp only [kmax]; omega)) ?_
    refine S.q rfl rfl (Qt.move (by conv => lhs; whnf)) ?_
    refine S.q rfl rfl (Qt.move (by conv => lhs; whnf)) ?_
    refine S.q rfl rfl (Qt.convert Tryd.underlying3 Tryd.underlying155 rfl (by simp only [kmax]; omega)) ?_
    refine S.q rfl rfl (Qt.shrN rfl rfl (by simp only [kmax]; omega)) ?_
    refine S.q rfl rfl (Qt.assign (by conv => lhs; whnf)) ?_
    refine S.q rfl rfl (Qt.assign (by conv => lhs; whnf)) ?_
    refine S.nil ?_
    refine TC.seq ?_
    refine TC.seq ?_
    refine TC.region ?_
    refine S.q rfl rfl (Qt.move (by conv => lhs; whnf)) ?_
    refine S.q rfl rfl (Qt.rem (b := 2) rfl rfl (by omega)) ?_
    refine S.dec rfl rfl (Qt.ne (b := 0) rfl rfl) (fun h34 => ?_) (fun h34 => ?_)
    · refine S.nil ?_
      refine S.if_t rfl ?_
      refine TC.region ?_
      refine S.q rfl rfl (Qt.move (by conv => lhs; whnf)) ?_
      refine S.q rfl rfl (Qt.move (by conv => lhs; whnf)) ?_
      refine S.q rfl rfl (Qt.move (by conv => lhs; whnf)) ?_
      refine S.q rfl rfl (Qt.sub (b := 1) rfl rfl (by have h34b := m2n0 h34; generalize f / 2 ^ k = m at h34b ⊢; omega) (by have := Nat.div_le_self f (2 ^ k); simp only [kmax]; omega)) ?_
      refine S.q rfl rfl (Qt.as (Qt.buildS (vs := [.int .i64 (k : Int), .int .u64 ((f / 2 ^ k - 1 : Nat) : Int)]) (pls := #[(0, 1), (1, 1)]) Tryd.underlying171 (fun w => by kernel_rfl) Tryd.zero171 rfl ⟨rfl, rfl, trivial⟩ rfl) (show _ = Value.agg #[.int .i64 (k : Int), .int .u64 ((f / 2 ^ k - 1 : Nat) : Int)] from rfl)) ?_
      refine S.opS rfl rfl (OpV.slice1 (bytes := 16) (v := .agg #[.int .i64 (k : Int), .int .u64 ((f / 2 ^ k - 1 : Nat) : Int)]) Tryd.underlying82 Tryd.elem171 (by decide) rfl rfl (fun g40 => ?_))
      refine S.opS rfl rfl (OpV.app1 (bytes := 16) (news := sdL [(k, f / 2 ^ k - 1)]) Tryd.underlying82 Tryd.elem171 rfl rfl (Has.blk (cs := sdL [(k, f / 2 ^ k - 1)]) (Has.at 0 rfl)) rfl (sdL_one _) (by have := sideL_len f k; simp only [maxLen]; omega) (by have := sideL_len f k; (try dsimp only); omega) (fun O1 d1 => ?_))
      refine S.q rfl rfl (Qt.assign (by conv => lhs; whnf)) ?_
      refine S.nil ?_
      refine TC.seq ?_
      refine TC.region ?_
      refine S.q rfl rfl (Qt.move (by conv => lhs; whnf)) ?_
      refine S.q rfl rfl (Qt.rem (b := 2) rfl rfl (by omega)) ?_
      refine S.dec rfl rfl (Qt.ne (b := 1) rfl rfl) (fun h44 => ?_) (fun h44 => ?_)
      · refine S.nil ?_
        refine S.if_t rfl ?_
        refine TC.region ?_
        refine S.q rfl rfl (Qt.move (by conv => lhs; whnf)) ?_
        refine S.q rfl rfl (Qt.move (by conv => lhs; whnf)) ?_
        refine S.q rfl rfl (Qt.move (by conv => lhs; whnf)) ?_
        refine S.q rfl rfl (Qt.add (b := 1) rfl rfl (by have := Nat.div_le_self (f + n - 1) (2 ^ k); simp only [kmax]; omega)) ?_
        refine S.q rfl rfl (Qt.as (Qt.buildS (vs := [.int .i64 (k : Int), .int .u64 (((f + n - 1) / 2 ^ k + 1 : Nat) : Int)]) (pls := #[(0, 1), (1, 1)]) Tryd.underlying171 (fun w => by kernel_rfl) Tryd.zero171 rfl ⟨rfl, rfl, trivial⟩ rfl) (show _ = Value.agg #[.int .i64 (k : Int), .int .u64 (((f + n - 1) / 2 ^ k + 1 : Nat) : Int)] from rfl)) ?_
        refine S.opS rfl rfl (OpV.slice1 (bytes := 16) (v := .agg #[.int .i64 (k : Int), .int .u64 (((f + n - 1) / 2 ^ k + 1 : Nat) : Int)]) Tryd.underlying82 Tryd.elem171 (by decide) rfl rfl (fun g50 => ?_))
        refine S.opS rfl rfl (OpV.app3 (bytes := 16) (news := sdL [(k, (f + n - 1) / 2 ^ k + 1)]) Tryd.underlying82 Tryd.elem171 rfl rfl (Has.blk (cs := sdL [(k, (f + n - 1) / 2 ^ k + 1)]) (Has.at 0 rfl)) rfl (sdL_one _) (by have := sideR_len (f + n - 1) k; simp only [maxLen]; omega) (by have := sideR_len (f + n - 1) k; (try dsimp only); omega) (fun O2 d2 => ?_))
        refine S.q rfl rfl (Qt.assign (by conv => lhs; whnf)) ?_
        refine S.nil ?_
        refine TC.region ?_
        refine S.q rfl rfl (Qt.move (by conv => lhs; whnf)) ?_
        refine S.q rfl rfl (Qt.add (b := 1) rfl rfl (by simp only [kmax]; omega)) ?_
        refine S.q rfl rfl (Qt.assign (by conv => lhs; whnf)) ?_
        refine S.nil ?_
        refine ⟨(k + 1, (O1, d1), (O2, d2)), ?_, ?_, ⟨?_, (List.forall_mem_cons.2 ⟨rfl, (List.forall_mem_cons.2 ⟨(by show Value.slice O1 ((sideL f k).length + 1) d1 = Value.slice O1 (sideL f (k + 1)).length d1; rw [sideL_1 (m2n0 h34), len_snoc]), (List.forall_mem_cons.2 ⟨(by show Value.slice O2 ((sideR (f + n - 1) k).length + 1) d2 = Value.slice O2 (sideR (f + n - 1) (k + 1)).length d2; rw [sideR_1 (m2n1 h44), len_snoc]), (fun _ h => nomatch h)⟩)⟩)⟩)⟩, (by dsimp only; rw [sideL_1 (m2n0 h34), len_snoc, sdL_app, sideR_1 (m2n1 h44), len_snoc, sdL_app]; exact Sub.trans (Sub.keep _ (Sub.keep _ (Sub.drop _ (Sub.drop _ (Sub.nil []))))) (Sub.trans (Sub.keep _ (Sub.trans (Sub.keep _ (Sub.refl _)) (Sub.of_perm (List.perm_middle (l₁ := [_, _]))))) (Sub.of_perm (List.perm_middle (l₁ := [_, _])))))⟩
        · show _ ≤ _; dsimp only; omega
        · show _ < _; dsimp only; omega
        repeat (first | exact Out.refl _ _ | refine Out.put rfl ?_ | refine Out.puts rfl ?_ | refine Out.scr ?_ | refine Out.scr' rfl ?_)
      · refine S.nil ?_
        refine S.if_f rfl ?_
        refine TC.skip ?_
        refine TC.region ?_
        refine S.q rfl rfl (Qt.move (by conv => lhs; whnf)) ?_
        refine S.q rfl rfl (Qt.add (b := 1) rfl rfl (by simp only [kmax]; omega)) ?_
        refine S.q rfl rfl (Qt.assign (by conv => lhs; whnf)) ?_
        refine S.nil ?_
        refine ⟨(k + 1, (O1, d1), (A2, c2)), ?_, ?_, ⟨?_, (List.forall_mem_cons.2 ⟨rfl, (List.forall_mem_cons.2 ⟨(by show Value.slice O1 ((sideL f k).length + 1) d1 = Value.slice O1 (sideL f (k + 1)).length d1; rw [sideL_1 (m2n0 h34), len_snoc]), (List.forall_mem_cons.2 ⟨(by show Value.slice A2 (sideR (f + n - 1) k).length c2 = Value.slice A2 (sideR (f + n - 1) (k + 1)).length c2; rw [sideR_0 (m2n1f h44)]), (fun _ h => nomatch h)⟩)⟩)⟩)⟩, (by dsimp only; rw [sideL_1 (m2n0 h34), len_snoc, sdL_app, sideR_0 (m2n1f h44)]; exact Sub.trans (Sub.keep _ (Sub.keep _ (Sub.drop _ (Sub.nil [])))) (Sub.trans (Sub.keep _ (Sub.trans (Sub.keep _ (Sub.refl _)) (Sub.of_perm (List.perm_middle (l₁ := [_]))))) (Sub.of_perm (List.perm_middle (l₁ := [_])))))⟩
        · show _ ≤ _; dsimp only; omega
        · show _ < _; dsimp only; omega
        repeat (first | exact Out.refl _ _ | refine Out.put rfl ?_ | refine Out.puts rfl ?_ | refine Out.scr ?_ | refine Out.scr' rfl ?_)
    · refine S.nil ?_
      refine S.if_f rfl ?_
      refine TC.skip ?_
      refine TC.seq ?_
      refine TC.region ?_
      refine S.q rfl rfl (Qt.move (by conv => lhs; whnf)) ?_
      refine S.q rfl rfl (Qt.rem (b := 2) rfl rfl (by omega)) ?_
      refine S.dec rfl rfl (Qt.ne (b := 1) rfl rfl) (fun h44 => ?_) (fun h44 => ?_)
      · refine S.nil ?_
        refine S.if_t rfl ?_
        refine TC.region ?_
        refine S.q rfl rfl (Qt.move (by conv => lhs; whnf)) ?_
        refine S.q rfl rfl (Qt.move (by conv => lhs; whnf)) ?_
        refine S.q rfl rfl (Qt.move (by conv => lhs; whnf)) ?_
        refine S.q rfl rfl (Qt.add (b := 1) rfl rfl (by have := Nat.div_le_self (f + n - 1) (2 ^ k); simp only [kmax]; omega)) ?_
        refine S.q rfl rfl (Qt.as (Qt.buildS (vs := [.int .i64 (k : Int), .int .u64 (((f + n - 1) / 2 ^ k + 1 : Nat) : Int)]) (pls := #[(0, 1), (1, 1)]) Tryd.underlying171 (fun w => by kernel_rfl) Tryd.zero171 rfl ⟨rfl, rfl, trivial⟩ rfl) (show _ = Value.agg #[.int .i64 (k : Int), .int .u64 (((f + n - 1) / 2 ^ k + 1 : Nat) : Int)] from rfl)) ?_
        refine S.opS rfl rfl (OpV.slice1 (bytes := 16) (v := .agg #[.int .i64 (k : Int), .int .u64 (((f + n - 1) / 2 ^ k + 1 : Nat) : Int)]) Tryd.underlying82 Tryd.elem171 (by decide) rfl rfl (fun g50 => ?_))
        refine S.opS rfl rfl (OpV.app2 (bytes := 16) (news := sdL [(k, (f + n - 1) / 2 ^ k + 1)]) Tryd.underlying82 Tryd.elem171 rfl rfl (Has.blk (cs := sdL [(k, (f + n - 1) / 2 ^ k + 1)]) (Has.at 0 rfl)) rfl (sdL_one _) (by have := sideR_len (f + n - 1) k; simp only [maxLen]; omega) (by have := sideR_len (f + n - 1) k; (try dsimp only); omega) (fun O2 d2 => ?_))
        refine S.q rfl rfl (Qt.assign (by conv => lhs; whnf)) ?_
        refine S.nil ?_
        refine TC.region ?_
        refine S.q rfl rfl (Qt.move (by conv => lhs; whnf)) ?_
        refine S.q rfl rfl (Qt.add (b := 1) rfl rfl (by simp only [kmax]; omega)) ?_
        refine S.q rfl rfl (Qt.assign (by conv => lhs; whnf)) ?_
        refine S.nil ?_
        refine ⟨(k + 1, (A1, c1), (O2, d2)), ?_, ?_, ⟨?_, (List.forall_mem_cons.2 ⟨rfl, (List.forall_mem_cons.2 ⟨(by show Value.slice A1 (sideL f k).length c1 = Value.slice A1 (sideL f (k + 1)).length c1; rw [sideL_0 (m2n0f h34)]), (List.forall_mem_cons.2 ⟨(by show Value.slice O2 ((sideR (f + n - 1) k).length + 1) d2 = Value.slice O2 (sideR (f + n - 1) (k + 1)).length d2; rw [sideR_1 (m2n1 h44), len_snoc]), (fun _ h => nomatch h)⟩)⟩)⟩)⟩, (by dsimp only; rw [sideL_0 (m2n0f h34), sideR_1 (m2n1 h44), len_snoc, sdL_app]; exact Sub.trans (Sub.keep _ (Sub.keep _ (Sub.drop _ (Sub.nil [])))) (Sub.trans (Sub.keep _ (Sub.trans (Sub.keep _ (Sub.refl _)) (Sub.of_perm (List.perm_middle (l₁ := [_]))))) (Sub.of_perm (List.perm_middle (l₁ := [_])))))⟩
        · show _ ≤ _; dsimp only; omega
        · show _ < _; dsimp only; omega
        repeat (first | exact Out.refl _ _ | refine Out.put rfl ?_ | refine Out.puts rfl ?_ | refine Out.scr ?_ | refine Out.scr' rfl ?_)
      · refine S.nil ?_
        refine S.if_f rfl ?_
        refine TC.skip ?_
        refine TC.region ?_
        refine S.q rfl rfl (Qt.move (by conv => lhs; whnf)) ?_
        refine S.q rfl rfl (Qt.add (b := 1) rfl rfl (by simp only [kmax]; omega)) ?_
        refine S.q rfl rfl (Qt.assign (by conv => lhs; whnf)) ?_
        refine S.nil ?_
        refine ⟨(k + 1, (A1, c1), (A2, c2)), ?_, ?_, ⟨?_, (List.forall_mem_cons.2 ⟨rfl, (List.forall_mem_cons.2 ⟨(by show Value.slice A1 (sideL f k).length c1 = Value.slice A1 (sideL f (k + 1)).length c1; rw [sideL_0 (m2n0f h34)]), (List.forall_mem_cons.2 ⟨(by show Value.slice A2 (sideR (f + n - 1) k).length c2 = Value.slice A2 (sideR (f + n - 1) (k + 1)).length c2; rw [sideR_0 (m2n1f h44)]), (fun _ h => nomatch h)⟩)⟩)⟩)⟩, (by dsimp only; rw [sideL_0 (m2n0f h34), sideR_0 (m2n1f h44)]; exact Sub.refl _)⟩
        · show _ ≤ _; dsimp only; omega
        · show _ < _; dsimp only; omega
        repeat (first | exact Out.refl _ _ | refine Out.put rfl ?_ | refine Out.puts rfl ?_ | refine Out.scr ?_ | refine Out.scr' rfl ?_)
  · refine S.nil ?_
    refine S.if_f rfl ?_
    refine TC.exit ?_
    refine TC.seq ?_
    refine TC.region ?_
    refine S.q rfl rfl (Qt.move (by conv => lhs; whnf)) ?_
    refine S.q rfl rfl (Qt.move (by conv => lhs; whnf)) ?_
    refine S.q rfl rfl (Qt.assign (by conv => lhs; whnf)) ?_
    refine S.q rfl rfl (Qt.assign (by conv => lhs; whnf)) ?_
    refine S.nil ?_
    refine TC.ret ?_
    refine finQ.ret (RVs.tmp (by conv => lhs; whnf) (RVs.tmp (by conv => lhs; whnf) RVs.nil)) (Sub.refl _) ?_
    obtain rfl : k = h := by omega
    exact ⟨A1, c1, A2, c2, rfl, rfl⟩
end Go.Proofs.YtlneklemjfefpaaDoor
