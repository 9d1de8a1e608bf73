/-
  Walks: the law of a span's proof. Printed by a program of ours.
-/
import Derived.Test.YtlneklemjfefpaaDoorTY
import Derived.Test.YtlneklemjfefpaaDoorPL
namespace Go.Proofs.YtlneklemjfefpaaDoor
open Go.E
set_option linter.unusedVariables false
set_option maxRecDepth 4000
theorem Tryd.cells171 : (Tryd.prog.info? 171).map (·.size) = some 2 := by kernel_rfl
theorem Tryd.row171 : rowT Tryd.prog 171 = true := by kernel_rfl
theorem Tryd.zero171 : zeroOf Tryd.prog 171 = some ([.int .i64 0] ++ [.int .u64 0]) := by kernel_rfl
theorem Tryd.ent48 : Enters Tryd.prog 48 := ⟨_, Tryd.func48, by kernel_rfl, rfl⟩
theorem Tryd.ent50 : Enters Tryd.prog 50 := ⟨_, Tryd.func50, by kernel_rfl, rfl⟩
theorem Tryd.ent51 : Enters Tryd.prog 51 := ⟨_, Tryd.func51, by kernel_rfl, rfl⟩
theorem Tryd.elem171 : elemT Tryd.prog 171 2 16 := elemT_of (by kernel_rfl)
theorem m2n0 {n : Nat} (h : n % 2 ≠ 0) : n % 2 = 1 := by omega
theorem m2n0f {n : Nat} (h : ¬ n % 2 ≠ 0) : ¬ n % 2 = 1 := by omega
theorem m2n1 {n : Nat} (h : n % 2 ≠ 1) : n % 2 = 0 := by omega
theorem m2n1f {n : Nat} (h : ¬ n % 2 ≠ 1) : ¬ n % 2 = 0 := by omega
theorem map_step {α : Type} (F : α → H32) (d : α) {s : List α} {k : Nat} (h : k < s.length) : hcs ((s.take k).map F) ++ hvl (F (s.getD k d)) = hcs ((s.take (k + 1)).map F) := by
  have e : s.take (k + 1) = s.take k ++ [s.getD k d] := by
    rw [List.take_succ_eq_append_getElem h]; simp [List.getD, h]
  rw [e, List.map_append, hcs_append, List.map_singleton, hcs_cons, hcs_nil, List.append_nil]
theorem sideL_ok {a height : Nat} (h : a < 2 ^ height) : ∀ x ∈ sideL a height, okAt height x := by
  have : ∀ k, k ≤ height → ∀ x ∈ sideL a k, okAt height x := by
    intro k
    induction k with
    | zero => intro _ x hx; cases hx
    | succ k ih =>
      intro hk x hx
      rw [sideL] at hx
      split at hx
      · rename_i hb
        rcases List.mem_append.1 hx with h1 | h1
        · exact ih (by omega) x h1
        · rw [List.mem_singleton.1 h1]; exact side_left h (by omega) hb
      · exact ih (by omega) x hx
  exact this height (Nat.le_refl _)
theorem sideR_ok {b height : Nat} (h : b < 2 ^ height) : ∀ x ∈ sideR b height, okAt height x := by
  have : ∀ k, k ≤ height → ∀ x ∈ sideR b k, okAt height x := by
    intro k
    induction k with
    | zero => intro _ x hx; cases hx
    | succ k ih =>
      intro hk x hx
      rw [sideR] at hx
      split at hx
      · rename_i hb
        rcases List.mem_append.1 hx with h1 | h1
        · exact ih (by omega) x h1
        · rw [List.mem_singleton.1 h1]; exact side_right h (by omega) hb
      · exact ih (by omega) x hx
  exact this height (Nat.le_refl _)
set_option maxHeartbeats 400000 in
theorem make_walkF (E : Nat → H32) (tb mb height f : Nat) (z : Int) (hr : ∀ w, Calls Tryd.prog 49 #[.int .i64 (height : Int), .int .u64 (f : Int), .int .i64 z] w (Ret w (.bool false))) (w0 : World) (hB : Ro w0 [] (Blk tb 150 (treeCs E height mb))) :
    Calls Tryd.prog 47 #[.pointer (some ⟨tb, 0, none⟩), .int .u64 (f : Int), .int .i64 z] w0 (Post w0 [] fun v L => v = .tuple #[.agg #[.slice none 0 0, .slice none 0 0], .iface 58 (.int .i64 1)] ∧ L = []) := by
  refine Calls.of (L := []) (n := 42) (rs := [.cell 6 77, .tmp 7]) Tryd.func47 rfl rfl rfl (Nat.le_of_ble_eq_true rfl) (Sat.nil _) ?_
  refine TC.seq ?_
  refine TC.region ?_
  refine S.opS rfl rfl (OpV.box (by conv => lhs; whnf) (fun b3 => ?_))
  refine S.opS rfl rfl (OpV.alloc Tryd.zero77 (fun b6 => ?_))
  refine S.q rfl rfl (Qt.assign (by conv => lhs; whnf)) ?_
  refine S.nil ?_
  refine TC.seq ?_
  refine TC.block ?_
  refine TC.seq ?_
  refine TC.region ?_
  refine S.q rfl rfl (Qt.load rfl (Ld.one (Has.at 1 rfl) Tryd.one35 rfl)) ?_
  refine S.q rfl rfl (Qt.eqp_some Tryd.underlying35 rfl) ?_
  refine S.q rfl rfl (Qt.assign (by conv => lhs; whnf)) ?_
  refine S.nil ?_
  refine S.if_f rfl ?_
  refine TC.seq ?_
  refine TC.region ?_
  refine S.q rfl rfl (Qt.load rfl (Ld.one (Has.at 1 rfl) Tryd.one35 rfl)) ?_
  refine S.opS rfl rfl (OpV.con0 Tryd.ent85 rfl (fun w hw => height85_R E tb mb height w (Rd.ro hB w hw)) ?_)
  refine S.q rfl rfl (Qt.move (by conv => lhs; whnf)) ?_
  refine S.q rfl rfl (Qt.move (by conv => lhs; whnf)) ?_
  refine S.opS rfl rfl (OpV.con0 Tryd.ent49 rfl (fun w hw => hr w) ?_)
  refine S.q rfl rfl (Qt.not_f rfl) ?_
  refine S.q rfl rfl (Qt.assign (by conv => lhs; whnf)) ?_
  refine S.nil ?_
  refine S.if_t rfl ?_
  refine TC.seq ?_
  refine TC.region ?_
  refine S.q rfl rfl (Qt.build (v := .agg #[.slice none 0 0, .slice none 0 0]) rfl (fun _ => by kernel_rfl)) ?_
  refine S.q rfl rfl (Qt.makeInterface Tryd.underlying58 (fun _ h => nomatch h) (by conv => lhs; whnf)) ?_
  refine S.opN rfl (OpV.storeV0 rfl (by conv => lhs; whnf) (by exact Tryd.cells77) (by rfl) (by rfl) ?_)
  refine S.q rfl rfl (Qt.assign (by conv => lhs; whnf)) ?_
  refine S.nil ?_
  refine TC.ret ?_
  refine finQ.ret (RVs.cell rfl (Ld.all (Has.at 0 rfl) Tryd.row77 (Tryd.cells77)) (RVs.tmp (by conv => lhs; whnf) RVs.nil)) (Sub.nil _) ?_
  exact ⟨rfl, rfl⟩
set_option maxHeartbeats 400000 in
theorem counts_walkF (h f : Nat) (z : Int) (hr : ∀ w, Calls Tryd.prog 49 #[.int .i64 (h : Int), .int .u64 (f : Int), .int .i64 z] w (Ret w (.bool false))) (w0 : World) :
    Calls Tryd.prog 48 #[.int .i64 (h : Int), .int .u64 (f : Int), .int .i64 z] w0 (Post w0 [] fun v L => v = .tuple #[.int .i64 0, .int .i64 0, .iface 58 (.int .i64 1)] ∧ L = []) := by
  refine Calls.of (L := []) (n := 23) (rs := [.cell 6 3, .cell 7 3, .tmp 8]) Tryd.func48 rfl rfl rfl (Nat.le_of_ble_eq_true rfl) (Sat.nil _) ?_
  refine TC.seq ?_
  refine TC.region ?_
  refine S.opS rfl rfl (OpV.alloc Tryd.zero3 (fun b6 => ?_))
  refine S.opS rfl rfl (OpV.alloc Tryd.zero3 (fun b7 => ?_))
  refine S.q rfl rfl (Qt.assign (by conv => lhs; whnf)) ?_
  refine S.nil ?_
  refine TC.seq ?_
  refine TC.seq ?_
  refine TC.region ?_
  refine S.q rfl rfl (Qt.move (by conv => lhs; whnf)) ?_
  refine S.q rfl rfl (Qt.move (by conv => lhs; whnf)) ?_
  refine S.q rfl rfl (Qt.move (by conv => lhs; whnf)) ?_
  refine S.opS rfl rfl (OpV.con0 Tryd.ent49 rfl (fun w hw => hr w) ?_)
  refine S.q rfl rfl (Qt.not_f rfl) ?_
  refine S.nil ?_
  refine S.if_t rfl ?_
  refine TC.seq ?_
  refine TC.region ?_
  refine S.q rfl rfl (Qt.makeInterface Tryd.underlying58 (fun _ h => nomatch h) (by conv => lhs; whnf)) ?_
  refine S.opN rfl (OpV.storeV1 rfl (by conv => lhs; whnf) (by exact Tryd.cells3) (by rfl) (by rfl) ?_)
  refine S.opN rfl (OpV.storeV0 rfl (by conv => lhs; whnf) (by exact Tryd.cells3) (by rfl) (by rfl) ?_)
  refine S.q rfl rfl (Qt.assign (by conv => lhs; whnf)) ?_
  refine S.nil ?_
  refine TC.ret ?_
  refine finQ.ret (RVs.cell rfl (Ld.one (Has.at 1 rfl) Tryd.one3 (rfl)) (RVs.cell rfl (Ld.one (Has.at 0 rfl) Tryd.one3 (rfl)) (RVs.tmp (by conv => lhs; whnf) RVs.nil))) (Sub.nil _) ?_
  exact ⟨rfl, rfl⟩
set_option maxHeartbeats 400000 in
theorem rsides_walk (h f n : Nat) (hh : h ≤ 32) (hf : f + n ≤ 2 ^ h) (h1 : 1 ≤ n) (h2 : n ≤ 256) (w0 : World) :
    Calls Tryd.prog 50 #[.int .i64 (h : Int), .int .u64 (f : Int), .int .i64 (n : Int)] w0 (Post w0 [] fun v L => ∃ A1 c1 A2 c2, v = .tuple #[.slice A1 (sideL f h).length c1, .slice A2 (sideR (f + n - 1) h).length c2] ∧ L = [OwnA 171 2 A1 (sideL f h).length c1 (sdL (sideL f h)), OwnA 171 2 A2 (sideR (f + n - 1) h).length c2 (sdL (sideR (f + n - 1) h))]) := by
  refine Calls.of (L := []) (n := 54) (rs := [.tmp 6, .tmp 7]) Tryd.func50 rfl rfl rfl (Nat.le_of_ble_eq_true rfl) (Sat.nil _) ?_
  have hpw : 2 ^ h ≤ 4294967296 := (show 2 ^ h ≤ 2 ^ 32 from Nat.pow_le_pow_right (by decide) hh)
  refine TC.ownNil 171 2 ?_
  refine TC.ownNil 171 2 ?_
  refine TC.seq ?_
  refine TC.region ?_
  refine S.q rfl rfl (Qt.assign (by conv => lhs; whnf)) ?_
  refine S.q rfl rfl (Qt.assign (by conv => lhs; whnf)) ?_
  refine S.nil ?_
  refine TC.seq ?_
  refine TC.region ?_
  refine S.q rfl rfl (Qt.assign (by conv => lhs; whnf)) ?_
  refine S.q rfl rfl (Qt.assign (by conv => lhs; whnf)) ?_
  refine S.nil ?_
  refine TC.seq ?_
  refine TC.region ?_
  refine S.q rfl rfl (Qt.move (by conv => lhs; whnf)) ?_
  refine S.q rfl rfl (Qt.move (by conv => lhs; whnf)) ?_
  refine S.q rfl rfl (Qt.convert Tryd.underlying3 Tryd.underlying24 rfl (by simp only [kmax]; omega)) ?_
  refine S.q rfl rfl (Qt.add rfl rfl (by simp only [kmax]; omega)) ?_
  refine S.q rfl rfl (Qt.sub (b := 1) rfl rfl (by omega) (by simp only [kmax]; omega)) ?_
  refine S.q rfl rfl (Qt.assign (by conv => lhs; whnf)) ?_
  refine S.nil ?_
  refine TC.seq ?_
  refine TC.seq ?_
  refine TC.region ?_
  refine S.q rfl rfl (Qt.assign (by conv => lhs; whnf)) ?_
  refine S.nil ?_
  refine TC.block ?_
  refine TC.loop (γ := Nat × (Option Addr × Nat) × (Option Addr × Nat)) [19, 20, 21, 24, 25, 26, 27, 28, 29, 30, 31, 12, 13, 32, 33, 34, 35, 36, 37, 38, 39, 40, 41, 8, 42, 43, 44, 45, 46, 47, 48, 49, 50, 51, 9, 22, 23, 11] (fun g => [(11, .int .i64 ((g.1 : Nat) : Int)), (8, .slice g.2.1.1 (sideL f g.1).length g.2.1.2), (9, .slice g.2.2.1 (sideR (f + n - 1) g.1).length g.2.2.2)]) (fun g => [OwnA 171 2 g.2.1.1 (sideL f g.1).length g.2.1.2 (sdL (sideL f g.1)), OwnA 171 2 g.2.2.1 (sideR (f + n - 1) g.1).length g.2.2.2 (sdL (sideR (f + n - 1) g.1))]) (fun g => g.1 ≤ h) (fun g => h - g.1) ((0, (none, 0), (none, 0)))
    (Nat.zero_le _) ⟨Out.refl _ _, (List.forall_mem_cons.2 ⟨rfl, (List.forall_mem_cons.2 ⟨rfl, (List.forall_mem_cons.2 ⟨rfl, (fun _ h => nomatch h)⟩)⟩)⟩)⟩ (Sub.refl _) ?_
  rintro ⟨k, ⟨A1, c1⟩, ⟨A2, c2⟩⟩ u hk
  dsimp only at hk
  refine TC.seq ?_
  refine TC.seq ?_
  refine TC.region ?_
  refine S.q rfl rfl (Qt.move (by conv => lhs; whnf)) ?_
  refine S.q rfl rfl (Qt.move (by conv => lhs; whnf)) ?_
  refine S.dec rfl rfl (Qt.lt rfl rfl) (fun h21 => ?_) (fun h21 => ?_)
  · refine S.nil ?_
    refine S.if_t rfl ?_
    refine TC.skip ?_
    refine TC.seq ?_
    refine TC.block ?_
    refine TC.seq ?_
    refine TC.region ?_
    refine S.q rfl rfl (Qt.move (by conv => lhs; whnf)) ?_
    refine S.q rfl rfl (Qt.move (by conv => lhs; whnf)) ?_
    refine S.q rfl rfl (Qt.convert Tryd.underlying3 Tryd.underlying155 rfl (by simp only [kmax]; omega)) ?_
    refine S.q rfl rfl (Qt.shrN rfl rfl (by simp only [kmax]; omega)) ?_
    refine S.q rfl rfl (Qt.move (by conv => lhs; whnf)) ?_
    refine S.q rfl rfl (Qt.move (by conv => lhs; whnf)) ?_
    refine S.q rfl rfl (Qt.convert Tryd.underlying3 Tryd.underlying155 rfl (by simp only [kmax]; omega)) ?_
    refine S.q rfl rfl (Qt.shrN rfl rfl (by simp only [kmax]; omega)) ?_
    refine S.q rfl rfl (Qt.assign (by conv => lhs; whnf)) ?_
    refine S.q rfl rfl (Qt.assign (by conv => lhs; whnf)) ?_
    refine S.nil ?_
    refine TC.seq ?_
    refine TC.seq ?_
    refine TC.region ?_
    refine S.q rfl rfl (Qt.move (by conv => lhs; whnf)) ?_
    refine S.q rfl rfl (Qt.rem (b := 2) rfl rfl (by omega)) ?_
    refine S.dec rfl rfl (Qt.ne (b := 0) rfl rfl) (fun h34 => ?_) (fun h34 => ?_)
    · refine S.nil ?_
      refine S.if_t rfl ?_
      refine TC.region ?_
      refine S.q rfl rfl (Qt.move (by conv => lhs; whnf)) ?_
      refine S.q rfl rfl (Qt.move (by conv => lhs; whnf)) ?_
      refine S.q rfl rfl (Qt.move (by conv => lhs; whnf)) ?_
      refine S.q rfl rfl (Qt.sub (b := 1) rfl rfl (by have h34b := m2n0 h34; generalize f / 2 ^ k = m at h34b ⊢; omega) (by have := Nat.div_le_self f (2 ^ k); simp only [kmax]; omega)) ?_
      refine S.q rfl rfl (Qt.as (Qt.buildS (vs := [.int .i64 (k : Int), .int .u64 ((f / 2 ^ k - 1 : Nat) : Int)]) (pls := #[(0, 1), (1, 1)]) Tryd.underlying171 (fun w => by kernel_rfl) Tryd.zero171 rfl ⟨rfl, rfl, trivial⟩ rfl) (show _ = Value.agg #[.int .i64 (k : Int), .int .u64 ((f / 2 ^ k - 1 : Nat) : Int)] from rfl)) ?_
      refine S.opS rfl rfl (OpV.slice1 (bytes := 16) (v := .agg #[.int .i64 (k : Int), .int .u64 ((f / 2 ^ k - 1 : Nat) : Int)]) Tryd.underlying82 Tryd.elem171 (by decide) rfl rfl (fun g40 => ?_))
      refine S.opS rfl rfl (OpV.app1 (bytes := 16) (news := sdL [(k, f / 2 ^ k - 1)]) Tryd.underlying82 Tryd.elem171 rfl rfl (Has.blk (cs := sdL [(k, f / 2 ^ k - 1)]) (Has.at 0 rfl)) rfl (sdL_one _) (by have := sideL_len f k; simp only [maxLen]; omega) (by have := sideL_len f k; (try dsimp only); omega) (fun O1 d1 => ?_))
      refine S.q rfl rfl (Qt.assign (by conv => lhs; whnf)) ?_
      refine S.nil ?_
      refine TC.seq ?_
      refine TC.region ?_
      refine S.q rfl rfl (Qt.move (by conv => lhs; whnf)) ?_
      refine S.q rfl rfl (Qt.rem (b := 2) rfl rfl (by omega)) ?_
      refine S.dec rfl rfl (Qt.ne (b := 1) rfl rfl) (fun h44 => ?_) (fun h44 => ?_)
      · refine S.nil ?_
        refine S.if_t rfl ?_
        refine TC.region ?_
        refine S.q rfl rfl (Qt.move (by conv => lhs; whnf)) ?_
        refine S.q rfl rfl (Qt.move (by conv => lhs; whnf)) ?_
        refine S.q rfl rfl (Qt.move (by conv => lhs; whnf)) ?_
        refine S.q rfl rfl (Qt.add (b := 1) rfl rfl (by have := Nat.div_le_self (f + n - 1) (2 ^ k); simp only [kmax]; omega)) ?_
        refine S.q rfl rfl (Qt.as (Qt.buildS (vs := [.int .i64 (k : Int), .int .u64 (((f + n - 1) / 2 ^ k + 1 : Nat) : Int)]) (pls := #[(0, 1), (1, 1)]) Tryd.underlying171 (fun w => by kernel_rfl) Tryd.zero171 rfl ⟨rfl, rfl, trivial⟩ rfl) (show _ = Value.agg #[.int .i64 (k : Int), .int .u64 (((f + n - 1) / 2 ^ k + 1 : Nat) : Int)] from rfl)) ?_
        refine S.opS rfl rfl (OpV.slice1 (bytes := 16) (v := .agg #[.int .i64 (k : Int), .int .u64 (((f + n - 1) / 2 ^ k + 1 : Nat) : Int)]) Tryd.underlying82 Tryd.elem171 (by decide) rfl rfl (fun g50 => ?_))
        refine S.opS rfl rfl (OpV.app3 (bytes := 16) (news := sdL [(k, (f + n - 1) / 2 ^ k + 1)]) Tryd.underlying82 Tryd.elem171 rfl rfl (Has.blk (cs := sdL [(k, (f + n - 1) / 2 ^ k + 1)]) (Has.at 0 rfl)) rfl (sdL_one _) (by have := sideR_len (f + n - 1) k; simp only [maxLen]; omega) (by have := sideR_len (f + n - 1) k; (try dsimp only); omega) (fun O2 d2 => ?_))
        refine S.q rfl rfl (Qt.assign (by conv => lhs; whnf)) ?_
        refine S.nil ?_
        refine TC.region ?_
        refine S.q rfl rfl (Qt.move (by conv => lhs; whnf)) ?_
        refine S.q rfl rfl (Qt.add (b := 1) rfl rfl (by simp only [kmax]; omega)) ?_
        refine S.q rfl rfl (Qt.assign (by conv => lhs; whnf)) ?_
        refine S.nil ?_
        refine ⟨(k + 1, (O1, d1), (O2, d2)), ?_, ?_, ⟨?_, (List.forall_mem_cons.2 ⟨rfl, (List.forall_mem_cons.2 ⟨(by show Value.slice O1 ((sideL f k).length + 1) d1 = Value.slice O1 (sideL f (k + 1)).length d1; rw [sideL_1 (m2n0 h34), len_snoc]), (List.forall_mem_cons.2 ⟨(by show Value.slice O2 ((sideR (f + n - 1) k).length + 1) d2 = Value.slice O2 (sideR (f + n - 1) (k + 1)).length d2; rw [sideR_1 (m2n1 h44), len_snoc]), (fun _ h => nomatch h)⟩)⟩)⟩)⟩, (by dsimp only; rw [sideL_1 (m2n0 h34), len_snoc, sdL_app, sideR_1 (m2n1 h44), len_snoc, sdL_app]; exact Sub.trans (Sub.keep _ (Sub.keep _ (Sub.drop _ (Sub.drop _ (Sub.nil []))))) (Sub.trans (Sub.keep _ (Sub.trans (Sub.keep _ (Sub.refl _)) (Sub.of_perm (List.perm_middle (l₁ := [_, _]))))) (Sub.of_perm (List.perm_middle (l₁ := [_, _])))))⟩
        · show _ ≤ _; dsimp only; omega
        · show _ < _; dsimp only; omega
        repeat (first | exact Out.refl _ _ | refine Out.put rfl ?_ | refine Out.puts rfl ?_ | refine Out.scr ?_ | refine Out.scr' rfl ?_)
      · refine S.nil ?_
        refine S.if_f rfl ?_
        refine TC.skip ?_
        refine TC.region ?_
        refine S.q rfl rfl (Qt.move (by conv => lhs; whnf)) ?_
        refine S.q rfl rfl (Qt.add (b := 1) rfl rfl (by simp only [kmax]; omega)) ?_
        refine S.q rfl rfl (Qt.assign (by conv => lhs; whnf)) ?_
        refine S.nil ?_
        refine ⟨(k + 1, (O1, d1), (A2, c2)), ?_, ?_, ⟨?_, (List.forall_mem_cons.2 ⟨rfl, (List.forall_mem_cons.2 ⟨(by show Value.slice O1 ((sideL f k).length + 1) d1 = Value.slice O1 (sideL f (k + 1)).length d1; rw [sideL_1 (m2n0 h34), len_snoc]), (List.forall_mem_cons.2 ⟨(by show Value.slice A2 (sideR (f + n - 1) k).length c2 = Value.slice A2 (sideR (f + n - 1) (k + 1)).length c2; rw [sideR_0 (m2n1f h44)]), (fun _ h => nomatch h)⟩)⟩)⟩)⟩, (by dsimp only; rw [sideL_1 (m2n0 h34), len_snoc, sdL_app, sideR_0 (m2n1f h44)]; exact Sub.trans (Sub.keep _ (Sub.keep _ (Sub.drop _ (Sub.nil [])))) (Sub.trans (Sub.keep _ (Sub.trans (Sub.keep _ (Sub.refl _)) (Sub.of_perm (List.perm_middle (l₁ := [_]))))) (Sub.of_perm (List.perm_middle (l₁ := [_])))))⟩
        · show _ ≤ _; dsimp only; omega
        · show _ < _; dsimp only; omega
        repeat (first | exact Out.refl _ _ | refine Out.put rfl ?_ | refine Out.puts rfl ?_ | refine Out.scr ?_ | refine Out.scr' rfl ?_)
    · refine S.nil ?_
      refine S.if_f rfl ?_
      refine TC.skip ?_
      refine TC.seq ?_
      refine TC.region ?_
      refine S.q rfl rfl (Qt.move (by conv => lhs; whnf)) ?_
      refine S.q rfl rfl (Qt.rem (b := 2) rfl rfl (by omega)) ?_
      refine S.dec rfl rfl (Qt.ne (b := 1) rfl rfl) (fun h44 => ?_) (fun h44 => ?_)
      · refine S.nil ?_
        refine S.if_t rfl ?_
        refine TC.region ?_
        refine S.q rfl rfl (Qt.move (by conv => lhs; whnf)) ?_
        refine S.q rfl rfl (Qt.move (by conv => lhs; whnf)) ?_
        refine S.q rfl rfl (Qt.move (by conv => lhs; whnf)) ?_
        refine S.q rfl rfl (Qt.add (b := 1) rfl rfl (by have := Nat.div_le_self (f + n - 1) (2 ^ k); simp only [kmax]; omega)) ?_
        refine S.q rfl rfl (Qt.as (Qt.buildS (vs := [.int .i64 (k : Int), .int .u64 (((f + n - 1) / 2 ^ k + 1 : Nat) : Int)]) (pls := #[(0, 1), (1, 1)]) Tryd.underlying171 (fun w => by kernel_rfl) Tryd.zero171 rfl ⟨rfl, rfl, trivial⟩ rfl) (show _ = Value.agg #[.int .i64 (k : Int), .int .u64 (((f + n - 1) / 2 ^ k + 1 : Nat) : Int)] from rfl)) ?_
        refine S.opS rfl rfl (OpV.slice1 (bytes := 16) (v := .agg #[.int .i64 (k : Int), .int .u64 (((f + n - 1) / 2 ^ k + 1 : Nat) : Int)]) Tryd.underlying82 Tryd.elem171 (by decide) rfl rfl (fun g50 => ?_))
        refine S.opS rfl rfl (OpV.app2 (bytes := 16) (news := sdL [(k, (f + n - 1) / 2 ^ k + 1)]) Tryd.underlying82 Tryd.elem171 rfl rfl (Has.blk (cs := sdL [(k, (f + n - 1) / 2 ^ k + 1)]) (Has.at 0 rfl)) rfl (sdL_one _) (by have := sideR_len (f + n - 1) k; simp only [maxLen]; omega) (by have := sideR_len (f + n - 1) k; (try dsimp only); omega) (fun O2 d2 => ?_))
        refine S.q rfl rfl (Qt.assign (by conv => lhs; whnf)) ?_
        refine S.nil ?_
        refine TC.region ?_
        refine S.q rfl rfl (Qt.move (by conv => lhs; whnf)) ?_
        refine S.q rfl rfl (Qt.add (b := 1) rfl rfl (by simp only [kmax]; omega)) ?_
        refine S.q rfl rfl (Qt.assign (by conv => lhs; whnf)) ?_
        refine S.nil ?_
        refine ⟨(k + 1, (A1, c1), (O2, d2)), ?_, ?_, ⟨?_, (List.forall_mem_cons.2 ⟨rfl, (List.forall_mem_cons.2 ⟨(by show Value.slice A1 (sideL f k).length c1 = Value.slice A1 (sideL f (k + 1)).length c1; rw [sideL_0 (m2n0f h34)]), (List.forall_mem_cons.2 ⟨(by show Value.slice O2 ((sideR (f + n - 1) k).length + 1) d2 = Value.slice O2 (sideR (f + n - 1) (k + 1)).length d2; rw [sideR_1 (m2n1 h44), len_snoc]), (fun _ h => nomatch h)⟩)⟩)⟩)⟩, (by dsimp only; rw [sideL_0 (m2n0f h34), sideR_1 (m2n1 h44), len_snoc, sdL_app]; exact Sub.trans (Sub.keep _ (Sub.keep _ (Sub.drop _ (Sub.nil [])))) (Sub.trans (Sub.keep _ (Sub.trans (Sub.keep _ (Sub.refl _)) (Sub.of_perm (List.perm_middle (l₁ := [_]))))) (Sub.of_perm (List.perm_middle (l₁ := [_])))))⟩
        · show _ ≤ _; dsimp only; omega
        · show _ < _; dsimp only; omega
        repeat (first | exact Out.refl _ _ | refine Out.put rfl ?_ | refine Out.puts rfl ?_ | refine Out.scr ?_ | refine Out.scr' rfl ?_)
      · refine S.nil ?_
        refine S.if_f rfl ?_
        refine TC.skip ?_
        refine TC.region ?_
        refine S.q rfl rfl (Qt.move (by conv => lhs; whnf)) ?_
        refine S.q rfl rfl (Qt.add (b := 1) rfl rfl (by simp only [kmax]; omega)) ?_
        refine S.q rfl rfl (Qt.assign (by conv => lhs; whnf)) ?_
        refine S.nil ?_
        refine ⟨(k + 1, (A1, c1), (A2, c2)), ?_, ?_, ⟨?_, (List.forall_mem_cons.2 ⟨rfl, (List.forall_mem_cons.2 ⟨(by show Value.slice A1 (sideL f k).length c1 = Value.slice A1 (sideL f (k + 1)).length c1; rw [sideL_0 (m2n0f h34)]), (List.forall_mem_cons.2 ⟨(by show Value.slice A2 (sideR (f + n - 1) k).length c2 = Value.slice A2 (sideR (f + n - 1) (k + 1)).length c2; rw [sideR_0 (m2n1f h44)]), (fun _ h => nomatch h)⟩)⟩)⟩)⟩, (by dsimp only; rw [sideL_0 (m2n0f h34), sideR_0 (m2n1f h44)]; exact Sub.refl _)⟩
        · show _ ≤ _; dsimp only; omega
        · show _ < _; dsimp only; omega
        repeat (first | exact Out.refl _ _ | refine Out.put rfl ?_ | refine Out.puts rfl ?_ | refine Out.scr ?_ | refine Out.scr' rfl ?_)
  · refine S.nil ?_
    refine S.if_f rfl ?_
    refine TC.exit ?_
    refine TC.seq ?_
    refine TC.region ?_
    refine S.q rfl rfl (Qt.move (by conv => lhs; whnf)) ?_
    refine S.q rfl rfl (Qt.move (by conv => lhs; whnf)) ?_
    refine S.q rfl rfl (Qt.assign (by conv => lhs; whnf)) ?_
    refine S.q rfl rfl (Qt.assign (by conv => lhs; whnf)) ?_
    refine S.nil ?_
    refine TC.ret ?_
    refine finQ.ret (RVs.tmp (by conv => lhs; whnf) (RVs.tmp (by conv => lhs; whnf) RVs.nil)) (Sub.refl _) ?_
    obtain rfl : k = h := by omega
    exact ⟨A1, c1, A2, c2, rfl, rfl⟩
set_option maxHeartbeats 800000 in
theorem rmakeS_walk (E : Nat → H32) (hE : ∀ h, E (h + 1) = joinH (h + 1) (E h) (E h)) (height : Nat) (hh : height ≤ 32) (ls : Ls) (A : Option Addr) (c : Nat) (O : Option Addr) (d : Nat) (B : Option Addr) (e : Nat) (s : Sd) (hs : s.length ≤ 16384) (hok : ∀ a ∈ s, okAt height a) (w0 : World) (hlen : ls.length ≤ 4096) (hlow : ∀ x ∈ ls, x.1 < 18446744073709551616) (hL : Ro w0 [] (SlA A (ls.flatMap leafL))) (hO : Ro w0 [] (SlA O (hcs (emptL E)))) (hS : Ro w0 [] (SlA B (sdL s))) (hT : Tabs 3 1 w0 []) :
    Calls Tryd.prog 51 #[.agg #[.int .i64 (height : Int), .slice A ls.length c, .slice O 33 d], .slice B s.length e] w0 (Post w0 [] fun v L => ∃ P q, v = .slice P s.length q ∧ L = [OwnA 23 32 P s.length q (hcs (s.map (fun a : Nat × Nat => nodeH (fL E ls) a.1 a.2)))]) := by
  refine Calls.of (L := []) (n := 29) (rs := [.tmp 4]) Tryd.func51 rfl rfl rfl (Nat.le_of_ble_eq_true rfl) (Sat.nil _) ?_
  refine TC.ownNil 23 32 ?_
  refine TC.seq ?_
  refine TC.region ?_
  refine S.opS rfl rfl (OpV.box (v := .agg #[.int .i64 (height : Int), .slice A ls.length c, .slice O 33 d]) rfl (fun b2 => ?_))
  refine S.q rfl rfl (Qt.assign (by conv => lhs; whnf)) ?_
  refine S.nil ?_
  refine TC.seq ?_
  refine TC.region ?_
  refine S.q rfl rfl (Qt.assign (by conv => lhs; whnf)) ?_
  refine S.nil ?_
  refine TC.seq ?_
  refine TC.seq ?_
  refine TC.region ?_
  refine S.q rfl rfl (Qt.assign (by conv => lhs; whnf)) ?_
  refine S.nil ?_
  refine TC.block ?_
  refine TC.loop (γ := Nat × Option Addr × Nat) [7, 8, 9, 10, 13, 14, 15, 16, 17, 18, 19, 20, 21, 22, 23, 24, 25, 26, 27, 5, 11, 12, 6] (fun g => [(6, .int .i64 ((g.1 : Nat) : Int)), (5, .slice g.2.1 g.1 g.2.2)]) (fun g => [Blk b2 52 (vl (.agg #[.int .i64 (height : Int), .slice A ls.length c, .slice O 33 d])), OwnA 23 32 g.2.1 g.1 g.2.2 (hcs ((s.take g.1).map (fun a : Nat × Nat => nodeH (fL E ls) a.1 a.2)))]) (fun g => g.1 ≤ s.length) (fun g => s.length - g.1) ((0, none, 0))
    (Nat.zero_le _) ⟨Out.refl _ _, (List.forall_mem_cons.2 ⟨rfl, (List.forall_mem_cons.2 ⟨rfl, (fun _ h => nomatch h)⟩)⟩)⟩ (Sub.refl _) ?_
  rintro ⟨k, P, q⟩ u hk
  dsimp only at hk
  refine TC.seq ?_
  refine TC.seq ?_
  refine TC.region ?_
  refine S.q rfl rfl (Qt.move (by conv => lhs; whnf)) ?_
  refine S.q rfl rfl (Qt.move (by conv => lhs; whnf)) ?_
  refine S.q rfl rfl (Qt.len_slice Tryd.underlying82 rfl) ?_
  refine S.dec rfl rfl (Qt.lt rfl rfl) (fun h10 => ?_) (fun h10 => ?_)
  · refine S.nil ?_
    refine S.if_t rfl ?_
    refine TC.skip ?_
    refine TC.seq ?_
    refine TC.block ?_
    refine S.draw ([14], [13]) Tryd.mixed (Sub.nil _) ?_
    refine D.qX (k := 0) rfl (by kernel_rfl) (by kernel_rfl) (by kernel_rfl) rfl rfl (Qt.move (by conv => lhs; whnf)) ?_
    refine D.qX (k := 1) rfl (by kernel_rfl) (by kernel_rfl) (by kernel_rfl) rfl rfl (Qt.load rfl (Ld.all (vs := vl (.agg #[.int .i64 (height : Int), .slice A ls.length c, .slice O 33 d])) (Has.at 0 rfl) Tryd.row52 Tryd.cells52)) ?_
    refine D.qX (k := 2) rfl (by kernel_rfl) (by kernel_rfl) (by kernel_rfl) rfl rfl (Qt.move (by conv => lhs; whnf)) ?_
    refine D.qX (k := 3) rfl (by kernel_rfl) (by kernel_rfl) (by kernel_rfl) rfl rfl (Qt.move (by conv => lhs; whnf)) ?_
    refine D.qX (k := 4) rfl (by kernel_rfl) (by kernel_rfl) (by kernel_rfl) rfl rfl (Qt.index Tryd.underlying82 Tryd.cells171 rfl rfl (by omega) (Has.ro hS) (by rw [sdL_len]; omega)) ?_
    refine D.qX (k := 5) rfl (by kernel_rfl) (by kernel_rfl) (by kernel_rfl) rfl rfl (Qt.fieldS Tryd.underlying171 rfl Tryd.cells3 rfl (Has.ro hS) (by rw [sdL_len]; omega)) ?_
    refine D.qX (k := 6) rfl (by kernel_rfl) (by kernel_rfl) (by kernel_rfl) rfl rfl (Qt.load rfl (Ld.sl (v := .int .i64 ((s.getD k (0, 0)).1 : Int)) (Has.ro hS) Tryd.one3 (sdL_at (by omega)).1)) ?_
    refine D.qX (k := 7) rfl (by kernel_rfl) (by kernel_rfl) (by kernel_rfl) rfl rfl (Qt.move (by conv => lhs; whnf)) ?_
    refine D.qX (k := 8) rfl (by kernel_rfl) (by kernel_rfl) (by kernel_rfl) rfl rfl (Qt.move (by conv => lhs; whnf)) ?_
    refine D.qX (k := 9) rfl (by kernel_rfl) (by kernel_rfl) (by kernel_rfl) rfl rfl (Qt.index Tryd.underlying82 Tryd.cells171 rfl rfl (by omega) (Has.ro hS) (by rw [sdL_len]; omega)) ?_
    refine D.qX (k := 10) rfl (by kernel_rfl) (by kernel_rfl) (by kernel_rfl) rfl rfl (Qt.fieldS Tryd.underlying171 rfl Tryd.cells24 rfl (Has.ro hS) (by rw [sdL_len]; omega)) ?_
    refine D.qX (k := 11) rfl (by kernel_rfl) (by kernel_rfl) (by kernel_rfl) rfl rfl (Qt.load rfl (Ld.sl (v := .int .u64 ((s.getD k (0, 0)).2 : Int)) (Has.ro hS) Tryd.one24 (sdL_at (by omega)).2)) ?_
    refine D.cX (k := 12) rfl (by kernel_rfl) (by kernel_rfl) (by kernel_rfl) rfl rfl (CalU.con0 Tryd.ent36 rfl (fun w hw => rnode_R E hE height hh ls A c O d (s.getD k (0, 0)).1 (s.getD k (0, 0)).2 (hok _ (getD_mem (0, 0) h10)) w hlen hlow (Rd.ro hL w hw) (Rd.ro hO w hw) (hT.at hw))) ?_
    refine D.nS (k := 13) (Sub.nil _) rfl (by kernel_rfl) (by kernel_rfl) rfl rfl (OpV.slice1 (bytes := 32) (v := hv ((fun a : Nat × Nat => nodeH (fL E ls) a.1 a.2) (s.getD k (0, 0)))) Tryd.underlying44 Tryd.elem23 (by decide) rfl (hv_len _) (fun g26 => ⟨Sub.drop _ (Sub.keep _ (Sub.keep _ (Sub.nil []))), ?_⟩))
    refine D.opS (k := 14) (Sub.nil _) rfl (by kernel_rfl) (by kernel_rfl) rfl rfl (OpV.app2 (bytes := 32) (news := hvl ((fun a : Nat × Nat => nodeH (fL E ls) a.1 a.2) (s.getD k (0, 0)))) Tryd.underlying44 Tryd.elem23 rfl rfl (Has.blk (cs := hvl ((fun a : Nat × Nat => nodeH (fL E ls) a.1 a.2) (s.getD k (0, 0)))) (Has.at 0 rfl)) (by rw [hvl_length]) (bytesL_one _) (by simp only [maxLen]; omega) (by omega) (fun O' d' => ⟨Sub.nil _, ?_⟩))
    refine D.qX (k := 15) rfl (by kernel_rfl) (by kernel_rfl) (by kernel_rfl) rfl rfl (Qt.assign (by conv => lhs; whnf)) ?_
    refine D.done (Sub.nil _) (by kernel_rfl) ?_
    refine TC.region ?_
    refine S.q rfl rfl (Qt.move (by conv => lhs; whnf)) ?_
    refine S.q rfl rfl (Qt.add (b := 1) rfl rfl (by simp only [kmax]; omega)) ?_
    refine S.q rfl rfl (Qt.assign (by conv => lhs; whnf)) ?_
    refine S.nil ?_
    refine ⟨(k + 1, O', d'), ?_, ?_, ⟨?_, (List.forall_mem_cons.2 ⟨rfl, (List.forall_mem_cons.2 ⟨rfl, (fun _ h => nomatch h)⟩)⟩)⟩, (by dsimp only; rw [map_step (fun a : Nat × Nat => nodeH (fL E ls) a.1 a.2) (0, 0) h10]; exact Sub.trans (Sub.keep _ (Sub.keep _ (Sub.drop _ (Sub.nil [])))) (Sub.trans (Sub.keep _ (Sub.trans (Sub.keep _ (Sub.refl _)) (Sub.of_perm (List.perm_middle (l₁ := [_]))))) (Sub.of_perm (List.perm_middle (l₁ := [_])))))⟩
    · show _ ≤ _; dsimp only; omega
    · show _ < _; dsimp only; omega
    repeat (first | exact Out.refl _ _ | refine Out.put rfl ?_ | refine Out.puts rfl ?_ | refine Out.scr ?_ | refine Out.scr' rfl ?_)
  · refine S.nil ?_
    refine S.if_f rfl ?_
    refine TC.exit ?_
    refine TC.seq ?_
    refine TC.region ?_
    refine S.q rfl rfl (Qt.move (by conv => lhs; whnf)) ?_
    refine S.q rfl rfl (Qt.assign (by conv => lhs; whnf)) ?_
    refine S.nil ?_
    refine TC.ret ?_
    refine finQ.ret (RVs.tmp (by conv => lhs; whnf) RVs.nil) (Sub.trans (Sub.keep _ (Sub.drop _ (Sub.nil []))) (Sub.trans (Sub.keep _ (Sub.refl _)) (Sub.of_perm (List.perm_middle (l₁ := [_]))))) ?_
    obtain rfl : k = s.length := by omega
    exact ⟨P, q, rfl, by rw [List.take_length]⟩
set_option maxHeartbeats 1600000 in
theorem law8_walk (E : Nat → H32) (hEm : ∀ w, Tabs 2 0 w [] → Calls Tryd.prog 88 #[] w (Ret w (.agg (hcs (emptL E)).toArray))) (hE : ∀ h, E (h + 1) = joinH (h + 1) (E h) (E h)) (hEr : ∀ w, Tabs 3 1 w [] → Calls Tryd.prog 90 #[] w (Post w [] fun v L => ∃ O d, v = .slice O 33 d ∧ L = [OwnA 23 32 O 33 d (hcs (emptL E))])) (height : Nat) (hh : height ≤ 32) (A : Option Addr) (c : Nat) (xs : List Go.E.Act) (hxs : xs.length ≤ 25) (f : Nat) (hf64 : f < 18446744073709551616) (n : Nat) (h1 : 1 ≤ n) (h60 : n ≤ 60) (hf : f + n ≤ 2 ^ height) (w0 : World) (hR : Ro w0 [] (SlA A (xs.flatMap actL))) (hT : Tabs 2 0 w0 []) (hT2 : Tabs 3 1 w0 []) :
    Calls Tryd.prog 8 #[.int .i64 (height : Int), .slice A xs.length c, .agg #[.int .u64 (f : Int), .int .i64 (n : Int)]] w0 (Post w0 [] fun v L => v = .bool true ∧ L = []) := by
  refine Calls.of (L := []) (n := 149) (rs := [.tmp 6]) Tryd.func8 rfl rfl rfl (Nat.le_of_ble_eq_true rfl) (Sat.nil _) ?_
  have h2 : n ≤ 256 := by omega
  have okL := (fun a (ha : a ∈ sideL f height) => sideL_ok (show f < 2 ^ height by omega) a ha)
  have okR := (fun a (ha : a ∈ sideR (f + n - 1) height) => sideR_ok (show (f + n - 1) < 2 ^ height by omega) a ha)
  refine TC.seq ?_
  refine TC.region ?_
  refine S.opS rfl rfl (OpV.box (v := .agg #[.int .u64 (f : Int), .int .i64 (n : Int)]) rfl (fun b5 => ?_))
  refine S.q rfl rfl (Qt.assign (by conv => lhs; whnf)) ?_
  refine S.nil ?_
  refine TC.seq ?_
  refine TC.seq ?_
  refine TC.region ?_
  refine S.opS rfl rfl (OpV.con0 Tryd.ent44 rfl (fun w hw => Calls.ret (alive11_walk E hEm hE w (hT.at hw))) ?_)
  refine S.q rfl rfl (Qt.not_t rfl) ?_
  refine S.nil ?_
  refine S.if_f rfl ?_
  refine TC.skip ?_
  refine TC.seq ?_
  refine TC.seq ?_
  refine TC.region ?_
  refine S.q rfl rfl (Qt.field Tryd.underlying75 rfl Tryd.cells3 rfl) ?_
  refine S.q rfl rfl (Qt.load rfl (Ld.one (Has.at 0 rfl) Tryd.one3 (rfl))) ?_
  refine S.q rfl rfl (Qt.dF (Qt.gt (b := 60) rfl rfl) (by omega)) ?_
  refine S.q rfl rfl (Qt.move (by conv => lhs; whnf)) ?_
  refine S.pass rfl rfl ?_
  refine S.pass rfl rfl ?_
  refine S.pass rfl rfl ?_
  refine S.q rfl rfl (Qt.pick_f rfl (by conv => lhs; whnf)) ?_
  refine S.nil ?_
  refine S.if_f rfl ?_
  refine TC.skip ?_
  refine TC.seq ?_
  refine TC.region ?_
  refine S.q rfl rfl (Qt.move (by conv => lhs; whnf)) ?_
  refine S.q rfl rfl (Qt.move (by conv => lhs; whnf)) ?_
  refine S.opS rfl rfl (OpV.con (Pre := []) (R := _) Tryd.ent32 rfl (List.Perm.refl _) (fun w hw => both_walk E hEm hE hEr height hh A c xs hxs w (Rd.ro hR w hw) (hT.at hw) (hT2.at hw)) ?_)
  rintro v L' ⟨tb, mb, ms, ls, Al, cl, O, d, rfl, rfl, ht, hll, hlow⟩
  refine S.q rfl rfl (Qt.move (by conv => lhs; whnf)) ?_
  refine S.q rfl rfl (Qt.extract rfl rfl) ?_
  refine S.q rfl rfl (Qt.extract rfl rfl) ?_
  refine S.q rfl rfl (Qt.extract rfl rfl) ?_
  refine S.q rfl rfl (Qt.extract rfl rfl) ?_
  refine S.opS rfl rfl (OpV.alloc Tryd.zero52 (fun b8 => ?_))
  refine S.q rfl rfl (Qt.assign (by conv => lhs; whnf)) ?_
  refine S.opN rfl (OpV.storeV0 rfl (by conv => lhs; whnf) (by exact Tryd.cells52) (by rfl) (by rfl) ?_)
  refine S.q rfl rfl (Qt.assign (by conv => lhs; whnf)) ?_
  refine S.q rfl rfl (Qt.assign (by conv => lhs; whnf)) ?_
  refine S.nil ?_
  refine TC.seq ?_
  refine TC.seq ?_
  refine TC.region ?_
  refine S.q rfl rfl (Qt.move (by conv => lhs; whnf)) ?_
  refine S.q rfl rfl (Qt.not_t rfl) ?_
  refine S.q rfl rfl (Qt.move (by conv => lhs; whnf)) ?_
  refine S.qg rfl rfl rfl (Qt.move (by conv => lhs; whnf)) ?_
  refine S.qg rfl rfl rfl (Qt.not_t rfl) ?_
  refine S.q rfl rfl (Qt.pick_f rfl (by conv => lhs; whnf)) ?_
  refine S.nil ?_
  refine S.if_f rfl ?_
  refine TC.skip ?_
  refine TC.seq ?_
  refine TC.region ?_
  refine S.q rfl rfl (Qt.move (by conv => lhs; whnf)) ?_
  refine S.q rfl rfl (Qt.field Tryd.underlying75 rfl Tryd.cells24 rfl) ?_
  refine S.q rfl rfl (Qt.load rfl (Ld.one (Has.at 5 rfl) Tryd.one24 (rfl))) ?_
  refine S.q rfl rfl (Qt.field Tryd.underlying75 rfl Tryd.cells3 rfl) ?_
  refine S.q rfl rfl (Qt.load rfl (Ld.one (Has.at 5 rfl) Tryd.one3 (rfl))) ?_
  refine S.opS rfl rfl (OpV.con (Pre := []) (R := _) Tryd.ent47 rfl (List.Perm.refl _) (fun w hw => make_walk E tb mb height ms f n hh hf64 hf h1 h2 w (Rd.at 1 rfl w hw) (Rd.at 2 rfl w hw)) ?_)
  rintro v L' ⟨Ol, c1, Or, d1, rfl, rfl⟩
  have eqL : (sideL f height).map (fun a => getT E ms a) = (sideL f height).map (fun a : Nat × Nat => nodeH (fL E ls) a.1 a.2) := List.map_congr_left fun a ha => ht.get a (okL a ha)
  have eqR : (sideR (f + n - 1) height).map (fun a => getT E ms a) = (sideR (f + n - 1) height).map (fun a : Nat × Nat => nodeH (fL E ls) a.1 a.2) := List.map_congr_left fun a ha => ht.get a (okR a ha)
  refine S.q rfl rfl (Qt.move (by conv => lhs; whnf)) ?_
  refine S.q rfl rfl (Qt.extract rfl rfl) ?_
  refine S.q rfl rfl (Qt.extract rfl rfl) ?_
  refine S.opS rfl rfl (OpV.alloc Tryd.zero77 (fun b11 => ?_))
  refine S.opN rfl (OpV.storeV0 rfl (by conv => lhs; whnf) (by exact Tryd.cells77) (by rfl) (by rfl) ?_)
  refine S.q rfl rfl (Qt.assign (by conv => lhs; whnf)) ?_
  refine S.nil ?_
  refine TC.seq ?_
  refine TC.region ?_
  refine S.q rfl rfl (Qt.move (by conv => lhs; whnf)) ?_
  refine S.q rfl rfl (Qt.field Tryd.underlying75 rfl Tryd.cells24 rfl) ?_
  refine S.q rfl rfl (Qt.load rfl (Ld.one (Has.at 8 rfl) Tryd.one24 (rfl))) ?_
  refine S.q rfl rfl (Qt.field Tryd.underlying75 rfl Tryd.cells3 rfl) ?_
  refine S.q rfl rfl (Qt.load rfl (Ld.one (Has.at 8 rfl) Tryd.one3 (rfl))) ?_
  refine S.opS rfl rfl (OpV.con0 Tryd.ent48 rfl (fun w hw => Calls.ret (counts_walk height f n hh hf64 hf h1 h2 w)) ?_)
  refine S.q rfl rfl (Qt.move (by conv => lhs; whnf)) ?_
  refine S.q rfl rfl (Qt.extract rfl rfl) ?_
  refine S.q rfl rfl (Qt.extract rfl rfl) ?_
  refine S.q rfl rfl (Qt.extract rfl rfl) ?_
  refine S.q rfl rfl (Qt.assign (by conv => lhs; whnf)) ?_
  refine S.q rfl rfl (Qt.assign (by conv => lhs; whnf)) ?_
  refine S.q rfl rfl (Qt.assign (by conv => lhs; whnf)) ?_
  refine S.nil ?_
  refine TC.seq ?_
  refine TC.seq ?_
  refine TC.region ?_
  refine S.q rfl rfl (Qt.move (by conv => lhs; whnf)) ?_
  refine S.q rfl rfl (Qt.field Tryd.underlying75 rfl Tryd.cells24 rfl) ?_
  refine S.q rfl rfl (Qt.load rfl (Ld.one (Has.at 8 rfl) Tryd.one24 (rfl))) ?_
  refine S.q rfl rfl (Qt.field Tryd.underlying75 rfl Tryd.cells3 rfl) ?_
  refine S.q rfl rfl (Qt.load rfl (Ld.one (Has.at 8 rfl) Tryd.one3 (rfl))) ?_
  refine S.opS rfl rfl (OpV.con0 Tryd.ent46 rfl (fun w hw => (by have k := rright_R height f n hh hf64 h1 h2 w; rw [decide_eq_true hf] at k; exact k : Calls Tryd.prog 46 #[.int .i64 (height : Int), .int .u64 (f : Int), .int .i64 (n : Int)] w (Ret w (.bool true)))) ?_)
  refine S.q rfl rfl (Qt.not_t rfl) ?_
  refine S.nil ?_
  refine S.if_f rfl ?_
  refine TC.skip ?_
  refine TC.seq ?_
  refine TC.region ?_
  refine S.q rfl rfl (Qt.move (by conv => lhs; whnf)) ?_
  refine S.q rfl rfl (Qt.field Tryd.underlying75 rfl Tryd.cells24 rfl) ?_
  refine S.q rfl rfl (Qt.load rfl (Ld.one (Has.at 8 rfl) Tryd.one24 (rfl))) ?_
  refine S.q rfl rfl (Qt.field Tryd.underlying75 rfl Tryd.cells3 rfl) ?_
  refine S.q rfl rfl (Qt.load rfl (Ld.one (Has.at 8 rfl) Tryd.one3 (rfl))) ?_
  refine S.opS rfl rfl (OpV.con (Pre := []) (R := _) Tryd.ent50 rfl (List.Perm.refl _) (fun w hw => rsides_walk height f n hh hf h1 h2 w) ?_)
  rintro v L' ⟨A1, e1, A2, e2, rfl, rfl⟩
  refine S.q rfl rfl (Qt.move (by conv => lhs; whnf)) ?_
  refine S.q rfl rfl (Qt.extract rfl rfl) ?_
  refine S.q rfl rfl (Qt.extract rfl rfl) ?_
  refine S.q rfl rfl (Qt.assign (by conv => lhs; whnf)) ?_
  refine S.q rfl rfl (Qt.assign (by conv => lhs; whnf)) ?_
  refine S.nil ?_
  refine TC.seq ?_
  refine S.draw ([], [23, 31]) Tryd.mixed (Sub.nil _) ?_
  refine D.qX (k := 0) rfl (by kernel_rfl) (by kernel_rfl) (by kernel_rfl) rfl rfl (Qt.move (by conv => lhs; whnf)) ?_
  refine D.qX (k := 1) rfl (by kernel_rfl) (by kernel_rfl) (by kernel_rfl) rfl rfl (Qt.eqnil_nil Tryd.underlying27 rfl) ?_
  refine D.qX (k := 2) rfl (by kernel_rfl) (by kernel_rfl) (by kernel_rfl) rfl rfl (Qt.move (by conv => lhs; whnf)) ?_
  refine D.qgX (k := 3) rfl (by kernel_rfl) (by kernel_rfl) (by kernel_rfl) rfl rfl rfl (Qt.move (by conv => lhs; whnf)) ?_
  refine D.qgX (k := 4) rfl (by kernel_rfl) (by kernel_rfl) (by kernel_rfl) rfl rfl rfl (Qt.eqnil_nil Tryd.underlying27 rfl) ?_
  refine D.qX (k := 5) rfl (by kernel_rfl) (by kernel_rfl) (by kernel_rfl) rfl rfl (Qt.pick_t rfl (by conv => lhs; whnf)) ?_
  refine D.qX (k := 6) rfl (by kernel_rfl) (by kernel_rfl) (by kernel_rfl) rfl rfl (Qt.move (by conv => lhs; whnf)) ?_
  refine D.qgX (k := 7) rfl (by kernel_rfl) (by kernel_rfl) (by kernel_rfl) rfl rfl rfl (Qt.move (by conv => lhs; whnf)) ?_
  refine D.qgX (k := 8) rfl (by kernel_rfl) (by kernel_rfl) (by kernel_rfl) rfl rfl rfl (Qt.move (by conv => lhs; whnf)) ?_
  refine D.qgX (k := 9) rfl (by kernel_rfl) (by kernel_rfl) (by kernel_rfl) rfl rfl rfl (Qt.len_slice Tryd.underlying82 rfl) ?_
  refine D.qgX (k := 10) rfl (by kernel_rfl) (by kernel_rfl) (by kernel_rfl) rfl rfl rfl (Qt.dT (Qt.eq rfl rfl) (rfl)) ?_
  refine D.qX (k := 11) rfl (by kernel_rfl) (by kernel_rfl) (by kernel_rfl) rfl rfl (Qt.pick_t rfl (by conv => lhs; whnf)) ?_
  refine D.qX (k := 12) rfl (by kernel_rfl) (by kernel_rfl) (by kernel_rfl) rfl rfl (Qt.move (by conv => lhs; whnf)) ?_
  refine D.qgX (k := 13) rfl (by kernel_rfl) (by kernel_rfl) (by kernel_rfl) rfl rfl rfl (Qt.move (by conv => lhs; whnf)) ?_
  refine D.qgX (k := 14) rfl (by kernel_rfl) (by kernel_rfl) (by kernel_rfl) rfl rfl rfl (Qt.move (by conv => lhs; whnf)) ?_
  refine D.qgX (k := 15) rfl (by kernel_rfl) (by kernel_rfl) (by kernel_rfl) rfl rfl rfl (Qt.len_slice Tryd.underlying82 rfl) ?_
  refine D.qgX (k := 16) rfl (by kernel_rfl) (by kernel_rfl) (by kernel_rfl) rfl rfl rfl (Qt.dT (Qt.eq rfl rfl) (rfl)) ?_
  refine D.qX (k := 17) rfl (by kernel_rfl) (by kernel_rfl) (by kernel_rfl) rfl rfl (Qt.pick_t rfl (by conv => lhs; whnf)) ?_
  refine D.qX (k := 18) rfl (by kernel_rfl) (by kernel_rfl) (by kernel_rfl) rfl rfl (Qt.move (by conv => lhs; whnf)) ?_
  refine D.qgX (k := 19) rfl (by kernel_rfl) (by kernel_rfl) (by kernel_rfl) rfl rfl rfl (Qt.field Tryd.underlying77 rfl Tryd.cells44 rfl) ?_
  refine D.qgX (k := 20) rfl (by kernel_rfl) (by kernel_rfl) (by kernel_rfl) rfl rfl rfl (Qt.load rfl (Ld.one (Has.at 2 rfl) Tryd.one44 (rfl))) ?_
  refine D.qgX (k := 21) rfl (by kernel_rfl) (by kernel_rfl) (by kernel_rfl) rfl rfl rfl (Qt.load rfl (Ld.all (vs := vl (.agg #[.int .i64 (height : Int), .slice Al ls.length cl, .slice O 33 d])) (Has.at 5 rfl) Tryd.row52 Tryd.cells52)) ?_
  refine D.qgX (k := 22) rfl (by kernel_rfl) (by kernel_rfl) (by kernel_rfl) rfl rfl rfl (Qt.move (by conv => lhs; whnf)) ?_
  refine D.ng (k := 23) (Sub.nil _) rfl (by kernel_rfl) (by kernel_rfl) rfl rfl rfl (OpV.con (Pre := []) (R := _) Tryd.ent51 rfl (List.Perm.refl _) (fun w hw => rmakeS_walk E hE height hh ls Al cl O d A1 e1 (sideL f height) (by have := sideL_len f height; omega) okL w (by omega) hlow (Rd.own (Rd.at 8 rfl) w hw) (Rd.own (Rd.at 9 rfl) w hw) (Rd.own (Rd.at 0 rfl) w hw) (hT2.at hw)) ?_)
  rintro v L' ⟨Psa, qsa, rfl, rfl⟩
  refine ⟨Sub.drop _ (Sub.keep _ (Sub.keep _ (Sub.keep _ (Sub.keep _ (Sub.keep _ (Sub.keep _ (Sub.keep _ (Sub.keep _ (Sub.keep _ (Sub.keep _ (Sub.keep _ (Sub.nil [])))))))))))), ?_⟩
  refine D.cgX (k := 24) rfl (by kernel_rfl) (by kernel_rfl) (by kernel_rfl) rfl rfl rfl (CalU.con0 Tryd.ent37 rfl (fun w hw => (by have h := hashes_R Ol c1 Psa qsa ((sideL f height).map (fun a : Nat × Nat => nodeH (fL E ls) a.1 a.2)) (by rw [List.length_map]; have := sideL_len f height; omega) w (by rw [← eqL]; exact (Rd.own (Rd.at 4 rfl) w hw)) (Rd.own (Rd.at 0 rfl) w hw); rw [List.length_map] at h; exact h : Calls Tryd.prog 37 #[.slice Ol (sideL f height).length c1, .slice Psa (sideL f height).length qsa] w (Ret w (.bool true))))) ?_
  refine D.qX (k := 25) rfl (by kernel_rfl) (by kernel_rfl) (by kernel_rfl) rfl rfl (Qt.pick_t rfl (by conv => lhs; whnf)) ?_
  refine D.qX (k := 26) rfl (by kernel_rfl) (by kernel_rfl) (by kernel_rfl) rfl rfl (Qt.move (by conv => lhs; whnf)) ?_
  refine D.qgX (k := 27) rfl (by kernel_rfl) (by kernel_rfl) (by kernel_rfl) rfl rfl rfl (Qt.field Tryd.underlying77 rfl Tryd.cells44 rfl) ?_
  refine D.qgX (k := 28) rfl (by kernel_rfl) (by kernel_rfl) (by kernel_rfl) rfl rfl rfl (Qt.load rfl (Ld.one (Has.at 3 rfl) Tryd.one44 (rfl))) ?_
  refine D.qgX (k := 29) rfl (by kernel_rfl) (by kernel_rfl) (by kernel_rfl) rfl rfl rfl (Qt.load rfl (Ld.all (vs := vl (.agg #[.int .i64 (height : Int), .slice Al ls.length cl, .slice O 33 d])) (Has.at 6 rfl) Tryd.row52 Tryd.cells52)) ?_
  refine D.qgX (k := 30) rfl (by kernel_rfl) (by kernel_rfl) (by kernel_rfl) rfl rfl rfl (Qt.move (by conv => lhs; whnf)) ?_
  refine D.ng (k := 31) (Sub.nil _) rfl (by kernel_rfl) (by kernel_rfl) rfl rfl rfl (OpV.con (Pre := []) (R := _) Tryd.ent51 rfl (List.Perm.refl _) (fun w hw => rmakeS_walk E hE height hh ls Al cl O d A2 e2 (sideR (f + n - 1) height) (by have := sideR_len (f + n - 1) height; omega) okR w (by omega) hlow (Rd.own (Rd.at 9 rfl) w hw) (Rd.own (Rd.at 10 rfl) w hw) (Rd.own (Rd.at 2 rfl) w hw) (hT2.at hw)) ?_)
  rintro v L' ⟨Psb, qsb, rfl, rfl⟩
  refine ⟨Sub.drop _ (Sub.keep _ (Sub.keep _ (Sub.keep _ (Sub.keep _ (Sub.keep _ (Sub.keep _ (Sub.keep _ (Sub.keep _ (Sub.keep _ (Sub.keep _ (Sub.keep _ (Sub.keep _ (Sub.nil []))))))))))))), ?_⟩
  refine D.cgX (k := 32) rfl (by kernel_rfl) (by kernel_rfl) (by kernel_rfl) rfl rfl rfl (CalU.con0 Tryd.ent37 rfl (fun w hw => (by have h := hashes_R Or d1 Psb qsb ((sideR (f + n - 1) height).map (fun a : Nat × Nat => nodeH (fL E ls) a.1 a.2)) (by rw [List.length_map]; have := sideR_len (f + n - 1) height; omega) w (by rw [← eqR]; exact (Rd.own (Rd.at 6 rfl) w hw)) (Rd.own (Rd.at 0 rfl) w hw); rw [List.length_map] at h; exact h : Calls Tryd.prog 37 #[.slice Or (sideR (f + n - 1) height).length d1, .slice Psb (sideR (f + n - 1) height).length qsb] w (Ret w (.bool true))))) ?_
  refine D.qX (k := 33) rfl (by kernel_rfl) (by kernel_rfl) (by kernel_rfl) rfl rfl (Qt.pick_t rfl (by conv => lhs; whnf)) ?_
  refine D.qX (k := 34) rfl (by kernel_rfl) (by kernel_rfl) (by kernel_rfl) rfl rfl (Qt.move (by conv => lhs; whnf)) ?_
  refine D.qgX (k := 35) rfl (by kernel_rfl) (by kernel_rfl) (by kernel_rfl) rfl rfl rfl (Qt.move (by conv => lhs; whnf)) ?_
  refine D.qgX (k := 36) rfl (by kernel_rfl) (by kernel_rfl) (by kernel_rfl) rfl rfl rfl (Qt.field Tryd.underlying75 rfl Tryd.cells24 rfl) ?_
  refine D.qgX (k := 37) rfl (by kernel_rfl) (by kernel_rfl) (by kernel_rfl) rfl rfl rfl (Qt.load rfl (Ld.one (Has.at 12 rfl) Tryd.one24 (rfl))) ?_
  refine D.qgX (k := 38) rfl (by kernel_rfl) (by kernel_rfl) (by kernel_rfl) rfl rfl rfl (Qt.field Tryd.underlying75 rfl Tryd.cells3 rfl) ?_
  refine D.qgX (k := 39) rfl (by kernel_rfl) (by kernel_rfl) (by kernel_rfl) rfl rfl rfl (Qt.load rfl (Ld.one (Has.at 12 rfl) Tryd.one3 (rfl))) ?_
  refine D.cgX (k := 40) rfl (by kernel_rfl) (by kernel_rfl) (by kernel_rfl) rfl rfl rfl (CalU.con0 Tryd.ent49 rfl (fun w hw => (by have k := right_R height f n hh hf64 h1 h2 w; rw [decide_eq_true hf] at k; exact k : Calls Tryd.prog 49 #[.int .i64 (height : Int), .int .u64 (f : Int), .int .i64 (n : Int)] w (Ret w (.bool true))))) ?_
  refine D.qX (k := 41) rfl (by kernel_rfl) (by kernel_rfl) (by kernel_rfl) rfl rfl (Qt.pick_t rfl (by conv => lhs; whnf)) ?_
  refine D.qX (k := 42) rfl (by kernel_rfl) (by kernel_rfl) (by kernel_rfl) rfl rfl (Qt.assign (by conv => lhs; whnf)) ?_
  refine D.done (Sub.nil _) (by kernel_rfl) ?_
  refine TC.ret ?_
  refine finQ.ret (RVs.tmp (by conv => lhs; whnf) RVs.nil) (Sub.nil _) ?_
  exact ⟨rfl, rfl⟩
set_option maxHeartbeats 1600000 in
theorem law8_walkF (E : Nat → H32) (hEm : ∀ w, Tabs 2 0 w [] → Calls Tryd.prog 88 #[] w (Ret w (.agg (hcs (emptL E)).toArray))) (hE : ∀ h, E (h + 1) = joinH (h + 1) (E h) (E h)) (hEr : ∀ w, Tabs 3 1 w [] → Calls Tryd.prog 90 #[] w (Post w [] fun v L => ∃ O d, v = .slice O 33 d ∧ L = [OwnA 23 32 O 33 d (hcs (emptL E))])) (height : Nat) (hh : height ≤ 32) (A : Option Addr) (c : Nat) (xs : List Go.E.Act) (hxs : xs.length ≤ 25) (f : Nat) (hf64 : f < 18446744073709551616) (z : Int) (hz22 : z ≤ 60 ∨ 256 < z) (hr : ∀ w, Calls Tryd.prog 49 #[.int .i64 (height : Int), .int .u64 (f : Int), .int .i64 z] w (Ret w (.bool false))) (hr2 : ∀ w, Calls Tryd.prog 46 #[.int .i64 (height : Int), .int .u64 (f : Int), .int .i64 z] w (Ret w (.bool false))) (w0 : World) (hR : Ro w0 [] (SlA A (xs.flatMap actL))) (hT : Tabs 2 0 w0 []) (hT2 : Tabs 3 1 w0 []) :
    Calls Tryd.prog 8 #[.int .i64 (height : Int), .slice A xs.length c, .agg #[.int .u64 (f : Int), .int .i64 z]] w0 (Post w0 [] fun v L => v = .bool true ∧ L = []) := by
  refine Calls.of (L := []) (n := 149) (rs := [.tmp 6]) Tryd.func8 rfl rfl rfl (Nat.le_of_ble_eq_true rfl) (Sat.nil _) ?_
  refine TC.seq ?_
  refine TC.region ?_
  refine S.opS rfl rfl (OpV.box (v := .agg #[.int .u64 (f : Int), .int .i64 z]) rfl (fun b5 => ?_))
  refine S.q rfl rfl (Qt.assign (by conv => lhs; whnf)) ?_
  refine S.nil ?_
  refine TC.seq ?_
  refine TC.seq ?_
  refine TC.region ?_
  refine S.opS rfl rfl (OpV.con0 Tryd.ent44 rfl (fun w hw => Calls.ret (alive11_walk E hEm hE w (hT.at hw))) ?_)
  refine S.q rfl rfl (Qt.not_t rfl) ?_
  refine S.nil ?_
  refine S.if_f rfl ?_
  refine TC.skip ?_
  refine TC.seq ?_
  refine TC.seq ?_
  refine TC.region ?_
  refine S.q rfl rfl (Qt.field Tryd.underlying75 rfl Tryd.cells3 rfl) ?_
  refine S.q rfl rfl (Qt.load rfl (Ld.one (Has.at 0 rfl) Tryd.one3 (rfl))) ?_
  refine S.dec rfl rfl (Qt.gti rfl rfl) (fun h22 => ?_) (fun h22 => ?_)
  · refine S.q rfl rfl (Qt.move (by conv => lhs; whnf)) ?_
    refine S.qg rfl rfl rfl (Qt.field Tryd.underlying75 rfl Tryd.cells3 rfl) ?_
    refine S.qg rfl rfl rfl (Qt.load rfl (Ld.one (Has.at 0 rfl) Tryd.one3 (rfl))) ?_
    refine S.qg rfl rfl rfl (Qt.dF (Qt.lei rfl rfl) (by omega)) ?_
    refine S.q rfl rfl (Qt.pick_t rfl (by conv => lhs; whnf)) ?_
    refine S.nil ?_
    refine S.if_f rfl ?_
    refine TC.skip ?_
    refine TC.seq ?_
    refine TC.region ?_
    refine S.q rfl rfl (Qt.move (by conv => lhs; whnf)) ?_
    refine S.q rfl rfl (Qt.move (by conv => lhs; whnf)) ?_
    refine S.opS rfl rfl (OpV.con (Pre := []) (R := _) Tryd.ent32 rfl (List.Perm.refl _) (fun w hw => both_walk E hEm hE hEr height hh A c xs hxs w (Rd.ro hR w hw) (hT.at hw) (hT2.at hw)) ?_)
    rintro v L' ⟨tb, mb, ms, ls, Al, cl, O, d, rfl, rfl, ht, hll, hlow⟩
    refine S.q rfl rfl (Qt.move (by conv => lhs; whnf)) ?_
    refine S.q rfl rfl (Qt.extract rfl rfl) ?_
    refine S.q rfl rfl (Qt.extract rfl rfl) ?_
    refine S.q rfl rfl (Qt.extract rfl rfl) ?_
    refine S.q rfl rfl (Qt.extract rfl rfl) ?_
    refine S.opS rfl rfl (OpV.alloc Tryd.zero52 (fun b8 => ?_))
    refine S.q rfl rfl (Qt.assign (by conv => lhs; whnf)) ?_
    refine S.opN rfl (OpV.storeV0 rfl (by conv => lhs; whnf) (by exact Tryd.cells52) (by rfl) (by rfl) ?_)
    refine S.q rfl rfl (Qt.assign (by conv => lhs; whnf)) ?_
    refine S.q rfl rfl (Qt.assign (by conv => lhs; whnf)) ?_
    refine S.nil ?_
    refine TC.seq ?_
    refine TC.seq ?_
    refine TC.region ?_
    refine S.q rfl rfl (Qt.move (by conv => lhs; whnf)) ?_
    refine S.q rfl rfl (Qt.not_t rfl) ?_
    refine S.q rfl rfl (Qt.move (by conv => lhs; whnf)) ?_
    refine S.qg rfl rfl rfl (Qt.move (by conv => lhs; whnf)) ?_
    refine S.qg rfl rfl rfl (Qt.not_t rfl) ?_
    refine S.q rfl rfl (Qt.pick_f rfl (by conv => lhs; whnf)) ?_
    refine S.nil ?_
    refine S.if_f rfl ?_
    refine TC.skip ?_
    refine TC.seq ?_
    refine TC.region ?_
    refine S.q rfl rfl (Qt.move (by conv => lhs; whnf)) ?_
    refine S.q rfl rfl (Qt.field Tryd.underlying75 rfl Tryd.cells24 rfl) ?_
    refine S.q rfl rfl (Qt.load rfl (Ld.one (Has.at 5 rfl) Tryd.one24 (rfl))) ?_
    refine S.q rfl rfl (Qt.field Tryd.underlying75 rfl Tryd.cells3 rfl) ?_
    refine S.q rfl rfl (Qt.load rfl (Ld.one (Has.at 5 rfl) Tryd.one3 (rfl))) ?_
    refine S.opS rfl rfl (OpV.con0 Tryd.ent47 rfl (fun w hw => Calls.ret (make_walkF E tb mb height f z hr w (Rd.at 1 rfl w hw))) ?_)
    refine S.q rfl rfl (Qt.move (by conv => lhs; whnf)) ?_
    refine S.q rfl rfl (Qt.extract rfl rfl) ?_
    refine S.q rfl rfl (Qt.extract rfl rfl) ?_
    refine S.opS rfl rfl (OpV.alloc Tryd.zero77 (fun b11 => ?_))
    refine S.opN rfl (OpV.storeV0 rfl (by conv => lhs; whnf) (by exact Tryd.cells77) (by rfl) (by rfl) ?_)
    refine S.q rfl rfl (Qt.assign (by conv => lhs; whnf)) ?_
    refine S.nil ?_
    refine TC.seq ?_
    refine TC.region ?_
    refine S.q rfl rfl (Qt.move (by conv => lhs; whnf)) ?_
    refine S.q rfl rfl (Qt.field Tryd.underlying75 rfl Tryd.cells24 rfl) ?_
    refine S.q rfl rfl (Qt.load rfl (Ld.one (Has.at 6 rfl) Tryd.one24 (rfl))) ?_
    refine S.q rfl rfl (Qt.field Tryd.underlying75 rfl Tryd.cells3 rfl) ?_
    refine S.q rfl rfl (Qt.load rfl (Ld.one (Has.at 6 rfl) Tryd.one3 (rfl))) ?_
    refine S.opS rfl rfl (OpV.con0 Tryd.ent48 rfl (fun w hw => Calls.ret (counts_walkF height f z hr w)) ?_)
    refine S.q rfl rfl (Qt.move (by conv => lhs; whnf)) ?_
    refine S.q rfl rfl (Qt.extract rfl rfl) ?_
    refine S.q rfl rfl (Qt.extract rfl rfl) ?_
    refine S.q rfl rfl (Qt.extract rfl rfl) ?_
    refine S.q rfl rfl (Qt.assign (by conv => lhs; whnf)) ?_
    refine S.q rfl rfl (Qt.assign (by conv => lhs; whnf)) ?_
    refine S.q rfl rfl (Qt.assign (by conv => lhs; whnf)) ?_
    refine S.nil ?_
    refine TC.seq ?_
    refine TC.seq ?_
    refine TC.region ?_
    refine S.q rfl rfl (Qt.move (by conv => lhs; whnf)) ?_
    refine S.q rfl rfl (Qt.field Tryd.underlying75 rfl Tryd.cells24 rfl) ?_
    refine S.q rfl rfl (Qt.load rfl (Ld.one (Has.at 6 rfl) Tryd.one24 (rfl))) ?_
    refine S.q rfl rfl (Qt.field Tryd.underlying75 rfl Tryd.cells3 rfl) ?_
    refine S.q rfl rfl (Qt.load rfl (Ld.one (Has.at 6 rfl) Tryd.one3 (rfl))) ?_
    refine S.opS rfl rfl (OpV.con0 Tryd.ent46 rfl (fun w hw => hr2 w) ?_)
    refine S.q rfl rfl (Qt.not_f rfl) ?_
    refine S.nil ?_
    refine S.if_t rfl ?_
    refine TC.seq ?_
    refine TC.region ?_
    refine S.q rfl rfl (Qt.move (by conv => lhs; whnf)) ?_
    refine S.opS rfl rfl (OpV.con0 Tryd.ent35 rfl (fun w hw => is1 w) ?_)
    refine S.q rfl rfl (Qt.move (by conv => lhs; whnf)) ?_
    refine S.qg rfl rfl rfl (Qt.move (by conv => lhs; whnf)) ?_
    refine S.opg rfl rfl rfl (OpV.con0 Tryd.ent35 rfl (fun w hw => is1 w) ?_)
    refine S.q rfl rfl (Qt.pick_t rfl (by conv => lhs; whnf)) ?_
    refine S.q rfl rfl (Qt.move (by conv => lhs; whnf)) ?_
    refine S.qg rfl rfl rfl (Qt.field Tryd.underlying77 rfl Tryd.cells44 rfl) ?_
    refine S.qg rfl rfl rfl (Qt.load rfl (Ld.one (Has.at 0 rfl) Tryd.one44 (rfl))) ?_
    refine S.qg rfl rfl rfl (Qt.len_slice Tryd.underlying44 rfl) ?_
    refine S.qg rfl rfl rfl (Qt.field Tryd.underlying77 rfl Tryd.cells44 rfl) ?_
    refine S.qg rfl rfl rfl (Qt.load rfl (Ld.one (Has.at 0 rfl) Tryd.one44 (rfl))) ?_
    refine S.qg rfl rfl rfl (Qt.len_slice Tryd.underlying44 rfl) ?_
    refine S.qg rfl rfl rfl (Qt.add rfl rfl (by simp only [kmax]; omega)) ?_
    refine S.qg rfl rfl rfl (Qt.move (by conv => lhs; whnf)) ?_
    refine S.qg rfl rfl rfl (Qt.add rfl rfl (by simp only [kmax]; omega)) ?_
    refine S.qg rfl rfl rfl (Qt.move (by conv => lhs; whnf)) ?_
    refine S.qg rfl rfl rfl (Qt.add rfl rfl (by simp only [kmax]; omega)) ?_
    refine S.qg rfl rfl rfl (Qt.dT (Qt.eq (b := 0) rfl rfl) (rfl)) ?_
    refine S.q rfl rfl (Qt.pick_t rfl (by conv => lhs; whnf)) ?_
    refine S.q rfl rfl (Qt.move (by conv => lhs; whnf)) ?_
    refine S.qg rfl rfl rfl (Qt.move (by conv => lhs; whnf)) ?_
    refine S.qg rfl rfl rfl (Qt.field Tryd.underlying75 rfl Tryd.cells24 rfl) ?_
    refine S.qg rfl rfl rfl (Qt.load rfl (Ld.one (Has.at 6 rfl) Tryd.one24 (rfl))) ?_
    refine S.qg rfl rfl rfl (Qt.field Tryd.underlying75 rfl Tryd.cells3 rfl) ?_
    refine S.qg rfl rfl rfl (Qt.load rfl (Ld.one (Has.at 6 rfl) Tryd.one3 (rfl))) ?_
    refine S.opg rfl rfl rfl (OpV.con0 Tryd.ent49 rfl (fun w hw => hr w) ?_)
    refine S.qg rfl rfl rfl (Qt.not_f rfl) ?_
    refine S.q rfl rfl (Qt.pick_t rfl (by conv => lhs; whnf)) ?_
    refine S.q rfl rfl (Qt.assign (by conv => lhs; whnf)) ?_
    refine S.nil ?_
    refine TC.ret ?_
    refine finQ.ret (RVs.tmp (by conv => lhs; whnf) RVs.nil) (Sub.nil _) ?_
    exact ⟨rfl, rfl⟩
  · refine S.q rfl rfl (Qt.move (by conv => lhs; whnf)) ?_
    refine S.pass rfl rfl ?_
    refine S.pass rfl rfl ?_
    refine S.pass rfl rfl ?_
    refine S.q rfl rfl (Qt.pick_f rfl (by conv => lhs; whnf)) ?_
    refine S.nil ?_
    refine S.if_f rfl ?_
    refine TC.skip ?_
    refine TC.seq ?_
    refine TC.region ?_
    refine S.q rfl rfl (Qt.move (by conv => lhs; whnf)) ?_
    refine S.q rfl rfl (Qt.move (by conv => lhs; whnf)) ?_
    refine S.opS rfl rfl (OpV.con (Pre := []) (R := _) Tryd.ent32 rfl (List.Perm.refl _) (fun w hw => both_walk E hEm hE hEr height hh A c xs hxs w (Rd.ro hR w hw) (hT.at hw) (hT2.at hw)) ?_)
    rintro v L' ⟨tb, mb, ms, ls, Al, cl, O, d, rfl, rfl, ht, hll, hlow⟩
    refine S.q rfl rfl (Qt.move (by conv => lhs; whnf)) ?_
    refine S.q rfl rfl (Qt.extract rfl rfl) ?_
    refine S.q rfl rfl (Qt.extract rfl rfl) ?_
    refine S.q rfl rfl (Qt.extract rfl rfl) ?_
    refine S.q rfl rfl (Qt.extract rfl rfl) ?_
    refine S.opS rfl rfl (OpV.alloc Tryd.zero52 (fun b8 => ?_))
    refine S.q rfl rfl (Qt.assign (by conv => lhs; whnf)) ?_
    refine S.opN rfl (OpV.storeV0 rfl (by conv => lhs; whnf) (by exact Tryd.cells52) (by rfl) (by rfl) ?_)
    refine S.q rfl rfl (Qt.assign (by conv => lhs; whnf)) ?_
    refine S.q rfl rfl (Qt.assign (by conv => lhs; whnf)) ?_
    refine S.nil ?_
    refine TC.seq ?_
    refine TC.seq ?_
    refine TC.region ?_
    refine S.q rfl rfl (Qt.move (by conv => lhs; whnf)) ?_
    refine S.q rfl rfl (Qt.not_t rfl) ?_
    refine S.q rfl rfl (Qt.move (by conv => lhs; whnf)) ?_
    refine S.qg rfl rfl rfl (Qt.move (by conv => lhs; whnf)) ?_
    refine S.qg rfl rfl rfl (Qt.not_t rfl) ?_
    refine S.q rfl rfl (Qt.pick_f rfl (by conv => lhs; whnf)) ?_
    refine S.nil ?_
    refine S.if_f rfl ?_
    refine TC.skip ?_
    refine TC.seq ?_
    refine TC.region ?_
    refine S.q rfl rfl (Qt.move (by conv => lhs; whnf)) ?_
    refine S.q rfl rfl (Qt.field Tryd.underlying75 rfl Tryd.cells24 rfl) ?_
    refine S.q rfl rfl (Qt.load rfl (Ld.one (Has.at 5 rfl) Tryd.one24 (rfl))) ?_
    refine S.q rfl rfl (Qt.field Tryd.underlying75 rfl Tryd.cells3 rfl) ?_
    refine S.q rfl rfl (Qt.load rfl (Ld.one (Has.at 5 rfl) Tryd.one3 (rfl))) ?_
    refine S.opS rfl rfl (OpV.con0 Tryd.ent47 rfl (fun w hw => Calls.ret (make_walkF E tb mb height f z hr w (Rd.at 1 rfl w hw))) ?_)
    refine S.q rfl rfl (Qt.move (by conv => lhs; whnf)) ?_
    refine S.q rfl rfl (Qt.extract rfl rfl) ?_
    refine S.q rfl rfl (Qt.extract rfl rfl) ?_
    refine S.opS rfl rfl (OpV.alloc Tryd.zero77 (fun b11 => ?_))
    refine S.opN rfl (OpV.storeV0 rfl (by conv => lhs; whnf) (by exact Tryd.cells77) (by rfl) (by rfl) ?_)
    refine S.q rfl rfl (Qt.assign (by conv => lhs; whnf)) ?_
    refine S.nil ?_
    refine TC.seq ?_
    refine TC.region ?_
    refine S.q rfl rfl (Qt.move (by conv => lhs; whnf)) ?_
    refine S.q rfl rfl (Qt.field Tryd.underlying75 rfl Tryd.cells24 rfl) ?_
    refine S.q rfl rfl (Qt.load rfl (Ld.one (Has.at 6 rfl) Tryd.one24 (rfl))) ?_
    refine S.q rfl rfl (Qt.field Tryd.underlying75 rfl Tryd.cells3 rfl) ?_
    refine S.q rfl rfl (Qt.load rfl (Ld.one (Has.at 6 rfl) Tryd.one3 (rfl))) ?_
    refine S.opS rfl rfl (OpV.con0 Tryd.ent48 rfl (fun w hw => Calls.ret (counts_walkF height f z hr w)) ?_)
    refine S.q rfl rfl (Qt.move (by conv => lhs; whnf)) ?_
    refine S.q rfl rfl (Qt.extract rfl rfl) ?_
    refine S.q rfl rfl (Qt.extract rfl rfl) ?_
    refine S.q rfl rfl (Qt.extract rfl rfl) ?_
    refine S.q rfl rfl (Qt.assign (by conv => lhs; whnf)) ?_
    refine S.q rfl rfl (Qt.assign (by conv => lhs; whnf)) ?_
    refine S.q rfl rfl (Qt.assign (by conv => lhs; whnf)) ?_
    refine S.nil ?_
    refine TC.seq ?_
    refine TC.seq ?_
    refine TC.region ?_
    refine S.q rfl rfl (Qt.move (by conv => lhs; whnf)) ?_
    refine S.q rfl rfl (Qt.field Tryd.underlying75 rfl Tryd.cells24 rfl) ?_
    refine S.q rfl rfl (Qt.load rfl (Ld.one (Has.at 6 rfl) Tryd.one24 (rfl))) ?_
    refine S.q rfl rfl (Qt.field Tryd.underlying75 rfl Tryd.cells3 rfl) ?_
    refine S.q rfl rfl (Qt.load rfl (Ld.one (Has.at 6 rfl) Tryd.one3 (rfl))) ?_
    refine S.opS rfl rfl (OpV.con0 Tryd.ent46 rfl (fun w hw => hr2 w) ?_)
    refine S.q rfl rfl (Qt.not_f rfl) ?_
    refine S.nil ?_
    refine S.if_t rfl ?_
    refine TC.seq ?_
    refine TC.region ?_
    refine S.q rfl rfl (Qt.move (by conv => lhs; whnf)) ?_
    refine S.opS rfl rfl (OpV.con0 Tryd.ent35 rfl (fun w hw => is1 w) ?_)
    refine S.q rfl rfl (Qt.move (by conv => lhs; whnf)) ?_
    refine S.qg rfl rfl rfl (Qt.move (by conv => lhs; whnf)) ?_
    refine S.opg rfl rfl rfl (OpV.con0 Tryd.ent35 rfl (fun w hw => is1 w) ?_)
    refine S.q rfl rfl (Qt.pick_t rfl (by conv => lhs; whnf)) ?_
    refine S.q rfl rfl (Qt.move (by conv => lhs; whnf)) ?_
    refine S.qg rfl rfl rfl (Qt.field Tryd.underlying77 rfl Tryd.cells44 rfl) ?_
    refine S.qg rfl rfl rfl (Qt.load rfl (Ld.one (Has.at 0 rfl) Tryd.one44 (rfl))) ?_
    refine S.qg rfl rfl rfl (Qt.len_slice Tryd.underlying44 rfl) ?_
    refine S.qg rfl rfl rfl (Qt.field Tryd.underlying77 rfl Tryd.cells44 rfl) ?_
    refine S.qg rfl rfl rfl (Qt.load rfl (Ld.one (Has.at 0 rfl) Tryd.one44 (rfl))) ?_
    refine S.qg rfl rfl rfl (Qt.len_slice Tryd.underlying44 rfl) ?_
    refine S.qg rfl rfl rfl (Qt.add rfl rfl (by simp only [kmax]; omega)) ?_
    refine S.qg rfl rfl rfl (Qt.move (by conv => lhs; whnf)) ?_
    refine S.qg rfl rfl rfl (Qt.add rfl rfl (by simp only [kmax]; omega)) ?_
    refine S.qg rfl rfl rfl (Qt.move (by conv => lhs; whnf)) ?_
    refine S.qg rfl rfl rfl (Qt.add rfl rfl (by simp only [kmax]; omega)) ?_
    refine S.qg rfl rfl rfl (Qt.dT (Qt.eq (b := 0) rfl rfl) (rfl)) ?_
    refine S.q rfl rfl (Qt.pick_t rfl (by conv => lhs; whnf)) ?_
    refine S.q rfl rfl (Qt.move (by conv => lhs; whnf)) ?_
    refine S.qg rfl rfl rfl (Qt.move (by conv => lhs; whnf)) ?_
    refine S.qg rfl rfl rfl (Qt.field Tryd.underlying75 rfl Tryd.cells24 rfl) ?_
    refine S.qg rfl rfl rfl (Qt.load rfl (Ld.one (Has.at 6 rfl) Tryd.one24 (rfl))) ?_
    refine S.qg rfl rfl rfl (Qt.field Tryd.underlying75 rfl Tryd.cells3 rfl) ?_
    refine S.qg rfl rfl rfl (Qt.load rfl (Ld.one (Has.at 6 rfl) Tryd.one3 (rfl))) ?_
    refine S.opg rfl rfl rfl (OpV.con0 Tryd.ent49 rfl (fun w hw => hr w) ?_)
    refine S.qg rfl rfl rfl (Qt.not_f rfl) ?_
    refine S.q rfl rfl (Qt.pick_t rfl (by conv => lhs; whnf)) ?_
    refine S.q rfl rfl (Qt.assign (by conv => lhs; whnf)) ?_
    refine S.nil ?_
    refine TC.ret ?_
    refine finQ.ret (RVs.tmp (by conv => lhs; whnf) RVs.nil) (Sub.nil _) ?_
    exact ⟨rfl, rfl⟩
set_option maxHeartbeats 1600000 in
theorem law8_walkE (E : Nat → H32) (hEm : ∀ w, Tabs 2 0 w [] → Calls Tryd.prog 88 #[] w (Ret w (.agg (hcs (emptL E)).toArray))) (hE : ∀ h, E (h + 1) = joinH (h + 1) (E h) (E h)) (y : Int) (A : Option Addr) (c : Nat) (xs : List Go.E.Act) (f : Nat) (n : Nat) (hn : 60 < n) (hn2 : n ≤ 256) (w0 : World) (hT : Tabs 2 0 w0 []) :
    Calls Tryd.prog 8 #[.int .i64 y, .slice A xs.length c, .agg #[.int .u64 (f : Int), .int .i64 (n : Int)]] w0 (Post w0 [] fun v L => v = .bool true ∧ L = []) := by
  refine Calls.of (L := []) (n := 149) (rs := [.tmp 6]) Tryd.func8 rfl rfl rfl (Nat.le_of_ble_eq_true rfl) (Sat.nil _) ?_
  refine TC.seq ?_
  refine TC.region ?_
  refine S.opS rfl rfl (OpV.box (v := .agg #[.int .u64 (f : Int), .int .i64 (n : Int)]) rfl (fun b5 => ?_))
  refine S.q rfl rfl (Qt.assign (by conv => lhs; whnf)) ?_
  refine S.nil ?_
  refine TC.seq ?_
  refine TC.seq ?_
  refine TC.region ?_
  refine S.opS rfl rfl (OpV.con0 Tryd.ent44 rfl (fun w hw => Calls.ret (alive11_walk E hEm hE w (hT.at hw))) ?_)
  refine S.q rfl rfl (Qt.not_t rfl) ?_
  refine S.nil ?_
  refine S.if_f rfl ?_
  refine TC.skip ?_
  refine TC.seq ?_
  refine TC.seq ?_
  refine TC.region ?_
  refine S.q rfl rfl (Qt.field Tryd.underlying75 rfl Tryd.cells3 rfl) ?_
  refine S.q rfl rfl (Qt.load rfl (Ld.one (Has.at 0 rfl) Tryd.one3 (rfl))) ?_
  refine S.q rfl rfl (Qt.dT (Qt.gt (b := 60) rfl rfl) (by omega)) ?_
  refine S.q rfl rfl (Qt.move (by conv => lhs; whnf)) ?_
  refine S.qg rfl rfl rfl (Qt.field Tryd.underlying75 rfl Tryd.cells3 rfl) ?_
  refine S.qg rfl rfl rfl (Qt.load rfl (Ld.one (Has.at 0 rfl) Tryd.one3 (rfl))) ?_
  refine S.qg rfl rfl rfl (Qt.dT (Qt.le (b := 256) rfl rfl) (by omega)) ?_
  refine S.q rfl rfl (Qt.pick_t rfl (by conv => lhs; whnf)) ?_
  refine S.nil ?_
  refine S.if_t rfl ?_
  refine TC.seq ?_
  refine TC.region ?_
  refine S.q rfl rfl (Qt.assign (by conv => lhs; whnf)) ?_
  refine S.nil ?_
  refine TC.ret ?_
  refine finQ.ret (RVs.tmp (by conv => lhs; whnf) RVs.nil) (Sub.nil _) ?_
  exact ⟨rfl, rfl⟩
set_option maxHeartbeats 1600000 in
theorem law8_walkL (E : Nat → H32) (hEm : ∀ w, Tabs 2 0 w [] → Calls Tryd.prog 88 #[] w (Ret w (.agg (hcs (emptL E)).toArray))) (hE : ∀ h, E (h + 1) = joinH (h + 1) (E h) (E h)) (y : Int) (A : Option Addr) (c : Nat) (xs : List Go.E.Act) (f : Nat) (z : Int) (hz22 : z ≤ 60 ∨ 256 < z) (hxs : 25 < xs.length) (w0 : World) (hT : Tabs 2 0 w0 []) :
    Calls Tryd.prog 8 #[.int .i64 y, .slice A xs.length c, .agg #[.int .u64 (f : Int), .int .i64 z]] w0 (Post w0 [] fun v L => v = .bool true ∧ L = []) := by
  refine Calls.of (L := []) (n := 149) (rs := [.tmp 6]) Tryd.func8 rfl rfl rfl (Nat.le_of_ble_eq_true rfl) (Sat.nil _) ?_
  refine TC.seq ?_
  refine TC.region ?_
  refine S.opS rfl rfl (OpV.box (v := .agg #[.int .u64 (f : Int), .int .i64 z]) rfl (fun b5 => ?_))
  refine S.q rfl rfl (Qt.assign (by conv => lhs; whnf)) ?_
  refine S.nil ?_
  refine TC.seq ?_
  refine TC.seq ?_
  refine TC.region ?_
  refine S.opS rfl rfl (OpV.con0 Tryd.ent44 rfl (fun w hw => Calls.ret (alive11_walk E hEm hE w (hT.at hw))) ?_)
  refine S.q rfl rfl (Qt.not_t rfl) ?_
  refine S.nil ?_
  refine S.if_f rfl ?_
  refine TC.skip ?_
  refine TC.seq ?_
  refine TC.seq ?_
  refine TC.region ?_
  refine S.q rfl rfl (Qt.field Tryd.underlying75 rfl Tryd.cells3 rfl) ?_
  refine S.q rfl rfl (Qt.load rfl (Ld.one (Has.at 0 rfl) Tryd.one3 (rfl))) ?_
  refine S.dec rfl rfl (Qt.gti rfl rfl) (fun h22 => ?_) (fun h22 => ?_)
  · refine S.q rfl rfl (Qt.move (by conv => lhs; whnf)) ?_
    refine S.qg rfl rfl rfl (Qt.field Tryd.underlying75 rfl Tryd.cells3 rfl) ?_
    refine S.qg rfl rfl rfl (Qt.load rfl (Ld.one (Has.at 0 rfl) Tryd.one3 (rfl))) ?_
    refine S.qg rfl rfl rfl (Qt.dF (Qt.lei rfl rfl) (by omega)) ?_
    refine S.q rfl rfl (Qt.pick_t rfl (by conv => lhs; whnf)) ?_
    refine S.nil ?_
    refine S.if_f rfl ?_
    refine TC.skip ?_
    refine TC.seq ?_
    refine TC.region ?_
    refine S.q rfl rfl (Qt.move (by conv => lhs; whnf)) ?_
    refine S.q rfl rfl (Qt.move (by conv => lhs; whnf)) ?_
    refine S.opS rfl rfl (OpV.con0 Tryd.ent32 rfl (fun w hw => bothL_R E y A c xs hxs w) ?_)
    refine S.q rfl rfl (Qt.move (by conv => lhs; whnf)) ?_
    refine S.q rfl rfl (Qt.extract rfl rfl) ?_
    refine S.q rfl rfl (Qt.extract rfl rfl) ?_
    refine S.q rfl rfl (Qt.extract rfl rfl) ?_
    refine S.q rfl rfl (Qt.extract rfl rfl) ?_
    refine S.opS rfl rfl (OpV.alloc Tryd.zero52 (fun b8 => ?_))
    refine S.q rfl rfl (Qt.assign (by conv => lhs; whnf)) ?_
    refine S.opN rfl (OpV.storeV0 rfl (by conv => lhs; whnf) (by exact Tryd.cells52) (by rfl) (by rfl) ?_)
    refine S.q rfl rfl (Qt.assign (by conv => lhs; whnf)) ?_
    refine S.q rfl rfl (Qt.assign (by conv => lhs; whnf)) ?_
    refine S.nil ?_
    refine TC.seq ?_
    refine TC.seq ?_
    refine TC.region ?_
    refine S.q rfl rfl (Qt.move (by conv => lhs; whnf)) ?_
    refine S.q rfl rfl (Qt.not_t rfl) ?_
    refine S.q rfl rfl (Qt.move (by conv => lhs; whnf)) ?_
    refine S.qg rfl rfl rfl (Qt.move (by conv => lhs; whnf)) ?_
    refine S.qg rfl rfl rfl (Qt.not_f rfl) ?_
    refine S.q rfl rfl (Qt.pick_f rfl (by conv => lhs; whnf)) ?_
    refine S.nil ?_
    refine S.if_t rfl ?_
    refine TC.seq ?_
    refine TC.region ?_
    refine S.q rfl rfl (Qt.move (by conv => lhs; whnf)) ?_
    refine S.q rfl rfl (Qt.assign (by conv => lhs; whnf)) ?_
    refine S.nil ?_
    refine TC.ret ?_
    refine finQ.ret (RVs.tmp (by conv => lhs; whnf) RVs.nil) (Sub.nil _) ?_
    exact ⟨rfl, rfl⟩
  · refine S.q rfl rfl (Qt.move (by conv => lhs; whnf)) ?_
    refine S.pass rfl rfl ?_
    refine S.pass rfl rfl ?_
    refine S.pass rfl rfl ?_
    refine S.q rfl rfl (Qt.pick_f rfl (by conv => lhs; whnf)) ?_
    refine S.nil ?_
    refine S.if_f rfl ?_
    refine TC.skip ?_
    refine TC.seq ?_
    refine TC.region ?_
    refine S.q rfl rfl (Qt.move (by conv => lhs; whnf)) ?_
    refine S.q rfl rfl (Qt.move (by conv => lhs; whnf)) ?_
    refine S.opS rfl rfl (OpV.con0 Tryd.ent32 rfl (fun w hw => bothL_R E y A c xs hxs w) ?_)
    refine S.q rfl rfl (Qt.move (by conv => lhs; whnf)) ?_
    refine S.q rfl rfl (Qt.extract rfl rfl) ?_
    refine S.q rfl rfl (Qt.extract rfl rfl) ?_
    refine S.q rfl rfl (Qt.extract rfl rfl) ?_
    refine S.q rfl rfl (Qt.extract rfl rfl) ?_
    refine S.opS rfl rfl (OpV.alloc Tryd.zero52 (fun b8 => ?_))
    refine S.q rfl rfl (Qt.assign (by conv => lhs; whnf)) ?_
    refine S.opN rfl (OpV.storeV0 rfl (by conv => lhs; whnf) (by exact Tryd.cells52) (by rfl) (by rfl) ?_)
    refine S.q rfl rfl (Qt.assign (by conv => lhs; whnf)) ?_
    refine S.q rfl rfl (Qt.assign (by conv => lhs; whnf)) ?_
    refine S.nil ?_
    refine TC.seq ?_
    refine TC.seq ?_
    refine TC.region ?_
    refine S.q rfl rfl (Qt.move (by conv => lhs; whnf)) ?_
    refine S.q rfl rfl (Qt.not_t rfl) ?_
    refine S.q rfl rfl (Qt.move (by conv => lhs; whnf)) ?_
    refine S.qg rfl rfl rfl (Qt.move (by conv => lhs; whnf)) ?_
    refine S.qg rfl rfl rfl (Qt.not_f rfl) ?_
    refine S.q rfl rfl (Qt.pick_f rfl (by conv => lhs; whnf)) ?_
    refine S.nil ?_
    refine S.if_t rfl ?_
    refine TC.seq ?_
    refine TC.region ?_
    refine S.q rfl rfl (Qt.move (by conv => lhs; whnf)) ?_
    refine S.q rfl rfl (Qt.assign (by conv => lhs; whnf)) ?_
    refine S.nil ?_
    refine TC.ret ?_
    refine finQ.ret (RVs.tmp (by conv => lhs; whnf) RVs.nil) (Sub.nil _) ?_
    exact ⟨rfl, rfl⟩
set_option maxHeartbeats 1600000 in
theorem law8_walkZ (E : Nat → H32) (hEm : ∀ w, Tabs 2 0 w [] → Calls Tryd.prog 88 #[] w (Ret w (.agg (hcs (emptL E)).toArray))) (hE : ∀ h, E (h + 1) = joinH (h + 1) (E h) (E h)) (y : Int) (A : Option Addr) (c : Nat) (xs : List Go.E.Act) (f : Nat) (z : Int) (hz22 : z ≤ 60 ∨ 256 < z) (hxs : xs.length ≤ 25) (hz : y < 0 ∨ 32 < y) (w0 : World) (hT : Tabs 2 0 w0 []) :
    Calls Tryd.prog 8 #[.int .i64 y, .slice A xs.length c, .agg #[.int .u64 (f : Int), .int .i64 z]] w0 (Post w0 [] fun v L => v = .bool true ∧ L = []) := by
  refine Calls.of (L := []) (n := 149) (rs := [.tmp 6]) Tryd.func8 rfl rfl rfl (Nat.le_of_ble_eq_true rfl) (Sat.nil _) ?_
  refine TC.seq ?_
  refine TC.region ?_
  refine S.opS rfl rfl (OpV.box (v := .agg #[.int .u64 (f : Int), .int .i64 z]) rfl (fun b5 => ?_))
  refine S.q rfl rfl (Qt.assign (by conv => lhs; whnf)) ?_
  refine S.nil ?_
  refine TC.seq ?_
  refine TC.seq ?_
  refine TC.region ?_
  refine S.opS rfl rfl (OpV.con0 Tryd.ent44 rfl (fun w hw => Calls.ret (alive11_walk E hEm hE w (hT.at hw))) ?_)
  refine S.q rfl rfl (Qt.not_t rfl) ?_
  refine S.nil ?_
  refine S.if_f rfl ?_
  refine TC.skip ?_
  refine TC.seq ?_
  refine TC.seq ?_
  refine TC.region ?_
  refine S.q rfl rfl (Qt.field Tryd.underlying75 rfl Tryd.cells3 rfl) ?_
  refine S.q rfl rfl (Qt.load rfl (Ld.one (Has.at 0 rfl) Tryd.one3 (rfl))) ?_
  refine S.dec rfl rfl (Qt.gti rfl rfl) (fun h22 => ?_) (fun h22 => ?_)
  · refine S.q rfl rfl (Qt.move (by conv => lhs; whnf)) ?_
    refine S.qg rfl rfl rfl (Qt.field Tryd.underlying75 rfl Tryd.cells3 rfl) ?_
    refine S.qg rfl rfl rfl (Qt.load rfl (Ld.one (Has.at 0 rfl) Tryd.one3 (rfl))) ?_
    refine S.qg rfl rfl rfl (Qt.dF (Qt.lei rfl rfl) (by omega)) ?_
    refine S.q rfl rfl (Qt.pick_t rfl (by conv => lhs; whnf)) ?_
    refine S.nil ?_
    refine S.if_f rfl ?_
    refine TC.skip ?_
    refine TC.seq ?_
    refine TC.region ?_
    refine S.q rfl rfl (Qt.move (by conv => lhs; whnf)) ?_
    refine S.q rfl rfl (Qt.move (by conv => lhs; whnf)) ?_
    refine S.opS rfl rfl (OpV.con0 Tryd.ent32 rfl (fun w hw => bothZ_R E y A c xs hxs hz w) ?_)
    refine S.q rfl rfl (Qt.move (by conv => lhs; whnf)) ?_
    refine S.q rfl rfl (Qt.extract rfl rfl) ?_
    refine S.q rfl rfl (Qt.extract rfl rfl) ?_
    refine S.q rfl rfl (Qt.extract rfl rfl) ?_
    refine S.q rfl rfl (Qt.extract rfl rfl) ?_
    refine S.opS rfl rfl (OpV.alloc Tryd.zero52 (fun b8 => ?_))
    refine S.q rfl rfl (Qt.assign (by conv => lhs; whnf)) ?_
    refine S.opN rfl (OpV.storeV0 rfl (by conv => lhs; whnf) (by exact Tryd.cells52) (by rfl) (by rfl) ?_)
    refine S.q rfl rfl (Qt.assign (by conv => lhs; whnf)) ?_
    refine S.q rfl rfl (Qt.assign (by conv => lhs; whnf)) ?_
    refine S.nil ?_
    refine TC.seq ?_
    refine TC.seq ?_
    refine TC.region ?_
    refine S.q rfl rfl (Qt.move (by conv => lhs; whnf)) ?_
    refine S.q rfl rfl (Qt.not_t rfl) ?_
    refine S.q rfl rfl (Qt.move (by conv => lhs; whnf)) ?_
    refine S.qg rfl rfl rfl (Qt.move (by conv => lhs; whnf)) ?_
    refine S.qg rfl rfl rfl (Qt.not_f rfl) ?_
    refine S.q rfl rfl (Qt.pick_f rfl (by conv => lhs; whnf)) ?_
    refine S.nil ?_
    refine S.if_t rfl ?_
    refine TC.seq ?_
    refine TC.region ?_
    refine S.q rfl rfl (Qt.move (by conv => lhs; whnf)) ?_
    refine S.q rfl rfl (Qt.assign (by conv => lhs; whnf)) ?_
    refine S.nil ?_
    refine TC.ret ?_
    refine finQ.ret (RVs.tmp (by conv => lhs; whnf) RVs.nil) (Sub.nil _) ?_
    exact ⟨rfl, rfl⟩
  · refine S.q rfl rfl (Qt.move (by conv => lhs; whnf)) ?_
    refine S.pass rfl rfl ?_
    refine S.pass rfl rfl ?_
    refine S.pass rfl rfl ?_
    refine S.q rfl rfl (Qt.pick_f rfl (by conv => lhs; whnf)) ?_
    refine S.nil ?_
    refine S.if_f rfl ?_
    refine TC.skip ?_
    refine TC.seq ?_
    refine TC.region ?_
    refine S.q rfl rfl (Qt.move (by conv => lhs; whnf)) ?_
    refine S.q rfl rfl (Qt.move (by conv => lhs; whnf)) ?_
    refine S.opS rfl rfl (OpV.con0 Tryd.ent32 rfl (fun w hw => bothZ_R E y A c xs hxs hz w) ?_)
    refine S.q rfl rfl (Qt.move (by conv => lhs; whnf)) ?_
    refine S.q rfl rfl (Qt.extract rfl rfl) ?_
    refine S.q rfl rfl (Qt.extract rfl rfl) ?_
    refine S.q rfl rfl (Qt.extract rfl rfl) ?_
    refine S.q rfl rfl (Qt.extract rfl rfl) ?_
    refine S.opS rfl rfl (OpV.alloc Tryd.zero52 (fun b8 => ?_))
    refine S.q rfl rfl (Qt.assign (by conv => lhs; whnf)) ?_
    refine S.opN rfl (OpV.storeV0 rfl (by conv => lhs; whnf) (by exact Tryd.cells52) (by rfl) (by rfl) ?_)
    refine S.q rfl rfl (Qt.assign (by conv => lhs; whnf)) ?_
    refine S.q rfl rfl (Qt.assign (by conv => lhs; whnf)) ?_
    refine S.nil ?_
    refine TC.seq ?_
    refine TC.seq ?_
    refine TC.region ?_
    refine S.q rfl rfl (Qt.move (by conv => lhs; whnf)) ?_
    refine S.q rfl rfl (Qt.not_t rfl) ?_
    refine S.q rfl rfl (Qt.move (by conv => lhs; whnf)) ?_
    refine S.qg rfl rfl rfl (Qt.move (by conv => lhs; whnf)) ?_
    refine S.qg rfl rfl rfl (Qt.not_f rfl) ?_
    refine S.q rfl rfl (Qt.pick_f rfl (by conv => lhs; whnf)) ?_
    refine S.nil ?_
    refine S.if_t rfl ?_
    refine TC.seq ?_
    refine TC.region ?_
    refine S.q rfl rfl (Qt.move (by conv => lhs; whnf)) ?_
    refine S.q rfl rfl (Qt.assign (by conv => lhs; whnf)) ?_
    refine S.nil ?_
    refine TC.ret ?_
    refine finQ.ret (RVs.tmp (by conv => lhs; whnf) RVs.nil) (Sub.nil _) ?_
    exact ⟨rfl, rfl⟩
theorem spanMakes_R (y : Int) (A : Option Addr) (c : Nat) (xs : List Go.E.Act) (f : Nat) (hf64 : f < 18446744073709551616) (m : Int) (w0 : World) (hR : Ro w0 [] (SlA A (xs.flatMap actL))) (hT : Tabs 2 0 w0 []) (hT2 : Tabs 3 1 w0 []) :
    Calls Tryd.prog 8 #[.int .i64 y, .slice A xs.length c, .agg #[.int .u64 (f : Int), .int .i64 m]] w0 (Post w0 [] fun v L => v = .bool true ∧ L = []) := by
  have hEm : ∀ w, Tabs 2 0 w [] → Calls Tryd.prog 88 #[] w (Ret w (.agg (hcs (emptL emptyH)).toArray)) := fun w h => empties_R w h
  have hE : ∀ h, emptyH (h + 1) = joinH (h + 1) (emptyH h) (emptyH h) := fun _ => rfl
  by_cases hm : 60 < m ∧ m ≤ 256
  · obtain ⟨n, rfl⟩ : ∃ n : Nat, m = (n : Int) := ⟨m.toNat, by omega⟩
    exact law8_walkE emptyH hEm hE y A c xs f n (by omega) (by omega) w0 hT
  · by_cases hx : xs.length ≤ 25
    · by_cases hz : y < 0 ∨ 32 < y
      · exact law8_walkZ emptyH hEm hE y A c xs f m (by omega) hx hz w0 hT
      · obtain ⟨height, rfl⟩ : ∃ n : Nat, y = (n : Int) := ⟨y.toNat, by omega⟩
        have hh : height ≤ 32 := by omega
        by_cases h1 : m < 1 ∨ 256 < m
        · exact law8_walkF emptyH hEm hE (fun w h => rempties_walk w h) height hh A c xs hx f hf64 m (by omega) (fun w => rightF_R height f m h1 hh w) (fun w => rrightF_R height f m h1 hh w) w0 hR hT hT2
        · obtain ⟨n, rfl⟩ : ∃ n : Nat, m = (n : Int) := ⟨m.toNat, by omega⟩
          by_cases hf : f + n ≤ 2 ^ height
          · exact law8_walk emptyH hEm hE (fun w h => rempties_walk w h) height hh A c xs hx f hf64 n (by omega) (by omega) hf w0 hR hT hT2
          · exact law8_walkF emptyH hEm hE (fun w h => rempties_walk w h) height hh A c xs hx f hf64 n (by omega) (fun w => by have k := right_R height f n hh hf64 (by omega) (by omega) w; rw [decide_eq_false hf] at k; exact k) (fun w => by have k := rright_R height f n hh hf64 (by omega) (by omega) w; rw [decide_eq_false hf] at k; exact k) w0 hR hT hT2
    · exact law8_walkL emptyH hEm hE y A c xs f m (by omega) (by omega) w0 hT

end Go.Proofs.YtlneklemjfefpaaDoor
