/-
  Walks: spans, counted and made. Printed by a program of ours.
-/
import Derived.Test.YtlneklemjfefpaaDoorTU
namespace Go.Proofs.YtlneklemjfefpaaDoor
open Go.E
set_option linter.unusedVariables false
set_option maxRecDepth 4000


set_option maxHeartbeats 400000 in
theorem cnt1_walk (a b m n l p : Nat) (hm : m ≤ 4096) (hn : n ≤ 4096) (w0 : World) (hL : Sat w0 [Blk a 3 [.int .i64 ((m : Nat) : Int)], Blk b 3 [.int .i64 ((n : Nat) : Int)]]) :
    Calls Tryd.prog 104 #[.int .i64 (l : Int), .int .u64 (p : Int), .pointer (some ⟨a, 0, none⟩)] w0 (Post w0 (fps [Blk a 3 [.int .i64 ((m : Nat) : Int)], Blk b 3 [.int .i64 ((n : Nat) : Int)]]) fun v L => L = [Blk a 3 [.int .i64 ((m + 1 : Nat) : Int)], Blk b 3 [.int .i64 ((n : Nat) : Int)]]) := by
  refine Calls.of (L := [Blk a 3 [.int .i64 ((m : Nat) : Int)], Blk b 3 [.int .i64 ((n : Nat) : Int)]]) (n := 7) (rs := []) Tryd.func104 rfl rfl rfl (Nat.le_of_ble_eq_true rfl) (hL) ?_
  refine TC.region ?_
  refine S.q rfl rfl (Qt.load rfl (Ld.one (Has.at 0 rfl) Tryd.one3 (rfl))) ?_
  refine S.q rfl rfl (Qt.add (b := 1) rfl rfl (by simp only [kmax]; omega)) ?_
  refine S.opN rfl (OpV.storeV0 rfl (by conv => lhs; whnf) (by exact Tryd.cells3) (by rfl) (by rfl) ?_)
  refine S.nil ?_
  refine finQ.normal RVs.nil (Sub.refl _) ?_
  rfl
set_option maxHeartbeats 400000 in
theorem cnt2_walk (a b m n l p : Nat) (hm : m ≤ 4096) (hn : n ≤ 4096) (w0 : World) (hL : Sat w0 [Blk a 3 [.int .i64 ((m : Nat) : Int)], Blk b 3 [.int .i64 ((n : Nat) : Int)]]) :
    Calls Tryd.prog 105 #[.int .i64 (l : Int), .int .u64 (p : Int), .pointer (some ⟨b, 0, none⟩)] w0 (Post w0 (fps [Blk a 3 [.int .i64 ((m : Nat) : Int)], Blk b 3 [.int .i64 ((n : Nat) : Int)]]) fun v L => L = [Blk a 3 [.int .i64 ((m : Nat) : Int)], Blk b 3 [.int .i64 ((n + 1 : Nat) : Int)]]) := by
  refine Calls.of (L := [Blk a 3 [.int .i64 ((m : Nat) : Int)], Blk b 3 [.int .i64 ((n : Nat) : Int)]]) (n := 7) (rs := []) Tryd.func105 rfl rfl rfl (Nat.le_of_ble_eq_true rfl) (hL) ?_
  refine TC.region ?_
  refine S.q rfl rfl (Qt.load rfl (Ld.one (Has.at 1 rfl) Tryd.one3 (rfl))) ?_
  refine S.q rfl rfl (Qt.add (b := 1) rfl rfl (by simp only [kmax]; omega)) ?_
  refine S.opN rfl (OpV.storeV1 rfl (by conv => lhs; whnf) (by exact Tryd.cells3) (by rfl) (by rfl) ?_)
  refine S.nil ?_
  refine finQ.normal RVs.nil (Sub.refl _) ?_
  rfl
set_option maxHeartbeats 400000 in
theorem counts_walk (h f n : Nat) (hh : h ≤ 32) (hf64 : f < 18446744073709551616) (hf : f + n ≤ 2 ^ h) (h1 : 1 ≤ n) (h2 : n ≤ 256) (w0 : World) :
    Calls Tryd.prog 48 #[.int .i64 (h : Int), .int .u64 (f : Int), .int .i64 (n : Int)] w0 (Post w0 [] fun v L => v = .tuple #[.int .i64 (((sideL f h).length : Nat) : Int), .int .i64 (((sideR (f + n - 1) h).length : Nat) : Int), .nilIface] ∧ L = []) := by
  refine Calls.of (L := []) (n := 23) (rs := [.cell 6 3, .cell 7 3, .tmp 8]) Tryd.func48 rfl rfl rfl (Nat.le_of_ble_eq_true rfl) (Sat.nil _) ?_
  refine TC.seq ?_
  refine TC.region ?_
  refine S.opS rfl rfl (OpV.alloc Tryd.zero3 (fun b6 => ?_))
  refine S.opS rfl rfl (OpV.alloc Tryd.zero3 (fun b7 => ?_))
  refine S.q rfl rfl (Qt.assign (by conv => lhs; whnf)) ?_
  refine S.nil ?_
  refine TC.seq ?_
  refine TC.seq ?_
  refine TC.region ?_
  refine S.q rfl rfl (Qt.move (by conv => lhs; whnf)) ?_
  refine S.q rfl rfl (Qt.move (by conv => lhs; whnf)) ?_
  refine S.q rfl rfl (Qt.move (by conv => lhs; whnf)) ?_
  refine S.opS rfl rfl (OpV.con0 Tryd.ent49 rfl (fun w hw => (by have k := right_R h f n hh hf64 h1 h2 w; rw [decide_eq_true hf] at k; exact k : Calls Tryd.prog 49 #[.int .i64 (h : Int), .int .u64 (f : Int), .int .i64 (n : Int)] w (Ret w (.bool true)))) ?_)
  refine S.q rfl rfl (Qt.not_t rfl) ?_
  refine S.nil ?_
  refine S.if_f rfl ?_
  refine TC.skip ?_
  refine TC.seq ?_
  refine TC.region ?_
  refine S.q rfl rfl (Qt.move (by conv => lhs; whnf)) ?_
  refine S.q rfl rfl (Qt.move (by conv => lhs; whnf)) ?_
  refine S.q rfl rfl (Qt.move (by conv => lhs; whnf)) ?_
  refine S.q rfl rfl (Qt.makeFuncL (fs := []) (cs := [.pointer (some ⟨b6, 0, none⟩)]) rfl rfl) ?_
  refine S.q rfl rfl (Qt.makeFuncL (fs := []) (cs := [.pointer (some ⟨b7, 0, none⟩)]) rfl rfl) ?_
  refine S.opS rfl rfl (OpV.con (Pre := [Blk b6 3 [.int .i64 ((0 : Nat) : Int)], Blk b7 3 [.int .i64 ((0 : Nat) : Int)]]) (R := _) Tryd.ent103 rfl (List.perm_middle (l₁ := [_])) (fun w hw => sides_walk (fun ls rs L => ls.length ≤ 64 ∧ rs.length ≤ 64 ∧ L = [Blk b6 3 [.int .i64 ((ls.length : Nat) : Int)], Blk b7 3 [.int .i64 ((rs.length : Nat) : Int)]]) h f n hh hf h1 h2 104 105 #[.pointer (some ⟨b6, 0, none⟩)] #[.pointer (some ⟨b7, 0, none⟩)] Tryd.ent104 Tryd.ent105 _ w hw.sat.left ⟨Nat.zero_le _, Nat.zero_le _, rfl⟩ (fun k rs L w' hk hb hJ hst => by obtain ⟨j1, j2, rfl⟩ := hJ; exact (cnt1_walk b6 b7 _ _ k _ (by omega) (by omega) w' hst.sat).mono fun e w'' ⟨v, L', q1, q2, q3⟩ => ⟨v, L', q1, q2, (by have := sideL_len f (k + 1); omega), j2, by subst q3; rw [sideL_1 hb, len_snoc]⟩) (fun k ls L w' hk hb hJ hst => by obtain ⟨j1, j2, rfl⟩ := hJ; exact (cnt2_walk b6 b7 _ _ k _ (by omega) (by omega) w' hst.sat).mono fun e w'' ⟨v, L', q1, q2, q3⟩ => ⟨v, L', q1, q2, j1, (by have := sideR_len (f + n - 1) (k + 1); omega), by subst q3; rw [sideR_1 hb, len_snoc]⟩)) ?_)
  rintro v L' ⟨hj1, hj2, rfl⟩
  refine S.nil ?_
  refine TC.seq ?_
  refine S.draw ([2, 3], []) Tryd.mixed (Sub.refl _) ?_
  refine D.qX (k := 0) rfl (by kernel_rfl) (by kernel_rfl) (by kernel_rfl) rfl rfl (Qt.load rfl (Ld.one (Has.at 0 rfl) Tryd.one3 (rfl))) ?_
  refine D.q (k := 1) rfl (by kernel_rfl) (by kernel_rfl) rfl rfl (Qt.load rfl (Ld.one (Has.at 1 rfl) Tryd.one3 (rfl))) ?_
  refine D.opN (k := 2) (Sub.refl _) rfl (by kernel_rfl) (by kernel_rfl) rfl (OpV.storeV0 rfl (by conv => lhs; whnf) (by exact Tryd.cells3) (by rfl) (by rfl) ⟨Sub.refl _, ?_⟩)
  refine D.opN (k := 3) (Sub.refl _) rfl (by kernel_rfl) (by kernel_rfl) rfl (OpV.storeV1 rfl (by conv => lhs; whnf) (by exact Tryd.cells3) (by rfl) (by rfl) ⟨Sub.refl _, ?_⟩)
  refine D.qX (k := 4) rfl (by kernel_rfl) (by kernel_rfl) (by kernel_rfl) rfl rfl (Qt.assign (by conv => lhs; whnf)) ?_
  refine D.done (Sub.refl _) (by kernel_rfl) ?_
  refine TC.ret ?_
  refine finQ.ret (RVs.cell rfl (Ld.one (Has.at 0 rfl) Tryd.one3 (rfl)) (RVs.cell rfl (Ld.one (Has.at 1 rfl) Tryd.one3 (rfl)) (RVs.tmp (by conv => lhs; whnf) RVs.nil))) (Sub.nil _) ?_
  exact ⟨rfl, rfl⟩
end Go.Proofs.YtlneklemjfefpaaDoor
