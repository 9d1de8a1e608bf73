/-
  Walks: the sort of a slice of numbers: the patterns that are broken. Printed by a program of ours. Walks: the sort of a slice of numbers. Printed by a program of ours. Walks: sorting a slice that is owned, a nil one too. Printed by a program of ours.
-/
import Derived.Test.YtaoicbjgkghnnaaN1
namespace Go.Proofs.Ytaoicbjgkghnnaa
open Go.E
set_option linter.unusedVariables false
set_option maxRecDepth 4000
set_option maxHeartbeats 400000 in
theorem blen_walk (x : Nat) (hx : x < 4294967296) (w0 : World) :
    Calls Try.prog 52 #[.int .u64 ((x : Nat) : Int)] w0 (Post w0 [] fun v L => v = .int .i64 ((bitlen x : Nat) : Int) ∧ L = []) := by
  refine Calls.of (L := []) (n := 8) (rs := [.tmp 2]) Try.func52 rfl rfl rfl (Nat.le_of_ble_eq_true rfl) (Sat.nil _) ?_
  refine TC.seq ?_
  refine TC.region ?_
  refine S.q rfl rfl (Qt.assign (by conv => lhs; whnf)) ?_
  refine S.nil ?_
  refine TC.seq ?_
  refine S.if_f rfl ?_
  refine TC.skip ?_
  refine TC.seq ?_
  refine TC.region ?_
  refine S.q rfl rfl (Qt.move (by conv => lhs; whnf)) ?_
  refine S.opS rfl rfl (OpV.con0 Try.ent63 rfl (fun w hw => len64_R x hx w) ?_)
  refine S.q rfl rfl (Qt.assign (by conv => lhs; whnf)) ?_
  refine S.nil ?_
  refine TC.ret ?_
  refine finQ.ret (RVs.tmp (by conv => lhs; whnf) RVs.nil) (Sub.nil _) ?_
  exact ⟨rfl, rfl⟩
theorem blen_R (x : Nat) (hx : x < 4294967296) (w0 : World) : Calls Try.prog 52 #[.int .u64 ((x : Nat) : Int)] w0 (Ret w0 (.int .i64 ((bitlen x : Nat) : Int))) := Calls.ret (blen_walk x hx w0)

set_option maxHeartbeats 400000 in
theorem npow_walk (x : Nat) (hx : x < 4294967296) (w0 : World) :
    Calls Try.prog 65 #[.int .i64 ((x : Nat) : Int)] w0 (Post w0 [] fun v L => v = .int .u64 ((1 <<< Go.Sort.bitsLen x : Nat) : Int) ∧ L = []) := by
  refine Calls.of (L := []) (n := 7) (rs := [.tmp 2]) Try.func65 rfl rfl rfl (Nat.le_of_ble_eq_true rfl) (Sat.nil _) ?_
  have hb := bl32 hx
  have hp : 2 ^ bitlen x ≤ 2 ^ 32 := Nat.pow_le_pow_right (by decide) hb
  refine TC.seq ?_
  refine TC.region ?_
  refine S.q rfl rfl (Qt.assign (by conv => lhs; whnf)) ?_
  refine S.nil ?_
  refine TC.seq ?_
  refine TC.region ?_
  refine S.q rfl rfl (Qt.move (by conv => lhs; whnf)) ?_
  refine S.q rfl rfl (Qt.convert Try.underlying3 Try.underlying46 rfl (by simp only [kmax]; omega)) ?_
  refine S.opS rfl rfl (OpV.con0 Try.ent52 rfl (fun w hw => blen_R x hx w) ?_)
  refine S.q rfl rfl (Qt.shlN (a := 1) rfl rfl (by simp only [kmax]; omega)) ?_
  refine S.q rfl rfl (Qt.assign (by conv => lhs; whnf)) ?_
  refine S.nil ?_
  refine TC.ret ?_
  refine finQ.ret (RVs.tmp (by conv => lhs; whnf) RVs.nil) (Sub.nil _) ?_
  exact ⟨vu64 (by rw [Nat.shiftLeft_eq]; rfl), rfl⟩
theorem npow_R (x : Nat) (hx : x < 4294967296) (w0 : World) : Calls Try.prog 65 #[.int .i64 ((x : Nat) : Int)] w0 (Ret w0 (.int .u64 ((1 <<< Go.Sort.bitsLen x : Nat) : Int))) := Calls.ret (npow_walk x hx w0)

set_option maxHeartbeats 400000 in
theorem next_walk (x : Nat) (r : UInt64) (w0 : World) (hL : Sat w0 [Blk x 114 [.int .u64 (((r : UInt64).toNat : Nat) : Int)]]) :
    Calls Try.prog 66 #[.pointer (some ⟨x, 0, none⟩)] w0 (Post w0 (fps [Blk x 114 [.int .u64 (((r : UInt64).toNat : Nat) : Int)]]) fun v L => v = .int .u64 (((Go.Sort.xorNext r).toNat : Nat) : Int) ∧ L = [Blk x 114 [.int .u64 (((Go.Sort.xorNext r : UInt64).toNat : Nat) : Int)]]) := by
  refine Calls.of (L := [Blk x 114 [.int .u64 (((r : UInt64).toNat : Nat) : Int)]]) (n := 33) (rs := [.tmp 2]) Try.func66 rfl rfl rfl (Nat.le_of_ble_eq_true rfl) (hL) ?_
  refine TC.seq ?_
  refine TC.region ?_
  refine S.q rfl rfl (Qt.assign (by conv => lhs; whnf)) ?_
  refine S.nil ?_
  refine TC.seq ?_
  refine S.draw ([9], []) Try.mixed (Sub.nil _) ?_
  refine D.qX (k := 0) rfl (by kernel_rfl) (by kernel_rfl) (by kernel_rfl) rfl rfl (Qt.move (by conv => lhs; whnf)) ?_
  refine D.qX (k := 1) rfl (by kernel_rfl) (by kernel_rfl) (by kernel_rfl) rfl rfl (Qt.nilCheck rfl) ?_
  refine D.qX (k := 2) rfl (by kernel_rfl) (by kernel_rfl) (by kernel_rfl) rfl rfl (Qt.load rfl (Ld.one (Has.at 0 rfl) Try.one114 (rfl))) ?_
  refine D.qX (k := 3) rfl (by kernel_rfl) (by kernel_rfl) (by kernel_rfl) rfl rfl (Qt.move (by conv => lhs; whnf)) ?_
  refine D.qX (k := 4) rfl (by kernel_rfl) (by kernel_rfl) (by kernel_rfl) rfl rfl (Qt.nilCheck rfl) ?_
  refine D.qX (k := 5) rfl (by kernel_rfl) (by kernel_rfl) (by kernel_rfl) rfl rfl (Qt.load rfl (Ld.one (Has.at 0 rfl) Try.one114 (rfl))) ?_
  refine D.qX (k := 6) rfl (by kernel_rfl) (by kernel_rfl) (by kernel_rfl) rfl rfl (Qt.as (Qt.shlm (s := 13) rfl rfl rfl (by decide)) (vu64 (x13 r))) ?_
  refine D.qX (k := 7) rfl (by kernel_rfl) (by kernel_rfl) (by kernel_rfl) rfl rfl (Qt.as (Qt.xorN rfl rfl (u64_le _) (u64_le _)) (vu64 (UInt64.toNat_xor _ _).symm)) ?_
  refine D.qX (k := 8) rfl (by kernel_rfl) (by kernel_rfl) (by kernel_rfl) rfl rfl (Qt.nilCheck rfl) ?_
  refine D.opN (k := 9) (Sub.nil _) rfl (by kernel_rfl) (by kernel_rfl) rfl (OpV.storeV0 rfl (by conv => lhs; whnf) (by exact Try.cells114) (by rfl) (by rfl) ⟨Sub.nil _, ?_⟩)
  refine D.done (Sub.nil _) (by kernel_rfl) ?_
  refine TC.seq ?_
  refine S.draw ([9], []) Try.mixed (Sub.nil _) ?_
  refine D.qX (k := 0) rfl (by kernel_rfl) (by kernel_rfl) (by kernel_rfl) rfl rfl (Qt.move (by conv => lhs; whnf)) ?_
  refine D.qX (k := 1) rfl (by kernel_rfl) (by kernel_rfl) (by kernel_rfl) rfl rfl (Qt.nilCheck rfl) ?_
  refine D.qX (k := 2) rfl (by kernel_rfl) (by kernel_rfl) (by kernel_rfl) rfl rfl (Qt.load rfl (Ld.one (Has.at 0 rfl) Try.one114 (rfl))) ?_
  refine D.qX (k := 3) rfl (by kernel_rfl) (by kernel_rfl) (by kernel_rfl) rfl rfl (Qt.move (by conv => lhs; whnf)) ?_
  refine D.qX (k := 4) rfl (by kernel_rfl) (by kernel_rfl) (by kernel_rfl) rfl rfl (Qt.nilCheck rfl) ?_
  refine D.qX (k := 5) rfl (by kernel_rfl) (by kernel_rfl) (by kernel_rfl) rfl rfl (Qt.load rfl (Ld.one (Has.at 0 rfl) Try.one114 (rfl))) ?_
  refine D.qX (k := 6) rfl (by kernel_rfl) (by kernel_rfl) (by kernel_rfl) rfl rfl (Qt.as (Qt.shrN (s := 7) rfl rfl (u64_le _)) (vu64 (x7 (r ^^^ r <<< 13)))) ?_
  refine D.qX (k := 7) rfl (by kernel_rfl) (by kernel_rfl) (by kernel_rfl) rfl rfl (Qt.as (Qt.xorN rfl rfl (u64_le _) (u64_le _)) (vu64 (UInt64.toNat_xor _ _).symm)) ?_
  refine D.qX (k := 8) rfl (by kernel_rfl) (by kernel_rfl) (by kernel_rfl) rfl rfl (Qt.nilCheck rfl) ?_
  refine D.opN (k := 9) (Sub.nil _) rfl (by kernel_rfl) (by kernel_rfl) rfl (OpV.storeV0 rfl (by conv => lhs; whnf) (by exact Try.cells114) (by rfl) (by rfl) ⟨Sub.nil _, ?_⟩)
  refine D.done (Sub.nil _) (by kernel_rfl) ?_
  refine TC.seq ?_
  refine S.draw ([9], []) Try.mixed (Sub.nil _) ?_
  refine D.qX (k := 0) rfl (by kernel_rfl) (by kernel_rfl) (by kernel_rfl) rfl rfl (Qt.move (by conv => lhs; whnf)) ?_
  refine D.qX (k := 1) rfl (by kernel_rfl) (by kernel_rfl) (by kernel_rfl) rfl rfl (Qt.nilCheck rfl) ?_
  refine D.qX (k := 2) rfl (by kernel_rfl) (by kernel_rfl) (by kernel_rfl) rfl rfl (Qt.load rfl (Ld.one (Has.at 0 rfl) Try.one114 (rfl))) ?_
  refine D.qX (k := 3) rfl (by kernel_rfl) (by kernel_rfl) (by kernel_rfl) rfl rfl (Qt.move (by conv => lhs; whnf)) ?_
  refine D.qX (k := 4) rfl (by kernel_rfl) (by kernel_rfl) (by kernel_rfl) rfl rfl (Qt.nilCheck rfl) ?_
  refine D.qX (k := 5) rfl (by kernel_rfl) (by kernel_rfl) (by kernel_rfl) rfl rfl (Qt.load rfl (Ld.one (Has.at 0 rfl) Try.one114 (rfl))) ?_
  refine D.qX (k := 6) rfl (by kernel_rfl) (by kernel_rfl) (by kernel_rfl) rfl rfl (Qt.as (Qt.shlm (s := 17) rfl rfl rfl (by decide)) (vu64 (x17 ((r ^^^ r <<< 13) ^^^ (r ^^^ r <<< 13) >>> 7)))) ?_
  refine D.qX (k := 7) rfl (by kernel_rfl) (by kernel_rfl) (by kernel_rfl) rfl rfl (Qt.as (Qt.xorN rfl rfl (u64_le _) (u64_le _)) (vu64 (UInt64.toNat_xor _ _).symm)) ?_
  refine D.qX (k := 8) rfl (by kernel_rfl) (by kernel_rfl) (by kernel_rfl) rfl rfl (Qt.nilCheck rfl) ?_
  refine D.opN (k := 9) (Sub.nil _) rfl (by kernel_rfl) (by kernel_rfl) rfl (OpV.storeV0 rfl (by conv => lhs; whnf) (by exact Try.cells114) (by rfl) (by rfl) ⟨Sub.nil _, ?_⟩)
  refine D.done (Sub.nil _) (by kernel_rfl) ?_
  refine TC.seq ?_
  refine TC.region ?_
  refine S.q rfl rfl (Qt.move (by conv => lhs; whnf)) ?_
  refine S.q rfl rfl (Qt.nilCheck rfl) ?_
  refine S.q rfl rfl (Qt.load rfl (Ld.one (Has.at 0 rfl) Try.one114 (rfl))) ?_
  refine S.q rfl rfl (Qt.assign (by conv => lhs; whnf)) ?_
  refine S.nil ?_
  refine TC.ret ?_
  refine finQ.ret (RVs.tmp (by conv => lhs; whnf) RVs.nil) (Sub.refl _) ?_
  exact ⟨rfl, rfl⟩
set_option maxHeartbeats 1600000 in
theorem break_walk (g n cp : Nat) (d : Array Nat) (r : List Value) (hn : d.size = n) (hm : n < 4294967296) (a b : Nat) (hb : b ≤ n) (hab : a ≤ b) (w0 : World) (hL : Sat w0 [Blk g 24 (blkD (d) r)]) :
    Calls Try.prog 55 #[.slice (some ⟨g, 0, none⟩) n cp, .int .i64 ((a : Nat) : Int), .int .i64 ((b : Nat) : Int)] w0 (Post w0 (fps [Blk g 24 (blkD (d) r)]) fun v L => v = .tuple #[] ∧ L = [Blk g 24 (blkD (Go.Sort.breakPatterns d a b) r)]) := by
  refine Calls.of (L := [Blk g 24 (blkD (d) r)]) (n := 65) (rs := []) Try.func55 rfl rfl rfl (Nat.le_of_ble_eq_true rfl) (hL) ?_
  refine TC.seq ?_
  refine TC.region ?_
  refine S.q rfl rfl (Qt.move (by conv => lhs; whnf)) ?_
  refine S.q rfl rfl (Qt.move (by conv => lhs; whnf)) ?_
  refine S.q rfl rfl (Qt.sub rfl rfl (by omega) (by simp only [kmax]; omega)) ?_
  refine S.q rfl rfl (Qt.assign (by conv => lhs; whnf)) ?_
  refine S.nil ?_
  refine TC.seq ?_
  refine TC.region ?_
  refine S.q rfl rfl (Qt.move (by conv => lhs; whnf)) ?_
  refine S.dec rfl rfl (Qt.ge (b := 8) rfl rfl) (fun h15 => ?_) (fun h15 => ?_)
  · refine S.nil ?_
    refine S.if_t rfl ?_
    refine TC.seq ?_
    refine TC.region ?_
    refine S.q rfl rfl (Qt.move (by conv => lhs; whnf)) ?_
    refine S.q rfl rfl (Qt.convert Try.underlying3 Try.underlying114 rfl (by simp only [kmax]; omega)) ?_
    refine S.opS rfl rfl (OpV.alloc Try.zero114 (fun b7 => ?_))
    refine S.opN rfl (OpV.storeV0 rfl (by conv => lhs; whnf) (by exact Try.cells114) (by rfl) (by rfl) ?_)
    refine S.nil ?_
    refine TC.seq ?_
    refine TC.region ?_
    refine S.q rfl rfl (Qt.move (by conv => lhs; whnf)) ?_
    refine S.opS rfl rfl (OpV.con0 Try.ent65 rfl (fun w hw => npow_R (b - a) (by omega) w) ?_)
    refine S.q rfl rfl (Qt.assign (by conv => lhs; whnf)) ?_
    refine S.nil ?_
    refine TC.seq ?_
    refine TC.region ?_
    refine S.q rfl rfl (Qt.move (by conv => lhs; whnf)) ?_
    refine S.q rfl rfl (Qt.move (by conv => lhs; whnf)) ?_
    refine S.q rfl rfl (Qt.quo (b := 4) rfl rfl (by omega) (by simp only [kmax]; omega)) ?_
    refine S.q rfl rfl (Qt.mul (b := 2) rfl rfl (by simp only [kmax]; omega)) ?_
    refine S.q rfl rfl (Qt.add rfl rfl (by simp only [kmax]; omega)) ?_
    refine S.q rfl rfl (Qt.sub (b := 1) rfl rfl (by omega) (by simp only [kmax]; omega)) ?_
    refine S.q rfl rfl (Qt.assign (by conv => lhs; whnf)) ?_
    refine S.nil ?_
    refine TC.block ?_
    refine TC.loop (γ := Nat × UInt64 × Array Nat) [26, 27, 28, 29, 30, 31, 32, 33, 36, 37, 38, 39, 40, 10, 41, 42, 43, 44, 45, 46, 47, 48, 49, 50, 51, 52, 53, 54, 55, 56, 57, 58, 59, 60, 61, 62, 63, 64, 34, 35, 9] (fun q => [(9, .int .i64 (((a + (b - a) / 4 * 2 - 1) + q.1 : Nat) : Int))]) (fun q => [Blk b7 114 [.int .u64 ((q.2.1.toNat : Nat) : Int)], Blk g 24 (blkD q.2.2 r)]) (fun q => q.1 ≤ 3 ∧ q.2.2.size = n ∧ (q.2.1, q.2.2) = brk a (b - a) (1 <<< Go.Sort.bitsLen (b - a)) d (a + (b - a) / 4 * 2 - 1) q.1) (fun q => 3 - q.1) ((0, UInt64.ofNat (b - a), d))
      ⟨by dsimp only; omega, hn, rfl⟩ ⟨Out.refl _ _, (List.forall_mem_cons.2 ⟨rfl, (fun _ h => nomatch h)⟩)⟩ ((by dsimp only; rw [ofNat64 (by omega)]; exact Sub.refl _)) ?_
    rintro ⟨c, s, e⟩ u ⟨hc, he, hq⟩
    dsimp only at hc he hq
    show TC _ _ _ (puts [(9, .int .i64 (((a + (b - a) / 4 * 2 - 1) + c : Nat) : Int))] (scr _ u _)) [Blk b7 114 [.int .u64 ((s.toNat : Nat) : Int)], Blk g 24 (blkD (e) r)]
    refine TC.seq ?_
    refine TC.seq ?_
    refine TC.region ?_
    have hmd := md_bounds (x := b - a) (by omega)
    refine S.q rfl rfl (Qt.move (by conv => lhs; whnf)) ?_
    refine S.q rfl rfl (Qt.move (by conv => lhs; whnf)) ?_
    refine S.q rfl rfl (Qt.move (by conv => lhs; whnf)) ?_
    refine S.q rfl rfl (Qt.quo (b := 4) rfl rfl (by omega) (by simp only [kmax]; omega)) ?_
    refine S.q rfl rfl (Qt.mul (b := 2) rfl rfl (by simp only [kmax]; omega)) ?_
    refine S.q rfl rfl (Qt.add rfl rfl (by simp only [kmax]; omega)) ?_
    refine S.q rfl rfl (Qt.add (b := 1) rfl rfl (by simp only [kmax]; omega)) ?_
    refine S.dec rfl rfl (Qt.le rfl rfl) (fun h33 => ?_) (fun h33 => ?_)
    · refine S.nil ?_
      refine S.if_t rfl ?_
      refine TC.skip ?_
      refine TC.seq ?_
      refine TC.block ?_
      refine TC.seq ?_
      refine TC.region ?_
      refine S.opS rfl rfl (OpV.con (Pre := [Blk b7 114 [.int .u64 ((s.toNat : Nat) : Int)]]) (R := _) Try.ent66 rfl (List.Perm.refl _) (fun w hw => next_walk b7 s w hw.sat.left) ?_)
      rintro v L' ⟨rfl, rfl⟩
      refine S.q rfl rfl (Qt.move (by conv => lhs; whnf)) ?_
      refine S.q rfl rfl (Qt.sub (b := 1) rfl rfl (by omega) (by simp only [kmax]; omega)) ?_
      refine S.q rfl rfl (Qt.andN rfl rfl (u64_le _) (by simp only [kmax]; omega)) ?_
      have hand : (Go.Sort.xorNext s).toNat &&& ((1 <<< Go.Sort.bitsLen (b - a)) - 1) ≤ (1 <<< Go.Sort.bitsLen (b - a)) - 1 := Nat.and_le_right
      refine S.q rfl rfl (Qt.convert Try.underlying46 Try.underlying3 rfl (by simp only [kmax]; omega)) ?_
      refine S.q rfl rfl (Qt.assign (by conv => lhs; whnf)) ?_
      refine S.nil ?_
      refine TC.seq ?_
      refine TC.seq ?_
      refine TC.region ?_
      refine S.q rfl rfl (Qt.move (by conv => lhs; whnf)) ?_
      refine S.q rfl rfl (Qt.move (by conv => lhs; whnf)) ?_
      refine S.dec rfl rfl (Qt.ge rfl rfl) (fun h43 => ?_) (fun h43 => ?_)
      · refine S.nil ?_
        refine S.if_t rfl ?_
        refine TC.region ?_
        refine S.q rfl rfl (Qt.move (by conv => lhs; whnf)) ?_
        refine S.q rfl rfl (Qt.move (by conv => lhs; whnf)) ?_
        refine S.q rfl rfl (Qt.sub rfl rfl (by omega) (by simp only [kmax]; omega)) ?_
        refine S.q rfl rfl (Qt.assign (by conv => lhs; whnf)) ?_
        refine S.nil ?_
        refine S.draw ([17, 19], []) Try.mixed (Sub.keep _ (Sub.drop _ (Sub.nil []))) ?_
        refine D.qX (k := 0) rfl (by kernel_rfl) (by kernel_rfl) (by kernel_rfl) rfl rfl (Qt.move (by conv => lhs; whnf)) ?_
        refine D.qX (k := 1) rfl (by kernel_rfl) (by kernel_rfl) (by kernel_rfl) rfl rfl (Qt.move (by conv => lhs; whnf)) ?_
        refine D.q (k := 2) rfl (by kernel_rfl) (by kernel_rfl) rfl rfl (Qt.move (by conv => lhs; whnf)) ?_
        refine D.q (k := 3) rfl (by kernel_rfl) (by kernel_rfl) rfl rfl (Qt.move (by conv => lhs; whnf)) ?_
        refine D.q (k := 4) rfl (by kernel_rfl) (by kernel_rfl) rfl rfl (Qt.move (by conv => lhs; whnf)) ?_
        refine D.q (k := 5) rfl (by kernel_rfl) (by kernel_rfl) rfl rfl (Qt.add rfl rfl (by simp only [kmax]; omega)) ?_
        refine D.qX (k := 6) rfl (by kernel_rfl) (by kernel_rfl) (by kernel_rfl) rfl rfl (Qt.move (by conv => lhs; whnf)) ?_
        refine D.qX (k := 7) rfl (by kernel_rfl) (by kernel_rfl) (by kernel_rfl) rfl rfl (Qt.move (by conv => lhs; whnf)) ?_
        refine D.qX (k := 8) rfl (by kernel_rfl) (by kernel_rfl) (by kernel_rfl) rfl rfl (Qt.move (by conv => lhs; whnf)) ?_
        refine D.qX (k := 9) rfl (by kernel_rfl) (by kernel_rfl) (by kernel_rfl) rfl rfl (Qt.add rfl rfl (by simp only [kmax]; omega)) ?_
        refine D.qX (k := 10) rfl (by kernel_rfl) (by kernel_rfl) (by kernel_rfl) rfl rfl (Qt.index Try.underlying22 Try.cells24 rfl rfl (by omega) (Has.blk (Has.at 1 rfl)) (by simp only [blkD_len]; omega)) ?_
        refine D.qX (k := 11) rfl (by kernel_rfl) (by kernel_rfl) (by kernel_rfl) rfl rfl (Qt.load rfl (Ld.sl (Has.blk (Has.at 1 rfl)) Try.one24 (blkD_get (by (try dsimp only); omega)))) ?_
        refine D.qX (k := 12) rfl (by kernel_rfl) (by kernel_rfl) (by kernel_rfl) rfl rfl (Qt.move (by conv => lhs; whnf)) ?_
        refine D.qX (k := 13) rfl (by kernel_rfl) (by kernel_rfl) (by kernel_rfl) rfl rfl (Qt.move (by conv => lhs; whnf)) ?_
        refine D.qX (k := 14) rfl (by kernel_rfl) (by kernel_rfl) (by kernel_rfl) rfl rfl (Qt.index Try.underlying22 Try.cells24 rfl rfl (by omega) (Has.blk (Has.at 1 rfl)) (by simp only [blkD_len]; omega)) ?_
        refine D.qX (k := 15) rfl (by kernel_rfl) (by kernel_rfl) (by kernel_rfl) rfl rfl (Qt.load rfl (Ld.sl (Has.blk (Has.at 1 rfl)) Try.one24 (blkD_get (by (try dsimp only); omega)))) ?_
        refine D.qX (k := 16) rfl (by kernel_rfl) (by kernel_rfl) (by kernel_rfl) rfl rfl (Qt.index1 Try.underlying22 Try.cells24 rfl rfl (by omega) (Has.blk (Has.at 1 rfl)) (by simp only [blkD_len]; omega)) ?_
        refine D.opN (k := 17) (Sub.keep _ (Sub.drop _ (Sub.nil []))) rfl (by kernel_rfl) (by kernel_rfl) rfl (OpV.storeE1 rfl (by conv => lhs; whnf) Try.cells24 rfl rfl (by simp only [blkD_len, Array.size_setIfInBounds]; omega) (blkD_set (by (try dsimp only); omega)) ⟨Sub.keep _ (Sub.drop _ (Sub.nil [])), ?_⟩)
        refine D.qX (k := 18) rfl (by kernel_rfl) (by kernel_rfl) (by kernel_rfl) rfl rfl (Qt.index1 (i := a + (((Go.Sort.xorNext s).toNat &&& ((1 <<< Go.Sort.bitsLen (b - a)) - 1)) - (b - a))) Try.underlying22 Try.cells24 rfl rfl (by omega) (Has.blk (Has.at 1 rfl)) (by simp only [blkD_len, Array.size_setIfInBounds]; omega)) ?_
        refine D.opN (k := 19) (Sub.keep _ (Sub.drop _ (Sub.nil []))) rfl (by kernel_rfl) (by kernel_rfl) rfl (OpV.storeE1 rfl (by conv => lhs; whnf) Try.cells24 rfl rfl (by simp only [blkD_len, Array.size_setIfInBounds]; omega) (blkD_set (by (try simp only [Array.size_setIfInBounds]); omega)) ⟨Sub.keep _ (Sub.drop _ (Sub.nil [])), ?_⟩)
        refine D.done (Sub.keep _ (Sub.drop _ (Sub.nil []))) (by kernel_rfl) ?_
        refine TC.region ?_
        refine S.q rfl rfl (Qt.move (by conv => lhs; whnf)) ?_
        refine S.q rfl rfl (Qt.add (b := 1) rfl rfl (by simp only [kmax]; omega)) ?_
        refine S.q rfl rfl (Qt.assign (by conv => lhs; whnf)) ?_
        refine S.nil ?_
        refine ⟨(c + 1, Go.Sort.xorNext s, Go.Sort.swp e ((a + (b - a) / 4 * 2 - 1) + c) (a + (((Go.Sort.xorNext s).toNat &&& ((1 <<< Go.Sort.bitsLen (b - a)) - 1)) - (b - a)))), ?_, ?_, ⟨?_, (List.forall_mem_cons.2 ⟨rfl, (fun _ h => nomatch h)⟩)⟩, Sub.refl _⟩
        · exact ⟨by dsimp only; omega, (Go.Sort.swp_size _ _ _).trans he, (by dsimp only; rw [brk, ← hq, brk_t h43])⟩
        · show _ < _; dsimp only; omega
        repeat (first | exact Out.refl _ _ | refine Out.put rfl ?_ | refine Out.puts rfl ?_ | refine Out.scr ?_ | refine Out.scr' rfl ?_)
      · refine S.nil ?_
        refine S.if_f rfl ?_
        refine TC.skip ?_
        refine S.draw ([17, 19], []) Try.mixed (Sub.keep _ (Sub.drop _ (Sub.nil []))) ?_
        refine D.qX (k := 0) rfl (by kernel_rfl) (by kernel_rfl) (by kernel_rfl) rfl rfl (Qt.move (by conv => lhs; whnf)) ?_
        refine D.qX (k := 1) rfl (by kernel_rfl) (by kernel_rfl) (by kernel_rfl) rfl rfl (Qt.move (by conv => lhs; whnf)) ?_
        refine D.q (k := 2) rfl (by kernel_rfl) (by kernel_rfl) rfl rfl (Qt.move (by conv => lhs; whnf)) ?_
        refine D.q (k := 3) rfl (by kernel_rfl) (by kernel_rfl) rfl rfl (Qt.move (by conv => lhs; whnf)) ?_
        refine D.q (k := 4) rfl (by kernel_rfl) (by kernel_rfl) rfl rfl (Qt.move (by conv => lhs; whnf)) ?_
        refine D.q (k := 5) rfl (by kernel_rfl) (by kernel_rfl) rfl rfl (Qt.add rfl rfl (by simp only [kmax]; omega)) ?_
        refine D.qX (k := 6) rfl (by kernel_rfl) (by kernel_rfl) (by kernel_rfl) rfl rfl (Qt.move (by conv => lhs; whnf)) ?_
        refine D.qX (k := 7) rfl (by kernel_rfl) (by kernel_rfl) (by kernel_rfl) rfl rfl (Qt.move (by conv => lhs; whnf)) ?_
        refine D.qX (k := 8) rfl (by kernel_rfl) (by kernel_rfl) (by kernel_rfl) rfl rfl (Qt.move (by conv => lhs; whnf)) ?_
        refine D.qX (k := 9) rfl (by kernel_rfl) (by kernel_rfl) (by kernel_rfl) rfl rfl (Qt.add rfl rfl (by simp only [kmax]; omega)) ?_
        refine D.qX (k := 10) rfl (by kernel_rfl) (by kernel_rfl) (by kernel_rfl) rfl rfl (Qt.index Try.underlying22 Try.cells24 rfl rfl (by omega) (Has.blk (Has.at 1 rfl)) (by simp only [blkD_len]; omega)) ?_
        refine D.qX (k := 11) rfl (by kernel_rfl) (by kernel_rfl) (by kernel_rfl) rfl rfl (Qt.load rfl (Ld.sl (Has.blk (Has.at 1 rfl)) Try.one24 (blkD_get (by (try dsimp only); omega)))) ?_
        refine D.qX (k := 12) rfl (by kernel_rfl) (by kernel_rfl) (by kernel_rfl) rfl rfl (Qt.move (by conv => lhs; whnf)) ?_
        refine D.qX (k := 13) rfl (by kernel_rfl) (by kernel_rfl) (by kernel_rfl) rfl rfl (Qt.move (by conv => lhs; whnf)) ?_
        refine D.qX (k := 14) rfl (by kernel_rfl) (by kernel_rfl) (by kernel_rfl) rfl rfl (Qt.index Try.underlying22 Try.cells24 rfl rfl (by omega) (Has.blk (Has.at 1 rfl)) (by simp only [blkD_len]; omega)) ?_
        refine D.qX (k := 15) rfl (by kernel_rfl) (by kernel_rfl) (by kernel_rfl) rfl rfl (Qt.load rfl (Ld.sl (Has.blk (Has.at 1 rfl)) Try.one24 (blkD_get (by (try dsimp only); omega)))) ?_
        refine D.qX (k := 16) rfl (by kernel_rfl) (by kernel_rfl) (by kernel_rfl) rfl rfl (Qt.index1 Try.underlying22 Try.cells24 rfl rfl (by omega) (Has.blk (Has.at 1 rfl)) (by simp only [blkD_len]; omega)) ?_
        refine D.opN (k := 17) (Sub.keep _ (Sub.drop _ (Sub.nil []))) rfl (by kernel_rfl) (by kernel_rfl) rfl (OpV.storeE1 rfl (by conv => lhs; whnf) Try.cells24 rfl rfl (by simp only [blkD_len, Array.size_setIfInBounds]; omega) (blkD_set (by (try dsimp only); omega)) ⟨Sub.keep _ (Sub.drop _ (Sub.nil [])), ?_⟩)
        refine D.qX (k := 18) rfl (by kernel_rfl) (by kernel_rfl) (by kernel_rfl) rfl rfl (Qt.index1 (i := a + ((Go.Sort.xorNext s).toNat &&& ((1 <<< Go.Sort.bitsLen (b - a)) - 1))) Try.underlying22 Try.cells24 rfl rfl (by omega) (Has.blk (Has.at 1 rfl)) (by simp only [blkD_len, Array.size_setIfInBounds]; omega)) ?_
        refine D.opN (k := 19) (Sub.keep _ (Sub.drop _ (Sub.nil []))) rfl (by kernel_rfl) (by kernel_rfl) rfl (OpV.storeE1 rfl (by conv => lhs; whnf) Try.cells24 rfl rfl (by simp only [blkD_len, Array.size_setIfInBounds]; omega) (blkD_set (by (try simp only [Array.size_setIfInBounds]); omega)) ⟨Sub.keep _ (Sub.drop _ (Sub.nil [])), ?_⟩)
        refine D.done (Sub.keep _ (Sub.drop _ (Sub.nil []))) (by kernel_rfl) ?_
        refine TC.region ?_
        refine S.q rfl rfl (Qt.move (by conv => lhs; whnf)) ?_
        refine S.q rfl rfl (Qt.add (b := 1) rfl rfl (by simp only [kmax]; omega)) ?_
        refine S.q rfl rfl (Qt.assign (by conv => lhs; whnf)) ?_
        refine S.nil ?_
        refine ⟨(c + 1, Go.Sort.xorNext s, Go.Sort.swp e ((a + (b - a) / 4 * 2 - 1) + c) (a + ((Go.Sort.xorNext s).toNat &&& ((1 <<< Go.Sort.bitsLen (b - a)) - 1)))), ?_, ?_, ⟨?_, (List.forall_mem_cons.2 ⟨rfl, (fun _ h => nomatch h)⟩)⟩, Sub.refl _⟩
        · exact ⟨by dsimp only; omega, (Go.Sort.swp_size _ _ _).trans he, (by dsimp only; rw [brk, ← hq, brk_f h43])⟩
        · show _ < _; dsimp only; omega
        repeat (first | exact Out.refl _ _ | refine Out.put rfl ?_ | refine Out.puts rfl ?_ | refine Out.scr ?_ | refine Out.scr' rfl ?_)
    · refine S.nil ?_
      refine S.if_f rfl ?_
      refine TC.exit ?_
      refine finQ.normal RVs.nil (Sub.trans (Sub.keep _ (Sub.drop _ (Sub.nil []))) (Sub.trans (Sub.keep _ (Sub.refl _)) (Sub.of_perm (List.perm_middle (l₁ := [_]))))) ?_
      obtain rfl : c = 3 := by omega
      rw [brk_3 h15, ← hq]
      exact ⟨rfl, rfl⟩
  · refine S.nil ?_
    refine S.if_f rfl ?_
    refine TC.skip ?_
    refine finQ.normal RVs.nil (Sub.refl _) ?_
    rw [brk_0 h15]
    exact ⟨rfl, rfl⟩
end Go.Proofs.Ytaoicbjgkghnnaa
namespace Go.Proofs.Ytaoicbjgkghnnaa
open Go.E
set_option linter.unusedVariables false
set_option maxRecDepth 4000
theorem pivot_rd (g n cp : Nat) (e : Array Nat) (r : List Value) (x y l : Nat) (wb wp : Bool) (hn : (Go.Sort.rd ltN e x y l wb wp).d1.size = n) (hm : n < 4294967296) (hab : x < y) (hb : y ≤ n) (w0 : World) (hL : Sat w0 [Blk g 24 (blkD ((Go.Sort.rd ltN e x y l wb wp).d1) r)]) :
    Calls Try.prog 56 #[.slice (some ⟨g, 0, none⟩) n cp, .int .i64 ((x : Nat) : Int), .int .i64 ((y : Nat) : Int)] w0 (Post w0 (fps [Blk g 24 (blkD ((Go.Sort.rd ltN e x y l wb wp).d1) r)]) fun v L => v = .tuple #[.int .i64 (((Go.Sort.rd ltN e x y l wb wp).c.1 : Nat) : Int), .int .i64 (Go.Sort.hintCode (Go.Sort.rd ltN e x y l wb wp).c.2)] ∧ L = [Blk g 24 (blkD ((Go.Sort.rd ltN e x y l wb wp).d1) r)]) := pivot_walk g n cp (Go.Sort.rd ltN e x y l wb wp).d1 r hn hm x y hab hb w0 hL
set_option maxHeartbeats 4000000 in
theorem pdq_walk (g n cp : Nat) (r : List Value) (hm : n < 4294967296) (N : Nat) (ih : ∀ (a b lim : Nat) (d : Array Nat) (hn : d.size = n) (hab : a ≤ b) (hb : b ≤ n) (hl : lim ≤ 64) (hB : Go.Sort.Below ltN a b d) (w0 : World) (hL : Sat w0 [Blk g 24 (blkD (d) r)]), b - a < N → Calls Try.prog 51 #[.slice (some ⟨g, 0, none⟩) n cp, .int .i64 ((a : Nat) : Int), .int .i64 ((b : Nat) : Int), .int .i64 ((lim : Nat) : Int)] w0 (Post w0 (fps [Blk g 24 (blkD (d) r)]) fun v L => v = .tuple #[] ∧ L = [Blk g 24 (blkD (Go.Sort.pdq ltN d a b lim true true) r)])) (a b lim : Nat) (d : Array Nat) (hn : d.size = n) (hab : a ≤ b) (hb : b ≤ n) (hl0 : lim ≤ 64) (hB0 : Go.Sort.Below ltN a b d) (hN : b - a ≤ N) (w0 : World) (hL : Sat w0 [Blk g 24 (blkD (d) r)]) :
    Calls Try.prog 51 #[.slice (some ⟨g, 0, none⟩) n cp, .int .i64 ((a : Nat) : Int), .int .i64 ((b : Nat) : Int), .int .i64 ((lim : Nat) : Int)] w0 (Post w0 (fps [Blk g 24 (blkD (d) r)]) fun v L => v = .tuple #[] ∧ L = [Blk g 24 (blkD (Go.Sort.pdq ltN d a b lim true true) r)]) := by
  refine Calls.of (L := [Blk g 24 (blkD (d) r)]) (n := 134) (rs := []) Try.func51 rfl rfl rfl (Nat.le_of_ble_eq_true rfl) (hL) ?_
  refine TC.seq ?_
  refine TC.region ?_
  refine S.q rfl rfl (Qt.assign (by conv => lhs; whnf)) ?_
  refine S.nil ?_
  refine TC.seq ?_
  refine TC.region ?_
  refine S.q rfl rfl (Qt.assign (by conv => lhs; whnf)) ?_
  refine S.nil ?_
  refine TC.block ?_
  refine TC.loop (γ := Nat × Nat × Nat × Bool × Bool × Array Nat) [19, 20, 21, 10, 22, 23, 24, 25, 26, 27, 28, 29, 30, 31, 32, 33, 34, 35, 36, 37, 38, 39, 40, 41, 3, 43, 44, 45, 46, 42, 47, 48, 11, 12, 49, 50, 51, 52, 53, 54, 55, 56, 57, 58, 59, 60, 61, 62, 63, 64, 65, 66, 67, 68, 69, 70, 71, 72, 73, 74, 75, 76, 77, 78, 79, 80, 81, 82, 83, 84, 85, 86, 87, 88, 89, 90, 91, 92, 13, 93, 1, 95, 96, 97, 98, 99, 94, 100, 101, 14, 15, 102, 9, 103, 104, 105, 106, 107, 108, 16, 17, 109, 110, 18, 111, 112, 113, 114, 115, 116, 8, 117, 118, 119, 120, 121, 122, 123, 124, 125, 126, 127, 128, 129, 130, 131, 132, 133, 2] (fun q => [(1, .int .i64 ((q.1 : Nat) : Int)), (2, .int .i64 ((q.2.1 : Nat) : Int)), (3, .int .i64 ((q.2.2.1 : Nat) : Int)), (8, .bool q.2.2.2.1), (9, .bool q.2.2.2.2.1)]) (fun q => [Blk g 24 (blkD q.2.2.2.2.2 r)]) (fun q => q.1 ≤ q.2.1 ∧ q.2.1 ≤ n ∧ q.2.1 - q.1 ≤ N ∧ q.2.2.1 ≤ 64 ∧ q.2.2.2.2.2.size = n ∧ Go.Sort.Below ltN q.1 q.2.1 q.2.2.2.2.2 ∧ Go.Sort.pdq ltN q.2.2.2.2.2 q.1 q.2.1 q.2.2.1 q.2.2.2.1 q.2.2.2.2.1 = Go.Sort.pdq ltN d a b lim true true) (fun q => q.2.1 - q.1) ((a, b, lim, true, true, d))
    ⟨hab, hb, hN, hl0, hn, hB0, rfl⟩ ⟨Out.refl _ _, (List.forall_mem_cons.2 ⟨rfl, (List.forall_mem_cons.2 ⟨rfl, (List.forall_mem_cons.2 ⟨rfl, (List.forall_mem_cons.2 ⟨rfl, (List.forall_mem_cons.2 ⟨rfl, (fun _ h => nomatch h)⟩)⟩)⟩)⟩)⟩)⟩ (Sub.refl _) ?_
  rintro ⟨x, y, l, wb, wp, e⟩ u ⟨hxy, hyn, hxN, hl, he, hB, hq⟩
  dsimp only at hxy hyn hxN hl he hB hq
  show TC _ _ _ (puts [(1, .int .i64 ((x : Nat) : Int)), (2, .int .i64 ((y : Nat) : Int)), (3, .int .i64 ((l : Nat) : Int)), (8, .bool wb), (9, .bool wp)] (scr _ u _)) [Blk g 24 (blkD (e) r)]
  refine TC.block ?_
  refine TC.seq ?_
  refine TC.region ?_
  refine S.q rfl rfl (Qt.move (by conv => lhs; whnf)) ?_
  refine S.q rfl rfl (Qt.move (by conv => lhs; whnf)) ?_
  refine S.q rfl rfl (Qt.sub rfl rfl (by omega) (by simp only [kmax]; omega)) ?_
  refine S.q rfl rfl (Qt.assign (by conv => lhs; whnf)) ?_
  refine S.nil ?_
  refine TC.seq ?_
  refine TC.seq ?_
  refine TC.region ?_
  refine S.q rfl rfl (Qt.move (by conv => lhs; whnf)) ?_
  refine S.dec rfl rfl (Qt.le (b := 12) rfl rfl) (fun h23 => ?_) (fun h23 => ?_)
  · refine S.nil ?_
    refine S.if_t rfl ?_
    refine TC.seq ?_
    refine TC.region ?_
    refine S.q rfl rfl (Qt.move (by conv => lhs; whnf)) ?_
    refine S.q rfl rfl (Qt.move (by conv => lhs; whnf)) ?_
    refine S.q rfl rfl (Qt.move (by conv => lhs; whnf)) ?_
    refine S.opS rfl rfl (OpV.con (Pre := [Blk g 24 (blkD (e) r)]) (R := _) Try.ent53 rfl (List.Perm.refl _) (fun w hw => ins_sort_walk g n cp e r he hm x y hxy hyn w hw.sat.left) ?_)
    rintro v L' ⟨rfl, rfl⟩
    refine S.nil ?_
    refine TC.ret ?_
    refine finQ.ret RVs.nil (Sub.refl _) ?_
    rw [← hq, Go.Sort.pdq_small h23]
    exact ⟨rfl, rfl⟩
  · refine S.nil ?_
    refine S.if_f rfl ?_
    refine TC.skip ?_
    refine TC.seq ?_
    refine TC.seq ?_
    refine TC.region ?_
    obtain ⟨s1, B1, hc1, s2, B2, hpv, s3, B3⟩ := Go.Sort.rd_facts (limit := l) (wb := wb) (wp := wp) swo_ltN Go.Sort.partialInsertionSort_holds Go.Sort.reverseRange_holds (show x < y by omega) (show y ≤ e.size by omega) hB
    refine S.q rfl rfl (Qt.move (by conv => lhs; whnf)) ?_
    refine S.dec rfl rfl (Qt.eq (b := 0) rfl rfl) (fun h29 => ?_) (fun h29 => ?_)
    · refine S.nil ?_
      refine S.if_t rfl ?_
      refine TC.seq ?_
      refine TC.region ?_
      refine S.q rfl rfl (Qt.move (by conv => lhs; whnf)) ?_
      refine S.q rfl rfl (Qt.move (by conv => lhs; whnf)) ?_
      refine S.q rfl rfl (Qt.move (by conv => lhs; whnf)) ?_
      refine S.opS rfl rfl (OpV.con (Pre := [Blk g 24 (blkD (e) r)]) (R := _) Try.ent54 rfl (List.Perm.refl _) (fun w hw => heap_walk g n cp e r he hm x y (by omega) hyn w hw.sat.left) ?_)
      rintro v L' ⟨rfl, rfl⟩
      refine S.nil ?_
      refine TC.ret ?_
      refine finQ.ret RVs.nil (Sub.refl _) ?_
      rw [← hq, Go.Sort.pdq_heap h23 h29]
      exact ⟨rfl, rfl⟩
    · refine S.nil ?_
      refine S.if_f rfl ?_
      refine TC.skip ?_
      refine TC.cutseq (γ := Unit) [34, 35, 36, 37, 38, 39, 40, 41, 3] (fun _q => [(3, .int .i64 (((Go.Sort.rd ltN e x y l wb wp).lim : Nat) : Int))]) (fun _q => [Blk g 24 (blkD ((Go.Sort.rd ltN e x y l wb wp).d1) r)]) (fun _q => True) ?_ ?_
      · refine TC.seq ?_
        refine TC.region ?_
        refine S.q rfl rfl (Qt.move (by conv => lhs; whnf)) ?_
        refine S.q rfl rfl (Qt.not rfl) ?_
        refine S.nil ?_
        refine TC.ifb rfl (fun b35 => ?_) (fun b35 => ?_)
        · refine TC.seq ?_
          refine TC.region ?_
          obtain rfl : wb = false := by simpa using b35
          refine S.q rfl rfl (Qt.move (by conv => lhs; whnf)) ?_
          refine S.q rfl rfl (Qt.move (by conv => lhs; whnf)) ?_
          refine S.q rfl rfl (Qt.move (by conv => lhs; whnf)) ?_
          refine S.opS rfl rfl (OpV.con (Pre := [Blk g 24 (blkD (e) r)]) (R := _) Try.ent55 rfl (List.Perm.refl _) (fun w hw => break_walk g n cp e r he hm x y hyn hxy w hw.sat.left) ?_)
          rintro v L' ⟨rfl, rfl⟩
          refine S.nil ?_
          refine TC.region ?_
          refine S.q rfl rfl (Qt.move (by conv => lhs; whnf)) ?_
          refine S.q rfl rfl (Qt.sub (b := 1) rfl rfl (by omega) (by simp only [kmax]; omega)) ?_
          refine S.q rfl rfl (Qt.assign (by conv => lhs; whnf)) ?_
          refine S.nil ?_
          
          refine ⟨(), ?_, ⟨?_, (List.forall_mem_cons.2 ⟨rfl, (fun _ h => nomatch h)⟩)⟩, Sub.refl _⟩
          · trivial
          repeat (first | exact Out.refl _ _ | refine Out.put rfl ?_ | refine Out.puts rfl ?_ | refine Out.scr ?_ | refine Out.scr' rfl ?_)
        · refine TC.skip ?_
          obtain rfl : wb = true := by simpa using b35
          refine ⟨(), ?_, ⟨?_, (List.forall_mem_cons.2 ⟨rfl, (fun _ h => nomatch h)⟩)⟩, Sub.refl _⟩
          · trivial
          repeat (first | exact Out.refl _ _ | refine Out.put rfl ?_ | refine Out.puts rfl ?_ | refine Out.scr ?_ | refine Out.scr' rfl ?_)
      · rintro _ u _
        refine TC.seq ?_
        refine TC.region ?_
        refine S.q rfl rfl (Qt.move (by conv => lhs; whnf)) ?_
        refine S.q rfl rfl (Qt.move (by conv => lhs; whnf)) ?_
        refine S.q rfl rfl (Qt.move (by conv => lhs; whnf)) ?_
        refine S.opS rfl rfl (OpV.con (Pre := [Blk g 24 (blkD ((Go.Sort.rd ltN e x y l wb wp).d1) r)]) (R := _) Try.ent56 rfl (List.Perm.refl _) (fun w hw => pivot_rd g n cp e r x y l wb wp (s1.trans he) hm (by omega) hyn w hw.sat.left) ?_)
        rintro v L' ⟨rfl, rfl⟩
        refine S.q rfl rfl (Qt.move (by conv => lhs; whnf)) ?_
        refine S.q rfl rfl (Qt.extract rfl rfl) ?_
        refine S.q rfl rfl (Qt.extract rfl rfl) ?_
        refine S.q rfl rfl (Qt.assign (by conv => lhs; whnf)) ?_
        refine S.q rfl rfl (Qt.assign (by conv => lhs; whnf)) ?_
        refine S.nil ?_
        refine TC.cutseq (γ := Unit) [49, 50, 51, 52, 53, 54, 55, 56, 57, 58, 59, 60, 11, 12] (fun _q => [(11, .int .i64 (((Go.Sort.rd ltN e x y l wb wp).pivot : Nat) : Int)), (12, .int .i64 (Go.Sort.hintCode (Go.Sort.rd ltN e x y l wb wp).hint))]) (fun _q => [Blk g 24 (blkD ((Go.Sort.rd ltN e x y l wb wp).d2) r)]) (fun _q => True) ?_ ?_
        · refine TC.seq ?_
          refine TC.region ?_
          refine S.q rfl rfl (Qt.move (by conv => lhs; whnf)) ?_
          refine S.dec rfl rfl (Qt.eqi rfl rfl) (fun h50 => ?_) (fun h50 => ?_)
          · refine S.nil ?_
            refine S.if_t rfl ?_
            refine TC.seq ?_
            refine TC.region ?_
            have hdec := hint_two h50
            refine S.q rfl rfl (Qt.move (by conv => lhs; whnf)) ?_
            refine S.q rfl rfl (Qt.move (by conv => lhs; whnf)) ?_
            refine S.q rfl rfl (Qt.move (by conv => lhs; whnf)) ?_
            refine S.opS rfl rfl (OpV.con (Pre := [Blk g 24 (blkD ((Go.Sort.rd ltN e x y l wb wp).d1) r)]) (R := _) Try.ent57 rfl (List.Perm.refl _) (fun w hw => rev_walk g n cp (Go.Sort.rd ltN e x y l wb wp).d1 r (s1.trans he) hm x y (by omega) hyn w hw.sat.left) ?_)
            rintro v L' ⟨rfl, rfl⟩
            refine S.nil ?_
            refine TC.seq ?_
            refine TC.region ?_
            refine S.q rfl rfl (Qt.move (by conv => lhs; whnf)) ?_
            refine S.q rfl rfl (Qt.sub (b := 1) rfl rfl (by omega) (by simp only [kmax]; omega)) ?_
            refine S.q rfl rfl (Qt.move (by conv => lhs; whnf)) ?_
            refine S.q rfl rfl (Qt.move (by conv => lhs; whnf)) ?_
            refine S.q rfl rfl (Qt.sub rfl rfl (by omega) (by simp only [kmax]; omega)) ?_
            refine S.q rfl rfl (Qt.sub rfl rfl (by omega) (by simp only [kmax]; omega)) ?_
            refine S.q rfl rfl (Qt.assign (by conv => lhs; whnf)) ?_
            refine S.nil ?_
            refine TC.region ?_
            refine S.q rfl rfl (Qt.assign (by conv => lhs; whnf)) ?_
            refine S.nil ?_
            
            refine ⟨(), ?_, ⟨?_, (List.forall_mem_cons.2 ⟨(by show Value.int .i64 _ = Value.int .i64 _; rw [(Go.Sort.rd_dec hdec).2.1]), (List.forall_mem_cons.2 ⟨(by show Value.int .i64 _ = Value.int .i64 _; rw [(Go.Sort.rd_dec hdec).2.2]; rfl), (fun _ h => nomatch h)⟩)⟩)⟩, (by dsimp only; rw [(Go.Sort.rd_dec hdec).1]; exact Sub.refl _)⟩
            · trivial
            repeat (first | exact Out.refl _ _ | refine Out.put rfl ?_ | refine Out.puts rfl ?_ | refine Out.scr ?_ | refine Out.scr' rfl ?_)
          · refine S.nil ?_
            refine S.if_f rfl ?_
            refine TC.skip ?_
            have hnd := hint_not h50
            refine ⟨(), ?_, ⟨?_, (List.forall_mem_cons.2 ⟨(by show Value.int .i64 _ = Value.int .i64 _; rw [(Go.Sort.rd_not hnd).2.1]), (List.forall_mem_cons.2 ⟨(by show Value.int .i64 _ = Value.int .i64 _; rw [(Go.Sort.rd_not hnd).2.2]), (fun _ h => nomatch h)⟩)⟩)⟩, (by dsimp only; rw [(Go.Sort.rd_not hnd).1]; exact Sub.refl _)⟩
            · trivial
            repeat (first | exact Out.refl _ _ | refine Out.put rfl ?_ | refine Out.puts rfl ?_ | refine Out.scr ?_ | refine Out.scr' rfl ?_)
        · rintro _ u _
          refine TC.cutseq (γ := Unit) [61, 62, 63, 64, 65, 66, 67, 68, 69, 70, 71, 72] (fun _q => []) (fun _q => [Blk g 24 (blkD ((Go.Sort.rd ltN e x y l wb wp).pi.1) r)]) (fun _q => (Go.Sort.rd ltN e x y l wb wp).pi.2 = false) ?_ ?_
          · refine TC.seq ?_
            refine TC.region ?_
            cases wb
            · refine S.q rfl rfl (Qt.move (by conv => lhs; whnf)) ?_
              refine S.q rfl rfl (Qt.move (by conv => lhs; whnf)) ?_
              refine S.pass rfl rfl ?_
              refine S.q rfl rfl (Qt.pick_f rfl (by conv => lhs; whnf)) ?_
              refine S.q rfl rfl (Qt.move (by conv => lhs; whnf)) ?_
              refine S.pass rfl rfl ?_
              refine S.pass rfl rfl ?_
              refine S.q rfl rfl (Qt.pick_f rfl (by conv => lhs; whnf)) ?_
              refine S.nil ?_
              refine S.if_f rfl ?_
              refine TC.skip ?_
              have hno : (false && wp && decide ((Go.Sort.rd ltN e x y l false wp).hint = .increasing)) = false := rfl
              refine ⟨(), ?_, ⟨?_, (fun _ h => nomatch h)⟩, (by dsimp only; rw [Go.Sort.rd_pi_no hno]; exact Sub.refl _)⟩
              · rw [Go.Sort.rd_pi_no hno]
              repeat (first | exact Out.refl _ _ | refine Out.put rfl ?_ | refine Out.puts rfl ?_ | refine Out.scr ?_ | refine Out.scr' rfl ?_)
            · refine S.q rfl rfl (Qt.move (by conv => lhs; whnf)) ?_
              refine S.q rfl rfl (Qt.move (by conv => lhs; whnf)) ?_
              cases wp
              · refine S.qg rfl rfl rfl (Qt.move (by conv => lhs; whnf)) ?_
                refine S.q rfl rfl (Qt.pick_t rfl (by conv => lhs; whnf)) ?_
                refine S.q rfl rfl (Qt.move (by conv => lhs; whnf)) ?_
                refine S.pass rfl rfl ?_
                refine S.pass rfl rfl ?_
                refine S.q rfl rfl (Qt.pick_f rfl (by conv => lhs; whnf)) ?_
                refine S.nil ?_
                refine S.if_f rfl ?_
                refine TC.skip ?_
                have hno : (true && false && decide ((Go.Sort.rd ltN e x y l true false).hint = .increasing)) = false := rfl
                refine ⟨(), ?_, ⟨?_, (fun _ h => nomatch h)⟩, (by dsimp only; rw [Go.Sort.rd_pi_no hno]; exact Sub.refl _)⟩
                · rw [Go.Sort.rd_pi_no hno]
                repeat (first | exact Out.refl _ _ | refine Out.put rfl ?_ | refine Out.puts rfl ?_ | refine Out.scr ?_ | refine Out.scr' rfl ?_)
              · refine S.qg rfl rfl rfl (Qt.move (by conv => lhs; whnf)) ?_
                refine S.q rfl rfl (Qt.pick_t rfl (by conv => lhs; whnf)) ?_
                refine S.q rfl rfl (Qt.move (by conv => lhs; whnf)) ?_
                refine S.qg rfl rfl rfl (Qt.move (by conv => lhs; whnf)) ?_
                refine S.decg rfl rfl rfl (Qt.eqi rfl rfl) (fun h67 => ?_) (fun h67 => ?_)
                · refine S.q rfl rfl (Qt.pick_t rfl (by conv => lhs; whnf)) ?_
                  refine S.nil ?_
                  refine S.if_t rfl ?_
                  refine TC.seq ?_
                  refine TC.region ?_
                  have hyes : (true && true && decide ((Go.Sort.rd ltN e x y l true true).hint = .increasing)) = true := decide_eq_true (hint_one h67)
                  refine S.q rfl rfl (Qt.move (by conv => lhs; whnf)) ?_
                  refine S.q rfl rfl (Qt.move (by conv => lhs; whnf)) ?_
                  refine S.q rfl rfl (Qt.move (by conv => lhs; whnf)) ?_
                  refine S.opS rfl rfl (OpV.con (Pre := [Blk g 24 (blkD ((Go.Sort.rd ltN e x y l true true).d2) r)]) (R := _) Try.ent58 rfl (List.Perm.refl _) (fun w hw => partial_walk g n cp (Go.Sort.rd ltN e x y l true true).d2 r (s2.trans he) hm x y (by omega) hyn w hw.sat.left) ?_)
                  rintro v L' ⟨rfl, rfl⟩
                  refine S.nil ?_
                  refine TC.ifb rfl (fun b72 => ?_) (fun b72 => ?_)
                  · refine TC.ret ?_
                    refine finQ.ret RVs.nil (Sub.refl _) ?_
                    rw [← hq, Go.Sort.pdq_done h23 h29 (by rw [Go.Sort.rd_pi_yes hyes]; exact b72), Go.Sort.rd_pi_yes hyes]
                    exact ⟨rfl, rfl⟩
                  · refine TC.skip ?_
                    
                    refine ⟨(), ?_, ⟨?_, (fun _ h => nomatch h)⟩, (by dsimp only; rw [Go.Sort.rd_pi_yes hyes]; exact Sub.refl _)⟩
                    · rw [Go.Sort.rd_pi_yes hyes]
                      exact b72
                    repeat (first | exact Out.refl _ _ | refine Out.put rfl ?_ | refine Out.puts rfl ?_ | refine Out.scr ?_ | refine Out.scr' rfl ?_)
                · refine S.q rfl rfl (Qt.pick_t rfl (by conv => lhs; whnf)) ?_
                  refine S.nil ?_
                  refine S.if_f rfl ?_
                  refine TC.skip ?_
                  have hno : (true && true && decide ((Go.Sort.rd ltN e x y l true true).hint = .increasing)) = false := decide_eq_false (fun h => h67 (by rw [h]; rfl))
                  refine ⟨(), ?_, ⟨?_, (fun _ h => nomatch h)⟩, (by dsimp only; rw [Go.Sort.rd_pi_no hno]; exact Sub.refl _)⟩
                  · rw [Go.Sort.rd_pi_no hno]
                  repeat (first | exact Out.refl _ _ | refine Out.put rfl ?_ | refine Out.puts rfl ?_ | refine Out.scr ?_ | refine Out.scr' rfl ?_)
          · rintro _ u hp2
            refine TC.seq ?_
            refine TC.cutseq (γ := Unit) [73, 74, 75, 76, 77, 78, 79, 80, 81, 82, 83, 84, 85, 86, 87] (fun _q => [(87, .bool (decide (x > 0) && !ltN (Go.Sort.rd ltN e x y l wb wp).pi.1[x - 1]! (Go.Sort.rd ltN e x y l wb wp).pi.1[(Go.Sort.rd ltN e x y l wb wp).pivot]!))]) (fun _q => [Blk g 24 (blkD ((Go.Sort.rd ltN e x y l wb wp).pi.1) r)]) (fun _q => True) ?_ ?_
            · refine S.draw ([], []) Try.mixed (Sub.nil _) ?_
              refine D.qX (k := 0) rfl (by kernel_rfl) (by kernel_rfl) (by kernel_rfl) rfl rfl (Qt.move (by conv => lhs; whnf)) ?_
              refine D.decX (k := 1) rfl (by kernel_rfl) (by kernel_rfl) (by kernel_rfl) rfl rfl (Qt.gt (b := 0) rfl rfl) (fun h74 => ?_) (fun h74 => ?_)
              · refine D.qX (k := 2) rfl (by kernel_rfl) (by kernel_rfl) (by kernel_rfl) rfl rfl (Qt.move (by conv => lhs; whnf)) ?_
                refine D.qgX (k := 3) rfl (by kernel_rfl) (by kernel_rfl) (by kernel_rfl) rfl rfl rfl (Qt.move (by conv => lhs; whnf)) ?_
                refine D.qgX (k := 4) rfl (by kernel_rfl) (by kernel_rfl) (by kernel_rfl) rfl rfl rfl (Qt.move (by conv => lhs; whnf)) ?_
                refine D.qgX (k := 5) rfl (by kernel_rfl) (by kernel_rfl) (by kernel_rfl) rfl rfl rfl (Qt.sub (b := 1) rfl rfl (by omega) (by simp only [kmax]; omega)) ?_
                refine D.qgX (k := 6) rfl (by kernel_rfl) (by kernel_rfl) (by kernel_rfl) rfl rfl rfl (Qt.index Try.underlying22 Try.cells24 rfl rfl (by omega) (Has.blk (Has.at 0 rfl)) (by simp only [blkD_len]; omega)) ?_
                refine D.qgX (k := 7) rfl (by kernel_rfl) (by kernel_rfl) (by kernel_rfl) rfl rfl rfl (Qt.load rfl (Ld.sl (Has.blk (Has.at 0 rfl)) Try.one24 (blkD_get (by (try dsimp only); omega)))) ?_
                refine D.qgX (k := 8) rfl (by kernel_rfl) (by kernel_rfl) (by kernel_rfl) rfl rfl rfl (Qt.move (by conv => lhs; whnf)) ?_
                refine D.qgX (k := 9) rfl (by kernel_rfl) (by kernel_rfl) (by kernel_rfl) rfl rfl rfl (Qt.move (by conv => lhs; whnf)) ?_
                refine D.qgX (k := 10) rfl (by kernel_rfl) (by kernel_rfl) (by kernel_rfl) rfl rfl rfl (Qt.index Try.underlying22 Try.cells24 rfl rfl (by omega) (Has.blk (Has.at 0 rfl)) (by simp only [blkD_len]; omega)) ?_
                refine D.qgX (k := 11) rfl (by kernel_rfl) (by kernel_rfl) (by kernel_rfl) rfl rfl rfl (Qt.load rfl (Ld.sl (Has.blk (Has.at 0 rfl)) Try.one24 (blkD_get (by (try dsimp only); omega)))) ?_
                by_cases h85 : ltN (Go.Sort.rd ltN e x y l wb wp).pi.1[x - 1]! (Go.Sort.rd ltN e x y l wb wp).pi.1[(Go.Sort.rd ltN e x y l wb wp).pivot]! = true
                · refine D.cgX (k := 12) rfl (by kernel_rfl) (by kernel_rfl) (by kernel_rfl) rfl rfl rfl (CalU.con0 Try.ent59 rfl (fun w hw => less_t h85 w)) ?_
                  refine D.qgX (k := 13) rfl (by kernel_rfl) (by kernel_rfl) (by kernel_rfl) rfl rfl rfl (Qt.not_t rfl) ?_
                  refine D.qX (k := 14) rfl (by kernel_rfl) (by kernel_rfl) (by kernel_rfl) rfl rfl (Qt.pick_t rfl (by conv => lhs; whnf)) ?_
                  refine D.done (Sub.nil _) (by kernel_rfl) ?_
                  refine ⟨(), ?_, ⟨?_, (List.forall_mem_cons.2 ⟨(by show Value.bool _ = Value.bool _; simp [h74, h85]), (fun _ h => nomatch h)⟩)⟩, Sub.refl _⟩
                  · trivial
                  repeat (first | exact Out.refl _ _ | refine Out.put rfl ?_ | refine Out.puts rfl ?_ | refine Out.scr ?_ | refine Out.scr' rfl ?_)
                · refine D.cgX (k := 12) rfl (by kernel_rfl) (by kernel_rfl) (by kernel_rfl) rfl rfl rfl (CalU.con0 Try.ent59 rfl (fun w hw => less_f h85 w)) ?_
                  refine D.qgX (k := 13) rfl (by kernel_rfl) (by kernel_rfl) (by kernel_rfl) rfl rfl rfl (Qt.not_f rfl) ?_
                  refine D.qX (k := 14) rfl (by kernel_rfl) (by kernel_rfl) (by kernel_rfl) rfl rfl (Qt.pick_t rfl (by conv => lhs; whnf)) ?_
                  refine D.done (Sub.nil _) (by kernel_rfl) ?_
                  refine ⟨(), ?_, ⟨?_, (List.forall_mem_cons.2 ⟨(by show Value.bool _ = Value.bool _; simp [h74, h85]), (fun _ h => nomatch h)⟩)⟩, Sub.refl _⟩
                  · trivial
                  repeat (first | exact Out.refl _ _ | refine Out.put rfl ?_ | refine Out.puts rfl ?_ | refine Out.scr ?_ | refine Out.scr' rfl ?_)
              · refine D.qX (k := 2) rfl (by kernel_rfl) (by kernel_rfl) (by kernel_rfl) rfl rfl (Qt.move (by conv => lhs; whnf)) ?_
                refine D.pass (k := 3) rfl (by kernel_rfl) (by kernel_rfl) rfl rfl rfl ?_
                refine D.pass (k := 4) rfl (by kernel_rfl) (by kernel_rfl) rfl rfl rfl ?_
                refine D.pass (k := 5) rfl (by kernel_rfl) (by kernel_rfl) rfl rfl rfl ?_
                refine D.pass (k := 6) rfl (by kernel_rfl) (by kernel_rfl) rfl rfl rfl ?_
                refine D.pass (k := 7) rfl (by kernel_rfl) (by kernel_rfl) rfl rfl rfl ?_
                refine D.pass (k := 8) rfl (by kernel_rfl) (by kernel_rfl) rfl rfl rfl ?_
                refine D.pass (k := 9) rfl (by kernel_rfl) (by kernel_rfl) rfl rfl rfl ?_
                refine D.pass (k := 10) rfl (by kernel_rfl) (by kernel_rfl) rfl rfl rfl ?_
                refine D.pass (k := 11) rfl (by kernel_rfl) (by kernel_rfl) rfl rfl rfl ?_
                refine D.pass (k := 12) rfl (by kernel_rfl) (by kernel_rfl) rfl rfl rfl ?_
                refine D.pass (k := 13) rfl (by kernel_rfl) (by kernel_rfl) rfl rfl rfl ?_
                refine D.qX (k := 14) rfl (by kernel_rfl) (by kernel_rfl) (by kernel_rfl) rfl rfl (Qt.pick_f rfl (by conv => lhs; whnf)) ?_
                refine D.done (Sub.nil _) (by kernel_rfl) ?_
                refine ⟨(), ?_, ⟨?_, (List.forall_mem_cons.2 ⟨(by show Value.bool _ = Value.bool _; simp [h74]), (fun _ h => nomatch h)⟩)⟩, Sub.refl _⟩
                · trivial
                repeat (first | exact Out.refl _ _ | refine Out.put rfl ?_ | refine Out.puts rfl ?_ | refine Out.scr ?_ | refine Out.scr' rfl ?_)
            · rintro _ u _
              refine TC.ifb rfl (fun b87 => ?_) (fun b87 => ?_)
              · refine TC.seq ?_
                refine TC.region ?_
                have h87 := b87
                simp only [Bool.and_eq_true, decide_eq_true_eq, Bool.not_eq_true'] at h87
                obtain ⟨mid, d4, hx⟩ : ∃ mid d4, Go.Sort.partitionEqual ltN (Go.Sort.rd ltN e x y l wb wp).pi.1 x y (Go.Sort.rd ltN e x y l wb wp).pivot = (mid, d4) := ⟨_, _, rfl⟩
                obtain ⟨r1, r2, r3, r4, _⟩ := Go.Sort.round_eq swo_ltN (Go.Sort.partitionEqual_holds ltN) h87.1 hpv.1 hpv.2 (show y ≤ (Go.Sort.rd ltN e x y l wb wp).pi.1.size by omega) B3 h87.2 hx
                refine S.q rfl rfl (Qt.move (by conv => lhs; whnf)) ?_
                refine S.q rfl rfl (Qt.move (by conv => lhs; whnf)) ?_
                refine S.q rfl rfl (Qt.move (by conv => lhs; whnf)) ?_
                refine S.q rfl rfl (Qt.move (by conv => lhs; whnf)) ?_
                refine S.opS rfl rfl (OpV.con (Pre := [Blk g 24 (blkD ((Go.Sort.rd ltN e x y l wb wp).pi.1) r)]) (R := _) Try.ent60 rfl (List.Perm.refl _) (fun w hw => (by have h := parteq_walk g n cp (Go.Sort.rd ltN e x y l wb wp).pi.1 r (s3.trans he) hm x y (Go.Sort.rd ltN e x y l wb wp).pivot hpv.1 hpv.2 hyn w hw.sat.left; rw [hx] at h; exact h)) ?_)
                rintro v L' ⟨rfl, rfl⟩
                refine S.q rfl rfl (Qt.assign (by conv => lhs; whnf)) ?_
                refine S.nil ?_
                refine TC.seq ?_
                refine TC.region ?_
                refine S.q rfl rfl (Qt.move (by conv => lhs; whnf)) ?_
                refine S.q rfl rfl (Qt.assign (by conv => lhs; whnf)) ?_
                refine S.nil ?_
                refine TC.exit ?_
                refine ⟨(mid, y, (Go.Sort.rd ltN e x y l wb wp).lim, wb, wp, d4), ?_, ?_, ⟨?_, (List.forall_mem_cons.2 ⟨rfl, (List.forall_mem_cons.2 ⟨rfl, (List.forall_mem_cons.2 ⟨rfl, (List.forall_mem_cons.2 ⟨rfl, (List.forall_mem_cons.2 ⟨rfl, (fun _ h => nomatch h)⟩)⟩)⟩)⟩)⟩)⟩, Sub.refl _⟩
                · exact ⟨r2, hyn, by dsimp only; omega, Nat.le_trans (Go.Sort.rd_lim_le (lt := ltN) (d := e) (a := x) (b := y) (limit := l) (wb := wb) (wp := wp)) hl, r3.trans (s3.trans he), r4, (by dsimp only; rw [← hq, Go.Sort.pdq_eq h23 h29 hp2 b87 (by rw [hx]; exact ⟨r1, r2⟩), hx])⟩
                · show _ < _; dsimp only; omega
                repeat (first | exact Out.refl _ _ | refine Out.put rfl ?_ | refine Out.puts rfl ?_ | refine Out.scr ?_ | refine Out.scr' rfl ?_)
              · refine TC.skip ?_
                refine TC.seq ?_
                refine TC.region ?_
                obtain ⟨mid, ap, d4, hx⟩ : ∃ mid ap d4, Go.Sort.partition ltN (Go.Sort.rd ltN e x y l wb wp).pi.1 x y (Go.Sort.rd ltN e x y l wb wp).pivot = (mid, ap, d4) := ⟨_, _, _, rfl⟩
                obtain ⟨r1, r2, r3, r4, r5, r6, r7⟩ := Go.Sort.round_part swo_ltN (Go.Sort.partition_holds ltN) hpv.1 hpv.2 (show y ≤ (Go.Sort.rd ltN e x y l wb wp).pi.1.size by omega) B3 hx
                refine S.q rfl rfl (Qt.move (by conv => lhs; whnf)) ?_
                refine S.q rfl rfl (Qt.move (by conv => lhs; whnf)) ?_
                refine S.q rfl rfl (Qt.move (by conv => lhs; whnf)) ?_
                refine S.q rfl rfl (Qt.move (by conv => lhs; whnf)) ?_
                refine S.opS rfl rfl (OpV.con (Pre := [Blk g 24 (blkD ((Go.Sort.rd ltN e x y l wb wp).pi.1) r)]) (R := _) Try.ent61 rfl (List.Perm.refl _) (fun w hw => (by have h := part_walk g n cp (Go.Sort.rd ltN e x y l wb wp).pi.1 r (s3.trans he) hm x y (Go.Sort.rd ltN e x y l wb wp).pivot hpv.1 hpv.2 hyn w hw.sat.left; rw [hx] at h; exact h)) ?_)
                rintro v L' ⟨rfl, rfl⟩
                refine S.q rfl rfl (Qt.move (by conv => lhs; whnf)) ?_
                refine S.q rfl rfl (Qt.extract rfl rfl) ?_
                refine S.q rfl rfl (Qt.extract rfl rfl) ?_
                refine S.q rfl rfl (Qt.assign (by conv => lhs; whnf)) ?_
                refine S.q rfl rfl (Qt.assign (by conv => lhs; whnf)) ?_
                refine S.nil ?_
                refine TC.seq ?_
                refine TC.region ?_
                refine S.q rfl rfl (Qt.move (by conv => lhs; whnf)) ?_
                refine S.q rfl rfl (Qt.assign (by conv => lhs; whnf)) ?_
                refine S.nil ?_
                refine TC.seq ?_
                refine TC.region ?_
                refine S.q rfl rfl (Qt.move (by conv => lhs; whnf)) ?_
                refine S.q rfl rfl (Qt.move (by conv => lhs; whnf)) ?_
                refine S.q rfl rfl (Qt.sub rfl rfl (by omega) (by simp only [kmax]; omega)) ?_
                refine S.q rfl rfl (Qt.move (by conv => lhs; whnf)) ?_
                refine S.q rfl rfl (Qt.move (by conv => lhs; whnf)) ?_
                refine S.q rfl rfl (Qt.sub rfl rfl (by omega) (by simp only [kmax]; omega)) ?_
                refine S.q rfl rfl (Qt.assign (by conv => lhs; whnf)) ?_
                refine S.q rfl rfl (Qt.assign (by conv => lhs; whnf)) ?_
                refine S.nil ?_
                refine TC.seq ?_
                refine TC.region ?_
                refine S.q rfl rfl (Qt.move (by conv => lhs; whnf)) ?_
                refine S.q rfl rfl (Qt.quo (b := 8) rfl rfl (by omega) (by simp only [kmax]; omega)) ?_
                refine S.q rfl rfl (Qt.assign (by conv => lhs; whnf)) ?_
                refine S.nil ?_
                refine TC.seq ?_
                refine TC.region ?_
                refine S.q rfl rfl (Qt.move (by conv => lhs; whnf)) ?_
                refine S.q rfl rfl (Qt.move (by conv => lhs; whnf)) ?_
                refine S.dec rfl rfl (Qt.lt rfl rfl) (fun h113 => ?_) (fun h113 => ?_)
                · refine S.nil ?_
                  refine S.if_t rfl ?_
                  refine TC.seq ?_
                  refine TC.region ?_
                  obtain ⟨pL, sL⟩ := Go.Sort.pdq_sorts ltN swo_ltN d4 x mid (Go.Sort.rd ltN e x y l wb wp).lim true true (by omega) (by omega) r4
                  refine S.q rfl rfl (Qt.move (by conv => lhs; whnf)) ?_
                  refine S.q rfl rfl (Qt.move (by conv => lhs; whnf)) ?_
                  refine S.q rfl rfl (Qt.ge rfl rfl) ?_
                  refine S.q rfl rfl (Qt.assign (by conv => lhs; whnf)) ?_
                  refine S.nil ?_
                  refine TC.seq ?_
                  refine TC.region ?_
                  refine S.q rfl rfl (Qt.move (by conv => lhs; whnf)) ?_
                  refine S.q rfl rfl (Qt.move (by conv => lhs; whnf)) ?_
                  refine S.q rfl rfl (Qt.move (by conv => lhs; whnf)) ?_
                  refine S.q rfl rfl (Qt.move (by conv => lhs; whnf)) ?_
                  refine S.opS rfl rfl (OpV.con (Pre := [Blk g 24 (blkD (d4) r)]) (R := _) Try.ent51 rfl (List.Perm.refl _) (fun w hw => ih x mid (Go.Sort.rd ltN e x y l wb wp).lim d4 (r3.trans (s3.trans he)) (by omega) (by omega) (Nat.le_trans (Go.Sort.rd_lim_le (lt := ltN) (d := e) (a := x) (b := y) (limit := l) (wb := wb) (wp := wp)) hl) r4 w hw.sat.left (by omega)) ?_)
                  rintro v L' ⟨rfl, rfl⟩
                  refine S.nil ?_
                  refine TC.region ?_
                  refine S.q rfl rfl (Qt.move (by conv => lhs; whnf)) ?_
                  refine S.q rfl rfl (Qt.add (b := 1) rfl rfl (by simp only [kmax]; omega)) ?_
                  refine S.q rfl rfl (Qt.assign (by conv => lhs; whnf)) ?_
                  refine S.nil ?_
                  refine ⟨(mid + 1, y, (Go.Sort.rd ltN e x y l wb wp).lim, decide (mid - x ≥ (y - x) / 8), ap, Go.Sort.pdq ltN d4 x mid (Go.Sort.rd ltN e x y l wb wp).lim true true), ?_, ?_, ⟨?_, (List.forall_mem_cons.2 ⟨rfl, (List.forall_mem_cons.2 ⟨rfl, (List.forall_mem_cons.2 ⟨rfl, (List.forall_mem_cons.2 ⟨rfl, (List.forall_mem_cons.2 ⟨rfl, (fun _ h => nomatch h)⟩)⟩)⟩)⟩)⟩)⟩, Sub.refl _⟩
                  · exact ⟨by dsimp only; omega, hyn, by dsimp only; omega, Nat.le_trans (Go.Sort.rd_lim_le (lt := ltN) (d := e) (a := x) (b := y) (limit := l) (wb := wb) (wp := wp)) hl, pL.1.trans (r3.trans (s3.trans he)), (r6 _ pL sL).1, (by dsimp only; rw [← hq, Go.Sort.pdq_left h23 h29 hp2 b87 (by rw [hx]; exact ⟨r1, r2⟩) (by rw [hx]; exact h113), hx])⟩
                  · show _ < _; dsimp only; omega
                  repeat (first | exact Out.refl _ _ | refine Out.put rfl ?_ | refine Out.puts rfl ?_ | refine Out.scr ?_ | refine Out.scr' rfl ?_)
                · refine S.nil ?_
                  refine S.if_f rfl ?_
                  refine TC.seq ?_
                  refine TC.region ?_
                  obtain ⟨pL, sL⟩ := Go.Sort.pdq_sorts ltN swo_ltN d4 (mid + 1) y (Go.Sort.rd ltN e x y l wb wp).lim true true (by omega) (by omega) r5
                  refine S.q rfl rfl (Qt.move (by conv => lhs; whnf)) ?_
                  refine S.q rfl rfl (Qt.move (by conv => lhs; whnf)) ?_
                  refine S.q rfl rfl (Qt.ge rfl rfl) ?_
                  refine S.q rfl rfl (Qt.assign (by conv => lhs; whnf)) ?_
                  refine S.nil ?_
                  refine TC.seq ?_
                  refine TC.region ?_
                  refine S.q rfl rfl (Qt.move (by conv => lhs; whnf)) ?_
                  refine S.q rfl rfl (Qt.move (by conv => lhs; whnf)) ?_
                  refine S.q rfl rfl (Qt.add (b := 1) rfl rfl (by simp only [kmax]; omega)) ?_
                  refine S.q rfl rfl (Qt.move (by conv => lhs; whnf)) ?_
                  refine S.q rfl rfl (Qt.move (by conv => lhs; whnf)) ?_
                  refine S.opS rfl rfl (OpV.con (Pre := [Blk g 24 (blkD (d4) r)]) (R := _) Try.ent51 rfl (List.Perm.refl _) (fun w hw => ih (mid + 1) y (Go.Sort.rd ltN e x y l wb wp).lim d4 (r3.trans (s3.trans he)) (by omega) (by omega) (Nat.le_trans (Go.Sort.rd_lim_le (lt := ltN) (d := e) (a := x) (b := y) (limit := l) (wb := wb) (wp := wp)) hl) r5 w hw.sat.left (by omega)) ?_)
                  rintro v L' ⟨rfl, rfl⟩
                  refine S.nil ?_
                  refine TC.region ?_
                  refine S.q rfl rfl (Qt.move (by conv => lhs; whnf)) ?_
                  refine S.q rfl rfl (Qt.assign (by conv => lhs; whnf)) ?_
                  refine S.nil ?_
                  refine ⟨(x, mid, (Go.Sort.rd ltN e x y l wb wp).lim, decide (y - mid ≥ (y - x) / 8), ap, Go.Sort.pdq ltN d4 (mid + 1) y (Go.Sort.rd ltN e x y l wb wp).lim true true), ?_, ?_, ⟨?_, (List.forall_mem_cons.2 ⟨rfl, (List.forall_mem_cons.2 ⟨rfl, (List.forall_mem_cons.2 ⟨rfl, (List.forall_mem_cons.2 ⟨rfl, (List.forall_mem_cons.2 ⟨rfl, (fun _ h => nomatch h)⟩)⟩)⟩)⟩)⟩)⟩, Sub.refl _⟩
                  · exact ⟨r1, by dsimp only; omega, by dsimp only; omega, Nat.le_trans (Go.Sort.rd_lim_le (lt := ltN) (d := e) (a := x) (b := y) (limit := l) (wb := wb) (wp := wp)) hl, pL.1.trans (r3.trans (s3.trans he)), (r7 _ pL sL).1, (by dsimp only; rw [← hq, Go.Sort.pdq_right h23 h29 hp2 b87 (by rw [hx]; exact ⟨r1, r2⟩) (by rw [hx]; exact h113), hx])⟩
                  · show _ < _; dsimp only; omega
                  repeat (first | exact Out.refl _ _ | refine Out.put rfl ?_ | refine Out.puts rfl ?_ | refine Out.scr ?_ | refine Out.scr' rfl ?_)
theorem pdq_all (g n cp : Nat) (r : List Value) (hm : n < 4294967296) : ∀ (N : Nat), ∀ (a b lim : Nat) (d : Array Nat) (hn : d.size = n) (hab : a ≤ b) (hb : b ≤ n) (hl : lim ≤ 64) (hB : Go.Sort.Below ltN a b d) (w0 : World) (hL : Sat w0 [Blk g 24 (blkD (d) r)]), b - a < N → Calls Try.prog 51 #[.slice (some ⟨g, 0, none⟩) n cp, .int .i64 ((a : Nat) : Int), .int .i64 ((b : Nat) : Int), .int .i64 ((lim : Nat) : Int)] w0 (Post w0 (fps [Blk g 24 (blkD (d) r)]) fun v L => v = .tuple #[] ∧ L = [Blk g 24 (blkD (Go.Sort.pdq ltN d a b lim true true) r)]) := by
  intro N
  induction N with
  | zero => intro _ _ _ _ _ _ _ _ _ _ _ h; exact absurd h (Nat.not_lt_zero _)
  | succ N ih => intro a b lim d hn hab hb hl hB w0 hL h; exact pdq_walk g n cp r hm N ih a b lim d hn hab hb hl hB (by omega) w0 hL

end Go.Proofs.Ytaoicbjgkghnnaa
namespace Go.Proofs.Ytaoicbjgkghnnaa
open Go.E
set_option linter.unusedVariables false
set_option maxRecDepth 4000

theorem TL.shutN {C : Ctx} {Q : EQ} {env : Env} {ops : Array Oper} {l : List Oper} {L0 L : List Assn} {e : TypeId} {sz g n c : Nat} {cs : List Value} (hl : cs.length = c * sz) (hn : n ≤ c) (hm : c ≤ maxLen) (s : L0.Perm (Blk g e cs :: L)) (h : TL C ops Q l env (OwnA e sz (some ⟨g, 0, none⟩) n c (cs.take (n * sz)) :: L)) : TL C ops Q l env L0 :=
  fun a w ha hw => h a w ha ((hw.perm s).shutOwn hl hn hm)
theorem sort_size (d : Array Nat) : (Go.Sort.sort ltN d).size = d.size := (Go.Sort.sort_sorts ltN swo_ltN d).1.1
theorem blkD_take (d : Array Nat) (r : List Value) {n : Nat} (h : d.size = n) : (blkD d r).take (n * 1) = u64s d.toList := by
  rw [blkD, Nat.mul_one, List.take_left' (by rw [u64s_len, Array.length_toList, h])]
theorem blkD_of {cs : List Value} {n : Nat} {xs : List Nat} (h : cs.take (n * 1) = u64s xs) : cs = blkD xs.toArray (cs.drop (n * 1)) := by
  rw [blkD]; show cs = u64s xs ++ _; rw [← h, List.take_append_drop]
theorem pdq_size {n : Nat} {d : Array Nat} (h : d.size = n) : (Go.Sort.pdq ltN d 0 n (bitlen n) true true).size = d.size := by subst h; exact sort_size d
theorem pdq_srt {n : Nat} {xs : List Nat} (h : xs.toArray.size = n) : (Go.Sort.pdq ltN xs.toArray 0 n (bitlen n) true true).toList = srt xs := by subst h; exact sortN xs
set_option maxHeartbeats 400000 in
theorem insN_walk (a b : Nat) (h : b ≤ a) (ha : a < 4294967296) (w0 : World) :
    Calls Try.prog 53 #[.slice none 0 0, .int .i64 ((a : Nat) : Int), .int .i64 ((b : Nat) : Int)] w0 (Post w0 [] fun v L => v = .tuple #[] ∧ L = []) := by
  refine Calls.of (L := []) (n := 49) (rs := []) Try.func53 rfl rfl rfl (Nat.le_of_ble_eq_true rfl) (Sat.nil _) ?_
  refine TC.seq ?_
  refine TC.region ?_
  refine S.q rfl rfl (Qt.move (by conv => lhs; whnf)) ?_
  refine S.q rfl rfl (Qt.add (b := 1) rfl rfl (by simp only [kmax]; omega)) ?_
  refine S.q rfl rfl (Qt.assign (by conv => lhs; whnf)) ?_
  refine S.nil ?_
  refine TC.block ?_
  refine TC.loop (γ := Nat) [10, 11, 12, 15, 7, 16, 17, 18, 19, 20, 21, 22, 23, 24, 25, 26, 27, 28, 29, 30, 33, 34, 35, 36, 37, 38, 39, 40, 41, 42, 43, 44, 45, 46, 47, 48, 31, 32, 13, 14, 6] (fun k => [(6, .int .i64 ((k : Nat) : Int))]) (fun _ => _) (fun k => k = a + 1) (fun k => k) (a + 1)
    rfl ⟨Out.refl _ _, (List.forall_mem_cons.2 ⟨rfl, (fun _ h => nomatch h)⟩)⟩ (Sub.refl _) ?_
  rintro k u hk
  refine TC.seq ?_
  refine TC.seq ?_
  refine TC.region ?_
  refine S.q rfl rfl (Qt.move (by conv => lhs; whnf)) ?_
  refine S.q rfl rfl (Qt.move (by conv => lhs; whnf)) ?_
  refine S.q rfl rfl (Qt.dF (Qt.lt rfl rfl) (by omega)) ?_
  refine S.nil ?_
  refine S.if_f rfl ?_
  refine TC.exit ?_
  refine finQ.normal RVs.nil (Sub.nil _) ?_
  exact ⟨rfl, rfl⟩
theorem insN_R (a b : Nat) (h : b ≤ a) (ha : a < 4294967296) (w0 : World) : Calls Try.prog 53 #[.slice none 0 0, .int .i64 ((a : Nat) : Int), .int .i64 ((b : Nat) : Int)] w0 (Ret w0 (.tuple #[])) := Calls.ret (insN_walk a b h ha w0)

set_option maxHeartbeats 400000 in
theorem pdqN_walk (l : Nat) (w0 : World) :
    Calls Try.prog 51 #[.slice none 0 0, .int .i64 ((0 : Nat) : Int), .int .i64 ((0 : Nat) : Int), .int .i64 ((l : Nat) : Int)] w0 (Post w0 [] fun v L => v = .tuple #[] ∧ L = []) := by
  refine Calls.of (L := []) (n := 134) (rs := []) Try.func51 rfl rfl rfl (Nat.le_of_ble_eq_true rfl) (Sat.nil _) ?_
  refine TC.seq ?_
  refine TC.region ?_
  refine S.q rfl rfl (Qt.assign (by conv => lhs; whnf)) ?_
  refine S.nil ?_
  refine TC.seq ?_
  refine TC.region ?_
  refine S.q rfl rfl (Qt.assign (by conv => lhs; whnf)) ?_
  refine S.nil ?_
  refine TC.block ?_
  refine TC.loop (γ := Nat) [19, 20, 21, 10, 22, 23, 24, 25, 26, 27, 28, 29, 30, 31, 32, 33, 34, 35, 36, 37, 38, 39, 40, 41, 3, 43, 44, 45, 46, 42, 47, 48, 11, 12, 49, 50, 51, 52, 53, 54, 55, 56, 57, 58, 59, 60, 61, 62, 63, 64, 65, 66, 67, 68, 69, 70, 71, 72, 73, 74, 75, 76, 77, 78, 79, 80, 81, 82, 83, 84, 85, 86, 87, 88, 89, 90, 91, 92, 13, 93, 1, 95, 96, 97, 98, 99, 94, 100, 101, 14, 15, 102, 9, 103, 104, 105, 106, 107, 108, 16, 17, 109, 110, 18, 111, 112, 113, 114, 115, 116, 8, 117, 118, 119, 120, 121, 122, 123, 124, 125, 126, 127, 128, 129, 130, 131, 132, 133, 2] (fun k => [(1, .int .i64 ((0 : Nat) : Int)), (2, .int .i64 ((0 : Nat) : Int))]) (fun _ => _) (fun k => True) (fun k => k) (0)
    trivial ⟨Out.refl _ _, (List.forall_mem_cons.2 ⟨rfl, (List.forall_mem_cons.2 ⟨rfl, (fun _ h => nomatch h)⟩)⟩)⟩ (Sub.refl _) ?_
  rintro k u hk
  refine TC.block ?_
  refine TC.seq ?_
  refine TC.region ?_
  refine S.q rfl rfl (Qt.move (by conv => lhs; whnf)) ?_
  refine S.q rfl rfl (Qt.move (by conv => lhs; whnf)) ?_
  refine S.q rfl rfl (Qt.sub rfl rfl (by omega) (by simp only [kmax]; omega)) ?_
  refine S.q rfl rfl (Qt.assign (by conv => lhs; whnf)) ?_
  refine S.nil ?_
  refine TC.seq ?_
  refine TC.seq ?_
  refine TC.region ?_
  refine S.q rfl rfl (Qt.move (by conv => lhs; whnf)) ?_
  refine S.q rfl rfl (Qt.dT (Qt.le (b := 12) rfl rfl) (by omega)) ?_
  refine S.nil ?_
  refine S.if_t rfl ?_
  refine TC.seq ?_
  refine TC.region ?_
  refine S.q rfl rfl (Qt.move (by conv => lhs; whnf)) ?_
  refine S.q rfl rfl (Qt.move (by conv => lhs; whnf)) ?_
  refine S.q rfl rfl (Qt.move (by conv => lhs; whnf)) ?_
  refine S.opS rfl rfl (OpV.con0 Try.ent53 rfl (fun w hw => insN_R 0 0 (Nat.le_refl _) (by decide) w) ?_)
  refine S.nil ?_
  refine TC.ret ?_
  refine finQ.ret RVs.nil (Sub.nil _) ?_
  exact ⟨rfl, rfl⟩
theorem pdqN_R (l : Nat) (w0 : World) : Calls Try.prog 51 #[.slice none 0 0, .int .i64 ((0 : Nat) : Int), .int .i64 ((0 : Nat) : Int), .int .i64 ((l : Nat) : Int)] w0 (Ret w0 (.tuple #[])) := Calls.ret (pdqN_walk l w0)

set_option maxHeartbeats 800000 in
theorem sort_own (A : Option Addr) (n c : Nat) (xs : List Nat) (hm : n < 4294967296) (w0 : World) (hL : Sat w0 [OwnA 24 1 A n c (u64s xs)]) :
    Calls Try.prog 48 #[.slice A n c] w0 (Post w0 (fps [OwnA 24 1 A n c (u64s xs)]) fun v L => v = .tuple #[] ∧ L = [OwnA 24 1 A n c (u64s (srt xs))]) := by
  refine Calls.of (L := [OwnA 24 1 A n c (u64s xs)]) (n := 11) (rs := []) Try.func48 rfl rfl rfl (Nat.le_of_ble_eq_true rfl) (hL) ?_
  have hxn : xs.length = n := by have := (own_cap (hL.ok _ (List.mem_cons_self ..))).2.2; rw [u64s_len] at this; omega
  refine TC.openOwn (fun hA hz hc0 hx0 => ?_) (fun g cs hO hct hcl hnc hcm => ?_)
  · subst hA hz hc0
    obtain rfl : xs = [] := by cases xs with | nil => rfl | cons _ _ => simp at hxn
    refine TC.seq ?_
    refine TC.region ?_
    refine S.q rfl rfl (Qt.move (by conv => lhs; whnf)) ?_
    refine S.q rfl rfl (Qt.len_slice Try.underlying22 rfl) ?_
    refine S.q rfl rfl (Qt.assign (by conv => lhs; whnf)) ?_
    refine S.nil ?_
    refine TC.region ?_
    refine S.q rfl rfl (Qt.move (by conv => lhs; whnf)) ?_
    refine S.q rfl rfl (Qt.move (by conv => lhs; whnf)) ?_
    refine S.q rfl rfl (Qt.move (by conv => lhs; whnf)) ?_
    refine S.q rfl rfl (Qt.convert Try.underlying3 Try.underlying46 rfl (by simp only [kmax]; omega)) ?_
    refine S.opS rfl rfl (OpV.con0 Try.ent52 rfl (fun w hw => blen_R 0 (by decide) w) ?_)
    refine S.opS rfl rfl (OpV.con0 Try.ent51 rfl (fun w hw => pdqN_R (bitlen 0) w) ?_)
    refine S.nil ?_
    refine finQ.normal RVs.nil (Sub.refl _) ?_
    exact ⟨rfl, by rw [srt, List.mergeSort_nil]; rfl⟩
  subst hO
  have hcs := blkD_of hct
  generalize hr : cs.drop (n * 1) = r at hcs
  subst hcs
  have hsz : xs.toArray.size = n := hxn
  have hb := bl32 hm
  refine TC.seq ?_
  refine TC.region ?_
  refine S.q rfl rfl (Qt.move (by conv => lhs; whnf)) ?_
  refine S.q rfl rfl (Qt.len_slice Try.underlying22 rfl) ?_
  refine S.q rfl rfl (Qt.assign (by conv => lhs; whnf)) ?_
  refine S.nil ?_
  refine TC.region ?_
  refine S.q rfl rfl (Qt.move (by conv => lhs; whnf)) ?_
  refine S.q rfl rfl (Qt.move (by conv => lhs; whnf)) ?_
  refine S.q rfl rfl (Qt.move (by conv => lhs; whnf)) ?_
  refine S.q rfl rfl (Qt.convert Try.underlying3 Try.underlying46 rfl (by simp only [kmax]; omega)) ?_
  refine S.opS rfl rfl (OpV.con0 Try.ent52 rfl (fun w hw => blen_R n (by omega) w) ?_)
  refine S.opS rfl rfl (OpV.con (Pre := [Blk g 24 (blkD (xs.toArray) r)]) (R := _) Try.ent51 rfl (List.Perm.refl _) (fun w hw => (pdq_all g n c r hm (n + 1) 0 n (bitlen n) xs.toArray hsz (Nat.zero_le _) (Nat.le_refl _) (by omega) (.inl rfl) w hw.sat.left (by omega))) ?_)
  rintro v L' ⟨rfl, rfl⟩
  refine TL.shutN (n := n) (c := c) (sz := 1) (by rw [blkD_len, pdq_size hsz, ← hcl, blkD_len]) hnc hcm (List.Perm.refl _) ?_
  rw [blkD_take _ _ (by rw [pdq_size hsz]; exact hsz), pdq_srt hsz]
  refine S.nil ?_
  refine finQ.normal RVs.nil (Sub.refl _) ?_
  exact ⟨rfl, rfl⟩
end Go.Proofs.Ytaoicbjgkghnnaa
