/-
  Walks: heights, and the root behind a growing step. Printed by a program of ours. Walks: the sort of a slice of numbers: less, the choice of a pivot. Printed by a program of ours. Walks: the sort of a slice of numbers: insertion, the heap, the turning around. Printed by a program of ours. Walks: the sort of a slice of numbers: the partitions. Printed by a program of ours. Walks: the sort of a slice of numbers: the partial insertion. Printed by a program of ours.
-/
import Derived.Test.YtaoicbjgkghnnaaNF
import Derived.Test.YtaoicbjgkghnnaaGR
import Derived.Test.YtaoicbjgkghnnaaSO
namespace Go.Proofs.Ytaoicbjgkghnnaa
open Go.E
set_option linter.unusedVariables false
set_option maxRecDepth 4000
set_option maxHeartbeats 400000 in
theorem len64_walk (x : Nat) (hx : x < 4294967296) (w0 : World) :
    Calls Try.prog 63 #[.int .u64 (x : Int)] w0 (Post w0 [] fun v L => v = .int .i64 ((bitlen x : Nat) : Int) ∧ L = []) := by
  refine Calls.of (L := []) (n := 25) (rs := [.tmp 2]) Try.func63 rfl rfl rfl (Nat.le_of_ble_eq_true rfl) (Sat.nil _) ?_
  refine TC.seq ?_
  refine TC.region ?_
  refine S.q rfl rfl (Qt.assign (by conv => lhs; whnf)) ?_
  refine S.nil ?_
  refine TC.seq ?_
  refine TC.seq ?_
  refine TC.region ?_
  refine S.q rfl rfl (Qt.move (by conv => lhs; whnf)) ?_
  refine S.q rfl rfl (Qt.dF (Qt.ge (b := 4294967296) rfl rfl) (by omega)) ?_
  refine S.nil ?_
  refine S.if_f rfl ?_
  refine TC.skip ?_
  refine TC.seq ?_
  refine TC.seq ?_
  refine TC.region ?_
  refine S.q rfl rfl (Qt.move (by conv => lhs; whnf)) ?_
  refine S.dec rfl rfl (Qt.ge (b := 65536) rfl rfl) (fun h8 => ?_) (fun h8 => ?_)
  · refine S.nil ?_
    refine S.if_t rfl ?_
    refine TC.seq ?_
    refine TC.region ?_
    refine S.q rfl rfl (Qt.move (by conv => lhs; whnf)) ?_
    refine S.q rfl rfl (Qt.shrN (s := 16) rfl rfl (by simp only [kmax]; omega)) ?_
    refine S.q rfl rfl (Qt.assign (by conv => lhs; whnf)) ?_
    refine S.nil ?_
    refine TC.region ?_
    refine S.q rfl rfl (Qt.move (by conv => lhs; whnf)) ?_
    refine S.q rfl rfl (Qt.addi rfl rfl (IntWalk.i64_in _ (by omega))) ?_
    refine S.q rfl rfl (Qt.assign (by conv => lhs; whnf)) ?_
    refine S.nil ?_
    refine TC.seq ?_
    refine TC.seq ?_
    refine TC.region ?_
    refine S.q rfl rfl (Qt.move (by conv => lhs; whnf)) ?_
    refine S.dec rfl rfl (Qt.ge (b := 256) rfl rfl) (fun h14 => ?_) (fun h14 => ?_)
    · refine S.nil ?_
      refine S.if_t rfl ?_
      refine TC.seq ?_
      refine TC.region ?_
      refine S.q rfl rfl (Qt.move (by conv => lhs; whnf)) ?_
      refine S.q rfl rfl (Qt.shrN (s := 8) rfl rfl (by simp only [kmax]; omega)) ?_
      refine S.q rfl rfl (Qt.assign (by conv => lhs; whnf)) ?_
      refine S.nil ?_
      refine TC.region ?_
      refine S.q rfl rfl (Qt.move (by conv => lhs; whnf)) ?_
      refine S.q rfl rfl (Qt.addi rfl rfl (IntWalk.i64_in _ (by omega))) ?_
      refine S.q rfl rfl (Qt.assign (by conv => lhs; whnf)) ?_
      refine S.nil ?_
      refine TC.seq ?_
      refine TC.region ?_
      refine S.q rfl rfl (Qt.move (by conv => lhs; whnf)) ?_
      refine S.q rfl rfl (Qt.move (by conv => lhs; whnf)) ?_
      refine S.q rfl rfl (Qt.convert Try.underlying24 Try.underlying5 rfl (by simp only [kmax]; omega)) ?_
      refine S.q rfl rfl (Qt.as (Qt.index_str Try.underlying9 rfl rfl (len8_ok _ (by kernel_rfl) (by omega))) (by rw [len8_nat (by omega)])) ?_
      refine S.q rfl rfl (Qt.convert Try.underlying5 Try.underlying3 rfl (by have := bitlen_8 (i := x) ; have := bitlen_8 (i := x / 2 ^ 16); have := bitlen_8 (i := x / 2 ^ 8); have := bitlen_8 (i := x / 2 ^ 16 / 2 ^ 8); simp only [kmax]; omega)) ?_
      refine S.q rfl rfl (Qt.addi rfl rfl (IntWalk.i64_in _ (by have := bitlen_8 (i := x) ; have := bitlen_8 (i := x / 2 ^ 16); have := bitlen_8 (i := x / 2 ^ 8); have := bitlen_8 (i := x / 2 ^ 16 / 2 ^ 8); omega))) ?_
      refine S.q rfl rfl (Qt.assign (by conv => lhs; whnf)) ?_
      refine S.nil ?_
      refine TC.ret ?_
      refine finQ.ret (RVs.tmp (by conv => lhs; whnf) RVs.nil) (Sub.nil _) ?_
      have e8 := bitlen_shift (x := x) (n := 16) (by omega)
      have e14 := bitlen_shift (x := (x / 2 ^ 16)) (n := 8) (by omega)
      exact ⟨congrArg (Value.int .i64) (by omega), rfl⟩
    · refine S.nil ?_
      refine S.if_f rfl ?_
      refine TC.skip ?_
      refine TC.seq ?_
      refine TC.region ?_
      refine S.q rfl rfl (Qt.move (by conv => lhs; whnf)) ?_
      refine S.q rfl rfl (Qt.move (by conv => lhs; whnf)) ?_
      refine S.q rfl rfl (Qt.convert Try.underlying24 Try.underlying5 rfl (by simp only [kmax]; omega)) ?_
      refine S.q rfl rfl (Qt.as (Qt.index_str Try.underlying9 rfl rfl (len8_ok _ (by kernel_rfl) (by omega))) (by rw [len8_nat (by omega)])) ?_
      refine S.q rfl rfl (Qt.convert Try.underlying5 Try.underlying3 rfl (by have := bitlen_8 (i := x) ; have := bitlen_8 (i := x / 2 ^ 16); have := bitlen_8 (i := x / 2 ^ 8); have := bitlen_8 (i := x / 2 ^ 16 / 2 ^ 8); simp only [kmax]; omega)) ?_
      refine S.q rfl rfl (Qt.addi rfl rfl (IntWalk.i64_in _ (by have := bitlen_8 (i := x) ; have := bitlen_8 (i := x / 2 ^ 16); have := bitlen_8 (i := x / 2 ^ 8); have := bitlen_8 (i := x / 2 ^ 16 / 2 ^ 8); omega))) ?_
      refine S.q rfl rfl (Qt.assign (by conv => lhs; whnf)) ?_
      refine S.nil ?_
      refine TC.ret ?_
      refine finQ.ret (RVs.tmp (by conv => lhs; whnf) RVs.nil) (Sub.nil _) ?_
      have e8 := bitlen_shift (x := x) (n := 16) (by omega)
      exact ⟨congrArg (Value.int .i64) (by omega), rfl⟩
  · refine S.nil ?_
    refine S.if_f rfl ?_
    refine TC.skip ?_
    refine TC.seq ?_
    refine TC.seq ?_
    refine TC.region ?_
    refine S.q rfl rfl (Qt.move (by conv => lhs; whnf)) ?_
    refine S.dec rfl rfl (Qt.ge (b := 256) rfl rfl) (fun h14 => ?_) (fun h14 => ?_)
    · refine S.nil ?_
      refine S.if_t rfl ?_
      refine TC.seq ?_
      refine TC.region ?_
      refine S.q rfl rfl (Qt.move (by conv => lhs; whnf)) ?_
      refine S.q rfl rfl (Qt.shrN (s := 8) rfl rfl (by simp only [kmax]; omega)) ?_
      refine S.q rfl rfl (Qt.assign (by conv => lhs; whnf)) ?_
      refine S.nil ?_
      refine TC.region ?_
      refine S.q rfl rfl (Qt.move (by conv => lhs; whnf)) ?_
      refine S.q rfl rfl (Qt.addi rfl rfl (IntWalk.i64_in _ (by omega))) ?_
      refine S.q rfl rfl (Qt.assign (by conv => lhs; whnf)) ?_
      refine S.nil ?_
      refine TC.seq ?_
      refine TC.region ?_
      refine S.q rfl rfl (Qt.move (by conv => lhs; whnf)) ?_
      refine S.q rfl rfl (Qt.move (by conv => lhs; whnf)) ?_
      refine S.q rfl rfl (Qt.convert Try.underlying24 Try.underlying5 rfl (by simp only [kmax]; omega)) ?_
      refine S.q rfl rfl (Qt.as (Qt.index_str Try.underlying9 rfl rfl (len8_ok _ (by kernel_rfl) (by omega))) (by rw [len8_nat (by omega)])) ?_
      refine S.q rfl rfl (Qt.convert Try.underlying5 Try.underlying3 rfl (by have := bitlen_8 (i := x) ; have := bitlen_8 (i := x / 2 ^ 16); have := bitlen_8 (i := x / 2 ^ 8); have := bitlen_8 (i := x / 2 ^ 16 / 2 ^ 8); simp only [kmax]; omega)) ?_
      refine S.q rfl rfl (Qt.addi rfl rfl (IntWalk.i64_in _ (by have := bitlen_8 (i := x) ; have := bitlen_8 (i := x / 2 ^ 16); have := bitlen_8 (i := x / 2 ^ 8); have := bitlen_8 (i := x / 2 ^ 16 / 2 ^ 8); omega))) ?_
      refine S.q rfl rfl (Qt.assign (by conv => lhs; whnf)) ?_
      refine S.nil ?_
      refine TC.ret ?_
      refine finQ.ret (RVs.tmp (by conv => lhs; whnf) RVs.nil) (Sub.nil _) ?_
      have e14 := bitlen_shift (x := x) (n := 8) (by omega)
      exact ⟨congrArg (Value.int .i64) (by omega), rfl⟩
    · refine S.nil ?_
      refine S.if_f rfl ?_
      refine TC.skip ?_
      refine TC.seq ?_
      refine TC.region ?_
      refine S.q rfl rfl (Qt.move (by conv => lhs; whnf)) ?_
      refine S.q rfl rfl (Qt.move (by conv => lhs; whnf)) ?_
      refine S.q rfl rfl (Qt.convert Try.underlying24 Try.underlying5 rfl (by simp only [kmax]; omega)) ?_
      refine S.q rfl rfl (Qt.as (Qt.index_str Try.underlying9 rfl rfl (len8_ok _ (by kernel_rfl) (by omega))) (by rw [len8_nat (by omega)])) ?_
      refine S.q rfl rfl (Qt.convert Try.underlying5 Try.underlying3 rfl (by have := bitlen_8 (i := x) ; have := bitlen_8 (i := x / 2 ^ 16); have := bitlen_8 (i := x / 2 ^ 8); have := bitlen_8 (i := x / 2 ^ 16 / 2 ^ 8); simp only [kmax]; omega)) ?_
      refine S.q rfl rfl (Qt.addi rfl rfl (IntWalk.i64_in _ (by have := bitlen_8 (i := x) ; have := bitlen_8 (i := x / 2 ^ 16); have := bitlen_8 (i := x / 2 ^ 8); have := bitlen_8 (i := x / 2 ^ 16 / 2 ^ 8); omega))) ?_
      refine S.q rfl rfl (Qt.assign (by conv => lhs; whnf)) ?_
      refine S.nil ?_
      refine TC.ret ?_
      refine finQ.ret (RVs.tmp (by conv => lhs; whnf) RVs.nil) (Sub.nil _) ?_
      exact ⟨congrArg (Value.int .i64) (by omega), rfl⟩
theorem len64_R (x : Nat) (hx : x < 4294967296) (w0 : World) : Calls Try.prog 63 #[.int .u64 (x : Int)] w0 (Ret w0 (.int .i64 ((bitlen x : Nat) : Int))) := Calls.ret (len64_walk x hx w0)

end Go.Proofs.Ytaoicbjgkghnnaa
namespace Go.Proofs.Ytaoicbjgkghnnaa
open Go.E
set_option linter.unusedVariables false
set_option maxRecDepth 4000
theorem o2_lt {n a b k : Nat} {d : Array Nat} (ha : a < n) (hb : b < n) : (Go.Sort.order2 ltN d a b k).1 < n ∧ (Go.Sort.order2 ltN d a b k).2.1 < n ∧ (Go.Sort.order2 ltN d a b k).2.2 ≤ k + 1 := by
  by_cases h : ltN d[b]! d[a]! = true
  · rw [o2t h]; exact ⟨hb, ha, Nat.le_refl _⟩
  · rw [o2f h]; exact ⟨ha, hb, Nat.le_succ _⟩
theorem med_lt {n a b e k : Nat} {d : Array Nat} (ha : a < n) (hb : b < n) (he : e < n) : (Go.Sort.median ltN d a b e k).1 < n ∧ (Go.Sort.median ltN d a b e k).2 ≤ k + 3 := by
  refine ⟨?_, Go.Sort.median_count ltN d a b e k⟩
  rcases Go.Sort.median_mem ltN d a b e k with h | h | h <;> rw [h] <;> assumption
theorem mad_lt {n a k : Nat} {d : Array Nat} (h1 : 1 ≤ a) (h : a + 1 < n) : (Go.Sort.medianAdjacent ltN d a k).1 < n ∧ (Go.Sort.medianAdjacent ltN d a k).2 ≤ k + 3 := med_lt (by omega) (by omega) h
set_option maxHeartbeats 400000 in
theorem isnan_walk (x : Nat) (w0 : World) :
    Calls Try.prog 69 #[.int .u64 (x : Int)] w0 (Post w0 [] fun v L => v = .bool false ∧ L = []) := by
  refine Calls.of (L := []) (n := 6) (rs := [.tmp 2]) Try.func69 rfl rfl rfl (Nat.le_of_ble_eq_true rfl) (Sat.nil _) ?_
  refine TC.seq ?_
  refine TC.region ?_
  refine S.q rfl rfl (Qt.assign (by conv => lhs; whnf)) ?_
  refine S.nil ?_
  refine TC.seq ?_
  refine TC.region ?_
  refine S.q rfl rfl (Qt.move (by conv => lhs; whnf)) ?_
  refine S.q rfl rfl (Qt.move (by conv => lhs; whnf)) ?_
  refine S.q rfl rfl (Qt.dF (Qt.ne rfl rfl) (fun h => h rfl)) ?_
  refine S.q rfl rfl (Qt.assign (by conv => lhs; whnf)) ?_
  refine S.nil ?_
  refine TC.ret ?_
  refine finQ.ret (RVs.tmp (by conv => lhs; whnf) RVs.nil) (Sub.nil _) ?_
  exact ⟨rfl, rfl⟩
theorem isnan_R (x : Nat) (w0 : World) : Calls Try.prog 69 #[.int .u64 (x : Int)] w0 (Ret w0 (.bool false)) := Calls.ret (isnan_walk x w0)

set_option maxHeartbeats 400000 in
theorem less_walk (x y : Nat) (w0 : World) :
    Calls Try.prog 59 #[.int .u64 (x : Int), .int .u64 (y : Int)] w0 (Post w0 [] fun v L => v = .bool (ltN x y) ∧ L = []) := by
  refine Calls.of (L := []) (n := 17) (rs := [.tmp 4]) Try.func59 rfl rfl rfl (Nat.le_of_ble_eq_true rfl) (Sat.nil _) ?_
  refine TC.seq ?_
  refine TC.region ?_
  refine S.q rfl rfl (Qt.assign (by conv => lhs; whnf)) ?_
  refine S.nil ?_
  refine TC.seq ?_
  refine TC.region ?_
  refine S.q rfl rfl (Qt.move (by conv => lhs; whnf)) ?_
  refine S.opS rfl rfl (OpV.con0 Try.ent69 rfl (fun w hw => isnan_R x w) ?_)
  refine S.q rfl rfl (Qt.move (by conv => lhs; whnf)) ?_
  refine S.pass rfl rfl ?_
  refine S.pass rfl rfl ?_
  refine S.pass rfl rfl ?_
  refine S.q rfl rfl (Qt.pick_f rfl (by conv => lhs; whnf)) ?_
  refine S.q rfl rfl (Qt.move (by conv => lhs; whnf)) ?_
  refine S.qg rfl rfl rfl (Qt.move (by conv => lhs; whnf)) ?_
  refine S.qg rfl rfl rfl (Qt.move (by conv => lhs; whnf)) ?_
  refine S.decg rfl rfl rfl (Qt.lt rfl rfl) (fun h15 => ?_) (fun h15 => ?_)
  · refine S.q rfl rfl (Qt.pick_f rfl (by conv => lhs; whnf)) ?_
    refine S.q rfl rfl (Qt.assign (by conv => lhs; whnf)) ?_
    refine S.nil ?_
    refine TC.ret ?_
    refine finQ.ret (RVs.tmp (by conv => lhs; whnf) RVs.nil) (Sub.nil _) ?_
    exact ⟨by rw [ltN]; simp [h15]; rfl, rfl⟩
  · refine S.q rfl rfl (Qt.pick_f rfl (by conv => lhs; whnf)) ?_
    refine S.q rfl rfl (Qt.assign (by conv => lhs; whnf)) ?_
    refine S.nil ?_
    refine TC.ret ?_
    refine finQ.ret (RVs.tmp (by conv => lhs; whnf) RVs.nil) (Sub.nil _) ?_
    exact ⟨by rw [ltN]; simp [h15]; rfl, rfl⟩
theorem less_R (x y : Nat) (w0 : World) : Calls Try.prog 59 #[.int .u64 (x : Int), .int .u64 (y : Int)] w0 (Ret w0 (.bool (ltN x y))) := Calls.ret (less_walk x y w0)
theorem less_t {x y : Nat} (h : ltN x y = true) (w0 : World) : Calls Try.prog 59 #[.int .u64 (x : Int), .int .u64 (y : Int)] w0 (Ret w0 (.bool true)) := h ▸ less_R x y w0
theorem less_f {x y : Nat} (h : ¬ ltN x y = true) (w0 : World) : Calls Try.prog 59 #[.int .u64 (x : Int), .int .u64 (y : Int)] w0 (Ret w0 (.bool false)) := Bool.eq_false_iff.2 h ▸ less_R x y w0

set_option maxHeartbeats 400000 in
theorem order2_walk (g n cp : Nat) (d : Array Nat) (r : List Value) (hn : d.size = n) (hm : n < 4294967296) (s k : Nat) (hk : k ≤ 100) (a b : Nat) (ha : a < n) (hb : b < n) (w0 : World) (hL : Sat w0 [Blk g 24 (blkD (d) r), Blk s 3 [.int .i64 ((k : Nat) : Int)]]) :
    Calls Try.prog 70 #[.slice (some ⟨g, 0, none⟩) n cp, .int .i64 ((a : Nat) : Int), .int .i64 ((b : Nat) : Int), .pointer (some ⟨s, 0, none⟩)] w0 (Post w0 (fps [Blk g 24 (blkD (d) r), Blk s 3 [.int .i64 ((k : Nat) : Int)]]) fun v L => v = .tuple #[.int .i64 (((Go.Sort.order2 ltN d a b k).1 : Nat) : Int), .int .i64 (((Go.Sort.order2 ltN d a b k).2.1 : Nat) : Int)] ∧ L = [Blk g 24 (blkD (d) r), Blk s 3 [.int .i64 (((Go.Sort.order2 ltN d a b k).2.2 : Nat) : Int)]]) := by
  refine Calls.of (L := [Blk g 24 (blkD (d) r), Blk s 3 [.int .i64 ((k : Nat) : Int)]]) (n := 28) (rs := [.tmp 8, .tmp 9]) Try.func70 rfl rfl rfl (Nat.le_of_ble_eq_true rfl) (hL) ?_
  refine TC.seq ?_
  refine TC.region ?_
  refine S.q rfl rfl (Qt.assign (by conv => lhs; whnf)) ?_
  refine S.q rfl rfl (Qt.assign (by conv => lhs; whnf)) ?_
  refine S.nil ?_
  refine TC.seq ?_
  refine TC.seq ?_
  refine S.draw ([], []) Try.mixed (Sub.nil _) ?_
  refine D.qX (k := 0) rfl (by kernel_rfl) (by kernel_rfl) (by kernel_rfl) rfl rfl (Qt.move (by conv => lhs; whnf)) ?_
  refine D.qX (k := 1) rfl (by kernel_rfl) (by kernel_rfl) (by kernel_rfl) rfl rfl (Qt.move (by conv => lhs; whnf)) ?_
  refine D.qX (k := 2) rfl (by kernel_rfl) (by kernel_rfl) (by kernel_rfl) rfl rfl (Qt.index Try.underlying22 Try.cells24 rfl rfl (by omega) (Has.blk (Has.at 0 rfl)) (by simp only [blkD_len]; omega)) ?_
  refine D.qX (k := 3) rfl (by kernel_rfl) (by kernel_rfl) (by kernel_rfl) rfl rfl (Qt.load rfl (Ld.sl (Has.blk (Has.at 0 rfl)) Try.one24 (blkD_get (by (try dsimp only); omega)))) ?_
  refine D.qX (k := 4) rfl (by kernel_rfl) (by kernel_rfl) (by kernel_rfl) rfl rfl (Qt.move (by conv => lhs; whnf)) ?_
  refine D.qX (k := 5) rfl (by kernel_rfl) (by kernel_rfl) (by kernel_rfl) rfl rfl (Qt.move (by conv => lhs; whnf)) ?_
  refine D.qX (k := 6) rfl (by kernel_rfl) (by kernel_rfl) (by kernel_rfl) rfl rfl (Qt.index Try.underlying22 Try.cells24 rfl rfl (by omega) (Has.blk (Has.at 0 rfl)) (by simp only [blkD_len]; omega)) ?_
  refine D.qX (k := 7) rfl (by kernel_rfl) (by kernel_rfl) (by kernel_rfl) rfl rfl (Qt.load rfl (Ld.sl (Has.blk (Has.at 0 rfl)) Try.one24 (blkD_get (by (try dsimp only); omega)))) ?_
  by_cases h18 : ltN d[b]! d[a]! = true
  · refine D.cX (k := 8) rfl (by kernel_rfl) (by kernel_rfl) (by kernel_rfl) rfl rfl (CalU.con0 Try.ent59 rfl (fun w hw => less_t h18 w)) ?_
    refine D.done (Sub.nil _) (by kernel_rfl) ?_
    refine S.if_t rfl ?_
    refine TC.seq ?_
    refine TC.region ?_
    refine S.q rfl rfl (Qt.move (by conv => lhs; whnf)) ?_
    refine S.q rfl rfl (Qt.nilCheck rfl) ?_
    refine S.q rfl rfl (Qt.load rfl (Ld.one (Has.at 1 rfl) Try.one3 (rfl))) ?_
    refine S.q rfl rfl (Qt.add (b := 1) rfl rfl (by simp only [kmax]; omega)) ?_
    refine S.q rfl rfl (Qt.nilCheck rfl) ?_
    refine S.opN rfl (OpV.storeV1 rfl (by conv => lhs; whnf) (by exact Try.cells3) (by rfl) (by rfl) ?_)
    refine S.nil ?_
    refine TC.seq ?_
    refine TC.region ?_
    refine S.q rfl rfl (Qt.move (by conv => lhs; whnf)) ?_
    refine S.q rfl rfl (Qt.move (by conv => lhs; whnf)) ?_
    refine S.q rfl rfl (Qt.assign (by conv => lhs; whnf)) ?_
    refine S.q rfl rfl (Qt.assign (by conv => lhs; whnf)) ?_
    refine S.nil ?_
    refine TC.ret ?_
    refine finQ.ret (RVs.tmp (by conv => lhs; whnf) (RVs.tmp (by conv => lhs; whnf) RVs.nil)) (Sub.refl _) ?_
    rw [o2t h18]; exact ⟨rfl, rfl⟩
  · refine D.cX (k := 8) rfl (by kernel_rfl) (by kernel_rfl) (by kernel_rfl) rfl rfl (CalU.con0 Try.ent59 rfl (fun w hw => less_f h18 w)) ?_
    refine D.done (Sub.nil _) (by kernel_rfl) ?_
    refine S.if_f rfl ?_
    refine TC.skip ?_
    refine TC.seq ?_
    refine TC.region ?_
    refine S.q rfl rfl (Qt.move (by conv => lhs; whnf)) ?_
    refine S.q rfl rfl (Qt.move (by conv => lhs; whnf)) ?_
    refine S.q rfl rfl (Qt.assign (by conv => lhs; whnf)) ?_
    refine S.q rfl rfl (Qt.assign (by conv => lhs; whnf)) ?_
    refine S.nil ?_
    refine TC.ret ?_
    refine finQ.ret (RVs.tmp (by conv => lhs; whnf) (RVs.tmp (by conv => lhs; whnf) RVs.nil)) (Sub.refl _) ?_
    rw [o2f h18]; exact ⟨rfl, rfl⟩
set_option maxHeartbeats 400000 in
theorem median_walk (g n cp : Nat) (d : Array Nat) (r : List Value) (hn : d.size = n) (hm : n < 4294967296) (s k : Nat) (hk : k ≤ 90) (a b e : Nat) (ha : a < n) (hb : b < n) (he : e < n) (w0 : World) (hL : Sat w0 [Blk g 24 (blkD (d) r), Blk s 3 [.int .i64 ((k : Nat) : Int)]]) :
    Calls Try.prog 68 #[.slice (some ⟨g, 0, none⟩) n cp, .int .i64 ((a : Nat) : Int), .int .i64 ((b : Nat) : Int), .int .i64 ((e : Nat) : Int), .pointer (some ⟨s, 0, none⟩)] w0 (Post w0 (fps [Blk g 24 (blkD (d) r), Blk s 3 [.int .i64 ((k : Nat) : Int)]]) fun v L => v = .int .i64 (((Go.Sort.median ltN d a b e k).1 : Nat) : Int) ∧ L = [Blk g 24 (blkD (d) r), Blk s 3 [.int .i64 (((Go.Sort.median ltN d a b e k).2 : Nat) : Int)]]) := by
  refine Calls.of (L := [Blk g 24 (blkD (d) r), Blk s 3 [.int .i64 ((k : Nat) : Int)]]) (n := 36) (rs := [.tmp 10]) Try.func68 rfl rfl rfl (Nat.le_of_ble_eq_true rfl) (hL) ?_
  have m1 := o2_lt (d := d) (k := k) ha hb
  have m2 := o2_lt (d := d) (k := (Go.Sort.order2 ltN d a b k).2.2) m1.2.1 he
  have m3 := o2_lt (d := d) (k := (Go.Sort.order2 ltN d (Go.Sort.order2 ltN d a b k).2.1 e (Go.Sort.order2 ltN d a b k).2.2).2.2) m1.1 m2.1
  refine TC.seq ?_
  refine TC.region ?_
  refine S.q rfl rfl (Qt.assign (by conv => lhs; whnf)) ?_
  refine S.nil ?_
  refine TC.seq ?_
  refine TC.region ?_
  refine S.q rfl rfl (Qt.move (by conv => lhs; whnf)) ?_
  refine S.q rfl rfl (Qt.move (by conv => lhs; whnf)) ?_
  refine S.q rfl rfl (Qt.move (by conv => lhs; whnf)) ?_
  refine S.q rfl rfl (Qt.move (by conv => lhs; whnf)) ?_
  refine S.opS rfl rfl (OpV.con (Pre := [Blk g 24 (blkD (d) r), Blk s 3 [.int .i64 ((k : Nat) : Int)]]) (R := _) Try.ent70 rfl (List.Perm.refl _) (fun w hw => order2_walk g n cp d r hn hm s (k) (by omega) (a) (b) (by omega) (by omega) w hw.sat.left) ?_)
  rintro v L' ⟨rfl, rfl⟩
  refine S.q rfl rfl (Qt.move (by conv => lhs; whnf)) ?_
  refine S.q rfl rfl (Qt.extract rfl rfl) ?_
  refine S.q rfl rfl (Qt.extract rfl rfl) ?_
  refine S.q rfl rfl (Qt.assign (by conv => lhs; whnf)) ?_
  refine S.q rfl rfl (Qt.assign (by conv => lhs; whnf)) ?_
  refine S.nil ?_
  refine TC.seq ?_
  refine TC.region ?_
  refine S.q rfl rfl (Qt.move (by conv => lhs; whnf)) ?_
  refine S.q rfl rfl (Qt.move (by conv => lhs; whnf)) ?_
  refine S.q rfl rfl (Qt.move (by conv => lhs; whnf)) ?_
  refine S.q rfl rfl (Qt.move (by conv => lhs; whnf)) ?_
  refine S.opS rfl rfl (OpV.con (Pre := [Blk g 24 (blkD (d) r), Blk s 3 [.int .i64 (((Go.Sort.order2 ltN d a b k).2.2 : Nat) : Int)]]) (R := _) Try.ent70 rfl (List.Perm.refl _) (fun w hw => order2_walk g n cp d r hn hm s ((Go.Sort.order2 ltN d a b k).2.2) (by omega) ((Go.Sort.order2 ltN d a b k).2.1) (e) (by omega) (by omega) w hw.sat.left) ?_)
  rintro v L' ⟨rfl, rfl⟩
  refine S.q rfl rfl (Qt.move (by conv => lhs; whnf)) ?_
  refine S.q rfl rfl (Qt.extract rfl rfl) ?_
  refine S.q rfl rfl (Qt.extract rfl rfl) ?_
  refine S.q rfl rfl (Qt.assign (by conv => lhs; whnf)) ?_
  refine S.q rfl rfl (Qt.assign (by conv => lhs; whnf)) ?_
  refine S.nil ?_
  refine TC.seq ?_
  refine TC.region ?_
  refine S.q rfl rfl (Qt.move (by conv => lhs; whnf)) ?_
  refine S.q rfl rfl (Qt.move (by conv => lhs; whnf)) ?_
  refine S.q rfl rfl (Qt.move (by conv => lhs; whnf)) ?_
  refine S.q rfl rfl (Qt.move (by conv => lhs; whnf)) ?_
  refine S.opS rfl rfl (OpV.con (Pre := [Blk g 24 (blkD (d) r), Blk s 3 [.int .i64 (((Go.Sort.order2 ltN d (Go.Sort.order2 ltN d a b k).2.1 e (Go.Sort.order2 ltN d a b k).2.2).2.2 : Nat) : Int)]]) (R := _) Try.ent70 rfl (List.Perm.refl _) (fun w hw => order2_walk g n cp d r hn hm s ((Go.Sort.order2 ltN d (Go.Sort.order2 ltN d a b k).2.1 e (Go.Sort.order2 ltN d a b k).2.2).2.2) (by omega) ((Go.Sort.order2 ltN d a b k).1) ((Go.Sort.order2 ltN d (Go.Sort.order2 ltN d a b k).2.1 e (Go.Sort.order2 ltN d a b k).2.2).1) (by omega) (by omega) w hw.sat.left) ?_)
  rintro v L' ⟨rfl, rfl⟩
  refine S.q rfl rfl (Qt.move (by conv => lhs; whnf)) ?_
  refine S.q rfl rfl (Qt.extract rfl rfl) ?_
  refine S.q rfl rfl (Qt.extract rfl rfl) ?_
  refine S.q rfl rfl (Qt.assign (by conv => lhs; whnf)) ?_
  refine S.q rfl rfl (Qt.assign (by conv => lhs; whnf)) ?_
  refine S.nil ?_
  refine TC.seq ?_
  refine TC.region ?_
  refine S.q rfl rfl (Qt.move (by conv => lhs; whnf)) ?_
  refine S.q rfl rfl (Qt.assign (by conv => lhs; whnf)) ?_
  refine S.nil ?_
  refine TC.ret ?_
  refine finQ.ret (RVs.tmp (by conv => lhs; whnf) RVs.nil) (Sub.refl _) ?_
  exact ⟨rfl, rfl⟩
set_option maxHeartbeats 400000 in
theorem madj_walk (g n cp : Nat) (d : Array Nat) (r : List Value) (hn : d.size = n) (hm : n < 4294967296) (s k : Nat) (hk : k ≤ 90) (a : Nat) (h1 : 1 ≤ a) (ha : a + 1 < n) (w0 : World) (hL : Sat w0 [Blk g 24 (blkD (d) r), Blk s 3 [.int .i64 ((k : Nat) : Int)]]) :
    Calls Try.prog 67 #[.slice (some ⟨g, 0, none⟩) n cp, .int .i64 ((a : Nat) : Int), .pointer (some ⟨s, 0, none⟩)] w0 (Post w0 (fps [Blk g 24 (blkD (d) r), Blk s 3 [.int .i64 ((k : Nat) : Int)]]) fun v L => v = .int .i64 (((Go.Sort.medianAdjacent ltN d a k).1 : Nat) : Int) ∧ L = [Blk g 24 (blkD (d) r), Blk s 3 [.int .i64 (((Go.Sort.medianAdjacent ltN d a k).2 : Nat) : Int)]]) := by
  refine Calls.of (L := [Blk g 24 (blkD (d) r), Blk s 3 [.int .i64 ((k : Nat) : Int)]]) (n := 15) (rs := [.tmp 6]) Try.func67 rfl rfl rfl (Nat.le_of_ble_eq_true rfl) (hL) ?_
  refine TC.seq ?_
  refine TC.region ?_
  refine S.q rfl rfl (Qt.assign (by conv => lhs; whnf)) ?_
  refine S.nil ?_
  refine TC.seq ?_
  refine TC.region ?_
  refine S.q rfl rfl (Qt.move (by conv => lhs; whnf)) ?_
  refine S.q rfl rfl (Qt.move (by conv => lhs; whnf)) ?_
  refine S.q rfl rfl (Qt.sub (b := 1) rfl rfl (by omega) (by simp only [kmax]; omega)) ?_
  refine S.q rfl rfl (Qt.move (by conv => lhs; whnf)) ?_
  refine S.q rfl rfl (Qt.move (by conv => lhs; whnf)) ?_
  refine S.q rfl rfl (Qt.add (b := 1) rfl rfl (by simp only [kmax]; omega)) ?_
  refine S.q rfl rfl (Qt.move (by conv => lhs; whnf)) ?_
  refine S.opS rfl rfl (OpV.con (Pre := [Blk g 24 (blkD (d) r), Blk s 3 [.int .i64 ((k : Nat) : Int)]]) (R := _) Try.ent68 rfl (List.Perm.refl _) (fun w hw => median_walk g n cp d r hn hm s k hk (a - 1) a (a + 1) (by omega) (by omega) ha w hw.sat.left) ?_)
  rintro v L' ⟨rfl, rfl⟩
  refine S.q rfl rfl (Qt.assign (by conv => lhs; whnf)) ?_
  refine S.nil ?_
  refine TC.ret ?_
  refine finQ.ret (RVs.tmp (by conv => lhs; whnf) RVs.nil) (Sub.refl _) ?_
  exact ⟨rfl, rfl⟩
set_option maxHeartbeats 1600000 in
theorem pivot_walk (g n cp : Nat) (d : Array Nat) (r : List Value) (hn : d.size = n) (hm : n < 4294967296) (a b : Nat) (hab : a < b) (hb : b ≤ n) (w0 : World) (hL : Sat w0 [Blk g 24 (blkD (d) r)]) :
    Calls Try.prog 56 #[.slice (some ⟨g, 0, none⟩) n cp, .int .i64 ((a : Nat) : Int), .int .i64 ((b : Nat) : Int)] w0 (Post w0 (fps [Blk g 24 (blkD (d) r)]) fun v L => v = .tuple #[.int .i64 (((Go.Sort.choosePivot ltN d a b).1 : Nat) : Int), .int .i64 (Go.Sort.hintCode (Go.Sort.choosePivot ltN d a b).2)] ∧ L = [Blk g 24 (blkD (d) r)]) := by
  refine Calls.of (L := [Blk g 24 (blkD (d) r)]) (n := 57) (rs := [.tmp 6, .tmp 7]) Try.func56 rfl rfl rfl (Nat.le_of_ble_eq_true rfl) (hL) ?_
  have p4 : (b - a) / 4 * 3 ≤ b - a := by omega
  refine TC.seq ?_
  refine TC.region ?_
  refine S.q rfl rfl (Qt.assign (by conv => lhs; whnf)) ?_
  refine S.q rfl rfl (Qt.assign (by conv => lhs; whnf)) ?_
  refine S.nil ?_
  refine TC.seq ?_
  refine TC.region ?_
  refine S.q rfl rfl (Qt.move (by conv => lhs; whnf)) ?_
  refine S.q rfl rfl (Qt.move (by conv => lhs; whnf)) ?_
  refine S.q rfl rfl (Qt.sub rfl rfl (by omega) (by simp only [kmax]; omega)) ?_
  refine S.q rfl rfl (Qt.assign (by conv => lhs; whnf)) ?_
  refine S.nil ?_
  refine TC.seq ?_
  refine TC.region ?_
  refine S.opS rfl rfl (OpV.alloc Try.zero3 (fun b9 => ?_))
  refine S.nil ?_
  refine TC.seq ?_
  refine TC.region ?_
  refine S.q rfl rfl (Qt.move (by conv => lhs; whnf)) ?_
  refine S.q rfl rfl (Qt.move (by conv => lhs; whnf)) ?_
  refine S.q rfl rfl (Qt.quo (b := 4) rfl rfl (by omega) (by simp only [kmax]; omega)) ?_
  refine S.q rfl rfl (Qt.mul (b := 1) rfl rfl (by simp only [kmax]; omega)) ?_
  refine S.q rfl rfl (Qt.add rfl rfl (by simp only [kmax]; omega)) ?_
  refine S.q rfl rfl (Qt.assign (by conv => lhs; whnf)) ?_
  refine S.nil ?_
  refine TC.seq ?_
  refine TC.region ?_
  refine S.q rfl rfl (Qt.move (by conv => lhs; whnf)) ?_
  refine S.q rfl rfl (Qt.move (by conv => lhs; whnf)) ?_
  refine S.q rfl rfl (Qt.quo (b := 4) rfl rfl (by omega) (by simp only [kmax]; omega)) ?_
  refine S.q rfl rfl (Qt.mul (b := 2) rfl rfl (by simp only [kmax]; omega)) ?_
  refine S.q rfl rfl (Qt.add rfl rfl (by simp only [kmax]; omega)) ?_
  refine S.q rfl rfl (Qt.assign (by conv => lhs; whnf)) ?_
  refine S.nil ?_
  refine TC.seq ?_
  refine TC.region ?_
  refine S.q rfl rfl (Qt.move (by conv => lhs; whnf)) ?_
  refine S.q rfl rfl (Qt.move (by conv => lhs; whnf)) ?_
  refine S.q rfl rfl (Qt.quo (b := 4) rfl rfl (by omega) (by simp only [kmax]; omega)) ?_
  refine S.q rfl rfl (Qt.mul (b := 3) rfl rfl (by simp only [kmax]; omega)) ?_
  refine S.q rfl rfl (Qt.add rfl rfl (by simp only [kmax]; omega)) ?_
  refine S.q rfl rfl (Qt.assign (by conv => lhs; whnf)) ?_
  refine S.nil ?_
  refine TC.seq ?_
  refine TC.seq ?_
  refine TC.region ?_
  refine S.q rfl rfl (Qt.move (by conv => lhs; whnf)) ?_
  refine S.dec rfl rfl (Qt.ge (b := 8) rfl rfl) (fun h32 => ?_) (fun h32 => ?_)
  · refine S.nil ?_
    refine S.if_t rfl ?_
    refine TC.seq ?_
    refine TC.seq ?_
    refine TC.region ?_
    refine S.q rfl rfl (Qt.move (by conv => lhs; whnf)) ?_
    refine S.dec rfl rfl (Qt.ge (b := 50) rfl rfl) (fun h34 => ?_) (fun h34 => ?_)
    · refine S.nil ?_
      refine S.if_t rfl ?_
      refine TC.seq ?_
      refine TC.region ?_
      have m1 := mad_lt (n := n) (d := d) (a := (a + (b - a) / 4 * 1)) (k := 0) (by omega) (by omega)
      have m2 := mad_lt (n := n) (d := d) (a := (a + (b - a) / 4 * 2)) (k := (Go.Sort.medianAdjacent ltN d (a + (b - a) / 4 * 1) 0).2) (by omega) (by omega)
      have m3 := mad_lt (n := n) (d := d) (a := (a + (b - a) / 4 * 3)) (k := (Go.Sort.medianAdjacent ltN d (a + (b - a) / 4 * 2) (Go.Sort.medianAdjacent ltN d (a + (b - a) / 4 * 1) 0).2).2) (by omega) (by omega)
      refine S.q rfl rfl (Qt.move (by conv => lhs; whnf)) ?_
      refine S.q rfl rfl (Qt.move (by conv => lhs; whnf)) ?_
      refine S.opS rfl rfl (OpV.con (Pre := [Blk g 24 (blkD (d) r), Blk b9 3 [.int .i64 ((0 : Nat) : Int)]]) (R := _) Try.ent67 rfl (List.perm_middle (l₁ := [_])) (fun w hw => madj_walk g n cp d r hn hm b9 (0) (by omega) ((a + (b - a) / 4 * 1)) (by omega) (by omega) w hw.sat.left) ?_)
      rintro v L' ⟨rfl, rfl⟩
      refine S.q rfl rfl (Qt.assign (by conv => lhs; whnf)) ?_
      refine S.nil ?_
      refine TC.seq ?_
      refine TC.region ?_
      refine S.q rfl rfl (Qt.move (by conv => lhs; whnf)) ?_
      refine S.q rfl rfl (Qt.move (by conv => lhs; whnf)) ?_
      refine S.opS rfl rfl (OpV.con (Pre := [Blk g 24 (blkD (d) r), Blk b9 3 [.int .i64 (((Go.Sort.medianAdjacent ltN d (a + (b - a) / 4 * 1) 0).2 : Nat) : Int)]]) (R := _) Try.ent67 rfl (List.Perm.refl _) (fun w hw => madj_walk g n cp d r hn hm b9 ((Go.Sort.medianAdjacent ltN d (a + (b - a) / 4 * 1) 0).2) (by omega) ((a + (b - a) / 4 * 2)) (by omega) (by omega) w hw.sat.left) ?_)
      rintro v L' ⟨rfl, rfl⟩
      refine S.q rfl rfl (Qt.assign (by conv => lhs; whnf)) ?_
      refine S.nil ?_
      refine TC.region ?_
      refine S.q rfl rfl (Qt.move (by conv => lhs; whnf)) ?_
      refine S.q rfl rfl (Qt.move (by conv => lhs; whnf)) ?_
      refine S.opS rfl rfl (OpV.con (Pre := [Blk g 24 (blkD (d) r), Blk b9 3 [.int .i64 (((Go.Sort.medianAdjacent ltN d (a + (b - a) / 4 * 2) (Go.Sort.medianAdjacent ltN d (a + (b - a) / 4 * 1) 0).2).2 : Nat) : Int)]]) (R := _) Try.ent67 rfl (List.Perm.refl _) (fun w hw => madj_walk g n cp d r hn hm b9 ((Go.Sort.medianAdjacent ltN d (a + (b - a) / 4 * 2) (Go.Sort.medianAdjacent ltN d (a + (b - a) / 4 * 1) 0).2).2) (by omega) ((a + (b - a) / 4 * 3)) (by omega) (by omega) w hw.sat.left) ?_)
      rintro v L' ⟨rfl, rfl⟩
      refine S.q rfl rfl (Qt.assign (by conv => lhs; whnf)) ?_
      refine S.nil ?_
      refine TC.region ?_
      refine S.q rfl rfl (Qt.move (by conv => lhs; whnf)) ?_
      refine S.q rfl rfl (Qt.move (by conv => lhs; whnf)) ?_
      refine S.q rfl rfl (Qt.move (by conv => lhs; whnf)) ?_
      refine S.q rfl rfl (Qt.move (by conv => lhs; whnf)) ?_
      refine S.opS rfl rfl (OpV.con (Pre := [Blk g 24 (blkD (d) r), Blk b9 3 [.int .i64 (((Go.Sort.medianAdjacent ltN d (a + (b - a) / 4 * 3) (Go.Sort.medianAdjacent ltN d (a + (b - a) / 4 * 2) (Go.Sort.medianAdjacent ltN d (a + (b - a) / 4 * 1) 0).2).2).2 : Nat) : Int)]]) (R := _) Try.ent68 rfl (List.Perm.refl _) (fun w hw => median_walk g n cp d r hn hm b9 ((Go.Sort.medianAdjacent ltN d (a + (b - a) / 4 * 3) (Go.Sort.medianAdjacent ltN d (a + (b - a) / 4 * 2) (Go.Sort.medianAdjacent ltN d (a + (b - a) / 4 * 1) 0).2).2).2) (by omega) ((Go.Sort.medianAdjacent ltN d (a + (b - a) / 4 * 1) 0).1) ((Go.Sort.medianAdjacent ltN d (a + (b - a) / 4 * 2) (Go.Sort.medianAdjacent ltN d (a + (b - a) / 4 * 1) 0).2).1) ((Go.Sort.medianAdjacent ltN d (a + (b - a) / 4 * 3) (Go.Sort.medianAdjacent ltN d (a + (b - a) / 4 * 2) (Go.Sort.medianAdjacent ltN d (a + (b - a) / 4 * 1) 0).2).2).1) (by omega) (by omega) (by omega) w hw.sat.left) ?_)
      rintro v L' ⟨rfl, rfl⟩
      refine S.q rfl rfl (Qt.assign (by conv => lhs; whnf)) ?_
      refine S.nil ?_
      refine TC.seq ?_
      refine TC.region ?_
      refine S.q rfl rfl (Qt.load rfl (Ld.one (Has.at 1 rfl) Try.one3 (rfl))) ?_
      refine S.nil ?_
      refine TC.block ?_
      refine TC.seq ?_
      refine TC.region ?_
      refine S.dec rfl rfl (Qt.eq (b := 0) rfl rfl) (fun h52 => ?_) (fun h52 => ?_)
      · refine S.q rfl rfl (Qt.assign (by conv => lhs; whnf)) ?_
        refine S.nil ?_
        refine S.if_t rfl ?_
        refine TC.seq ?_
        refine TC.region ?_
        refine S.q rfl rfl (Qt.move (by conv => lhs; whnf)) ?_
        refine S.q rfl rfl (Qt.assign (by conv => lhs; whnf)) ?_
        refine S.q rfl rfl (Qt.assign (by conv => lhs; whnf)) ?_
        refine S.nil ?_
        refine TC.ret ?_
        refine finQ.ret (RVs.tmp (by conv => lhs; whnf) (RVs.tmp (by conv => lhs; whnf) RVs.nil)) (Sub.keep _ (Sub.drop _ (Sub.nil []))) ?_
        refine ⟨?_, rfl⟩
        rw [Go.Sort.choosePivot_eq, Go.Sort.rawPivot, if_pos h32, if_pos h34]
        simp only [Go.Sort.hintOf]
        rw [if_pos h52]
        rfl
      · refine S.q rfl rfl (Qt.assign (by conv => lhs; whnf)) ?_
        refine S.nil ?_
        refine S.if_f rfl ?_
        refine TC.seq ?_
        refine TC.region ?_
        refine S.dec rfl rfl (Qt.eq (b := 12) rfl rfl) (fun h55 => ?_) (fun h55 => ?_)
        · refine S.q rfl rfl (Qt.assign (by conv => lhs; whnf)) ?_
          refine S.nil ?_
          refine S.if_t rfl ?_
          refine TC.seq ?_
          refine TC.region ?_
          refine S.q rfl rfl (Qt.move (by conv => lhs; whnf)) ?_
          refine S.q rfl rfl (Qt.assign (by conv => lhs; whnf)) ?_
          refine S.q rfl rfl (Qt.assign (by conv => lhs; whnf)) ?_
          refine S.nil ?_
          refine TC.ret ?_
          refine finQ.ret (RVs.tmp (by conv => lhs; whnf) (RVs.tmp (by conv => lhs; whnf) RVs.nil)) (Sub.keep _ (Sub.drop _ (Sub.nil []))) ?_
          refine ⟨?_, rfl⟩
          rw [Go.Sort.choosePivot_eq, Go.Sort.rawPivot, if_pos h32, if_pos h34]
          simp only [Go.Sort.hintOf]
          rw [if_neg h52, if_pos h55]
          rfl
        · refine S.q rfl rfl (Qt.assign (by conv => lhs; whnf)) ?_
          refine S.nil ?_
          refine S.if_f rfl ?_
          refine TC.seq ?_
          refine TC.region ?_
          refine S.q rfl rfl (Qt.move (by conv => lhs; whnf)) ?_
          refine S.q rfl rfl (Qt.assign (by conv => lhs; whnf)) ?_
          refine S.q rfl rfl (Qt.assign (by conv => lhs; whnf)) ?_
          refine S.nil ?_
          refine TC.ret ?_
          refine finQ.ret (RVs.tmp (by conv => lhs; whnf) (RVs.tmp (by conv => lhs; whnf) RVs.nil)) (Sub.keep _ (Sub.drop _ (Sub.nil []))) ?_
          refine ⟨?_, rfl⟩
          rw [Go.Sort.choosePivot_eq, Go.Sort.rawPivot, if_pos h32, if_pos h34]
          simp only [Go.Sort.hintOf]
          rw [if_neg h52, if_neg h55]
          rfl
    · refine S.nil ?_
      refine S.if_f rfl ?_
      refine TC.skip ?_
      refine TC.region ?_
      refine S.q rfl rfl (Qt.move (by conv => lhs; whnf)) ?_
      refine S.q rfl rfl (Qt.move (by conv => lhs; whnf)) ?_
      refine S.q rfl rfl (Qt.move (by conv => lhs; whnf)) ?_
      refine S.q rfl rfl (Qt.move (by conv => lhs; whnf)) ?_
      refine S.opS rfl rfl (OpV.con (Pre := [Blk g 24 (blkD (d) r), Blk b9 3 [.int .i64 ((0 : Nat) : Int)]]) (R := _) Try.ent68 rfl (List.perm_middle (l₁ := [_])) (fun w hw => median_walk g n cp d r hn hm b9 (0) (by omega) ((a + (b - a) / 4 * 1)) ((a + (b - a) / 4 * 2)) ((a + (b - a) / 4 * 3)) (by omega) (by omega) (by omega) w hw.sat.left) ?_)
      rintro v L' ⟨rfl, rfl⟩
      refine S.q rfl rfl (Qt.assign (by conv => lhs; whnf)) ?_
      refine S.nil ?_
      refine TC.seq ?_
      refine TC.region ?_
      refine S.q rfl rfl (Qt.load rfl (Ld.one (Has.at 1 rfl) Try.one3 (rfl))) ?_
      refine S.nil ?_
      refine TC.block ?_
      refine TC.seq ?_
      refine TC.region ?_
      refine S.dec rfl rfl (Qt.eq (b := 0) rfl rfl) (fun h52 => ?_) (fun h52 => ?_)
      · refine S.q rfl rfl (Qt.assign (by conv => lhs; whnf)) ?_
        refine S.nil ?_
        refine S.if_t rfl ?_
        refine TC.seq ?_
        refine TC.region ?_
        refine S.q rfl rfl (Qt.move (by conv => lhs; whnf)) ?_
        refine S.q rfl rfl (Qt.assign (by conv => lhs; whnf)) ?_
        refine S.q rfl rfl (Qt.assign (by conv => lhs; whnf)) ?_
        refine S.nil ?_
        refine TC.ret ?_
        refine finQ.ret (RVs.tmp (by conv => lhs; whnf) (RVs.tmp (by conv => lhs; whnf) RVs.nil)) (Sub.keep _ (Sub.drop _ (Sub.nil []))) ?_
        refine ⟨?_, rfl⟩
        rw [Go.Sort.choosePivot_eq, Go.Sort.rawPivot, if_pos h32, if_neg h34]
        simp only [Go.Sort.hintOf]
        rw [if_pos h52]
        rfl
      · refine S.q rfl rfl (Qt.assign (by conv => lhs; whnf)) ?_
        refine S.nil ?_
        refine S.if_f rfl ?_
        refine TC.seq ?_
        refine TC.region ?_
        refine S.dec rfl rfl (Qt.eq (b := 12) rfl rfl) (fun h55 => ?_) (fun h55 => ?_)
        · refine S.q rfl rfl (Qt.assign (by conv => lhs; whnf)) ?_
          refine S.nil ?_
          refine S.if_t rfl ?_
          refine TC.seq ?_
          refine TC.region ?_
          refine S.q rfl rfl (Qt.move (by conv => lhs; whnf)) ?_
          refine S.q rfl rfl (Qt.assign (by conv => lhs; whnf)) ?_
          refine S.q rfl rfl (Qt.assign (by conv => lhs; whnf)) ?_
          refine S.nil ?_
          refine TC.ret ?_
          refine finQ.ret (RVs.tmp (by conv => lhs; whnf) (RVs.tmp (by conv => lhs; whnf) RVs.nil)) (Sub.keep _ (Sub.drop _ (Sub.nil []))) ?_
          refine ⟨?_, rfl⟩
          rw [Go.Sort.choosePivot_eq, Go.Sort.rawPivot, if_pos h32, if_neg h34]
          simp only [Go.Sort.hintOf]
          rw [if_neg h52, if_pos h55]
          rfl
        · refine S.q rfl rfl (Qt.assign (by conv => lhs; whnf)) ?_
          refine S.nil ?_
          refine S.if_f rfl ?_
          refine TC.seq ?_
          refine TC.region ?_
          refine S.q rfl rfl (Qt.move (by conv => lhs; whnf)) ?_
          refine S.q rfl rfl (Qt.assign (by conv => lhs; whnf)) ?_
          refine S.q rfl rfl (Qt.assign (by conv => lhs; whnf)) ?_
          refine S.nil ?_
          refine TC.ret ?_
          refine finQ.ret (RVs.tmp (by conv => lhs; whnf) (RVs.tmp (by conv => lhs; whnf) RVs.nil)) (Sub.keep _ (Sub.drop _ (Sub.nil []))) ?_
          refine ⟨?_, rfl⟩
          rw [Go.Sort.choosePivot_eq, Go.Sort.rawPivot, if_pos h32, if_neg h34]
          simp only [Go.Sort.hintOf]
          rw [if_neg h52, if_neg h55]
          rfl
  · refine S.nil ?_
    refine S.if_f rfl ?_
    refine TC.skip ?_
    refine TC.seq ?_
    refine TC.region ?_
    refine S.q rfl rfl (Qt.load rfl (Ld.one (Has.at 0 rfl) Try.one3 (rfl))) ?_
    refine S.nil ?_
    refine TC.block ?_
    refine TC.seq ?_
    refine TC.region ?_
    refine S.dec rfl rfl (Qt.eq (b := 0) rfl rfl) (fun h52 => ?_) (fun h52 => ?_)
    · refine S.q rfl rfl (Qt.assign (by conv => lhs; whnf)) ?_
      refine S.nil ?_
      refine S.if_t rfl ?_
      refine TC.seq ?_
      refine TC.region ?_
      refine S.q rfl rfl (Qt.move (by conv => lhs; whnf)) ?_
      refine S.q rfl rfl (Qt.assign (by conv => lhs; whnf)) ?_
      refine S.q rfl rfl (Qt.assign (by conv => lhs; whnf)) ?_
      refine S.nil ?_
      refine TC.ret ?_
      refine finQ.ret (RVs.tmp (by conv => lhs; whnf) (RVs.tmp (by conv => lhs; whnf) RVs.nil)) (Sub.trans (Sub.keep _ (Sub.drop _ (Sub.nil []))) (Sub.trans (Sub.keep _ (Sub.refl _)) (Sub.of_perm (List.perm_middle (l₁ := [_]))))) ?_
      refine ⟨?_, rfl⟩
      rw [Go.Sort.choosePivot_eq, Go.Sort.rawPivot, if_neg h32]
      simp only [Go.Sort.hintOf]
      rfl
    · refine S.q rfl rfl (Qt.assign (by conv => lhs; whnf)) ?_
      refine S.nil ?_
      refine S.if_f rfl ?_
      refine TC.seq ?_
      refine TC.region ?_
      refine S.dec rfl rfl (Qt.eq (b := 12) rfl rfl) (fun h55 => ?_) (fun h55 => ?_)
      · refine S.q rfl rfl (Qt.assign (by conv => lhs; whnf)) ?_
        refine S.nil ?_
        refine S.if_t rfl ?_
        refine TC.seq ?_
        refine TC.region ?_
        refine S.q rfl rfl (Qt.move (by conv => lhs; whnf)) ?_
        refine S.q rfl rfl (Qt.assign (by conv => lhs; whnf)) ?_
        refine S.q rfl rfl (Qt.assign (by conv => lhs; whnf)) ?_
        refine S.nil ?_
        refine TC.ret ?_
        refine finQ.ret (RVs.tmp (by conv => lhs; whnf) (RVs.tmp (by conv => lhs; whnf) RVs.nil)) (Sub.trans (Sub.keep _ (Sub.drop _ (Sub.nil []))) (Sub.trans (Sub.keep _ (Sub.refl _)) (Sub.of_perm (List.perm_middle (l₁ := [_]))))) ?_
        refine ⟨?_, rfl⟩
        rw [Go.Sort.choosePivot_eq, Go.Sort.rawPivot, if_neg h32]
        simp only [Go.Sort.hintOf]
        exact absurd rfl h52
      · refine S.q rfl rfl (Qt.assign (by conv => lhs; whnf)) ?_
        refine S.nil ?_
        refine S.if_f rfl ?_
        refine TC.seq ?_
        refine TC.region ?_
        refine S.q rfl rfl (Qt.move (by conv => lhs; whnf)) ?_
        refine S.q rfl rfl (Qt.assign (by conv => lhs; whnf)) ?_
        refine S.q rfl rfl (Qt.assign (by conv => lhs; whnf)) ?_
        refine S.nil ?_
        refine TC.ret ?_
        refine finQ.ret (RVs.tmp (by conv => lhs; whnf) (RVs.tmp (by conv => lhs; whnf) RVs.nil)) (Sub.trans (Sub.keep _ (Sub.drop _ (Sub.nil []))) (Sub.trans (Sub.keep _ (Sub.refl _)) (Sub.of_perm (List.perm_middle (l₁ := [_]))))) ?_
        refine ⟨?_, rfl⟩
        rw [Go.Sort.choosePivot_eq, Go.Sort.rawPivot, if_neg h32]
        simp only [Go.Sort.hintOf]
        exact absurd rfl h52
end Go.Proofs.Ytaoicbjgkghnnaa
namespace Go.Proofs.Ytaoicbjgkghnnaa
open Go.E
set_option linter.unusedVariables false
set_option maxRecDepth 4000
set_option maxHeartbeats 1600000 in
theorem ins_sort_walk (g n cp : Nat) (d : Array Nat) (r : List Value) (hn : d.size = n) (hm : n < 4294967296) (a b : Nat) (hab : a ≤ b) (hb : b ≤ n) (w0 : World) (hL : Sat w0 [Blk g 24 (blkD (d) r)]) :
    Calls Try.prog 53 #[.slice (some ⟨g, 0, none⟩) n cp, .int .i64 ((a : Nat) : Int), .int .i64 ((b : Nat) : Int)] w0 (Post w0 (fps [Blk g 24 (blkD (d) r)]) fun v L => v = .tuple #[] ∧ L = [Blk g 24 (blkD (Go.Sort.insertionSort ltN d a b) r)]) := by
  refine Calls.of (L := [Blk g 24 (blkD (d) r)]) (n := 49) (rs := []) Try.func53 rfl rfl rfl (Nat.le_of_ble_eq_true rfl) (hL) ?_
  refine TC.seq ?_
  refine TC.region ?_
  refine S.q rfl rfl (Qt.move (by conv => lhs; whnf)) ?_
  refine S.q rfl rfl (Qt.add (b := 1) rfl rfl (by simp only [kmax]; omega)) ?_
  refine S.q rfl rfl (Qt.assign (by conv => lhs; whnf)) ?_
  refine S.nil ?_
  refine TC.block ?_
  refine TC.loop (γ := Nat × Array Nat) [10, 11, 12, 15, 7, 16, 17, 18, 19, 20, 21, 22, 23, 24, 25, 26, 27, 28, 29, 30, 33, 34, 35, 36, 37, 38, 39, 40, 41, 42, 43, 44, 45, 46, 47, 48, 31, 32, 13, 14, 6] (fun q => [(6, .int .i64 ((q.1 : Nat) : Int))]) (fun q => [Blk g 24 (blkD q.2 r)]) (fun q => a + 1 ≤ q.1 ∧ q.2.size = n ∧ Go.Sort.insOuter ltN a b q.1 q.2 = Go.Sort.insertionSort ltN d a b) (fun q => b - q.1) ((a + 1, d))
    ⟨Nat.le_refl _, hn, rfl⟩ ⟨Out.refl _ _, (List.forall_mem_cons.2 ⟨rfl, (fun _ h => nomatch h)⟩)⟩ (Sub.refl _) ?_
  rintro ⟨i, e⟩ u ⟨hi, he, hq⟩
  dsimp only at hi he hq
  show TC _ _ _ (puts [(6, .int .i64 ((i : Nat) : Int))] (scr _ u _)) [Blk g 24 (blkD (e) r)]
  refine TC.seq ?_
  refine TC.seq ?_
  refine TC.region ?_
  refine S.q rfl rfl (Qt.move (by conv => lhs; whnf)) ?_
  refine S.q rfl rfl (Qt.move (by conv => lhs; whnf)) ?_
  refine S.dec rfl rfl (Qt.lt rfl rfl) (fun h12 => ?_) (fun h12 => ?_)
  · refine S.nil ?_
    refine S.if_t rfl ?_
    refine TC.skip ?_
    refine TC.seq ?_
    refine TC.block ?_
    refine TC.seq ?_
    refine TC.region ?_
    refine S.q rfl rfl (Qt.move (by conv => lhs; whnf)) ?_
    refine S.q rfl rfl (Qt.assign (by conv => lhs; whnf)) ?_
    refine S.nil ?_
    refine TC.block ?_
    refine TC.loop (γ := Nat × Array Nat) [16, 17, 18, 19, 20, 21, 22, 23, 24, 25, 26, 27, 28, 29, 30, 33, 34, 35, 36, 37, 38, 39, 40, 41, 42, 43, 44, 45, 46, 47, 48, 31, 32, 7] (fun q => [(7, .int .i64 ((q.1 : Nat) : Int))]) (fun q => [Blk g 24 (blkD q.2 r)]) (fun q => q.1 ≤ i ∧ q.2.size = n ∧ Go.Sort.insInner ltN a q.1 q.2 = Go.Sort.insInner ltN a i e) (fun q => q.1) ((i, e))
      ⟨Nat.le_refl _, he, rfl⟩ ⟨Out.refl _ _, (List.forall_mem_cons.2 ⟨rfl, (fun _ h => nomatch h)⟩)⟩ (Sub.refl _) ?_
    rintro ⟨j, f⟩ u ⟨hj, hf, hqf⟩
    dsimp only at hj hf hqf
    show TC _ _ _ (puts [(7, .int .i64 ((j : Nat) : Int))] (scr _ u _)) [Blk g 24 (blkD (f) r)]
    refine TC.seq ?_
    refine TC.seq ?_
    refine S.draw ([], []) Try.mixed (Sub.nil _) ?_
    refine D.qX (k := 0) rfl (by kernel_rfl) (by kernel_rfl) (by kernel_rfl) rfl rfl (Qt.move (by conv => lhs; whnf)) ?_
    refine D.qX (k := 1) rfl (by kernel_rfl) (by kernel_rfl) (by kernel_rfl) rfl rfl (Qt.move (by conv => lhs; whnf)) ?_
    refine D.decX (k := 2) rfl (by kernel_rfl) (by kernel_rfl) (by kernel_rfl) rfl rfl (Qt.gt rfl rfl) (fun h18 => ?_) (fun h18 => ?_)
    · refine D.qX (k := 3) rfl (by kernel_rfl) (by kernel_rfl) (by kernel_rfl) rfl rfl (Qt.move (by conv => lhs; whnf)) ?_
      refine D.qgX (k := 4) rfl (by kernel_rfl) (by kernel_rfl) (by kernel_rfl) rfl rfl rfl (Qt.move (by conv => lhs; whnf)) ?_
      refine D.qgX (k := 5) rfl (by kernel_rfl) (by kernel_rfl) (by kernel_rfl) rfl rfl rfl (Qt.move (by conv => lhs; whnf)) ?_
      refine D.qgX (k := 6) rfl (by kernel_rfl) (by kernel_rfl) (by kernel_rfl) rfl rfl rfl (Qt.index Try.underlying22 Try.cells24 rfl rfl (by omega) (Has.blk (Has.at 0 rfl)) (by simp only [blkD_len]; omega)) ?_
      refine D.qgX (k := 7) rfl (by kernel_rfl) (by kernel_rfl) (by kernel_rfl) rfl rfl rfl (Qt.load rfl (Ld.sl (Has.blk (Has.at 0 rfl)) Try.one24 (blkD_get (by (try dsimp only); omega)))) ?_
      refine D.qgX (k := 8) rfl (by kernel_rfl) (by kernel_rfl) (by kernel_rfl) rfl rfl rfl (Qt.move (by conv => lhs; whnf)) ?_
      refine D.qgX (k := 9) rfl (by kernel_rfl) (by kernel_rfl) (by kernel_rfl) rfl rfl rfl (Qt.move (by conv => lhs; whnf)) ?_
      refine D.qgX (k := 10) rfl (by kernel_rfl) (by kernel_rfl) (by kernel_rfl) rfl rfl rfl (Qt.sub (b := 1) rfl rfl (by omega) (by simp only [kmax]; omega)) ?_
      refine D.qgX (k := 11) rfl (by kernel_rfl) (by kernel_rfl) (by kernel_rfl) rfl rfl rfl (Qt.index Try.underlying22 Try.cells24 rfl rfl (by omega) (Has.blk (Has.at 0 rfl)) (by simp only [blkD_len]; omega)) ?_
      refine D.qgX (k := 12) rfl (by kernel_rfl) (by kernel_rfl) (by kernel_rfl) rfl rfl rfl (Qt.load rfl (Ld.sl (Has.blk (Has.at 0 rfl)) Try.one24 (blkD_get (by (try dsimp only); omega)))) ?_
      by_cases h29 : ltN f[j]! f[j - 1]! = true
      · refine D.cgX (k := 13) rfl (by kernel_rfl) (by kernel_rfl) (by kernel_rfl) rfl rfl rfl (CalU.con0 Try.ent59 rfl (fun w hw => less_t h29 w)) ?_
        refine D.qX (k := 14) rfl (by kernel_rfl) (by kernel_rfl) (by kernel_rfl) rfl rfl (Qt.pick_t rfl (by conv => lhs; whnf)) ?_
        refine D.done (Sub.nil _) (by kernel_rfl) ?_
        refine S.if_t rfl ?_
        refine TC.skip ?_
        refine TC.seq ?_
        refine TC.block ?_
        refine S.draw ([15, 17], []) Try.mixed (Sub.nil _) ?_
        refine D.qX (k := 0) rfl (by kernel_rfl) (by kernel_rfl) (by kernel_rfl) rfl rfl (Qt.move (by conv => lhs; whnf)) ?_
        refine D.qX (k := 1) rfl (by kernel_rfl) (by kernel_rfl) (by kernel_rfl) rfl rfl (Qt.move (by conv => lhs; whnf)) ?_
        refine D.q (k := 2) rfl (by kernel_rfl) (by kernel_rfl) rfl rfl (Qt.move (by conv => lhs; whnf)) ?_
        refine D.q (k := 3) rfl (by kernel_rfl) (by kernel_rfl) rfl rfl (Qt.move (by conv => lhs; whnf)) ?_
        refine D.q (k := 4) rfl (by kernel_rfl) (by kernel_rfl) rfl rfl (Qt.sub (b := 1) rfl rfl (by omega) (by simp only [kmax]; omega)) ?_
        refine D.qX (k := 5) rfl (by kernel_rfl) (by kernel_rfl) (by kernel_rfl) rfl rfl (Qt.move (by conv => lhs; whnf)) ?_
        refine D.qX (k := 6) rfl (by kernel_rfl) (by kernel_rfl) (by kernel_rfl) rfl rfl (Qt.move (by conv => lhs; whnf)) ?_
        refine D.qX (k := 7) rfl (by kernel_rfl) (by kernel_rfl) (by kernel_rfl) rfl rfl (Qt.sub (b := 1) rfl rfl (by omega) (by simp only [kmax]; omega)) ?_
        refine D.qX (k := 8) rfl (by kernel_rfl) (by kernel_rfl) (by kernel_rfl) rfl rfl (Qt.index Try.underlying22 Try.cells24 rfl rfl (by omega) (Has.blk (Has.at 0 rfl)) (by simp only [blkD_len]; omega)) ?_
        refine D.qX (k := 9) rfl (by kernel_rfl) (by kernel_rfl) (by kernel_rfl) rfl rfl (Qt.load rfl (Ld.sl (Has.blk (Has.at 0 rfl)) Try.one24 (blkD_get (by (try dsimp only); omega)))) ?_
        refine D.qX (k := 10) rfl (by kernel_rfl) (by kernel_rfl) (by kernel_rfl) rfl rfl (Qt.move (by conv => lhs; whnf)) ?_
        refine D.qX (k := 11) rfl (by kernel_rfl) (by kernel_rfl) (by kernel_rfl) rfl rfl (Qt.move (by conv => lhs; whnf)) ?_
        refine D.qX (k := 12) rfl (by kernel_rfl) (by kernel_rfl) (by kernel_rfl) rfl rfl (Qt.index Try.underlying22 Try.cells24 rfl rfl (by omega) (Has.blk (Has.at 0 rfl)) (by simp only [blkD_len]; omega)) ?_
        refine D.qX (k := 13) rfl (by kernel_rfl) (by kernel_rfl) (by kernel_rfl) rfl rfl (Qt.load rfl (Ld.sl (Has.blk (Has.at 0 rfl)) Try.one24 (blkD_get (by (try dsimp only); omega)))) ?_
        refine D.qX (k := 14) rfl (by kernel_rfl) (by kernel_rfl) (by kernel_rfl) rfl rfl (Qt.index1 Try.underlying22 Try.cells24 rfl rfl (by omega) (Has.blk (Has.at 0 rfl)) (by simp only [blkD_len]; omega)) ?_
        refine D.opN (k := 15) (Sub.nil _) rfl (by kernel_rfl) (by kernel_rfl) rfl (OpV.storeE0 rfl (by conv => lhs; whnf) Try.cells24 rfl rfl (by simp only [blkD_len, Array.size_setIfInBounds]; omega) (blkD_set (by (try dsimp only); omega)) ⟨Sub.nil _, ?_⟩)
        refine D.qX (k := 16) rfl (by kernel_rfl) (by kernel_rfl) (by kernel_rfl) rfl rfl (Qt.index1 (i := j - 1) Try.underlying22 Try.cells24 rfl rfl (by omega) (Has.blk (Has.at 0 rfl)) (by simp only [blkD_len, Array.size_setIfInBounds]; omega)) ?_
        refine D.opN (k := 17) (Sub.nil _) rfl (by kernel_rfl) (by kernel_rfl) rfl (OpV.storeE0 rfl (by conv => lhs; whnf) Try.cells24 rfl rfl (by simp only [blkD_len, Array.size_setIfInBounds]; omega) (blkD_set (by (try simp only [Array.size_setIfInBounds]); omega)) ⟨Sub.nil _, ?_⟩)
        refine D.done (Sub.nil _) (by kernel_rfl) ?_
        refine TC.region ?_
        refine S.q rfl rfl (Qt.move (by conv => lhs; whnf)) ?_
        refine S.q rfl rfl (Qt.sub (b := 1) rfl rfl (by omega) (by simp only [kmax]; omega)) ?_
        refine S.q rfl rfl (Qt.assign (by conv => lhs; whnf)) ?_
        refine S.nil ?_
        refine ⟨(j - 1, Go.Sort.swp f j (j - 1)), ?_, ?_, ⟨?_, (List.forall_mem_cons.2 ⟨rfl, (fun _ h => nomatch h)⟩)⟩, Sub.refl _⟩
        · exact ⟨by dsimp only; omega, (Go.Sort.swp_size _ _ _).trans hf, (insI_step h18 h29).symm.trans hqf⟩
        · show _ < _; dsimp only; omega
        repeat (first | exact Out.refl _ _ | refine Out.put rfl ?_ | refine Out.puts rfl ?_ | refine Out.scr ?_ | refine Out.scr' rfl ?_)
      · refine D.cgX (k := 13) rfl (by kernel_rfl) (by kernel_rfl) (by kernel_rfl) rfl rfl rfl (CalU.con0 Try.ent59 rfl (fun w hw => less_f h29 w)) ?_
        refine D.qX (k := 14) rfl (by kernel_rfl) (by kernel_rfl) (by kernel_rfl) rfl rfl (Qt.pick_t rfl (by conv => lhs; whnf)) ?_
        refine D.done (Sub.nil _) (by kernel_rfl) ?_
        refine S.if_f rfl ?_
        refine TC.exit ?_
        refine TC.region ?_
        refine S.q rfl rfl (Qt.move (by conv => lhs; whnf)) ?_
        refine S.q rfl rfl (Qt.add (b := 1) rfl rfl (by simp only [kmax]; omega)) ?_
        refine S.q rfl rfl (Qt.assign (by conv => lhs; whnf)) ?_
        refine S.nil ?_
        refine ⟨(i + 1, f), ?_, ?_, ⟨?_, (List.forall_mem_cons.2 ⟨rfl, (fun _ h => nomatch h)⟩)⟩, Sub.refl _⟩
        · exact ⟨by dsimp only; omega, hf, by dsimp only; rw [← hq, insO_step h12, ← hqf, insI_stop2 h29]⟩
        · show _ < _; dsimp only; omega
        repeat (first | exact Out.refl _ _ | refine Out.put rfl ?_ | refine Out.puts rfl ?_ | refine Out.scr ?_ | refine Out.scr' rfl ?_)
    · refine D.qX (k := 3) rfl (by kernel_rfl) (by kernel_rfl) (by kernel_rfl) rfl rfl (Qt.move (by conv => lhs; whnf)) ?_
      refine D.pass (k := 4) rfl (by kernel_rfl) (by kernel_rfl) rfl rfl rfl ?_
      refine D.pass (k := 5) rfl (by kernel_rfl) (by kernel_rfl) rfl rfl rfl ?_
      refine D.pass (k := 6) rfl (by kernel_rfl) (by kernel_rfl) rfl rfl rfl ?_
      refine D.pass (k := 7) rfl (by kernel_rfl) (by kernel_rfl) rfl rfl rfl ?_
      refine D.pass (k := 8) rfl (by kernel_rfl) (by kernel_rfl) rfl rfl rfl ?_
      refine D.pass (k := 9) rfl (by kernel_rfl) (by kernel_rfl) rfl rfl rfl ?_
      refine D.pass (k := 10) rfl (by kernel_rfl) (by kernel_rfl) rfl rfl rfl ?_
      refine D.pass (k := 11) rfl (by kernel_rfl) (by kernel_rfl) rfl rfl rfl ?_
      refine D.pass (k := 12) rfl (by kernel_rfl) (by kernel_rfl) rfl rfl rfl ?_
      refine D.pass (k := 13) rfl (by kernel_rfl) (by kernel_rfl) rfl rfl rfl ?_
      refine D.qX (k := 14) rfl (by kernel_rfl) (by kernel_rfl) (by kernel_rfl) rfl rfl (Qt.pick_f rfl (by conv => lhs; whnf)) ?_
      refine D.done (Sub.nil _) (by kernel_rfl) ?_
      refine S.if_f rfl ?_
      refine TC.exit ?_
      refine TC.region ?_
      refine S.q rfl rfl (Qt.move (by conv => lhs; whnf)) ?_
      refine S.q rfl rfl (Qt.add (b := 1) rfl rfl (by simp only [kmax]; omega)) ?_
      refine S.q rfl rfl (Qt.assign (by conv => lhs; whnf)) ?_
      refine S.nil ?_
      refine ⟨(i + 1, f), ?_, ?_, ⟨?_, (List.forall_mem_cons.2 ⟨rfl, (fun _ h => nomatch h)⟩)⟩, Sub.refl _⟩
      · exact ⟨by dsimp only; omega, hf, by dsimp only; rw [← hq, insO_step h12, ← hqf, insI_stop h18]⟩
      · show _ < _; dsimp only; omega
      repeat (first | exact Out.refl _ _ | refine Out.put rfl ?_ | refine Out.puts rfl ?_ | refine Out.scr ?_ | refine Out.scr' rfl ?_)
  · refine S.nil ?_
    refine S.if_f rfl ?_
    refine TC.exit ?_
    refine finQ.normal RVs.nil (Sub.refl _) ?_
    rw [← hq, insO_stop h12]
    exact ⟨rfl, rfl⟩
set_option maxHeartbeats 1600000 in
theorem rev_walk (g n cp : Nat) (d : Array Nat) (r : List Value) (hn : d.size = n) (hm : n < 4294967296) (a b : Nat) (hab : a < b) (hb : b ≤ n) (w0 : World) (hL : Sat w0 [Blk g 24 (blkD (d) r)]) :
    Calls Try.prog 57 #[.slice (some ⟨g, 0, none⟩) n cp, .int .i64 ((a : Nat) : Int), .int .i64 ((b : Nat) : Int)] w0 (Post w0 (fps [Blk g 24 (blkD (d) r)]) fun v L => v = .tuple #[] ∧ L = [Blk g 24 (blkD (Go.Sort.reverseRange d a b) r)]) := by
  refine Calls.of (L := [Blk g 24 (blkD (d) r)]) (n := 32) (rs := []) Try.func57 rfl rfl rfl (Nat.le_of_ble_eq_true rfl) (hL) ?_
  refine TC.seq ?_
  refine TC.region ?_
  refine S.q rfl rfl (Qt.move (by conv => lhs; whnf)) ?_
  refine S.q rfl rfl (Qt.assign (by conv => lhs; whnf)) ?_
  refine S.nil ?_
  refine TC.seq ?_
  refine TC.region ?_
  refine S.q rfl rfl (Qt.move (by conv => lhs; whnf)) ?_
  refine S.q rfl rfl (Qt.sub (b := 1) rfl rfl (by omega) (by simp only [kmax]; omega)) ?_
  refine S.q rfl rfl (Qt.assign (by conv => lhs; whnf)) ?_
  refine S.nil ?_
  refine TC.block ?_
  refine TC.loop (γ := Nat × Nat × Array Nat) [11, 12, 13, 14, 15, 16, 17, 18, 19, 20, 21, 22, 23, 24, 25, 26, 27, 28, 29, 6, 30, 31, 7] (fun q => [(6, .int .i64 ((q.1 : Nat) : Int)), (7, .int .i64 ((q.2.1 : Nat) : Int))]) (fun q => [Blk g 24 (blkD q.2.2 r)]) (fun q => q.2.1 < n ∧ q.2.2.size = n ∧ Go.Sort.reverseLoop q.1 q.2.1 q.2.2 = Go.Sort.reverseRange d a b) (fun q => q.2.1 - q.1) ((a, b - 1, d))
    ⟨by dsimp only; omega, hn, rfl⟩ ⟨Out.refl _ _, (List.forall_mem_cons.2 ⟨rfl, (List.forall_mem_cons.2 ⟨rfl, (fun _ h => nomatch h)⟩)⟩)⟩ (Sub.refl _) ?_
  rintro ⟨i, j, e⟩ u ⟨hj, he, hq⟩
  dsimp only at hj he hq
  show TC _ _ _ (puts [(6, .int .i64 ((i : Nat) : Int)), (7, .int .i64 ((j : Nat) : Int))] (scr _ u _)) [Blk g 24 (blkD (e) r)]
  refine TC.seq ?_
  refine TC.seq ?_
  refine TC.region ?_
  refine S.q rfl rfl (Qt.move (by conv => lhs; whnf)) ?_
  refine S.q rfl rfl (Qt.move (by conv => lhs; whnf)) ?_
  refine S.dec rfl rfl (Qt.lt rfl rfl) (fun h13 => ?_) (fun h13 => ?_)
  · refine S.nil ?_
    refine S.if_t rfl ?_
    refine TC.skip ?_
    refine TC.block ?_
    refine TC.seq ?_
    refine S.draw ([13, 15], []) Try.mixed (Sub.nil _) ?_
    refine D.qX (k := 0) rfl (by kernel_rfl) (by kernel_rfl) (by kernel_rfl) rfl rfl (Qt.move (by conv => lhs; whnf)) ?_
    refine D.qX (k := 1) rfl (by kernel_rfl) (by kernel_rfl) (by kernel_rfl) rfl rfl (Qt.move (by conv => lhs; whnf)) ?_
    refine D.q (k := 2) rfl (by kernel_rfl) (by kernel_rfl) rfl rfl (Qt.move (by conv => lhs; whnf)) ?_
    refine D.q (k := 3) rfl (by kernel_rfl) (by kernel_rfl) rfl rfl (Qt.move (by conv => lhs; whnf)) ?_
    refine D.qX (k := 4) rfl (by kernel_rfl) (by kernel_rfl) (by kernel_rfl) rfl rfl (Qt.move (by conv => lhs; whnf)) ?_
    refine D.qX (k := 5) rfl (by kernel_rfl) (by kernel_rfl) (by kernel_rfl) rfl rfl (Qt.move (by conv => lhs; whnf)) ?_
    refine D.qX (k := 6) rfl (by kernel_rfl) (by kernel_rfl) (by kernel_rfl) rfl rfl (Qt.index Try.underlying22 Try.cells24 rfl rfl (by omega) (Has.blk (Has.at 0 rfl)) (by simp only [blkD_len]; omega)) ?_
    refine D.qX (k := 7) rfl (by kernel_rfl) (by kernel_rfl) (by kernel_rfl) rfl rfl (Qt.load rfl (Ld.sl (Has.blk (Has.at 0 rfl)) Try.one24 (blkD_get (by (try dsimp only); omega)))) ?_
    refine D.qX (k := 8) rfl (by kernel_rfl) (by kernel_rfl) (by kernel_rfl) rfl rfl (Qt.move (by conv => lhs; whnf)) ?_
    refine D.qX (k := 9) rfl (by kernel_rfl) (by kernel_rfl) (by kernel_rfl) rfl rfl (Qt.move (by conv => lhs; whnf)) ?_
    refine D.qX (k := 10) rfl (by kernel_rfl) (by kernel_rfl) (by kernel_rfl) rfl rfl (Qt.index Try.underlying22 Try.cells24 rfl rfl (by omega) (Has.blk (Has.at 0 rfl)) (by simp only [blkD_len]; omega)) ?_
    refine D.qX (k := 11) rfl (by kernel_rfl) (by kernel_rfl) (by kernel_rfl) rfl rfl (Qt.load rfl (Ld.sl (Has.blk (Has.at 0 rfl)) Try.one24 (blkD_get (by (try dsimp only); omega)))) ?_
    refine D.qX (k := 12) rfl (by kernel_rfl) (by kernel_rfl) (by kernel_rfl) rfl rfl (Qt.index1 Try.underlying22 Try.cells24 rfl rfl (by omega) (Has.blk (Has.at 0 rfl)) (by simp only [blkD_len]; omega)) ?_
    refine D.opN (k := 13) (Sub.nil _) rfl (by kernel_rfl) (by kernel_rfl) rfl (OpV.storeE0 rfl (by conv => lhs; whnf) Try.cells24 rfl rfl (by simp only [blkD_len, Array.size_setIfInBounds]; omega) (blkD_set (by (try dsimp only); omega)) ⟨Sub.nil _, ?_⟩)
    refine D.qX (k := 14) rfl (by kernel_rfl) (by kernel_rfl) (by kernel_rfl) rfl rfl (Qt.index1 (i := j) Try.underlying22 Try.cells24 rfl rfl (by omega) (Has.blk (Has.at 0 rfl)) (by simp only [blkD_len, Array.size_setIfInBounds]; omega)) ?_
    refine D.opN (k := 15) (Sub.nil _) rfl (by kernel_rfl) (by kernel_rfl) rfl (OpV.storeE0 rfl (by conv => lhs; whnf) Try.cells24 rfl rfl (by simp only [blkD_len, Array.size_setIfInBounds]; omega) (blkD_set (by (try simp only [Array.size_setIfInBounds]); omega)) ⟨Sub.nil _, ?_⟩)
    refine D.done (Sub.nil _) (by kernel_rfl) ?_
    refine TC.seq ?_
    refine TC.region ?_
    refine S.q rfl rfl (Qt.move (by conv => lhs; whnf)) ?_
    refine S.q rfl rfl (Qt.add (b := 1) rfl rfl (by simp only [kmax]; omega)) ?_
    refine S.q rfl rfl (Qt.assign (by conv => lhs; whnf)) ?_
    refine S.nil ?_
    refine TC.region ?_
    refine S.q rfl rfl (Qt.move (by conv => lhs; whnf)) ?_
    refine S.q rfl rfl (Qt.sub (b := 1) rfl rfl (by omega) (by simp only [kmax]; omega)) ?_
    refine S.q rfl rfl (Qt.assign (by conv => lhs; whnf)) ?_
    refine S.nil ?_
    refine ⟨(i + 1, j - 1, Go.Sort.swp e i j), ?_, ?_, ⟨?_, (List.forall_mem_cons.2 ⟨rfl, (List.forall_mem_cons.2 ⟨rfl, (fun _ h => nomatch h)⟩)⟩)⟩, Sub.refl _⟩
    · exact ⟨by dsimp only; omega, (Go.Sort.swp_size _ _ _).trans he, (rev_step h13).symm.trans hq⟩
    · show _ < _; dsimp only; omega
    repeat (first | exact Out.refl _ _ | refine Out.put rfl ?_ | refine Out.puts rfl ?_ | refine Out.scr ?_ | refine Out.scr' rfl ?_)
  · refine S.nil ?_
    refine S.if_f rfl ?_
    refine TC.exit ?_
    refine finQ.normal RVs.nil (Sub.refl _) ?_
    rw [← hq, rev_stop h13]
    exact ⟨rfl, rfl⟩
set_option maxHeartbeats 1600000 in
theorem sift_walk (g n cp : Nat) (d : Array Nat) (r : List Value) (hn : d.size = n) (hm : n < 4294967296) (lo hi first : Nat) (hlo : lo ≤ hi) (hf : first + hi ≤ n) (w0 : World) (hL : Sat w0 [Blk g 24 (blkD (d) r)]) :
    Calls Try.prog 64 #[.slice (some ⟨g, 0, none⟩) n cp, .int .i64 ((lo : Nat) : Int), .int .i64 ((hi : Nat) : Int), .int .i64 ((first : Nat) : Int)] w0 (Post w0 (fps [Blk g 24 (blkD (d) r)]) fun v L => v = .tuple #[] ∧ L = [Blk g 24 (blkD (Go.Sort.siftDown ltN hi first lo d) r)]) := by
  refine Calls.of (L := [Blk g 24 (blkD (d) r)]) (n := 76) (rs := []) Try.func64 rfl rfl rfl (Nat.le_of_ble_eq_true rfl) (hL) ?_
  refine TC.seq ?_
  refine TC.region ?_
  refine S.q rfl rfl (Qt.move (by conv => lhs; whnf)) ?_
  refine S.q rfl rfl (Qt.assign (by conv => lhs; whnf)) ?_
  refine S.nil ?_
  refine TC.block ?_
  refine TC.loop (γ := Nat × Array Nat) [11, 12, 13, 9, 14, 15, 16, 17, 18, 19, 20, 21, 22, 23, 24, 25, 26, 27, 28, 29, 30, 31, 32, 33, 34, 35, 36, 37, 38, 39, 40, 41, 42, 43, 44, 45, 46, 47, 48, 49, 50, 51, 52, 53, 54, 55, 56, 57, 58, 59, 60, 61, 62, 63, 64, 65, 66, 67, 68, 69, 70, 71, 72, 73, 74, 75, 8] (fun q => [(8, .int .i64 ((q.1 : Nat) : Int))]) (fun q => [Blk g 24 (blkD q.2 r)]) (fun q => q.1 ≤ hi ∧ q.2.size = n ∧ Go.Sort.siftDown ltN hi first q.1 q.2 = Go.Sort.siftDown ltN hi first lo d) (fun q => hi - q.1) ((lo, d))
    ⟨hlo, hn, rfl⟩ ⟨Out.refl _ _, (List.forall_mem_cons.2 ⟨rfl, (fun _ h => nomatch h)⟩)⟩ (Sub.refl _) ?_
  rintro ⟨root, e⟩ u ⟨hr, he, hq⟩
  dsimp only at hr he hq
  show TC _ _ _ (puts [(8, .int .i64 ((root : Nat) : Int))] (scr _ u _)) [Blk g 24 (blkD (e) r)]
  refine TC.block ?_
  refine TC.seq ?_
  refine TC.region ?_
  refine S.q rfl rfl (Qt.move (by conv => lhs; whnf)) ?_
  refine S.q rfl rfl (Qt.mul (a := 2) rfl rfl (by simp only [kmax]; omega)) ?_
  refine S.q rfl rfl (Qt.add (b := 1) rfl rfl (by simp only [kmax]; omega)) ?_
  refine S.q rfl rfl (Qt.assign (by conv => lhs; whnf)) ?_
  refine S.nil ?_
  refine TC.seq ?_
  refine TC.seq ?_
  refine TC.region ?_
  refine S.q rfl rfl (Qt.move (by conv => lhs; whnf)) ?_
  refine S.q rfl rfl (Qt.move (by conv => lhs; whnf)) ?_
  refine S.dec rfl rfl (Qt.ge rfl rfl) (fun h16 => ?_) (fun h16 => ?_)
  · refine S.nil ?_
    refine S.if_t rfl ?_
    refine TC.exit ?_
    refine finQ.normal RVs.nil (Sub.refl _) ?_
    rw [← hq, sift_done h16]
    exact ⟨rfl, rfl⟩
  · refine S.nil ?_
    refine S.if_f rfl ?_
    refine TC.skip ?_
    refine TC.seq ?_
    refine TC.seq ?_
    refine S.draw ([], []) Try.mixed (Sub.nil _) ?_
    refine D.qX (k := 0) rfl (by kernel_rfl) (by kernel_rfl) (by kernel_rfl) rfl rfl (Qt.move (by conv => lhs; whnf)) ?_
    refine D.qX (k := 1) rfl (by kernel_rfl) (by kernel_rfl) (by kernel_rfl) rfl rfl (Qt.add (b := 1) rfl rfl (by simp only [kmax]; omega)) ?_
    refine D.qX (k := 2) rfl (by kernel_rfl) (by kernel_rfl) (by kernel_rfl) rfl rfl (Qt.move (by conv => lhs; whnf)) ?_
    refine D.decX (k := 3) rfl (by kernel_rfl) (by kernel_rfl) (by kernel_rfl) rfl rfl (Qt.lt rfl rfl) (fun h20 => ?_) (fun h20 => ?_)
    · refine D.qX (k := 4) rfl (by kernel_rfl) (by kernel_rfl) (by kernel_rfl) rfl rfl (Qt.move (by conv => lhs; whnf)) ?_
      refine D.qgX (k := 5) rfl (by kernel_rfl) (by kernel_rfl) (by kernel_rfl) rfl rfl rfl (Qt.move (by conv => lhs; whnf)) ?_
      refine D.qgX (k := 6) rfl (by kernel_rfl) (by kernel_rfl) (by kernel_rfl) rfl rfl rfl (Qt.move (by conv => lhs; whnf)) ?_
      refine D.qgX (k := 7) rfl (by kernel_rfl) (by kernel_rfl) (by kernel_rfl) rfl rfl rfl (Qt.move (by conv => lhs; whnf)) ?_
      refine D.qgX (k := 8) rfl (by kernel_rfl) (by kernel_rfl) (by kernel_rfl) rfl rfl rfl (Qt.add rfl rfl (by simp only [kmax]; omega)) ?_
      refine D.qgX (k := 9) rfl (by kernel_rfl) (by kernel_rfl) (by kernel_rfl) rfl rfl rfl (Qt.index Try.underlying22 Try.cells24 rfl rfl (by omega) (Has.blk (Has.at 0 rfl)) (by simp only [blkD_len]; omega)) ?_
      refine D.qgX (k := 10) rfl (by kernel_rfl) (by kernel_rfl) (by kernel_rfl) rfl rfl rfl (Qt.load rfl (Ld.sl (Has.blk (Has.at 0 rfl)) Try.one24 (blkD_get (by (try dsimp only); omega)))) ?_
      refine D.qgX (k := 11) rfl (by kernel_rfl) (by kernel_rfl) (by kernel_rfl) rfl rfl rfl (Qt.move (by conv => lhs; whnf)) ?_
      refine D.qgX (k := 12) rfl (by kernel_rfl) (by kernel_rfl) (by kernel_rfl) rfl rfl rfl (Qt.move (by conv => lhs; whnf)) ?_
      refine D.qgX (k := 13) rfl (by kernel_rfl) (by kernel_rfl) (by kernel_rfl) rfl rfl rfl (Qt.move (by conv => lhs; whnf)) ?_
      refine D.qgX (k := 14) rfl (by kernel_rfl) (by kernel_rfl) (by kernel_rfl) rfl rfl rfl (Qt.add rfl rfl (by simp only [kmax]; omega)) ?_
      refine D.qgX (k := 15) rfl (by kernel_rfl) (by kernel_rfl) (by kernel_rfl) rfl rfl rfl (Qt.add (b := 1) rfl rfl (by simp only [kmax]; omega)) ?_
      refine D.qgX (k := 16) rfl (by kernel_rfl) (by kernel_rfl) (by kernel_rfl) rfl rfl rfl (Qt.index Try.underlying22 Try.cells24 rfl rfl (by omega) (Has.blk (Has.at 0 rfl)) (by simp only [blkD_len]; omega)) ?_
      refine D.qgX (k := 17) rfl (by kernel_rfl) (by kernel_rfl) (by kernel_rfl) rfl rfl rfl (Qt.load rfl (Ld.sl (Has.blk (Has.at 0 rfl)) Try.one24 (blkD_get (by (try dsimp only); omega)))) ?_
      by_cases h35 : ltN e[first + (2 * root + 1)]! e[first + (2 * root + 1) + 1]! = true
      · refine D.cgX (k := 18) rfl (by kernel_rfl) (by kernel_rfl) (by kernel_rfl) rfl rfl rfl (CalU.con0 Try.ent59 rfl (fun w hw => less_t h35 w)) ?_
        refine D.qX (k := 19) rfl (by kernel_rfl) (by kernel_rfl) (by kernel_rfl) rfl rfl (Qt.pick_t rfl (by conv => lhs; whnf)) ?_
        refine D.done (Sub.nil _) (by kernel_rfl) ?_
        refine S.if_t rfl ?_
        refine TC.region ?_
        refine S.q rfl rfl (Qt.move (by conv => lhs; whnf)) ?_
        refine S.q rfl rfl (Qt.add (b := 1) rfl rfl (by simp only [kmax]; omega)) ?_
        refine S.q rfl rfl (Qt.assign (by conv => lhs; whnf)) ?_
        refine S.nil ?_
        refine TC.seq ?_
        refine TC.seq ?_
        refine S.draw ([], []) Try.mixed (Sub.nil _) ?_
        have hk : kid e hi first root = (2 * root + 1 + 1) := if_pos ⟨h20, h35⟩
        refine D.qX (k := 0) rfl (by kernel_rfl) (by kernel_rfl) (by kernel_rfl) rfl rfl (Qt.move (by conv => lhs; whnf)) ?_
        refine D.qX (k := 1) rfl (by kernel_rfl) (by kernel_rfl) (by kernel_rfl) rfl rfl (Qt.move (by conv => lhs; whnf)) ?_
        refine D.qX (k := 2) rfl (by kernel_rfl) (by kernel_rfl) (by kernel_rfl) rfl rfl (Qt.move (by conv => lhs; whnf)) ?_
        refine D.qX (k := 3) rfl (by kernel_rfl) (by kernel_rfl) (by kernel_rfl) rfl rfl (Qt.add rfl rfl (by simp only [kmax]; omega)) ?_
        refine D.qX (k := 4) rfl (by kernel_rfl) (by kernel_rfl) (by kernel_rfl) rfl rfl (Qt.index Try.underlying22 Try.cells24 rfl rfl (by omega) (Has.blk (Has.at 0 rfl)) (by simp only [blkD_len]; omega)) ?_
        refine D.qX (k := 5) rfl (by kernel_rfl) (by kernel_rfl) (by kernel_rfl) rfl rfl (Qt.load rfl (Ld.sl (Has.blk (Has.at 0 rfl)) Try.one24 (blkD_get (by (try dsimp only); omega)))) ?_
        refine D.qX (k := 6) rfl (by kernel_rfl) (by kernel_rfl) (by kernel_rfl) rfl rfl (Qt.move (by conv => lhs; whnf)) ?_
        refine D.qX (k := 7) rfl (by kernel_rfl) (by kernel_rfl) (by kernel_rfl) rfl rfl (Qt.move (by conv => lhs; whnf)) ?_
        refine D.qX (k := 8) rfl (by kernel_rfl) (by kernel_rfl) (by kernel_rfl) rfl rfl (Qt.move (by conv => lhs; whnf)) ?_
        refine D.qX (k := 9) rfl (by kernel_rfl) (by kernel_rfl) (by kernel_rfl) rfl rfl (Qt.add rfl rfl (by simp only [kmax]; omega)) ?_
        refine D.qX (k := 10) rfl (by kernel_rfl) (by kernel_rfl) (by kernel_rfl) rfl rfl (Qt.index Try.underlying22 Try.cells24 rfl rfl (by omega) (Has.blk (Has.at 0 rfl)) (by simp only [blkD_len]; omega)) ?_
        refine D.qX (k := 11) rfl (by kernel_rfl) (by kernel_rfl) (by kernel_rfl) rfl rfl (Qt.load rfl (Ld.sl (Has.blk (Has.at 0 rfl)) Try.one24 (blkD_get (by (try dsimp only); omega)))) ?_
        by_cases h51 : ltN e[first + root]! e[first + (2 * root + 1 + 1)]! = true
        · refine D.cX (k := 12) rfl (by kernel_rfl) (by kernel_rfl) (by kernel_rfl) rfl rfl (CalU.con0 Try.ent59 rfl (fun w hw => less_t h51 w)) ?_
          refine D.qX (k := 13) rfl (by kernel_rfl) (by kernel_rfl) (by kernel_rfl) rfl rfl (Qt.not_t rfl) ?_
          refine D.done (Sub.nil _) (by kernel_rfl) ?_
          refine S.if_f rfl ?_
          refine TC.skip ?_
          refine TC.seq ?_
          refine S.draw ([21, 23], []) Try.mixed (Sub.nil _) ?_
          refine D.qX (k := 0) rfl (by kernel_rfl) (by kernel_rfl) (by kernel_rfl) rfl rfl (Qt.move (by conv => lhs; whnf)) ?_
          refine D.qX (k := 1) rfl (by kernel_rfl) (by kernel_rfl) (by kernel_rfl) rfl rfl (Qt.move (by conv => lhs; whnf)) ?_
          refine D.qX (k := 2) rfl (by kernel_rfl) (by kernel_rfl) (by kernel_rfl) rfl rfl (Qt.move (by conv => lhs; whnf)) ?_
          refine D.qX (k := 3) rfl (by kernel_rfl) (by kernel_rfl) (by kernel_rfl) rfl rfl (Qt.add rfl rfl (by simp only [kmax]; omega)) ?_
          refine D.q (k := 4) rfl (by kernel_rfl) (by kernel_rfl) rfl rfl (Qt.move (by conv => lhs; whnf)) ?_
          refine D.q (k := 5) rfl (by kernel_rfl) (by kernel_rfl) rfl rfl (Qt.move (by conv => lhs; whnf)) ?_
          refine D.q (k := 6) rfl (by kernel_rfl) (by kernel_rfl) rfl rfl (Qt.move (by conv => lhs; whnf)) ?_
          refine D.q (k := 7) rfl (by kernel_rfl) (by kernel_rfl) rfl rfl (Qt.add rfl rfl (by simp only [kmax]; omega)) ?_
          refine D.qX (k := 8) rfl (by kernel_rfl) (by kernel_rfl) (by kernel_rfl) rfl rfl (Qt.move (by conv => lhs; whnf)) ?_
          refine D.qX (k := 9) rfl (by kernel_rfl) (by kernel_rfl) (by kernel_rfl) rfl rfl (Qt.move (by conv => lhs; whnf)) ?_
          refine D.qX (k := 10) rfl (by kernel_rfl) (by kernel_rfl) (by kernel_rfl) rfl rfl (Qt.move (by conv => lhs; whnf)) ?_
          refine D.qX (k := 11) rfl (by kernel_rfl) (by kernel_rfl) (by kernel_rfl) rfl rfl (Qt.add rfl rfl (by simp only [kmax]; omega)) ?_
          refine D.qX (k := 12) rfl (by kernel_rfl) (by kernel_rfl) (by kernel_rfl) rfl rfl (Qt.index Try.underlying22 Try.cells24 rfl rfl (by omega) (Has.blk (Has.at 0 rfl)) (by simp only [blkD_len]; omega)) ?_
          refine D.qX (k := 13) rfl (by kernel_rfl) (by kernel_rfl) (by kernel_rfl) rfl rfl (Qt.load rfl (Ld.sl (Has.blk (Has.at 0 rfl)) Try.one24 (blkD_get (by (try dsimp only); omega)))) ?_
          refine D.qX (k := 14) rfl (by kernel_rfl) (by kernel_rfl) (by kernel_rfl) rfl rfl (Qt.move (by conv => lhs; whnf)) ?_
          refine D.qX (k := 15) rfl (by kernel_rfl) (by kernel_rfl) (by kernel_rfl) rfl rfl (Qt.move (by conv => lhs; whnf)) ?_
          refine D.qX (k := 16) rfl (by kernel_rfl) (by kernel_rfl) (by kernel_rfl) rfl rfl (Qt.move (by conv => lhs; whnf)) ?_
          refine D.qX (k := 17) rfl (by kernel_rfl) (by kernel_rfl) (by kernel_rfl) rfl rfl (Qt.add rfl rfl (by simp only [kmax]; omega)) ?_
          refine D.qX (k := 18) rfl (by kernel_rfl) (by kernel_rfl) (by kernel_rfl) rfl rfl (Qt.index Try.underlying22 Try.cells24 rfl rfl (by omega) (Has.blk (Has.at 0 rfl)) (by simp only [blkD_len]; omega)) ?_
          refine D.qX (k := 19) rfl (by kernel_rfl) (by kernel_rfl) (by kernel_rfl) rfl rfl (Qt.load rfl (Ld.sl (Has.blk (Has.at 0 rfl)) Try.one24 (blkD_get (by (try dsimp only); omega)))) ?_
          refine D.qX (k := 20) rfl (by kernel_rfl) (by kernel_rfl) (by kernel_rfl) rfl rfl (Qt.index1 Try.underlying22 Try.cells24 rfl rfl (by omega) (Has.blk (Has.at 0 rfl)) (by simp only [blkD_len]; omega)) ?_
          refine D.opN (k := 21) (Sub.nil _) rfl (by kernel_rfl) (by kernel_rfl) rfl (OpV.storeE0 rfl (by conv => lhs; whnf) Try.cells24 rfl rfl (by simp only [blkD_len, Array.size_setIfInBounds]; omega) (blkD_set (by (try dsimp only); omega)) ⟨Sub.nil _, ?_⟩)
          refine D.qX (k := 22) rfl (by kernel_rfl) (by kernel_rfl) (by kernel_rfl) rfl rfl (Qt.index1 (i := first + (2 * root + 1 + 1)) Try.underlying22 Try.cells24 rfl rfl (by omega) (Has.blk (Has.at 0 rfl)) (by simp only [blkD_len, Array.size_setIfInBounds]; omega)) ?_
          refine D.opN (k := 23) (Sub.nil _) rfl (by kernel_rfl) (by kernel_rfl) rfl (OpV.storeE0 rfl (by conv => lhs; whnf) Try.cells24 rfl rfl (by simp only [blkD_len, Array.size_setIfInBounds]; omega) (blkD_set (by (try simp only [Array.size_setIfInBounds]); omega)) ⟨Sub.nil _, ?_⟩)
          refine D.done (Sub.nil _) (by kernel_rfl) ?_
          refine TC.region ?_
          refine S.q rfl rfl (Qt.move (by conv => lhs; whnf)) ?_
          refine S.q rfl rfl (Qt.assign (by conv => lhs; whnf)) ?_
          refine S.nil ?_
          refine ⟨((2 * root + 1 + 1), Go.Sort.swp e (first + root) (first + (2 * root + 1 + 1))), ?_, ?_, ⟨?_, (List.forall_mem_cons.2 ⟨rfl, (fun _ h => nomatch h)⟩)⟩, Sub.refl _⟩
          · exact ⟨by dsimp only; omega, (Go.Sort.swp_size _ _ _).trans he, by dsimp only; rw [← hq, sift_step h16 (by rw [hk]; exact h51), hk]⟩
          · show _ < _; dsimp only; omega
          repeat (first | exact Out.refl _ _ | refine Out.put rfl ?_ | refine Out.puts rfl ?_ | refine Out.scr ?_ | refine Out.scr' rfl ?_)
        · refine D.cX (k := 12) rfl (by kernel_rfl) (by kernel_rfl) (by kernel_rfl) rfl rfl (CalU.con0 Try.ent59 rfl (fun w hw => less_f h51 w)) ?_
          refine D.qX (k := 13) rfl (by kernel_rfl) (by kernel_rfl) (by kernel_rfl) rfl rfl (Qt.not_f rfl) ?_
          refine D.done (Sub.nil _) (by kernel_rfl) ?_
          refine S.if_t rfl ?_
          refine TC.ret ?_
          refine finQ.ret RVs.nil (Sub.refl _) ?_
          rw [← hq, sift_stop h16 (by rw [hk]; exact h51)]
          exact ⟨rfl, rfl⟩
      · refine D.cgX (k := 18) rfl (by kernel_rfl) (by kernel_rfl) (by kernel_rfl) rfl rfl rfl (CalU.con0 Try.ent59 rfl (fun w hw => less_f h35 w)) ?_
        refine D.qX (k := 19) rfl (by kernel_rfl) (by kernel_rfl) (by kernel_rfl) rfl rfl (Qt.pick_t rfl (by conv => lhs; whnf)) ?_
        refine D.done (Sub.nil _) (by kernel_rfl) ?_
        refine S.if_f rfl ?_
        refine TC.skip ?_
        refine TC.seq ?_
        refine TC.seq ?_
        refine S.draw ([], []) Try.mixed (Sub.nil _) ?_
        have hk : kid e hi first root = (2 * root + 1) := if_neg (fun hc => h35 hc.2)
        refine D.qX (k := 0) rfl (by kernel_rfl) (by kernel_rfl) (by kernel_rfl) rfl rfl (Qt.move (by conv => lhs; whnf)) ?_
        refine D.qX (k := 1) rfl (by kernel_rfl) (by kernel_rfl) (by kernel_rfl) rfl rfl (Qt.move (by conv => lhs; whnf)) ?_
        refine D.qX (k := 2) rfl (by kernel_rfl) (by kernel_rfl) (by kernel_rfl) rfl rfl (Qt.move (by conv => lhs; whnf)) ?_
        refine D.qX (k := 3) rfl (by kernel_rfl) (by kernel_rfl) (by kernel_rfl) rfl rfl (Qt.add rfl rfl (by simp only [kmax]; omega)) ?_
        refine D.qX (k := 4) rfl (by kernel_rfl) (by kernel_rfl) (by kernel_rfl) rfl rfl (Qt.index Try.underlying22 Try.cells24 rfl rfl (by omega) (Has.blk (Has.at 0 rfl)) (by simp only [blkD_len]; omega)) ?_
        refine D.qX (k := 5) rfl (by kernel_rfl) (by kernel_rfl) (by kernel_rfl) rfl rfl (Qt.load rfl (Ld.sl (Has.blk (Has.at 0 rfl)) Try.one24 (blkD_get (by (try dsimp only); omega)))) ?_
        refine D.qX (k := 6) rfl (by kernel_rfl) (by kernel_rfl) (by kernel_rfl) rfl rfl (Qt.move (by conv => lhs; whnf)) ?_
        refine D.qX (k := 7) rfl (by kernel_rfl) (by kernel_rfl) (by kernel_rfl) rfl rfl (Qt.move (by conv => lhs; whnf)) ?_
        refine D.qX (k := 8) rfl (by kernel_rfl) (by kernel_rfl) (by kernel_rfl) rfl rfl (Qt.move (by conv => lhs; whnf)) ?_
        refine D.qX (k := 9) rfl (by kernel_rfl) (by kernel_rfl) (by kernel_rfl) rfl rfl (Qt.add rfl rfl (by simp only [kmax]; omega)) ?_
        refine D.qX (k := 10) rfl (by kernel_rfl) (by kernel_rfl) (by kernel_rfl) rfl rfl (Qt.index Try.underlying22 Try.cells24 rfl rfl (by omega) (Has.blk (Has.at 0 rfl)) (by simp only [blkD_len]; omega)) ?_
        refine D.qX (k := 11) rfl (by kernel_rfl) (by kernel_rfl) (by kernel_rfl) rfl rfl (Qt.load rfl (Ld.sl (Has.blk (Has.at 0 rfl)) Try.one24 (blkD_get (by (try dsimp only); omega)))) ?_
        by_cases h51 : ltN e[first + root]! e[first + (2 * root + 1)]! = true
        · refine D.cX (k := 12) rfl (by kernel_rfl) (by kernel_rfl) (by kernel_rfl) rfl rfl (CalU.con0 Try.ent59 rfl (fun w hw => less_t h51 w)) ?_
          refine D.qX (k := 13) rfl (by kernel_rfl) (by kernel_rfl) (by kernel_rfl) rfl rfl (Qt.not_t rfl) ?_
          refine D.done (Sub.nil _) (by kernel_rfl) ?_
          refine S.if_f rfl ?_
          refine TC.skip ?_
          refine TC.seq ?_
          refine S.draw ([21, 23], []) Try.mixed (Sub.nil _) ?_
          refine D.qX (k := 0) rfl (by kernel_rfl) (by kernel_rfl) (by kernel_rfl) rfl rfl (Qt.move (by conv => lhs; whnf)) ?_
          refine D.qX (k := 1) rfl (by kernel_rfl) (by kernel_rfl) (by kernel_rfl) rfl rfl (Qt.move (by conv => lhs; whnf)) ?_
          refine D.qX (k := 2) rfl (by kernel_rfl) (by kernel_rfl) (by kernel_rfl) rfl rfl (Qt.move (by conv => lhs; whnf)) ?_
          refine D.qX (k := 3) rfl (by kernel_rfl) (by kernel_rfl) (by kernel_rfl) rfl rfl (Qt.add rfl rfl (by simp only [kmax]; omega)) ?_
          refine D.q (k := 4) rfl (by kernel_rfl) (by kernel_rfl) rfl rfl (Qt.move (by conv => lhs; whnf)) ?_
          refine D.q (k := 5) rfl (by kernel_rfl) (by kernel_rfl) rfl rfl (Qt.move (by conv => lhs; whnf)) ?_
          refine D.q (k := 6) rfl (by kernel_rfl) (by kernel_rfl) rfl rfl (Qt.move (by conv => lhs; whnf)) ?_
          refine D.q (k := 7) rfl (by kernel_rfl) (by kernel_rfl) rfl rfl (Qt.add rfl rfl (by simp only [kmax]; omega)) ?_
          refine D.qX (k := 8) rfl (by kernel_rfl) (by kernel_rfl) (by kernel_rfl) rfl rfl (Qt.move (by conv => lhs; whnf)) ?_
          refine D.qX (k := 9) rfl (by kernel_rfl) (by kernel_rfl) (by kernel_rfl) rfl rfl (Qt.move (by conv => lhs; whnf)) ?_
          refine D.qX (k := 10) rfl (by kernel_rfl) (by kernel_rfl) (by kernel_rfl) rfl rfl (Qt.move (by conv => lhs; whnf)) ?_
          refine D.qX (k := 11) rfl (by kernel_rfl) (by kernel_rfl) (by kernel_rfl) rfl rfl (Qt.add rfl rfl (by simp only [kmax]; omega)) ?_
          refine D.qX (k := 12) rfl (by kernel_rfl) (by kernel_rfl) (by kernel_rfl) rfl rfl (Qt.index Try.underlying22 Try.cells24 rfl rfl (by omega) (Has.blk (Has.at 0 rfl)) (by simp only [blkD_len]; omega)) ?_
          refine D.qX (k := 13) rfl (by kernel_rfl) (by kernel_rfl) (by kernel_rfl) rfl rfl (Qt.load rfl (Ld.sl (Has.blk (Has.at 0 rfl)) Try.one24 (blkD_get (by (try dsimp only); omega)))) ?_
          refine D.qX (k := 14) rfl (by kernel_rfl) (by kernel_rfl) (by kernel_rfl) rfl rfl (Qt.move (by conv => lhs; whnf)) ?_
          refine D.qX (k := 15) rfl (by kernel_rfl) (by kernel_rfl) (by kernel_rfl) rfl rfl (Qt.move (by conv => lhs; whnf)) ?_
          refine D.qX (k := 16) rfl (by kernel_rfl) (by kernel_rfl) (by kernel_rfl) rfl rfl (Qt.move (by conv => lhs; whnf)) ?_
          refine D.qX (k := 17) rfl (by kernel_rfl) (by kernel_rfl) (by kernel_rfl) rfl rfl (Qt.add rfl rfl (by simp only [kmax]; omega)) ?_
          refine D.qX (k := 18) rfl (by kernel_rfl) (by kernel_rfl) (by kernel_rfl) rfl rfl (Qt.index Try.underlying22 Try.cells24 rfl rfl (by omega) (Has.blk (Has.at 0 rfl)) (by simp only [blkD_len]; omega)) ?_
          refine D.qX (k := 19) rfl (by kernel_rfl) (by kernel_rfl) (by kernel_rfl) rfl rfl (Qt.load rfl (Ld.sl (Has.blk (Has.at 0 rfl)) Try.one24 (blkD_get (by (try dsimp only); omega)))) ?_
          refine D.qX (k := 20) rfl (by kernel_rfl) (by kernel_rfl) (by kernel_rfl) rfl rfl (Qt.index1 Try.underlying22 Try.cells24 rfl rfl (by omega) (Has.blk (Has.at 0 rfl)) (by simp only [blkD_len]; omega)) ?_
          refine D.opN (k := 21) (Sub.nil _) rfl (by kernel_rfl) (by kernel_rfl) rfl (OpV.storeE0 rfl (by conv => lhs; whnf) Try.cells24 rfl rfl (by simp only [blkD_len, Array.size_setIfInBounds]; omega) (blkD_set (by (try dsimp only); omega)) ⟨Sub.nil _, ?_⟩)
          refine D.qX (k := 22) rfl (by kernel_rfl) (by kernel_rfl) (by kernel_rfl) rfl rfl (Qt.index1 (i := first + (2 * root + 1)) Try.underlying22 Try.cells24 rfl rfl (by omega) (Has.blk (Has.at 0 rfl)) (by simp only [blkD_len, Array.size_setIfInBounds]; omega)) ?_
          refine D.opN (k := 23) (Sub.nil _) rfl (by kernel_rfl) (by kernel_rfl) rfl (OpV.storeE0 rfl (by conv => lhs; whnf) Try.cells24 rfl rfl (by simp only [blkD_len, Array.size_setIfInBounds]; omega) (blkD_set (by (try simp only [Array.size_setIfInBounds]); omega)) ⟨Sub.nil _, ?_⟩)
          refine D.done (Sub.nil _) (by kernel_rfl) ?_
          refine TC.region ?_
          refine S.q rfl rfl (Qt.move (by conv => lhs; whnf)) ?_
          refine S.q rfl rfl (Qt.assign (by conv => lhs; whnf)) ?_
          refine S.nil ?_
          refine ⟨((2 * root + 1), Go.Sort.swp e (first + root) (first + (2 * root + 1))), ?_, ?_, ⟨?_, (List.forall_mem_cons.2 ⟨rfl, (fun _ h => nomatch h)⟩)⟩, Sub.refl _⟩
          · exact ⟨by dsimp only; omega, (Go.Sort.swp_size _ _ _).trans he, by dsimp only; rw [← hq, sift_step h16 (by rw [hk]; exact h51), hk]⟩
          · show _ < _; dsimp only; omega
          repeat (first | exact Out.refl _ _ | refine Out.put rfl ?_ | refine Out.puts rfl ?_ | refine Out.scr ?_ | refine Out.scr' rfl ?_)
        · refine D.cX (k := 12) rfl (by kernel_rfl) (by kernel_rfl) (by kernel_rfl) rfl rfl (CalU.con0 Try.ent59 rfl (fun w hw => less_f h51 w)) ?_
          refine D.qX (k := 13) rfl (by kernel_rfl) (by kernel_rfl) (by kernel_rfl) rfl rfl (Qt.not_f rfl) ?_
          refine D.done (Sub.nil _) (by kernel_rfl) ?_
          refine S.if_t rfl ?_
          refine TC.ret ?_
          refine finQ.ret RVs.nil (Sub.refl _) ?_
          rw [← hq, sift_stop h16 (by rw [hk]; exact h51)]
          exact ⟨rfl, rfl⟩
    · refine D.qX (k := 4) rfl (by kernel_rfl) (by kernel_rfl) (by kernel_rfl) rfl rfl (Qt.move (by conv => lhs; whnf)) ?_
      refine D.pass (k := 5) rfl (by kernel_rfl) (by kernel_rfl) rfl rfl rfl ?_
      refine D.pass (k := 6) rfl (by kernel_rfl) (by kernel_rfl) rfl rfl rfl ?_
      refine D.pass (k := 7) rfl (by kernel_rfl) (by kernel_rfl) rfl rfl rfl ?_
      refine D.pass (k := 8) rfl (by kernel_rfl) (by kernel_rfl) rfl rfl rfl ?_
      refine D.pass (k := 9) rfl (by kernel_rfl) (by kernel_rfl) rfl rfl rfl ?_
      refine D.pass (k := 10) rfl (by kernel_rfl) (by kernel_rfl) rfl rfl rfl ?_
      refine D.pass (k := 11) rfl (by kernel_rfl) (by kernel_rfl) rfl rfl rfl ?_
      refine D.pass (k := 12) rfl (by kernel_rfl) (by kernel_rfl) rfl rfl rfl ?_
      refine D.pass (k := 13) rfl (by kernel_rfl) (by kernel_rfl) rfl rfl rfl ?_
      refine D.pass (k := 14) rfl (by kernel_rfl) (by kernel_rfl) rfl rfl rfl ?_
      refine D.pass (k := 15) rfl (by kernel_rfl) (by kernel_rfl) rfl rfl rfl ?_
      refine D.pass (k := 16) rfl (by kernel_rfl) (by kernel_rfl) rfl rfl rfl ?_
      refine D.pass (k := 17) rfl (by kernel_rfl) (by kernel_rfl) rfl rfl rfl ?_
      refine D.pass (k := 18) rfl (by kernel_rfl) (by kernel_rfl) rfl rfl rfl ?_
      refine D.qX (k := 19) rfl (by kernel_rfl) (by kernel_rfl) (by kernel_rfl) rfl rfl (Qt.pick_f rfl (by conv => lhs; whnf)) ?_
      refine D.done (Sub.nil _) (by kernel_rfl) ?_
      refine S.if_f rfl ?_
      refine TC.skip ?_
      refine TC.seq ?_
      refine TC.seq ?_
      refine S.draw ([], []) Try.mixed (Sub.nil _) ?_
      have hk : kid e hi first root = (2 * root + 1) := if_neg (fun hc => h20 hc.1)
      refine D.qX (k := 0) rfl (by kernel_rfl) (by kernel_rfl) (by kernel_rfl) rfl rfl (Qt.move (by conv => lhs; whnf)) ?_
      refine D.qX (k := 1) rfl (by kernel_rfl) (by kernel_rfl) (by kernel_rfl) rfl rfl (Qt.move (by conv => lhs; whnf)) ?_
      refine D.qX (k := 2) rfl (by kernel_rfl) (by kernel_rfl) (by kernel_rfl) rfl rfl (Qt.move (by conv => lhs; whnf)) ?_
      refine D.qX (k := 3) rfl (by kernel_rfl) (by kernel_rfl) (by kernel_rfl) rfl rfl (Qt.add rfl rfl (by simp only [kmax]; omega)) ?_
      refine D.qX (k := 4) rfl (by kernel_rfl) (by kernel_rfl) (by kernel_rfl) rfl rfl (Qt.index Try.underlying22 Try.cells24 rfl rfl (by omega) (Has.blk (Has.at 0 rfl)) (by simp only [blkD_len]; omega)) ?_
      refine D.qX (k := 5) rfl (by kernel_rfl) (by kernel_rfl) (by kernel_rfl) rfl rfl (Qt.load rfl (Ld.sl (Has.blk (Has.at 0 rfl)) Try.one24 (blkD_get (by (try dsimp only); omega)))) ?_
      refine D.qX (k := 6) rfl (by kernel_rfl) (by kernel_rfl) (by kernel_rfl) rfl rfl (Qt.move (by conv => lhs; whnf)) ?_
      refine D.qX (k := 7) rfl (by kernel_rfl) (by kernel_rfl) (by kernel_rfl) rfl rfl (Qt.move (by conv => lhs; whnf)) ?_
      refine D.qX (k := 8) rfl (by kernel_rfl) (by kernel_rfl) (by kernel_rfl) rfl rfl (Qt.move (by conv => lhs; whnf)) ?_
      refine D.qX (k := 9) rfl (by kernel_rfl) (by kernel_rfl) (by kernel_rfl) rfl rfl (Qt.add rfl rfl (by simp only [kmax]; omega)) ?_
      refine D.qX (k := 10) rfl (by kernel_rfl) (by kernel_rfl) (by kernel_rfl) rfl rfl (Qt.index Try.underlying22 Try.cells24 rfl rfl (by omega) (Has.blk (Has.at 0 rfl)) (by simp only [blkD_len]; omega)) ?_
      refine D.qX (k := 11) rfl (by kernel_rfl) (by kernel_rfl) (by kernel_rfl) rfl rfl (Qt.load rfl (Ld.sl (Has.blk (Has.at 0 rfl)) Try.one24 (blkD_get (by (try dsimp only); omega)))) ?_
      by_cases h51 : ltN e[first + root]! e[first + (2 * root + 1)]! = true
      · refine D.cX (k := 12) rfl (by kernel_rfl) (by kernel_rfl) (by kernel_rfl) rfl rfl (CalU.con0 Try.ent59 rfl (fun w hw => less_t h51 w)) ?_
        refine D.qX (k := 13) rfl (by kernel_rfl) (by kernel_rfl) (by kernel_rfl) rfl rfl (Qt.not_t rfl) ?_
        refine D.done (Sub.nil _) (by kernel_rfl) ?_
        refine S.if_f rfl ?_
        refine TC.skip ?_
        refine TC.seq ?_
        refine S.draw ([21, 23], []) Try.mixed (Sub.nil _) ?_
        refine D.qX (k := 0) rfl (by kernel_rfl) (by kernel_rfl) (by kernel_rfl) rfl rfl (Qt.move (by conv => lhs; whnf)) ?_
        refine D.qX (k := 1) rfl (by kernel_rfl) (by kernel_rfl) (by kernel_rfl) rfl rfl (Qt.move (by conv => lhs; whnf)) ?_
        refine D.qX (k := 2) rfl (by kernel_rfl) (by kernel_rfl) (by kernel_rfl) rfl rfl (Qt.move (by conv => lhs; whnf)) ?_
        refine D.qX (k := 3) rfl (by kernel_rfl) (by kernel_rfl) (by kernel_rfl) rfl rfl (Qt.add rfl rfl (by simp only [kmax]; omega)) ?_
        refine D.q (k := 4) rfl (by kernel_rfl) (by kernel_rfl) rfl rfl (Qt.move (by conv => lhs; whnf)) ?_
        refine D.q (k := 5) rfl (by kernel_rfl) (by kernel_rfl) rfl rfl (Qt.move (by conv => lhs; whnf)) ?_
        refine D.q (k := 6) rfl (by kernel_rfl) (by kernel_rfl) rfl rfl (Qt.move (by conv => lhs; whnf)) ?_
        refine D.q (k := 7) rfl (by kernel_rfl) (by kernel_rfl) rfl rfl (Qt.add rfl rfl (by simp only [kmax]; omega)) ?_
        refine D.qX (k := 8) rfl (by kernel_rfl) (by kernel_rfl) (by kernel_rfl) rfl rfl (Qt.move (by conv => lhs; whnf)) ?_
        refine D.qX (k := 9) rfl (by kernel_rfl) (by kernel_rfl) (by kernel_rfl) rfl rfl (Qt.move (by conv => lhs; whnf)) ?_
        refine D.qX (k := 10) rfl (by kernel_rfl) (by kernel_rfl) (by kernel_rfl) rfl rfl (Qt.move (by conv => lhs; whnf)) ?_
        refine D.qX (k := 11) rfl (by kernel_rfl) (by kernel_rfl) (by kernel_rfl) rfl rfl (Qt.add rfl rfl (by simp only [kmax]; omega)) ?_
        refine D.qX (k := 12) rfl (by kernel_rfl) (by kernel_rfl) (by kernel_rfl) rfl rfl (Qt.index Try.underlying22 Try.cells24 rfl rfl (by omega) (Has.blk (Has.at 0 rfl)) (by simp only [blkD_len]; omega)) ?_
        refine D.qX (k := 13) rfl (by kernel_rfl) (by kernel_rfl) (by kernel_rfl) rfl rfl (Qt.load rfl (Ld.sl (Has.blk (Has.at 0 rfl)) Try.one24 (blkD_get (by (try dsimp only); omega)))) ?_
        refine D.qX (k := 14) rfl (by kernel_rfl) (by kernel_rfl) (by kernel_rfl) rfl rfl (Qt.move (by conv => lhs; whnf)) ?_
        refine D.qX (k := 15) rfl (by kernel_rfl) (by kernel_rfl) (by kernel_rfl) rfl rfl (Qt.move (by conv => lhs; whnf)) ?_
        refine D.qX (k := 16) rfl (by kernel_rfl) (by kernel_rfl) (by kernel_rfl) rfl rfl (Qt.move (by conv => lhs; whnf)) ?_
        refine D.qX (k := 17) rfl (by kernel_rfl) (by kernel_rfl) (by kernel_rfl) rfl rfl (Qt.add rfl rfl (by simp only [kmax]; omega)) ?_
        refine D.qX (k := 18) rfl (by kernel_rfl) (by kernel_rfl) (by kernel_rfl) rfl rfl (Qt.index Try.underlying22 Try.cells24 rfl rfl (by omega) (Has.blk (Has.at 0 rfl)) (by simp only [blkD_len]; omega)) ?_
        refine D.qX (k := 19) rfl (by kernel_rfl) (by kernel_rfl) (by kernel_rfl) rfl rfl (Qt.load rfl (Ld.sl (Has.blk (Has.at 0 rfl)) Try.one24 (blkD_get (by (try dsimp only); omega)))) ?_
        refine D.qX (k := 20) rfl (by kernel_rfl) (by kernel_rfl) (by kernel_rfl) rfl rfl (Qt.index1 Try.underlying22 Try.cells24 rfl rfl (by omega) (Has.blk (Has.at 0 rfl)) (by simp only [blkD_len]; omega)) ?_
        refine D.opN (k := 21) (Sub.nil _) rfl (by kernel_rfl) (by kernel_rfl) rfl (OpV.storeE0 rfl (by conv => lhs; whnf) Try.cells24 rfl rfl (by simp only [blkD_len, Array.size_setIfInBounds]; omega) (blkD_set (by (try dsimp only); omega)) ⟨Sub.nil _, ?_⟩)
        refine D.qX (k := 22) rfl (by kernel_rfl) (by kernel_rfl) (by kernel_rfl) rfl rfl (Qt.index1 (i := first + (2 * root + 1)) Try.underlying22 Try.cells24 rfl rfl (by omega) (Has.blk (Has.at 0 rfl)) (by simp only [blkD_len, Array.size_setIfInBounds]; omega)) ?_
        refine D.opN (k := 23) (Sub.nil _) rfl (by kernel_rfl) (by kernel_rfl) rfl (OpV.storeE0 rfl (by conv => lhs; whnf) Try.cells24 rfl rfl (by simp only [blkD_len, Array.size_setIfInBounds]; omega) (blkD_set (by (try simp only [Array.size_setIfInBounds]); omega)) ⟨Sub.nil _, ?_⟩)
        refine D.done (Sub.nil _) (by kernel_rfl) ?_
        refine TC.region ?_
        refine S.q rfl rfl (Qt.move (by conv => lhs; whnf)) ?_
        refine S.q rfl rfl (Qt.assign (by conv => lhs; whnf)) ?_
        refine S.nil ?_
        refine ⟨((2 * root + 1), Go.Sort.swp e (first + root) (first + (2 * root + 1))), ?_, ?_, ⟨?_, (List.forall_mem_cons.2 ⟨rfl, (fun _ h => nomatch h)⟩)⟩, Sub.refl _⟩
        · exact ⟨by dsimp only; omega, (Go.Sort.swp_size _ _ _).trans he, by dsimp only; rw [← hq, sift_step h16 (by rw [hk]; exact h51), hk]⟩
        · show _ < _; dsimp only; omega
        repeat (first | exact Out.refl _ _ | refine Out.put rfl ?_ | refine Out.puts rfl ?_ | refine Out.scr ?_ | refine Out.scr' rfl ?_)
      · refine D.cX (k := 12) rfl (by kernel_rfl) (by kernel_rfl) (by kernel_rfl) rfl rfl (CalU.con0 Try.ent59 rfl (fun w hw => less_f h51 w)) ?_
        refine D.qX (k := 13) rfl (by kernel_rfl) (by kernel_rfl) (by kernel_rfl) rfl rfl (Qt.not_f rfl) ?_
        refine D.done (Sub.nil _) (by kernel_rfl) ?_
        refine S.if_t rfl ?_
        refine TC.ret ?_
        refine finQ.ret RVs.nil (Sub.refl _) ?_
        rw [← hq, sift_stop h16 (by rw [hk]; exact h51)]
        exact ⟨rfl, rfl⟩
set_option maxHeartbeats 1600000 in
theorem heap_walk (g n cp : Nat) (d : Array Nat) (r : List Value) (hn : d.size = n) (hm : n < 4294967296) (a b : Nat) (hab : a < b) (hb : b ≤ n) (w0 : World) (hL : Sat w0 [Blk g 24 (blkD (d) r)]) :
    Calls Try.prog 54 #[.slice (some ⟨g, 0, none⟩) n cp, .int .i64 ((a : Nat) : Int), .int .i64 ((b : Nat) : Int)] w0 (Post w0 (fps [Blk g 24 (blkD (d) r)]) fun v L => v = .tuple #[] ∧ L = [Blk g 24 (blkD (Go.Sort.heapSort ltN d a b) r)]) := by
  refine Calls.of (L := [Blk g 24 (blkD (d) r)]) (n := 56) (rs := []) Try.func54 rfl rfl rfl (Nat.le_of_ble_eq_true rfl) (hL) ?_
  refine TC.seq ?_
  refine TC.region ?_
  refine S.q rfl rfl (Qt.move (by conv => lhs; whnf)) ?_
  refine S.q rfl rfl (Qt.assign (by conv => lhs; whnf)) ?_
  refine S.nil ?_
  refine TC.seq ?_
  refine TC.region ?_
  refine S.q rfl rfl (Qt.assign (by conv => lhs; whnf)) ?_
  refine S.nil ?_
  refine TC.seq ?_
  refine TC.region ?_
  refine S.q rfl rfl (Qt.move (by conv => lhs; whnf)) ?_
  refine S.q rfl rfl (Qt.move (by conv => lhs; whnf)) ?_
  refine S.q rfl rfl (Qt.sub rfl rfl (by omega) (by simp only [kmax]; omega)) ?_
  refine S.q rfl rfl (Qt.assign (by conv => lhs; whnf)) ?_
  refine S.nil ?_
  refine TC.seq ?_
  refine TC.seq ?_
  refine TC.region ?_
  refine S.q rfl rfl (Qt.move (by conv => lhs; whnf)) ?_
  refine S.q rfl rfl (Qt.sub (b := 1) rfl rfl (by omega) (by simp only [kmax]; omega)) ?_
  refine S.q rfl rfl (Qt.quo (b := 2) rfl rfl (by omega) (by simp only [kmax]; omega)) ?_
  refine S.q rfl rfl (Qt.assign (by conv => lhs; whnf)) ?_
  refine S.nil ?_
  refine TC.block ?_
  refine TC.loop (γ := Nat × Array Nat) [18, 19, 22, 23, 24, 25, 26, 20, 21, 9] (fun q => [(9, .int .i64 (((q.1 : Nat) : Int) - 1))]) (fun q => [Blk g 24 (blkD q.2 r)]) (fun q => q.1 ≤ (b - a - 1) / 2 + 1 ∧ q.2.size = n ∧ Go.Sort.heapBuild ltN (b - a) a q.1 q.2 = Go.Sort.heapBuild ltN (b - a) a ((b - a - 1) / 2 + 1) d) (fun q => q.1) (((b - a - 1) / 2 + 1, d))
    ⟨Nat.le_refl _, hn, rfl⟩ ⟨Out.refl _ _, (List.forall_mem_cons.2 ⟨(by show Value.int .i64 _ = Value.int .i64 _; exact congrArg (Value.int .i64) (by dsimp only; omega)), (fun _ h => nomatch h)⟩)⟩ (Sub.refl _) ?_
  rintro ⟨k, e⟩ u ⟨hk, he, hq⟩
  dsimp only at hk he hq
  show TC _ _ _ (puts [(9, .int .i64 (((k : Nat) : Int) - 1))] (scr _ u _)) [Blk g 24 (blkD (e) r)]
  refine TC.seq ?_
  refine TC.seq ?_
  refine TC.region ?_
  refine S.q rfl rfl (Qt.move (by conv => lhs; whnf)) ?_
  refine S.dec rfl rfl (Qt.gei rfl rfl) (fun h19 => ?_) (fun h19 => ?_)
  · refine S.nil ?_
    refine S.if_t rfl ?_
    refine TC.skip ?_
    refine TC.seq ?_
    refine TC.block ?_
    refine TC.region ?_
    refine S.q rfl rfl (Qt.move (by conv => lhs; whnf)) ?_
    refine S.q rfl rfl (Qt.as (v' := .int .i64 ((k - 1 : Nat) : Int)) (Qt.move (by conv => lhs; whnf)) (congrArg (Value.int .i64) (by omega))) ?_
    refine S.q rfl rfl (Qt.move (by conv => lhs; whnf)) ?_
    refine S.q rfl rfl (Qt.move (by conv => lhs; whnf)) ?_
    refine S.opS rfl rfl (OpV.con (Pre := [Blk g 24 (blkD (e) r)]) (R := _) Try.ent64 rfl (List.Perm.refl _) (fun w hw => sift_walk g n cp e r he hm (k - 1) (b - a) a (by omega) (by omega) w hw.sat.left) ?_)
    rintro v L' ⟨rfl, rfl⟩
    refine S.nil ?_
    refine TC.region ?_
    refine S.q rfl rfl (Qt.as (v' := .int .i64 ((k - 1 : Nat) : Int)) (Qt.move (by conv => lhs; whnf)) (congrArg (Value.int .i64) (by omega))) ?_
    refine S.q rfl rfl (Qt.subi rfl rfl (IntWalk.i64_in _ (by omega))) ?_
    refine S.q rfl rfl (Qt.assign (by conv => lhs; whnf)) ?_
    refine S.nil ?_
    refine ⟨(k - 1, Go.Sort.siftDown ltN (b - a) a (k - 1) e), ?_, ?_, ⟨?_, (List.forall_mem_cons.2 ⟨rfl, (fun _ h => nomatch h)⟩)⟩, Sub.refl _⟩
    · exact ⟨by dsimp only; omega, (sift_size _ _ _ _).trans he, (hB_step (by omega)).symm.trans hq⟩
    · show _ < _; dsimp only; omega
    repeat (first | exact Out.refl _ _ | refine Out.put rfl ?_ | refine Out.puts rfl ?_ | refine Out.scr ?_ | refine Out.scr' rfl ?_)
  · refine S.nil ?_
    refine S.if_f rfl ?_
    refine TC.exit ?_
    refine TC.seq ?_
    refine TC.region ?_
    refine S.q rfl rfl (Qt.move (by conv => lhs; whnf)) ?_
    refine S.q rfl rfl (Qt.sub (b := 1) rfl rfl (by omega) (by simp only [kmax]; omega)) ?_
    refine S.q rfl rfl (Qt.assign (by conv => lhs; whnf)) ?_
    refine S.nil ?_
    refine TC.block ?_
    refine TC.loop (γ := Nat × Array Nat) [29, 30, 33, 34, 35, 36, 37, 38, 39, 40, 41, 42, 43, 44, 45, 46, 47, 48, 49, 50, 51, 52, 53, 54, 55, 31, 32, 10] (fun q => [(10, .int .i64 (((q.1 : Nat) : Int) - 1))]) (fun q => [Blk g 24 (blkD q.2 r)]) (fun q => q.1 ≤ b - a ∧ q.2.size = n ∧ Go.Sort.heapPop ltN a q.1 q.2 = Go.Sort.heapSort ltN d a b) (fun q => q.1) ((b - a, e))
      ⟨Nat.le_refl _, he, by dsimp only; rw [Go.Sort.heapSort, ← hq, hB_stop (by omega)]⟩ ⟨Out.refl _ _, (List.forall_mem_cons.2 ⟨(by show Value.int .i64 _ = Value.int .i64 _; exact congrArg (Value.int .i64) (by dsimp only; omega)), (fun _ h => nomatch h)⟩)⟩ (Sub.refl _) ?_
    rintro ⟨k, e⟩ u ⟨hk2, he2, hq2⟩
    dsimp only at hk2 he2 hq2
    show TC _ _ _ (puts [(10, .int .i64 (((k : Nat) : Int) - 1))] (scr _ u _)) [Blk g 24 (blkD (e) r)]
    refine TC.seq ?_
    refine TC.seq ?_
    refine TC.region ?_
    refine S.q rfl rfl (Qt.move (by conv => lhs; whnf)) ?_
    refine S.dec rfl rfl (Qt.gei rfl rfl) (fun h30 => ?_) (fun h30 => ?_)
    · refine S.nil ?_
      refine S.if_t rfl ?_
      refine TC.skip ?_
      refine TC.seq ?_
      refine TC.block ?_
      refine TC.seq ?_
      refine S.draw ([17, 19], []) Try.mixed (Sub.nil _) ?_
      refine D.qX (k := 0) rfl (by kernel_rfl) (by kernel_rfl) (by kernel_rfl) rfl rfl (Qt.move (by conv => lhs; whnf)) ?_
      refine D.qX (k := 1) rfl (by kernel_rfl) (by kernel_rfl) (by kernel_rfl) rfl rfl (Qt.move (by conv => lhs; whnf)) ?_
      refine D.q (k := 2) rfl (by kernel_rfl) (by kernel_rfl) rfl rfl (Qt.move (by conv => lhs; whnf)) ?_
      refine D.q (k := 3) rfl (by kernel_rfl) (by kernel_rfl) rfl rfl (Qt.move (by conv => lhs; whnf)) ?_
      refine D.q (k := 4) rfl (by kernel_rfl) (by kernel_rfl) rfl rfl (Qt.as (v' := .int .i64 ((k - 1 : Nat) : Int)) (Qt.move (by conv => lhs; whnf)) (congrArg (Value.int .i64) (by omega))) ?_
      refine D.q (k := 5) rfl (by kernel_rfl) (by kernel_rfl) rfl rfl (Qt.add rfl rfl (by simp only [kmax]; omega)) ?_
      refine D.qX (k := 6) rfl (by kernel_rfl) (by kernel_rfl) (by kernel_rfl) rfl rfl (Qt.move (by conv => lhs; whnf)) ?_
      refine D.qX (k := 7) rfl (by kernel_rfl) (by kernel_rfl) (by kernel_rfl) rfl rfl (Qt.move (by conv => lhs; whnf)) ?_
      refine D.qX (k := 8) rfl (by kernel_rfl) (by kernel_rfl) (by kernel_rfl) rfl rfl (Qt.as (v' := .int .i64 ((k - 1 : Nat) : Int)) (Qt.move (by conv => lhs; whnf)) (congrArg (Value.int .i64) (by omega))) ?_
      refine D.qX (k := 9) rfl (by kernel_rfl) (by kernel_rfl) (by kernel_rfl) rfl rfl (Qt.add rfl rfl (by simp only [kmax]; omega)) ?_
      refine D.qX (k := 10) rfl (by kernel_rfl) (by kernel_rfl) (by kernel_rfl) rfl rfl (Qt.index Try.underlying22 Try.cells24 rfl rfl (by omega) (Has.blk (Has.at 0 rfl)) (by simp only [blkD_len]; omega)) ?_
      refine D.qX (k := 11) rfl (by kernel_rfl) (by kernel_rfl) (by kernel_rfl) rfl rfl (Qt.load rfl (Ld.sl (Has.blk (Has.at 0 rfl)) Try.one24 (blkD_get (by (try dsimp only); omega)))) ?_
      refine D.qX (k := 12) rfl (by kernel_rfl) (by kernel_rfl) (by kernel_rfl) rfl rfl (Qt.move (by conv => lhs; whnf)) ?_
      refine D.qX (k := 13) rfl (by kernel_rfl) (by kernel_rfl) (by kernel_rfl) rfl rfl (Qt.move (by conv => lhs; whnf)) ?_
      refine D.qX (k := 14) rfl (by kernel_rfl) (by kernel_rfl) (by kernel_rfl) rfl rfl (Qt.index Try.underlying22 Try.cells24 rfl rfl (by omega) (Has.blk (Has.at 0 rfl)) (by simp only [blkD_len]; omega)) ?_
      refine D.qX (k := 15) rfl (by kernel_rfl) (by kernel_rfl) (by kernel_rfl) rfl rfl (Qt.load rfl (Ld.sl (Has.blk (Has.at 0 rfl)) Try.one24 (blkD_get (by (try dsimp only); omega)))) ?_
      refine D.qX (k := 16) rfl (by kernel_rfl) (by kernel_rfl) (by kernel_rfl) rfl rfl (Qt.index1 Try.underlying22 Try.cells24 rfl rfl (by omega) (Has.blk (Has.at 0 rfl)) (by simp only [blkD_len]; omega)) ?_
      refine D.opN (k := 17) (Sub.nil _) rfl (by kernel_rfl) (by kernel_rfl) rfl (OpV.storeE0 rfl (by conv => lhs; whnf) Try.cells24 rfl rfl (by simp only [blkD_len, Array.size_setIfInBounds]; omega) (blkD_set (by (try dsimp only); omega)) ⟨Sub.nil _, ?_⟩)
      refine D.qX (k := 18) rfl (by kernel_rfl) (by kernel_rfl) (by kernel_rfl) rfl rfl (Qt.index1 (i := a + (k - 1)) Try.underlying22 Try.cells24 rfl rfl (by omega) (Has.blk (Has.at 0 rfl)) (by simp only [blkD_len, Array.size_setIfInBounds]; omega)) ?_
      refine D.opN (k := 19) (Sub.nil _) rfl (by kernel_rfl) (by kernel_rfl) rfl (OpV.storeE0 rfl (by conv => lhs; whnf) Try.cells24 rfl rfl (by simp only [blkD_len, Array.size_setIfInBounds]; omega) (blkD_set (by (try simp only [Array.size_setIfInBounds]); omega)) ⟨Sub.nil _, ?_⟩)
      refine D.done (Sub.nil _) (by kernel_rfl) ?_
      refine TC.region ?_
      refine S.q rfl rfl (Qt.move (by conv => lhs; whnf)) ?_
      refine S.q rfl rfl (Qt.move (by conv => lhs; whnf)) ?_
      refine S.q rfl rfl (Qt.as (v' := .int .i64 ((k - 1 : Nat) : Int)) (Qt.move (by conv => lhs; whnf)) (congrArg (Value.int .i64) (by omega))) ?_
      refine S.q rfl rfl (Qt.move (by conv => lhs; whnf)) ?_
      refine S.opS rfl rfl (OpV.con (Pre := [Blk g 24 (blkD (Go.Sort.swp e a (a + (k - 1))) r)]) (R := _) Try.ent64 rfl (List.Perm.refl _) (fun w hw => sift_walk g n cp (Go.Sort.swp e a (a + (k - 1))) r ((Go.Sort.swp_size _ _ _).trans he2) hm 0 (k - 1) a (by omega) (by omega) w hw.sat.left) ?_)
      rintro v L' ⟨rfl, rfl⟩
      refine S.nil ?_
      refine TC.region ?_
      refine S.q rfl rfl (Qt.as (v' := .int .i64 ((k - 1 : Nat) : Int)) (Qt.move (by conv => lhs; whnf)) (congrArg (Value.int .i64) (by omega))) ?_
      refine S.q rfl rfl (Qt.subi rfl rfl (IntWalk.i64_in _ (by omega))) ?_
      refine S.q rfl rfl (Qt.assign (by conv => lhs; whnf)) ?_
      refine S.nil ?_
      refine ⟨(k - 1, Go.Sort.siftDown ltN (k - 1) a 0 (Go.Sort.swp e a (a + (k - 1)))), ?_, ?_, ⟨?_, (List.forall_mem_cons.2 ⟨rfl, (fun _ h => nomatch h)⟩)⟩, Sub.refl _⟩
      · exact ⟨by dsimp only; omega, (sift_size _ _ _ _).trans ((Go.Sort.swp_size _ _ _).trans he2), (hP_step (by omega)).symm.trans hq2⟩
      · show _ < _; dsimp only; omega
      repeat (first | exact Out.refl _ _ | refine Out.put rfl ?_ | refine Out.puts rfl ?_ | refine Out.scr ?_ | refine Out.scr' rfl ?_)
    · refine S.nil ?_
      refine S.if_f rfl ?_
      refine TC.exit ?_
      refine finQ.normal RVs.nil (Sub.refl _) ?_
      rw [← hq2, hP_stop (by omega)]
      exact ⟨rfl, rfl⟩
end Go.Proofs.Ytaoicbjgkghnnaa
namespace Go.Proofs.Ytaoicbjgkghnnaa
open Go.E
set_option linter.unusedVariables false
set_option maxRecDepth 4000


set_option maxHeartbeats 1600000 in
theorem part_walk (g n cp : Nat) (d : Array Nat) (r : List Value) (hn : d.size = n) (hm : n < 4294967296) (a b pv : Nat) (hp1 : a ≤ pv) (hp2 : pv < b) (hb : b ≤ n) (w0 : World) (hL : Sat w0 [Blk g 24 (blkD (d) r)]) :
    Calls Try.prog 61 #[.slice (some ⟨g, 0, none⟩) n cp, .int .i64 ((a : Nat) : Int), .int .i64 ((b : Nat) : Int), .int .i64 ((pv : Nat) : Int)] w0 (Post w0 (fps [Blk g 24 (blkD (d) r)]) fun v L => v = .tuple #[.int .i64 (((Go.Sort.partition ltN d a b pv).1 : Nat) : Int), .bool (Go.Sort.partition ltN d a b pv).2.1] ∧ L = [Blk g 24 (blkD ((Go.Sort.partition ltN d a b pv).2.2) r)]) := by
  refine Calls.of (L := [Blk g 24 (blkD (d) r)]) (n := 168) (rs := [.tmp 8, .tmp 9]) Try.func61 rfl rfl rfl (Nat.le_of_ble_eq_true rfl) (hL) ?_
  refine TC.seq ?_
  refine TC.region ?_
  refine S.q rfl rfl (Qt.assign (by conv => lhs; whnf)) ?_
  refine S.q rfl rfl (Qt.assign (by conv => lhs; whnf)) ?_
  refine S.nil ?_
  refine TC.seq ?_
  refine S.draw ([13, 15], []) Try.mixed (Sub.nil _) ?_
  refine D.qX (k := 0) rfl (by kernel_rfl) (by kernel_rfl) (by kernel_rfl) rfl rfl (Qt.move (by conv => lhs; whnf)) ?_
  refine D.qX (k := 1) rfl (by kernel_rfl) (by kernel_rfl) (by kernel_rfl) rfl rfl (Qt.move (by conv => lhs; whnf)) ?_
  refine D.q (k := 2) rfl (by kernel_rfl) (by kernel_rfl) rfl rfl (Qt.move (by conv => lhs; whnf)) ?_
  refine D.q (k := 3) rfl (by kernel_rfl) (by kernel_rfl) rfl rfl (Qt.move (by conv => lhs; whnf)) ?_
  refine D.qX (k := 4) rfl (by kernel_rfl) (by kernel_rfl) (by kernel_rfl) rfl rfl (Qt.move (by conv => lhs; whnf)) ?_
  refine D.qX (k := 5) rfl (by kernel_rfl) (by kernel_rfl) (by kernel_rfl) rfl rfl (Qt.move (by conv => lhs; whnf)) ?_
  refine D.qX (k := 6) rfl (by kernel_rfl) (by kernel_rfl) (by kernel_rfl) rfl rfl (Qt.index Try.underlying22 Try.cells24 rfl rfl (by omega) (Has.blk (Has.at 0 rfl)) (by simp only [blkD_len]; omega)) ?_
  refine D.qX (k := 7) rfl (by kernel_rfl) (by kernel_rfl) (by kernel_rfl) rfl rfl (Qt.load rfl (Ld.sl (Has.blk (Has.at 0 rfl)) Try.one24 (blkD_get (by (try dsimp only); omega)))) ?_
  refine D.qX (k := 8) rfl (by kernel_rfl) (by kernel_rfl) (by kernel_rfl) rfl rfl (Qt.move (by conv => lhs; whnf)) ?_
  refine D.qX (k := 9) rfl (by kernel_rfl) (by kernel_rfl) (by kernel_rfl) rfl rfl (Qt.move (by conv => lhs; whnf)) ?_
  refine D.qX (k := 10) rfl (by kernel_rfl) (by kernel_rfl) (by kernel_rfl) rfl rfl (Qt.index Try.underlying22 Try.cells24 rfl rfl (by omega) (Has.blk (Has.at 0 rfl)) (by simp only [blkD_len]; omega)) ?_
  refine D.qX (k := 11) rfl (by kernel_rfl) (by kernel_rfl) (by kernel_rfl) rfl rfl (Qt.load rfl (Ld.sl (Has.blk (Has.at 0 rfl)) Try.one24 (blkD_get (by (try dsimp only); omega)))) ?_
  refine D.qX (k := 12) rfl (by kernel_rfl) (by kernel_rfl) (by kernel_rfl) rfl rfl (Qt.index1 Try.underlying22 Try.cells24 rfl rfl (by omega) (Has.blk (Has.at 0 rfl)) (by simp only [blkD_len]; omega)) ?_
  refine D.opN (k := 13) (Sub.nil _) rfl (by kernel_rfl) (by kernel_rfl) rfl (OpV.storeE0 rfl (by conv => lhs; whnf) Try.cells24 rfl rfl (by simp only [blkD_len, Array.size_setIfInBounds]; omega) (blkD_set (by (try dsimp only); omega)) ⟨Sub.nil _, ?_⟩)
  refine D.qX (k := 14) rfl (by kernel_rfl) (by kernel_rfl) (by kernel_rfl) rfl rfl (Qt.index1 (i := pv) Try.underlying22 Try.cells24 rfl rfl (by omega) (Has.blk (Has.at 0 rfl)) (by simp only [blkD_len, Array.size_setIfInBounds]; omega)) ?_
  refine D.opN (k := 15) (Sub.nil _) rfl (by kernel_rfl) (by kernel_rfl) rfl (OpV.storeE0 rfl (by conv => lhs; whnf) Try.cells24 rfl rfl (by simp only [blkD_len, Array.size_setIfInBounds]; omega) (blkD_set (by (try simp only [Array.size_setIfInBounds]); omega)) ⟨Sub.nil _, ?_⟩)
  refine D.done (Sub.nil _) (by kernel_rfl) ?_
  refine TC.seq ?_
  refine TC.region ?_
  refine S.q rfl rfl (Qt.move (by conv => lhs; whnf)) ?_
  refine S.q rfl rfl (Qt.add (b := 1) rfl rfl (by simp only [kmax]; omega)) ?_
  refine S.q rfl rfl (Qt.move (by conv => lhs; whnf)) ?_
  refine S.q rfl rfl (Qt.sub (b := 1) rfl rfl (by omega) (by simp only [kmax]; omega)) ?_
  refine S.q rfl rfl (Qt.assign (by conv => lhs; whnf)) ?_
  refine S.q rfl rfl (Qt.assign (by conv => lhs; whnf)) ?_
  refine S.nil ?_
  refine TC.cutseq (γ := Nat × Array Nat) [30, 31, 32, 33, 34, 35, 36, 37, 38, 39, 40, 41, 42, 43, 44, 45, 10] (fun q => [(10, .int .i64 ((q.1 : Nat) : Int))]) (fun q => [Blk g 24 (blkD q.2 r)]) (fun q => a + 1 ≤ q.1 ∧ q.1 ≤ b ∧ q.2.size = n ∧ q.2 = Go.Sort.swp d a pv ∧ upL q.2 a (b - 1) (a + 1) = q.1) ?_ ?_
  · refine TC.block ?_
    refine TC.loop (γ := Nat × Array Nat) [30, 31, 32, 33, 34, 35, 36, 37, 38, 39, 40, 41, 42, 43, 44, 45, 10] (fun q => [(10, .int .i64 ((q.1 : Nat) : Int))]) (fun q => [Blk g 24 (blkD q.2 r)]) (fun q => a + 1 ≤ q.1 ∧ q.1 ≤ b ∧ q.2.size = n ∧ q.2 = Go.Sort.swp d a pv ∧ upL q.2 a (b - 1) q.1 = upL q.2 a (b - 1) (a + 1)) (fun q => b - q.1) ((a + 1, Go.Sort.swp d a pv))
      ⟨Nat.le_refl _, by dsimp only; omega, (Go.Sort.swp_size _ _ _).trans hn, rfl, rfl⟩ ⟨Out.refl _ _, (List.forall_mem_cons.2 ⟨rfl, (fun _ h => nomatch h)⟩)⟩ (Sub.refl _) ?_
    rintro ⟨i, e⟩ u ⟨hi, hib, he, hse, hui⟩
    dsimp only at hi hib he hse hui
    show TC _ _ _ (puts [(10, .int .i64 ((i : Nat) : Int))] (scr _ u _)) [Blk g 24 (blkD (e) r)]
    refine TC.seq ?_
    refine TC.seq ?_
    refine S.draw ([], []) Try.mixed (Sub.nil _) ?_
    refine D.qX (k := 0) rfl (by kernel_rfl) (by kernel_rfl) (by kernel_rfl) rfl rfl (Qt.move (by conv => lhs; whnf)) ?_
    refine D.qX (k := 1) rfl (by kernel_rfl) (by kernel_rfl) (by kernel_rfl) rfl rfl (Qt.move (by conv => lhs; whnf)) ?_
    refine D.decX (k := 2) rfl (by kernel_rfl) (by kernel_rfl) (by kernel_rfl) rfl rfl (Qt.le rfl rfl) (fun h32 => ?_) (fun h32 => ?_)
    · refine D.qX (k := 3) rfl (by kernel_rfl) (by kernel_rfl) (by kernel_rfl) rfl rfl (Qt.move (by conv => lhs; whnf)) ?_
      refine D.qgX (k := 4) rfl (by kernel_rfl) (by kernel_rfl) (by kernel_rfl) rfl rfl rfl (Qt.move (by conv => lhs; whnf)) ?_
      refine D.qgX (k := 5) rfl (by kernel_rfl) (by kernel_rfl) (by kernel_rfl) rfl rfl rfl (Qt.move (by conv => lhs; whnf)) ?_
      refine D.qgX (k := 6) rfl (by kernel_rfl) (by kernel_rfl) (by kernel_rfl) rfl rfl rfl (Qt.index Try.underlying22 Try.cells24 rfl rfl (by omega) (Has.blk (Has.at 0 rfl)) (by simp only [blkD_len]; omega)) ?_
      refine D.qgX (k := 7) rfl (by kernel_rfl) (by kernel_rfl) (by kernel_rfl) rfl rfl rfl (Qt.load rfl (Ld.sl (Has.blk (Has.at 0 rfl)) Try.one24 (blkD_get (by (try dsimp only); omega)))) ?_
      refine D.qgX (k := 8) rfl (by kernel_rfl) (by kernel_rfl) (by kernel_rfl) rfl rfl rfl (Qt.move (by conv => lhs; whnf)) ?_
      refine D.qgX (k := 9) rfl (by kernel_rfl) (by kernel_rfl) (by kernel_rfl) rfl rfl rfl (Qt.move (by conv => lhs; whnf)) ?_
      refine D.qgX (k := 10) rfl (by kernel_rfl) (by kernel_rfl) (by kernel_rfl) rfl rfl rfl (Qt.index Try.underlying22 Try.cells24 rfl rfl (by omega) (Has.blk (Has.at 0 rfl)) (by simp only [blkD_len]; omega)) ?_
      refine D.qgX (k := 11) rfl (by kernel_rfl) (by kernel_rfl) (by kernel_rfl) rfl rfl rfl (Qt.load rfl (Ld.sl (Has.blk (Has.at 0 rfl)) Try.one24 (blkD_get (by (try dsimp only); omega)))) ?_
      by_cases h42 : ltN e[i]! e[a]! = true
      · refine D.cgX (k := 12) rfl (by kernel_rfl) (by kernel_rfl) (by kernel_rfl) rfl rfl rfl (CalU.con0 Try.ent59 rfl (fun w hw => less_t h42 w)) ?_
        refine D.qX (k := 13) rfl (by kernel_rfl) (by kernel_rfl) (by kernel_rfl) rfl rfl (Qt.pick_t rfl (by conv => lhs; whnf)) ?_
        refine D.done (Sub.nil _) (by kernel_rfl) ?_
        refine S.if_t rfl ?_
        refine TC.skip ?_
        refine TC.block ?_
        refine TC.region ?_
        refine S.q rfl rfl (Qt.move (by conv => lhs; whnf)) ?_
        refine S.q rfl rfl (Qt.add (b := 1) rfl rfl (by simp only [kmax]; omega)) ?_
        refine S.q rfl rfl (Qt.assign (by conv => lhs; whnf)) ?_
        refine S.nil ?_
        refine ⟨(i + 1, e), ?_, ?_, ⟨?_, (List.forall_mem_cons.2 ⟨rfl, (fun _ h => nomatch h)⟩)⟩, Sub.refl _⟩
        · exact ⟨by dsimp only; omega, by dsimp only; omega, he, hse, (upL_step h32 h42).symm.trans hui⟩
        · show _ < _; dsimp only; omega
        repeat (first | exact Out.refl _ _ | refine Out.put rfl ?_ | refine Out.puts rfl ?_ | refine Out.scr ?_ | refine Out.scr' rfl ?_)
      · refine D.cgX (k := 12) rfl (by kernel_rfl) (by kernel_rfl) (by kernel_rfl) rfl rfl rfl (CalU.con0 Try.ent59 rfl (fun w hw => less_f h42 w)) ?_
        refine D.qX (k := 13) rfl (by kernel_rfl) (by kernel_rfl) (by kernel_rfl) rfl rfl (Qt.pick_t rfl (by conv => lhs; whnf)) ?_
        refine D.done (Sub.nil _) (by kernel_rfl) ?_
        refine S.if_f rfl ?_
        refine TC.exit ?_
        refine ⟨(i, e), ?_, ⟨?_, (List.forall_mem_cons.2 ⟨rfl, (fun _ h => nomatch h)⟩)⟩, Sub.refl _⟩
        · exact ⟨hi, hib, he, hse, by rw [← hui, upL_stop2 (Bool.eq_false_iff.2 h42)]⟩
        repeat (first | exact Out.refl _ _ | refine Out.put rfl ?_ | refine Out.puts rfl ?_ | refine Out.scr ?_ | refine Out.scr' rfl ?_)
    · refine D.qX (k := 3) rfl (by kernel_rfl) (by kernel_rfl) (by kernel_rfl) rfl rfl (Qt.move (by conv => lhs; whnf)) ?_
      refine D.pass (k := 4) rfl (by kernel_rfl) (by kernel_rfl) rfl rfl rfl ?_
      refine D.pass (k := 5) rfl (by kernel_rfl) (by kernel_rfl) rfl rfl rfl ?_
      refine D.pass (k := 6) rfl (by kernel_rfl) (by kernel_rfl) rfl rfl rfl ?_
      refine D.pass (k := 7) rfl (by kernel_rfl) (by kernel_rfl) rfl rfl rfl ?_
      refine D.pass (k := 8) rfl (by kernel_rfl) (by kernel_rfl) rfl rfl rfl ?_
      refine D.pass (k := 9) rfl (by kernel_rfl) (by kernel_rfl) rfl rfl rfl ?_
      refine D.pass (k := 10) rfl (by kernel_rfl) (by kernel_rfl) rfl rfl rfl ?_
      refine D.pass (k := 11) rfl (by kernel_rfl) (by kernel_rfl) rfl rfl rfl ?_
      refine D.pass (k := 12) rfl (by kernel_rfl) (by kernel_rfl) rfl rfl rfl ?_
      refine D.qX (k := 13) rfl (by kernel_rfl) (by kernel_rfl) (by kernel_rfl) rfl rfl (Qt.pick_f rfl (by conv => lhs; whnf)) ?_
      refine D.done (Sub.nil _) (by kernel_rfl) ?_
      refine S.if_f rfl ?_
      refine TC.exit ?_
      refine ⟨(i, e), ?_, ⟨?_, (List.forall_mem_cons.2 ⟨rfl, (fun _ h => nomatch h)⟩)⟩, Sub.refl _⟩
      · exact ⟨hi, hib, he, hse, by rw [← hui, upL_stop1 h32]⟩
      repeat (first | exact Out.refl _ _ | refine Out.put rfl ?_ | refine Out.puts rfl ?_ | refine Out.scr ?_ | refine Out.scr' rfl ?_)
  · rintro ⟨i, e⟩ u ⟨hi, hib, he, hse, hU⟩
    dsimp only at hi hib he hse hU
    show TC _ _ _ (puts [(10, .int .i64 ((i : Nat) : Int))] (scr _ u _)) [Blk g 24 (blkD (e) r)]
    refine TC.cutseq (γ := Nat) [46, 47, 48, 49, 50, 51, 52, 53, 54, 55, 56, 57, 58, 59, 60, 61, 62, 11] (fun j => [(11, .int .i64 ((j : Nat) : Int))]) (fun j => [Blk g 24 (blkD e r)]) (fun j => j ≤ (b - 1) ∧ i ≤ j + 1 ∧ dnL e a i (b - 1) = j) ?_ ?_
    · refine TC.block ?_
      refine TC.loop (γ := Nat) [46, 47, 48, 49, 50, 51, 52, 53, 54, 55, 56, 57, 58, 59, 60, 61, 62, 11] (fun j => [(11, .int .i64 ((j : Nat) : Int))]) (fun _ => _) (fun j => j ≤ b - 1 ∧ i ≤ j + 1 ∧ dnL e a i j = dnL e a i (b - 1)) (fun j => j) (b - 1)
        ⟨Nat.le_refl _, by omega, rfl⟩ ⟨Out.refl _ _, (List.forall_mem_cons.2 ⟨rfl, (fun _ h => nomatch h)⟩)⟩ (Sub.refl _) ?_
      rintro j u ⟨hj, hij, hdj⟩
      refine TC.seq ?_
      refine TC.seq ?_
      refine S.draw ([], []) Try.mixed (Sub.nil _) ?_
      refine D.qX (k := 0) rfl (by kernel_rfl) (by kernel_rfl) (by kernel_rfl) rfl rfl (Qt.move (by conv => lhs; whnf)) ?_
      refine D.qX (k := 1) rfl (by kernel_rfl) (by kernel_rfl) (by kernel_rfl) rfl rfl (Qt.move (by conv => lhs; whnf)) ?_
      refine D.decX (k := 2) rfl (by kernel_rfl) (by kernel_rfl) (by kernel_rfl) rfl rfl (Qt.le rfl rfl) (fun h48 => ?_) (fun h48 => ?_)
      · refine D.qX (k := 3) rfl (by kernel_rfl) (by kernel_rfl) (by kernel_rfl) rfl rfl (Qt.move (by conv => lhs; whnf)) ?_
        refine D.qgX (k := 4) rfl (by kernel_rfl) (by kernel_rfl) (by kernel_rfl) rfl rfl rfl (Qt.move (by conv => lhs; whnf)) ?_
        refine D.qgX (k := 5) rfl (by kernel_rfl) (by kernel_rfl) (by kernel_rfl) rfl rfl rfl (Qt.move (by conv => lhs; whnf)) ?_
        refine D.qgX (k := 6) rfl (by kernel_rfl) (by kernel_rfl) (by kernel_rfl) rfl rfl rfl (Qt.index Try.underlying22 Try.cells24 rfl rfl (by omega) (Has.blk (Has.at 0 rfl)) (by simp only [blkD_len]; omega)) ?_
        refine D.qgX (k := 7) rfl (by kernel_rfl) (by kernel_rfl) (by kernel_rfl) rfl rfl rfl (Qt.load rfl (Ld.sl (Has.blk (Has.at 0 rfl)) Try.one24 (blkD_get (by (try dsimp only); omega)))) ?_
        refine D.qgX (k := 8) rfl (by kernel_rfl) (by kernel_rfl) (by kernel_rfl) rfl rfl rfl (Qt.move (by conv => lhs; whnf)) ?_
        refine D.qgX (k := 9) rfl (by kernel_rfl) (by kernel_rfl) (by kernel_rfl) rfl rfl rfl (Qt.move (by conv => lhs; whnf)) ?_
        refine D.qgX (k := 10) rfl (by kernel_rfl) (by kernel_rfl) (by kernel_rfl) rfl rfl rfl (Qt.index Try.underlying22 Try.cells24 rfl rfl (by omega) (Has.blk (Has.at 0 rfl)) (by simp only [blkD_len]; omega)) ?_
        refine D.qgX (k := 11) rfl (by kernel_rfl) (by kernel_rfl) (by kernel_rfl) rfl rfl rfl (Qt.load rfl (Ld.sl (Has.blk (Has.at 0 rfl)) Try.one24 (blkD_get (by (try dsimp only); omega)))) ?_
        by_cases h58 : ltN e[j]! e[a]! = true
        · refine D.cgX (k := 12) rfl (by kernel_rfl) (by kernel_rfl) (by kernel_rfl) rfl rfl rfl (CalU.con0 Try.ent59 rfl (fun w hw => less_t h58 w)) ?_
          refine D.qgX (k := 13) rfl (by kernel_rfl) (by kernel_rfl) (by kernel_rfl) rfl rfl rfl (Qt.not_t rfl) ?_
          refine D.qX (k := 14) rfl (by kernel_rfl) (by kernel_rfl) (by kernel_rfl) rfl rfl (Qt.pick_t rfl (by conv => lhs; whnf)) ?_
          refine D.done (Sub.nil _) (by kernel_rfl) ?_
          refine S.if_f rfl ?_
          refine TC.exit ?_
          refine ⟨j, ?_, ⟨?_, (List.forall_mem_cons.2 ⟨rfl, (fun _ h => nomatch h)⟩)⟩, Sub.refl _⟩
          · exact ⟨hj, hij, by rw [← hdj, dnL_stop2 (by rw [h58]; rfl)]⟩
          repeat (first | exact Out.refl _ _ | refine Out.put rfl ?_ | refine Out.puts rfl ?_ | refine Out.scr ?_ | refine Out.scr' rfl ?_)
        · refine D.cgX (k := 12) rfl (by kernel_rfl) (by kernel_rfl) (by kernel_rfl) rfl rfl rfl (CalU.con0 Try.ent59 rfl (fun w hw => less_f h58 w)) ?_
          refine D.qgX (k := 13) rfl (by kernel_rfl) (by kernel_rfl) (by kernel_rfl) rfl rfl rfl (Qt.not_f rfl) ?_
          refine D.qX (k := 14) rfl (by kernel_rfl) (by kernel_rfl) (by kernel_rfl) rfl rfl (Qt.pick_t rfl (by conv => lhs; whnf)) ?_
          refine D.done (Sub.nil _) (by kernel_rfl) ?_
          refine S.if_t rfl ?_
          refine TC.skip ?_
          refine TC.block ?_
          refine TC.region ?_
          refine S.q rfl rfl (Qt.move (by conv => lhs; whnf)) ?_
          refine S.q rfl rfl (Qt.sub (b := 1) rfl rfl (by omega) (by simp only [kmax]; omega)) ?_
          refine S.q rfl rfl (Qt.assign (by conv => lhs; whnf)) ?_
          refine S.nil ?_
          refine ⟨j - 1, ?_, ?_, ⟨?_, (List.forall_mem_cons.2 ⟨rfl, (fun _ h => nomatch h)⟩)⟩, Sub.refl _⟩
          · exact ⟨by omega, by omega, (dnL_step h48 (by omega) (by rw [Bool.eq_false_iff.2 h58]; rfl)).symm.trans hdj⟩
          · show _ < _; dsimp only; omega
          repeat (first | exact Out.refl _ _ | refine Out.put rfl ?_ | refine Out.puts rfl ?_ | refine Out.scr ?_ | refine Out.scr' rfl ?_)
      · refine D.qX (k := 3) rfl (by kernel_rfl) (by kernel_rfl) (by kernel_rfl) rfl rfl (Qt.move (by conv => lhs; whnf)) ?_
        refine D.pass (k := 4) rfl (by kernel_rfl) (by kernel_rfl) rfl rfl rfl ?_
        refine D.pass (k := 5) rfl (by kernel_rfl) (by kernel_rfl) rfl rfl rfl ?_
        refine D.pass (k := 6) rfl (by kernel_rfl) (by kernel_rfl) rfl rfl rfl ?_
        refine D.pass (k := 7) rfl (by kernel_rfl) (by kernel_rfl) rfl rfl rfl ?_
        refine D.pass (k := 8) rfl (by kernel_rfl) (by kernel_rfl) rfl rfl rfl ?_
        refine D.pass (k := 9) rfl (by kernel_rfl) (by kernel_rfl) rfl rfl rfl ?_
        refine D.pass (k := 10) rfl (by kernel_rfl) (by kernel_rfl) rfl rfl rfl ?_
        refine D.pass (k := 11) rfl (by kernel_rfl) (by kernel_rfl) rfl rfl rfl ?_
        refine D.pass (k := 12) rfl (by kernel_rfl) (by kernel_rfl) rfl rfl rfl ?_
        refine D.pass (k := 13) rfl (by kernel_rfl) (by kernel_rfl) rfl rfl rfl ?_
        refine D.qX (k := 14) rfl (by kernel_rfl) (by kernel_rfl) (by kernel_rfl) rfl rfl (Qt.pick_f rfl (by conv => lhs; whnf)) ?_
        refine D.done (Sub.nil _) (by kernel_rfl) ?_
        refine S.if_f rfl ?_
        refine TC.exit ?_
        refine ⟨j, ?_, ⟨?_, (List.forall_mem_cons.2 ⟨rfl, (fun _ h => nomatch h)⟩)⟩, Sub.refl _⟩
        · exact ⟨hj, hij, by rw [← hdj, dnL_stop1 h48]⟩
        repeat (first | exact Out.refl _ _ | refine Out.put rfl ?_ | refine Out.puts rfl ?_ | refine Out.scr ?_ | refine Out.scr' rfl ?_)
    · rintro j u ⟨hj, hij, hD⟩
      refine TC.seq ?_
      refine TC.seq ?_
      refine TC.region ?_
      refine S.q rfl rfl (Qt.move (by conv => lhs; whnf)) ?_
      refine S.q rfl rfl (Qt.move (by conv => lhs; whnf)) ?_
      refine S.dec rfl rfl (Qt.gt rfl rfl) (fun h65 => ?_) (fun h65 => ?_)
      · refine S.nil ?_
        refine S.if_t rfl ?_
        refine TC.seq ?_
        refine S.draw ([13, 15], []) Try.mixed (Sub.nil _) ?_
        refine D.qX (k := 0) rfl (by kernel_rfl) (by kernel_rfl) (by kernel_rfl) rfl rfl (Qt.move (by conv => lhs; whnf)) ?_
        refine D.qX (k := 1) rfl (by kernel_rfl) (by kernel_rfl) (by kernel_rfl) rfl rfl (Qt.move (by conv => lhs; whnf)) ?_
        refine D.q (k := 2) rfl (by kernel_rfl) (by kernel_rfl) rfl rfl (Qt.move (by conv => lhs; whnf)) ?_
        refine D.q (k := 3) rfl (by kernel_rfl) (by kernel_rfl) rfl rfl (Qt.move (by conv => lhs; whnf)) ?_
        refine D.qX (k := 4) rfl (by kernel_rfl) (by kernel_rfl) (by kernel_rfl) rfl rfl (Qt.move (by conv => lhs; whnf)) ?_
        refine D.qX (k := 5) rfl (by kernel_rfl) (by kernel_rfl) (by kernel_rfl) rfl rfl (Qt.move (by conv => lhs; whnf)) ?_
        refine D.qX (k := 6) rfl (by kernel_rfl) (by kernel_rfl) (by kernel_rfl) rfl rfl (Qt.index Try.underlying22 Try.cells24 rfl rfl (by omega) (Has.blk (Has.at 0 rfl)) (by simp only [blkD_len]; omega)) ?_
        refine D.qX (k := 7) rfl (by kernel_rfl) (by kernel_rfl) (by kernel_rfl) rfl rfl (Qt.load rfl (Ld.sl (Has.blk (Has.at 0 rfl)) Try.one24 (blkD_get (by (try dsimp only); omega)))) ?_
        refine D.qX (k := 8) rfl (by kernel_rfl) (by kernel_rfl) (by kernel_rfl) rfl rfl (Qt.move (by conv => lhs; whnf)) ?_
        refine D.qX (k := 9) rfl (by kernel_rfl) (by kernel_rfl) (by kernel_rfl) rfl rfl (Qt.move (by conv => lhs; whnf)) ?_
        refine D.qX (k := 10) rfl (by kernel_rfl) (by kernel_rfl) (by kernel_rfl) rfl rfl (Qt.index Try.underlying22 Try.cells24 rfl rfl (by omega) (Has.blk (Has.at 0 rfl)) (by simp only [blkD_len]; omega)) ?_
        refine D.qX (k := 11) rfl (by kernel_rfl) (by kernel_rfl) (by kernel_rfl) rfl rfl (Qt.load rfl (Ld.sl (Has.blk (Has.at 0 rfl)) Try.one24 (blkD_get (by (try dsimp only); omega)))) ?_
        refine D.qX (k := 12) rfl (by kernel_rfl) (by kernel_rfl) (by kernel_rfl) rfl rfl (Qt.index1 Try.underlying22 Try.cells24 rfl rfl (by omega) (Has.blk (Has.at 0 rfl)) (by simp only [blkD_len]; omega)) ?_
        refine D.opN (k := 13) (Sub.nil _) rfl (by kernel_rfl) (by kernel_rfl) rfl (OpV.storeE0 rfl (by conv => lhs; whnf) Try.cells24 rfl rfl (by simp only [blkD_len, Array.size_setIfInBounds]; omega) (blkD_set (by (try dsimp only); omega)) ⟨Sub.nil _, ?_⟩)
        refine D.qX (k := 14) rfl (by kernel_rfl) (by kernel_rfl) (by kernel_rfl) rfl rfl (Qt.index1 (i := a) Try.underlying22 Try.cells24 rfl rfl (by omega) (Has.blk (Has.at 0 rfl)) (by simp only [blkD_len, Array.size_setIfInBounds]; omega)) ?_
        refine D.opN (k := 15) (Sub.nil _) rfl (by kernel_rfl) (by kernel_rfl) rfl (OpV.storeE0 rfl (by conv => lhs; whnf) Try.cells24 rfl rfl (by simp only [blkD_len, Array.size_setIfInBounds]; omega) (blkD_set (by (try simp only [Array.size_setIfInBounds]); omega)) ⟨Sub.nil _, ?_⟩)
        refine D.done (Sub.nil _) (by kernel_rfl) ?_
        refine TC.seq ?_
        refine TC.region ?_
        refine S.q rfl rfl (Qt.move (by conv => lhs; whnf)) ?_
        refine S.q rfl rfl (Qt.assign (by conv => lhs; whnf)) ?_
        refine S.q rfl rfl (Qt.assign (by conv => lhs; whnf)) ?_
        refine S.nil ?_
        refine TC.ret ?_
        refine finQ.ret (RVs.tmp (by conv => lhs; whnf) (RVs.tmp (by conv => lhs; whnf) RVs.nil)) (Sub.refl _) ?_
        rw [part_done hse hU hD h65]
        exact ⟨rfl, rfl⟩
      · refine S.nil ?_
        refine S.if_f rfl ?_
        refine TC.skip ?_
        refine TC.seq ?_
        refine S.draw ([13, 15], []) Try.mixed (Sub.nil _) ?_
        refine D.qX (k := 0) rfl (by kernel_rfl) (by kernel_rfl) (by kernel_rfl) rfl rfl (Qt.move (by conv => lhs; whnf)) ?_
        refine D.qX (k := 1) rfl (by kernel_rfl) (by kernel_rfl) (by kernel_rfl) rfl rfl (Qt.move (by conv => lhs; whnf)) ?_
        refine D.q (k := 2) rfl (by kernel_rfl) (by kernel_rfl) rfl rfl (Qt.move (by conv => lhs; whnf)) ?_
        refine D.q (k := 3) rfl (by kernel_rfl) (by kernel_rfl) rfl rfl (Qt.move (by conv => lhs; whnf)) ?_
        refine D.qX (k := 4) rfl (by kernel_rfl) (by kernel_rfl) (by kernel_rfl) rfl rfl (Qt.move (by conv => lhs; whnf)) ?_
        refine D.qX (k := 5) rfl (by kernel_rfl) (by kernel_rfl) (by kernel_rfl) rfl rfl (Qt.move (by conv => lhs; whnf)) ?_
        refine D.qX (k := 6) rfl (by kernel_rfl) (by kernel_rfl) (by kernel_rfl) rfl rfl (Qt.index Try.underlying22 Try.cells24 rfl rfl (by omega) (Has.blk (Has.at 0 rfl)) (by simp only [blkD_len]; omega)) ?_
        refine D.qX (k := 7) rfl (by kernel_rfl) (by kernel_rfl) (by kernel_rfl) rfl rfl (Qt.load rfl (Ld.sl (Has.blk (Has.at 0 rfl)) Try.one24 (blkD_get (by (try dsimp only); omega)))) ?_
        refine D.qX (k := 8) rfl (by kernel_rfl) (by kernel_rfl) (by kernel_rfl) rfl rfl (Qt.move (by conv => lhs; whnf)) ?_
        refine D.qX (k := 9) rfl (by kernel_rfl) (by kernel_rfl) (by kernel_rfl) rfl rfl (Qt.move (by conv => lhs; whnf)) ?_
        refine D.qX (k := 10) rfl (by kernel_rfl) (by kernel_rfl) (by kernel_rfl) rfl rfl (Qt.index Try.underlying22 Try.cells24 rfl rfl (by omega) (Has.blk (Has.at 0 rfl)) (by simp only [blkD_len]; omega)) ?_
        refine D.qX (k := 11) rfl (by kernel_rfl) (by kernel_rfl) (by kernel_rfl) rfl rfl (Qt.load rfl (Ld.sl (Has.blk (Has.at 0 rfl)) Try.one24 (blkD_get (by (try dsimp only); omega)))) ?_
        refine D.qX (k := 12) rfl (by kernel_rfl) (by kernel_rfl) (by kernel_rfl) rfl rfl (Qt.index1 Try.underlying22 Try.cells24 rfl rfl (by omega) (Has.blk (Has.at 0 rfl)) (by simp only [blkD_len]; omega)) ?_
        refine D.opN (k := 13) (Sub.nil _) rfl (by kernel_rfl) (by kernel_rfl) rfl (OpV.storeE0 rfl (by conv => lhs; whnf) Try.cells24 rfl rfl (by simp only [blkD_len, Array.size_setIfInBounds]; omega) (blkD_set (by (try dsimp only); omega)) ⟨Sub.nil _, ?_⟩)
        refine D.qX (k := 14) rfl (by kernel_rfl) (by kernel_rfl) (by kernel_rfl) rfl rfl (Qt.index1 (i := j) Try.underlying22 Try.cells24 rfl rfl (by omega) (Has.blk (Has.at 0 rfl)) (by simp only [blkD_len, Array.size_setIfInBounds]; omega)) ?_
        refine D.opN (k := 15) (Sub.nil _) rfl (by kernel_rfl) (by kernel_rfl) rfl (OpV.storeE0 rfl (by conv => lhs; whnf) Try.cells24 rfl rfl (by simp only [blkD_len, Array.size_setIfInBounds]; omega) (blkD_set (by (try simp only [Array.size_setIfInBounds]); omega)) ⟨Sub.nil _, ?_⟩)
        refine D.done (Sub.nil _) (by kernel_rfl) ?_
        refine TC.seq ?_
        refine TC.region ?_
        refine S.q rfl rfl (Qt.move (by conv => lhs; whnf)) ?_
        refine S.q rfl rfl (Qt.add (b := 1) rfl rfl (by simp only [kmax]; omega)) ?_
        refine S.q rfl rfl (Qt.assign (by conv => lhs; whnf)) ?_
        refine S.nil ?_
        refine TC.seq ?_
        refine TC.region ?_
        refine S.q rfl rfl (Qt.move (by conv => lhs; whnf)) ?_
        refine S.q rfl rfl (Qt.sub (b := 1) rfl rfl (by omega) (by simp only [kmax]; omega)) ?_
        refine S.q rfl rfl (Qt.assign (by conv => lhs; whnf)) ?_
        refine S.nil ?_
        refine TC.seq ?_
        refine TC.block ?_
        refine TC.loop (γ := Nat × Nat × Array Nat) [99, 100, 101, 102, 103, 104, 105, 106, 107, 108, 109, 110, 111, 112, 113, 114, 10, 115, 116, 117, 118, 119, 120, 121, 122, 123, 124, 125, 126, 127, 128, 129, 130, 131, 11, 132, 133, 134, 135, 136, 137, 138, 139, 140, 141, 142, 143, 144, 145, 146, 147, 148, 149, 150, 151, 152] (fun q => [(10, .int .i64 ((q.1 : Nat) : Int)), (11, .int .i64 ((q.2.1 : Nat) : Int))]) (fun q => [Blk g 24 (blkD q.2.2 r)]) (fun q => a + 1 ≤ q.1 ∧ q.1 ≤ q.2.1 + 2 ∧ q.2.1 ≤ b - 1 ∧ q.2.2.size = n ∧ Go.Sort.partLoop ltN a q.1 q.2.1 q.2.2 = Go.Sort.partLoop ltN a (i + 1) (j - 1) (Go.Sort.swp e i j)) (fun q => q.2.1 + 2 - q.1) ((i + 1, j - 1, Go.Sort.swp e i j))
          ⟨by dsimp only; omega, by dsimp only; omega, by dsimp only; omega, (Go.Sort.swp_size _ _ _).trans he, rfl⟩ ⟨Out.refl _ _, (List.forall_mem_cons.2 ⟨rfl, (List.forall_mem_cons.2 ⟨rfl, (fun _ h => nomatch h)⟩)⟩)⟩ (Sub.refl _) ?_
        rintro ⟨i2, j2, f⟩ u ⟨hi2, hij2, hj2, hf, hq⟩
        dsimp only at hi2 hij2 hj2 hf hq
        show TC _ _ _ (puts [(10, .int .i64 ((i2 : Nat) : Int)), (11, .int .i64 ((j2 : Nat) : Int))] (scr _ u _)) [Blk g 24 (blkD (f) r)]
        refine TC.block ?_
        refine TC.cutseq (γ := Nat) [99, 100, 101, 102, 103, 104, 105, 106, 107, 108, 109, 110, 111, 112, 113, 114, 10] (fun k => [(10, .int .i64 ((k : Nat) : Int))]) (fun k => [Blk g 24 (blkD f r)]) (fun k => i2 ≤ k ∧ k ≤ j2 + 2 ∧ upL f a j2 i2 = k) ?_ ?_
        · refine TC.block ?_
          refine TC.loop (γ := Nat) [99, 100, 101, 102, 103, 104, 105, 106, 107, 108, 109, 110, 111, 112, 113, 114, 10] (fun k => [(10, .int .i64 ((k : Nat) : Int))]) (fun _ => _) (fun k => i2 ≤ k ∧ k ≤ j2 + 2 ∧ upL f a j2 k = upL f a j2 i2) (fun k => j2 + 2 - k) (i2)
            ⟨Nat.le_refl _, by omega, rfl⟩ ⟨Out.refl _ _, (List.forall_mem_cons.2 ⟨rfl, (fun _ h => nomatch h)⟩)⟩ (Sub.refl _) ?_
          rintro k u ⟨hk, hkj, huk⟩
          refine TC.seq ?_
          refine TC.seq ?_
          refine S.draw ([], []) Try.mixed (Sub.nil _) ?_
          refine D.qX (k := 0) rfl (by kernel_rfl) (by kernel_rfl) (by kernel_rfl) rfl rfl (Qt.move (by conv => lhs; whnf)) ?_
          refine D.qX (k := 1) rfl (by kernel_rfl) (by kernel_rfl) (by kernel_rfl) rfl rfl (Qt.move (by conv => lhs; whnf)) ?_
          refine D.decX (k := 2) rfl (by kernel_rfl) (by kernel_rfl) (by kernel_rfl) rfl rfl (Qt.le rfl rfl) (fun h101 => ?_) (fun h101 => ?_)
          · refine D.qX (k := 3) rfl (by kernel_rfl) (by kernel_rfl) (by kernel_rfl) rfl rfl (Qt.move (by conv => lhs; whnf)) ?_
            refine D.qgX (k := 4) rfl (by kernel_rfl) (by kernel_rfl) (by kernel_rfl) rfl rfl rfl (Qt.move (by conv => lhs; whnf)) ?_
            refine D.qgX (k := 5) rfl (by kernel_rfl) (by kernel_rfl) (by kernel_rfl) rfl rfl rfl (Qt.move (by conv => lhs; whnf)) ?_
            refine D.qgX (k := 6) rfl (by kernel_rfl) (by kernel_rfl) (by kernel_rfl) rfl rfl rfl (Qt.index Try.underlying22 Try.cells24 rfl rfl (by omega) (Has.blk (Has.at 0 rfl)) (by simp only [blkD_len]; omega)) ?_
            refine D.qgX (k := 7) rfl (by kernel_rfl) (by kernel_rfl) (by kernel_rfl) rfl rfl rfl (Qt.load rfl (Ld.sl (Has.blk (Has.at 0 rfl)) Try.one24 (blkD_get (by (try dsimp only); omega)))) ?_
            refine D.qgX (k := 8) rfl (by kernel_rfl) (by kernel_rfl) (by kernel_rfl) rfl rfl rfl (Qt.move (by conv => lhs; whnf)) ?_
            refine D.qgX (k := 9) rfl (by kernel_rfl) (by kernel_rfl) (by kernel_rfl) rfl rfl rfl (Qt.move (by conv => lhs; whnf)) ?_
            refine D.qgX (k := 10) rfl (by kernel_rfl) (by kernel_rfl) (by kernel_rfl) rfl rfl rfl (Qt.index Try.underlying22 Try.cells24 rfl rfl (by omega) (Has.blk (Has.at 0 rfl)) (by simp only [blkD_len]; omega)) ?_
            refine D.qgX (k := 11) rfl (by kernel_rfl) (by kernel_rfl) (by kernel_rfl) rfl rfl rfl (Qt.load rfl (Ld.sl (Has.blk (Has.at 0 rfl)) Try.one24 (blkD_get (by (try dsimp only); omega)))) ?_
            by_cases h111 : ltN f[k]! f[a]! = true
            · refine D.cgX (k := 12) rfl (by kernel_rfl) (by kernel_rfl) (by kernel_rfl) rfl rfl rfl (CalU.con0 Try.ent59 rfl (fun w hw => less_t h111 w)) ?_
              refine D.qX (k := 13) rfl (by kernel_rfl) (by kernel_rfl) (by kernel_rfl) rfl rfl (Qt.pick_t rfl (by conv => lhs; whnf)) ?_
              refine D.done (Sub.nil _) (by kernel_rfl) ?_
              refine S.if_t rfl ?_
              refine TC.skip ?_
              refine TC.block ?_
              refine TC.region ?_
              refine S.q rfl rfl (Qt.move (by conv => lhs; whnf)) ?_
              refine S.q rfl rfl (Qt.add (b := 1) rfl rfl (by simp only [kmax]; omega)) ?_
              refine S.q rfl rfl (Qt.assign (by conv => lhs; whnf)) ?_
              refine S.nil ?_
              refine ⟨k + 1, ?_, ?_, ⟨?_, (List.forall_mem_cons.2 ⟨rfl, (fun _ h => nomatch h)⟩)⟩, Sub.refl _⟩
              · exact ⟨by omega, by omega, (upL_step h101 h111).symm.trans huk⟩
              · show _ < _; dsimp only; omega
              repeat (first | exact Out.refl _ _ | refine Out.put rfl ?_ | refine Out.puts rfl ?_ | refine Out.scr ?_ | refine Out.scr' rfl ?_)
            · refine D.cgX (k := 12) rfl (by kernel_rfl) (by kernel_rfl) (by kernel_rfl) rfl rfl rfl (CalU.con0 Try.ent59 rfl (fun w hw => less_f h111 w)) ?_
              refine D.qX (k := 13) rfl (by kernel_rfl) (by kernel_rfl) (by kernel_rfl) rfl rfl (Qt.pick_t rfl (by conv => lhs; whnf)) ?_
              refine D.done (Sub.nil _) (by kernel_rfl) ?_
              refine S.if_f rfl ?_
              refine TC.exit ?_
              refine ⟨k, ?_, ⟨?_, (List.forall_mem_cons.2 ⟨rfl, (fun _ h => nomatch h)⟩)⟩, Sub.refl _⟩
              · exact ⟨hk, hkj, by rw [← huk, upL_stop2 (Bool.eq_false_iff.2 h111)]⟩
              repeat (first | exact Out.refl _ _ | refine Out.put rfl ?_ | refine Out.puts rfl ?_ | refine Out.scr ?_ | refine Out.scr' rfl ?_)
          · refine D.qX (k := 3) rfl (by kernel_rfl) (by kernel_rfl) (by kernel_rfl) rfl rfl (Qt.move (by conv => lhs; whnf)) ?_
            refine D.pass (k := 4) rfl (by kernel_rfl) (by kernel_rfl) rfl rfl rfl ?_
            refine D.pass (k := 5) rfl (by kernel_rfl) (by kernel_rfl) rfl rfl rfl ?_
            refine D.pass (k := 6) rfl (by kernel_rfl) (by kernel_rfl) rfl rfl rfl ?_
            refine D.pass (k := 7) rfl (by kernel_rfl) (by kernel_rfl) rfl rfl rfl ?_
            refine D.pass (k := 8) rfl (by kernel_rfl) (by kernel_rfl) rfl rfl rfl ?_
            refine D.pass (k := 9) rfl (by kernel_rfl) (by kernel_rfl) rfl rfl rfl ?_
            refine D.pass (k := 10) rfl (by kernel_rfl) (by kernel_rfl) rfl rfl rfl ?_
            refine D.pass (k := 11) rfl (by kernel_rfl) (by kernel_rfl) rfl rfl rfl ?_
            refine D.pass (k := 12) rfl (by kernel_rfl) (by kernel_rfl) rfl rfl rfl ?_
            refine D.qX (k := 13) rfl (by kernel_rfl) (by kernel_rfl) (by kernel_rfl) rfl rfl (Qt.pick_f rfl (by conv => lhs; whnf)) ?_
            refine D.done (Sub.nil _) (by kernel_rfl) ?_
            refine S.if_f rfl ?_
            refine TC.exit ?_
            refine ⟨k, ?_, ⟨?_, (List.forall_mem_cons.2 ⟨rfl, (fun _ h => nomatch h)⟩)⟩, Sub.refl _⟩
            · exact ⟨hk, hkj, by rw [← huk, upL_stop1 h101]⟩
            repeat (first | exact Out.refl _ _ | refine Out.put rfl ?_ | refine Out.puts rfl ?_ | refine Out.scr ?_ | refine Out.scr' rfl ?_)
        · rintro k u ⟨hk, hkj, hU2⟩
          refine TC.cutseq (γ := Nat) [115, 116, 117, 118, 119, 120, 121, 122, 123, 124, 125, 126, 127, 128, 129, 130, 131, 11] (fun l => [(11, .int .i64 ((l : Nat) : Int))]) (fun l => [Blk g 24 (blkD f r)]) (fun l => l ≤ j2 ∧ k ≤ l + 2 ∧ dnL f a k j2 = l) ?_ ?_
          · refine TC.block ?_
            refine TC.loop (γ := Nat) [115, 116, 117, 118, 119, 120, 121, 122, 123, 124, 125, 126, 127, 128, 129, 130, 131, 11] (fun l => [(11, .int .i64 ((l : Nat) : Int))]) (fun _ => _) (fun l => l ≤ j2 ∧ k ≤ l + 2 ∧ dnL f a k l = dnL f a k j2) (fun l => l) (j2)
              ⟨Nat.le_refl _, by omega, rfl⟩ ⟨Out.refl _ _, (List.forall_mem_cons.2 ⟨rfl, (fun _ h => nomatch h)⟩)⟩ (Sub.refl _) ?_
            rintro l u ⟨hl, hkl, hdl⟩
            refine TC.seq ?_
            refine TC.seq ?_
            refine S.draw ([], []) Try.mixed (Sub.nil _) ?_
            refine D.qX (k := 0) rfl (by kernel_rfl) (by kernel_rfl) (by kernel_rfl) rfl rfl (Qt.move (by conv => lhs; whnf)) ?_
            refine D.qX (k := 1) rfl (by kernel_rfl) (by kernel_rfl) (by kernel_rfl) rfl rfl (Qt.move (by conv => lhs; whnf)) ?_
            refine D.decX (k := 2) rfl (by kernel_rfl) (by kernel_rfl) (by kernel_rfl) rfl rfl (Qt.le rfl rfl) (fun h117 => ?_) (fun h117 => ?_)
            · refine D.qX (k := 3) rfl (by kernel_rfl) (by kernel_rfl) (by kernel_rfl) rfl rfl (Qt.move (by conv => lhs; whnf)) ?_
              refine D.qgX (k := 4) rfl (by kernel_rfl) (by kernel_rfl) (by kernel_rfl) rfl rfl rfl (Qt.move (by conv => lhs; whnf)) ?_
              refine D.qgX (k := 5) rfl (by kernel_rfl) (by kernel_rfl) (by kernel_rfl) rfl rfl rfl (Qt.move (by conv => lhs; whnf)) ?_
              refine D.qgX (k := 6) rfl (by kernel_rfl) (by kernel_rfl) (by kernel_rfl) rfl rfl rfl (Qt.index Try.underlying22 Try.cells24 rfl rfl (by omega) (Has.blk (Has.at 0 rfl)) (by simp only [blkD_len]; omega)) ?_
              refine D.qgX (k := 7) rfl (by kernel_rfl) (by kernel_rfl) (by kernel_rfl) rfl rfl rfl (Qt.load rfl (Ld.sl (Has.blk (Has.at 0 rfl)) Try.one24 (blkD_get (by (try dsimp only); omega)))) ?_
              refine D.qgX (k := 8) rfl (by kernel_rfl) (by kernel_rfl) (by kernel_rfl) rfl rfl rfl (Qt.move (by conv => lhs; whnf)) ?_
              refine D.qgX (k := 9) rfl (by kernel_rfl) (by kernel_rfl) (by kernel_rfl) rfl rfl rfl (Qt.move (by conv => lhs; whnf)) ?_
              refine D.qgX (k := 10) rfl (by kernel_rfl) (by kernel_rfl) (by kernel_rfl) rfl rfl rfl (Qt.index Try.underlying22 Try.cells24 rfl rfl (by omega) (Has.blk (Has.at 0 rfl)) (by simp only [blkD_len]; omega)) ?_
              refine D.qgX (k := 11) rfl (by kernel_rfl) (by kernel_rfl) (by kernel_rfl) rfl rfl rfl (Qt.load rfl (Ld.sl (Has.blk (Has.at 0 rfl)) Try.one24 (blkD_get (by (try dsimp only); omega)))) ?_
              by_cases h127 : ltN f[l]! f[a]! = true
              · refine D.cgX (k := 12) rfl (by kernel_rfl) (by kernel_rfl) (by kernel_rfl) rfl rfl rfl (CalU.con0 Try.ent59 rfl (fun w hw => less_t h127 w)) ?_
                refine D.qgX (k := 13) rfl (by kernel_rfl) (by kernel_rfl) (by kernel_rfl) rfl rfl rfl (Qt.not_t rfl) ?_
                refine D.qX (k := 14) rfl (by kernel_rfl) (by kernel_rfl) (by kernel_rfl) rfl rfl (Qt.pick_t rfl (by conv => lhs; whnf)) ?_
                refine D.done (Sub.nil _) (by kernel_rfl) ?_
                refine S.if_f rfl ?_
                refine TC.exit ?_
                refine ⟨l, ?_, ⟨?_, (List.forall_mem_cons.2 ⟨rfl, (fun _ h => nomatch h)⟩)⟩, Sub.refl _⟩
                · exact ⟨hl, hkl, by rw [← hdl, dnL_stop2 (by rw [h127]; rfl)]⟩
                repeat (first | exact Out.refl _ _ | refine Out.put rfl ?_ | refine Out.puts rfl ?_ | refine Out.scr ?_ | refine Out.scr' rfl ?_)
              · refine D.cgX (k := 12) rfl (by kernel_rfl) (by kernel_rfl) (by kernel_rfl) rfl rfl rfl (CalU.con0 Try.ent59 rfl (fun w hw => less_f h127 w)) ?_
                refine D.qgX (k := 13) rfl (by kernel_rfl) (by kernel_rfl) (by kernel_rfl) rfl rfl rfl (Qt.not_f rfl) ?_
                refine D.qX (k := 14) rfl (by kernel_rfl) (by kernel_rfl) (by kernel_rfl) rfl rfl (Qt.pick_t rfl (by conv => lhs; whnf)) ?_
                refine D.done (Sub.nil _) (by kernel_rfl) ?_
                refine S.if_t rfl ?_
                refine TC.skip ?_
                refine TC.block ?_
                refine TC.region ?_
                refine S.q rfl rfl (Qt.move (by conv => lhs; whnf)) ?_
                refine S.q rfl rfl (Qt.sub (b := 1) rfl rfl (by omega) (by simp only [kmax]; omega)) ?_
                refine S.q rfl rfl (Qt.assign (by conv => lhs; whnf)) ?_
                refine S.nil ?_
                refine ⟨l - 1, ?_, ?_, ⟨?_, (List.forall_mem_cons.2 ⟨rfl, (fun _ h => nomatch h)⟩)⟩, Sub.refl _⟩
                · exact ⟨by omega, by omega, (dnL_step h117 (by omega) (by rw [Bool.eq_false_iff.2 h127]; rfl)).symm.trans hdl⟩
                · show _ < _; dsimp only; omega
                repeat (first | exact Out.refl _ _ | refine Out.put rfl ?_ | refine Out.puts rfl ?_ | refine Out.scr ?_ | refine Out.scr' rfl ?_)
            · refine D.qX (k := 3) rfl (by kernel_rfl) (by kernel_rfl) (by kernel_rfl) rfl rfl (Qt.move (by conv => lhs; whnf)) ?_
              refine D.pass (k := 4) rfl (by kernel_rfl) (by kernel_rfl) rfl rfl rfl ?_
              refine D.pass (k := 5) rfl (by kernel_rfl) (by kernel_rfl) rfl rfl rfl ?_
              refine D.pass (k := 6) rfl (by kernel_rfl) (by kernel_rfl) rfl rfl rfl ?_
              refine D.pass (k := 7) rfl (by kernel_rfl) (by kernel_rfl) rfl rfl rfl ?_
              refine D.pass (k := 8) rfl (by kernel_rfl) (by kernel_rfl) rfl rfl rfl ?_
              refine D.pass (k := 9) rfl (by kernel_rfl) (by kernel_rfl) rfl rfl rfl ?_
              refine D.pass (k := 10) rfl (by kernel_rfl) (by kernel_rfl) rfl rfl rfl ?_
              refine D.pass (k := 11) rfl (by kernel_rfl) (by kernel_rfl) rfl rfl rfl ?_
              refine D.pass (k := 12) rfl (by kernel_rfl) (by kernel_rfl) rfl rfl rfl ?_
              refine D.pass (k := 13) rfl (by kernel_rfl) (by kernel_rfl) rfl rfl rfl ?_
              refine D.qX (k := 14) rfl (by kernel_rfl) (by kernel_rfl) (by kernel_rfl) rfl rfl (Qt.pick_f rfl (by conv => lhs; whnf)) ?_
              refine D.done (Sub.nil _) (by kernel_rfl) ?_
              refine S.if_f rfl ?_
              refine TC.exit ?_
              refine ⟨l, ?_, ⟨?_, (List.forall_mem_cons.2 ⟨rfl, (fun _ h => nomatch h)⟩)⟩, Sub.refl _⟩
              · exact ⟨hl, hkl, by rw [← hdl, dnL_stop1 h117]⟩
              repeat (first | exact Out.refl _ _ | refine Out.put rfl ?_ | refine Out.puts rfl ?_ | refine Out.scr ?_ | refine Out.scr' rfl ?_)
          · rintro l u ⟨hl, hkl, hD2⟩
            refine TC.seq ?_
            refine TC.seq ?_
            refine TC.region ?_
            refine S.q rfl rfl (Qt.move (by conv => lhs; whnf)) ?_
            refine S.q rfl rfl (Qt.move (by conv => lhs; whnf)) ?_
            refine S.dec rfl rfl (Qt.gt rfl rfl) (fun h134 => ?_) (fun h134 => ?_)
            · refine S.nil ?_
              refine S.if_t rfl ?_
              refine TC.exit ?_
              refine TC.seq ?_
              refine S.draw ([13, 15], []) Try.mixed (Sub.nil _) ?_
              refine D.qX (k := 0) rfl (by kernel_rfl) (by kernel_rfl) (by kernel_rfl) rfl rfl (Qt.move (by conv => lhs; whnf)) ?_
              refine D.qX (k := 1) rfl (by kernel_rfl) (by kernel_rfl) (by kernel_rfl) rfl rfl (Qt.move (by conv => lhs; whnf)) ?_
              refine D.q (k := 2) rfl (by kernel_rfl) (by kernel_rfl) rfl rfl (Qt.move (by conv => lhs; whnf)) ?_
              refine D.q (k := 3) rfl (by kernel_rfl) (by kernel_rfl) rfl rfl (Qt.move (by conv => lhs; whnf)) ?_
              refine D.qX (k := 4) rfl (by kernel_rfl) (by kernel_rfl) (by kernel_rfl) rfl rfl (Qt.move (by conv => lhs; whnf)) ?_
              refine D.qX (k := 5) rfl (by kernel_rfl) (by kernel_rfl) (by kernel_rfl) rfl rfl (Qt.move (by conv => lhs; whnf)) ?_
              refine D.qX (k := 6) rfl (by kernel_rfl) (by kernel_rfl) (by kernel_rfl) rfl rfl (Qt.index Try.underlying22 Try.cells24 rfl rfl (by omega) (Has.blk (Has.at 0 rfl)) (by simp only [blkD_len]; omega)) ?_
              refine D.qX (k := 7) rfl (by kernel_rfl) (by kernel_rfl) (by kernel_rfl) rfl rfl (Qt.load rfl (Ld.sl (Has.blk (Has.at 0 rfl)) Try.one24 (blkD_get (by (try dsimp only); omega)))) ?_
              refine D.qX (k := 8) rfl (by kernel_rfl) (by kernel_rfl) (by kernel_rfl) rfl rfl (Qt.move (by conv => lhs; whnf)) ?_
              refine D.qX (k := 9) rfl (by kernel_rfl) (by kernel_rfl) (by kernel_rfl) rfl rfl (Qt.move (by conv => lhs; whnf)) ?_
              refine D.qX (k := 10) rfl (by kernel_rfl) (by kernel_rfl) (by kernel_rfl) rfl rfl (Qt.index Try.underlying22 Try.cells24 rfl rfl (by omega) (Has.blk (Has.at 0 rfl)) (by simp only [blkD_len]; omega)) ?_
              refine D.qX (k := 11) rfl (by kernel_rfl) (by kernel_rfl) (by kernel_rfl) rfl rfl (Qt.load rfl (Ld.sl (Has.blk (Has.at 0 rfl)) Try.one24 (blkD_get (by (try dsimp only); omega)))) ?_
              refine D.qX (k := 12) rfl (by kernel_rfl) (by kernel_rfl) (by kernel_rfl) rfl rfl (Qt.index1 Try.underlying22 Try.cells24 rfl rfl (by omega) (Has.blk (Has.at 0 rfl)) (by simp only [blkD_len]; omega)) ?_
              refine D.opN (k := 13) (Sub.nil _) rfl (by kernel_rfl) (by kernel_rfl) rfl (OpV.storeE0 rfl (by conv => lhs; whnf) Try.cells24 rfl rfl (by simp only [blkD_len, Array.size_setIfInBounds]; omega) (blkD_set (by (try dsimp only); omega)) ⟨Sub.nil _, ?_⟩)
              refine D.qX (k := 14) rfl (by kernel_rfl) (by kernel_rfl) (by kernel_rfl) rfl rfl (Qt.index1 (i := a) Try.underlying22 Try.cells24 rfl rfl (by omega) (Has.blk (Has.at 0 rfl)) (by simp only [blkD_len, Array.size_setIfInBounds]; omega)) ?_
              refine D.opN (k := 15) (Sub.nil _) rfl (by kernel_rfl) (by kernel_rfl) rfl (OpV.storeE0 rfl (by conv => lhs; whnf) Try.cells24 rfl rfl (by simp only [blkD_len, Array.size_setIfInBounds]; omega) (blkD_set (by (try simp only [Array.size_setIfInBounds]); omega)) ⟨Sub.nil _, ?_⟩)
              refine D.done (Sub.nil _) (by kernel_rfl) ?_
              refine TC.seq ?_
              refine TC.region ?_
              refine S.q rfl rfl (Qt.move (by conv => lhs; whnf)) ?_
              refine S.q rfl rfl (Qt.assign (by conv => lhs; whnf)) ?_
              refine S.q rfl rfl (Qt.assign (by conv => lhs; whnf)) ?_
              refine S.nil ?_
              refine TC.ret ?_
              refine finQ.ret (RVs.tmp (by conv => lhs; whnf) (RVs.tmp (by conv => lhs; whnf) RVs.nil)) (Sub.refl _) ?_
              rw [part_go hse hU hD h65 (hq.symm.trans (pl_stop hU2 hD2 h134))]
              exact ⟨rfl, rfl⟩
            · refine S.nil ?_
              refine S.if_f rfl ?_
              refine TC.skip ?_
              refine TC.seq ?_
              refine S.draw ([13, 15], []) Try.mixed (Sub.nil _) ?_
              refine D.qX (k := 0) rfl (by kernel_rfl) (by kernel_rfl) (by kernel_rfl) rfl rfl (Qt.move (by conv => lhs; whnf)) ?_
              refine D.qX (k := 1) rfl (by kernel_rfl) (by kernel_rfl) (by kernel_rfl) rfl rfl (Qt.move (by conv => lhs; whnf)) ?_
              refine D.q (k := 2) rfl (by kernel_rfl) (by kernel_rfl) rfl rfl (Qt.move (by conv => lhs; whnf)) ?_
              refine D.q (k := 3) rfl (by kernel_rfl) (by kernel_rfl) rfl rfl (Qt.move (by conv => lhs; whnf)) ?_
              refine D.qX (k := 4) rfl (by kernel_rfl) (by kernel_rfl) (by kernel_rfl) rfl rfl (Qt.move (by conv => lhs; whnf)) ?_
              refine D.qX (k := 5) rfl (by kernel_rfl) (by kernel_rfl) (by kernel_rfl) rfl rfl (Qt.move (by conv => lhs; whnf)) ?_
              refine D.qX (k := 6) rfl (by kernel_rfl) (by kernel_rfl) (by kernel_rfl) rfl rfl (Qt.index Try.underlying22 Try.cells24 rfl rfl (by omega) (Has.blk (Has.at 0 rfl)) (by simp only [blkD_len]; omega)) ?_
              refine D.qX (k := 7) rfl (by kernel_rfl) (by kernel_rfl) (by kernel_rfl) rfl rfl (Qt.load rfl (Ld.sl (Has.blk (Has.at 0 rfl)) Try.one24 (blkD_get (by (try dsimp only); omega)))) ?_
              refine D.qX (k := 8) rfl (by kernel_rfl) (by kernel_rfl) (by kernel_rfl) rfl rfl (Qt.move (by conv => lhs; whnf)) ?_
              refine D.qX (k := 9) rfl (by kernel_rfl) (by kernel_rfl) (by kernel_rfl) rfl rfl (Qt.move (by conv => lhs; whnf)) ?_
              refine D.qX (k := 10) rfl (by kernel_rfl) (by kernel_rfl) (by kernel_rfl) rfl rfl (Qt.index Try.underlying22 Try.cells24 rfl rfl (by omega) (Has.blk (Has.at 0 rfl)) (by simp only [blkD_len]; omega)) ?_
              refine D.qX (k := 11) rfl (by kernel_rfl) (by kernel_rfl) (by kernel_rfl) rfl rfl (Qt.load rfl (Ld.sl (Has.blk (Has.at 0 rfl)) Try.one24 (blkD_get (by (try dsimp only); omega)))) ?_
              refine D.qX (k := 12) rfl (by kernel_rfl) (by kernel_rfl) (by kernel_rfl) rfl rfl (Qt.index1 Try.underlying22 Try.cells24 rfl rfl (by omega) (Has.blk (Has.at 0 rfl)) (by simp only [blkD_len]; omega)) ?_
              refine D.opN (k := 13) (Sub.nil _) rfl (by kernel_rfl) (by kernel_rfl) rfl (OpV.storeE0 rfl (by conv => lhs; whnf) Try.cells24 rfl rfl (by simp only [blkD_len, Array.size_setIfInBounds]; omega) (blkD_set (by (try dsimp only); omega)) ⟨Sub.nil _, ?_⟩)
              refine D.qX (k := 14) rfl (by kernel_rfl) (by kernel_rfl) (by kernel_rfl) rfl rfl (Qt.index1 (i := l) Try.underlying22 Try.cells24 rfl rfl (by omega) (Has.blk (Has.at 0 rfl)) (by simp only [blkD_len, Array.size_setIfInBounds]; omega)) ?_
              refine D.opN (k := 15) (Sub.nil _) rfl (by kernel_rfl) (by kernel_rfl) rfl (OpV.storeE0 rfl (by conv => lhs; whnf) Try.cells24 rfl rfl (by simp only [blkD_len, Array.size_setIfInBounds]; omega) (blkD_set (by (try simp only [Array.size_setIfInBounds]); omega)) ⟨Sub.nil _, ?_⟩)
              refine D.done (Sub.nil _) (by kernel_rfl) ?_
              refine TC.seq ?_
              refine TC.region ?_
              refine S.q rfl rfl (Qt.move (by conv => lhs; whnf)) ?_
              refine S.q rfl rfl (Qt.add (b := 1) rfl rfl (by simp only [kmax]; omega)) ?_
              refine S.q rfl rfl (Qt.assign (by conv => lhs; whnf)) ?_
              refine S.nil ?_
              refine TC.region ?_
              refine S.q rfl rfl (Qt.move (by conv => lhs; whnf)) ?_
              refine S.q rfl rfl (Qt.sub (b := 1) rfl rfl (by omega) (by simp only [kmax]; omega)) ?_
              refine S.q rfl rfl (Qt.assign (by conv => lhs; whnf)) ?_
              refine S.nil ?_
              refine ⟨(k + 1, l - 1, Go.Sort.swp f k l), ?_, ?_, ⟨?_, (List.forall_mem_cons.2 ⟨rfl, (List.forall_mem_cons.2 ⟨rfl, (fun _ h => nomatch h)⟩)⟩)⟩, Sub.refl _⟩
              · exact ⟨by dsimp only; omega, by dsimp only; omega, by dsimp only; omega, (Go.Sort.swp_size _ _ _).trans hf, (pl_step hU2 hD2 h134).symm.trans hq⟩
              · show _ < _; dsimp only; omega
              repeat (first | exact Out.refl _ _ | refine Out.put rfl ?_ | refine Out.puts rfl ?_ | refine Out.scr ?_ | refine Out.scr' rfl ?_)
set_option maxHeartbeats 1600000 in
theorem parteq_walk (g n cp : Nat) (d : Array Nat) (r : List Value) (hn : d.size = n) (hm : n < 4294967296) (a b pv : Nat) (hp1 : a ≤ pv) (hp2 : pv < b) (hb : b ≤ n) (w0 : World) (hL : Sat w0 [Blk g 24 (blkD (d) r)]) :
    Calls Try.prog 60 #[.slice (some ⟨g, 0, none⟩) n cp, .int .i64 ((a : Nat) : Int), .int .i64 ((b : Nat) : Int), .int .i64 ((pv : Nat) : Int)] w0 (Post w0 (fps [Blk g 24 (blkD (d) r)]) fun v L => v = .int .i64 (((Go.Sort.partitionEqual ltN d a b pv).1 : Nat) : Int) ∧ L = [Blk g 24 (blkD ((Go.Sort.partitionEqual ltN d a b pv).2) r)]) := by
  refine Calls.of (L := [Blk g 24 (blkD (d) r)]) (n := 84) (rs := [.tmp 8]) Try.func60 rfl rfl rfl (Nat.le_of_ble_eq_true rfl) (hL) ?_
  refine TC.seq ?_
  refine TC.region ?_
  refine S.q rfl rfl (Qt.assign (by conv => lhs; whnf)) ?_
  refine S.nil ?_
  refine TC.seq ?_
  refine S.draw ([13, 15], []) Try.mixed (Sub.nil _) ?_
  refine D.qX (k := 0) rfl (by kernel_rfl) (by kernel_rfl) (by kernel_rfl) rfl rfl (Qt.move (by conv => lhs; whnf)) ?_
  refine D.qX (k := 1) rfl (by kernel_rfl) (by kernel_rfl) (by kernel_rfl) rfl rfl (Qt.move (by conv => lhs; whnf)) ?_
  refine D.q (k := 2) rfl (by kernel_rfl) (by kernel_rfl) rfl rfl (Qt.move (by conv => lhs; whnf)) ?_
  refine D.q (k := 3) rfl (by kernel_rfl) (by kernel_rfl) rfl rfl (Qt.move (by conv => lhs; whnf)) ?_
  refine D.qX (k := 4) rfl (by kernel_rfl) (by kernel_rfl) (by kernel_rfl) rfl rfl (Qt.move (by conv => lhs; whnf)) ?_
  refine D.qX (k := 5) rfl (by kernel_rfl) (by kernel_rfl) (by kernel_rfl) rfl rfl (Qt.move (by conv => lhs; whnf)) ?_
  refine D.qX (k := 6) rfl (by kernel_rfl) (by kernel_rfl) (by kernel_rfl) rfl rfl (Qt.index Try.underlying22 Try.cells24 rfl rfl (by omega) (Has.blk (Has.at 0 rfl)) (by simp only [blkD_len]; omega)) ?_
  refine D.qX (k := 7) rfl (by kernel_rfl) (by kernel_rfl) (by kernel_rfl) rfl rfl (Qt.load rfl (Ld.sl (Has.blk (Has.at 0 rfl)) Try.one24 (blkD_get (by (try dsimp only); omega)))) ?_
  refine D.qX (k := 8) rfl (by kernel_rfl) (by kernel_rfl) (by kernel_rfl) rfl rfl (Qt.move (by conv => lhs; whnf)) ?_
  refine D.qX (k := 9) rfl (by kernel_rfl) (by kernel_rfl) (by kernel_rfl) rfl rfl (Qt.move (by conv => lhs; whnf)) ?_
  refine D.qX (k := 10) rfl (by kernel_rfl) (by kernel_rfl) (by kernel_rfl) rfl rfl (Qt.index Try.underlying22 Try.cells24 rfl rfl (by omega) (Has.blk (Has.at 0 rfl)) (by simp only [blkD_len]; omega)) ?_
  refine D.qX (k := 11) rfl (by kernel_rfl) (by kernel_rfl) (by kernel_rfl) rfl rfl (Qt.load rfl (Ld.sl (Has.blk (Has.at 0 rfl)) Try.one24 (blkD_get (by (try dsimp only); omega)))) ?_
  refine D.qX (k := 12) rfl (by kernel_rfl) (by kernel_rfl) (by kernel_rfl) rfl rfl (Qt.index1 Try.underlying22 Try.cells24 rfl rfl (by omega) (Has.blk (Has.at 0 rfl)) (by simp only [blkD_len]; omega)) ?_
  refine D.opN (k := 13) (Sub.nil _) rfl (by kernel_rfl) (by kernel_rfl) rfl (OpV.storeE0 rfl (by conv => lhs; whnf) Try.cells24 rfl rfl (by simp only [blkD_len, Array.size_setIfInBounds]; omega) (blkD_set (by (try dsimp only); omega)) ⟨Sub.nil _, ?_⟩)
  refine D.qX (k := 14) rfl (by kernel_rfl) (by kernel_rfl) (by kernel_rfl) rfl rfl (Qt.index1 (i := pv) Try.underlying22 Try.cells24 rfl rfl (by omega) (Has.blk (Has.at 0 rfl)) (by simp only [blkD_len, Array.size_setIfInBounds]; omega)) ?_
  refine D.opN (k := 15) (Sub.nil _) rfl (by kernel_rfl) (by kernel_rfl) rfl (OpV.storeE0 rfl (by conv => lhs; whnf) Try.cells24 rfl rfl (by simp only [blkD_len, Array.size_setIfInBounds]; omega) (blkD_set (by (try simp only [Array.size_setIfInBounds]); omega)) ⟨Sub.nil _, ?_⟩)
  refine D.done (Sub.nil _) (by kernel_rfl) ?_
  refine TC.seq ?_
  refine TC.region ?_
  refine S.q rfl rfl (Qt.move (by conv => lhs; whnf)) ?_
  refine S.q rfl rfl (Qt.add (b := 1) rfl rfl (by simp only [kmax]; omega)) ?_
  refine S.q rfl rfl (Qt.move (by conv => lhs; whnf)) ?_
  refine S.q rfl rfl (Qt.sub (b := 1) rfl rfl (by omega) (by simp only [kmax]; omega)) ?_
  refine S.q rfl rfl (Qt.assign (by conv => lhs; whnf)) ?_
  refine S.q rfl rfl (Qt.assign (by conv => lhs; whnf)) ?_
  refine S.nil ?_
  refine TC.seq ?_
  refine TC.block ?_
  refine TC.loop (γ := Nat × Nat × Array Nat) [29, 30, 31, 32, 33, 34, 35, 36, 37, 38, 39, 40, 41, 42, 43, 44, 45, 9, 46, 47, 48, 49, 50, 51, 52, 53, 54, 55, 56, 57, 58, 59, 60, 61, 10, 62, 63, 64, 65, 66, 67, 68, 69, 70, 71, 72, 73, 74, 75, 76, 77, 78, 79, 80, 81, 82] (fun q => [(9, .int .i64 ((q.1 : Nat) : Int)), (10, .int .i64 ((q.2.1 : Nat) : Int))]) (fun q => [Blk g 24 (blkD q.2.2 r)]) (fun q => a + 1 ≤ q.1 ∧ q.1 ≤ q.2.1 + 2 ∧ q.2.1 ≤ b - 1 ∧ q.2.2.size = n ∧ Go.Sort.partEqLoop ltN a q.1 q.2.1 q.2.2 = (Go.Sort.partitionEqual ltN d a b pv)) (fun q => q.2.1 + 2 - q.1) ((a + 1, b - 1, Go.Sort.swp d a pv))
    ⟨Nat.le_refl _, by dsimp only; omega, Nat.le_refl _, (Go.Sort.swp_size _ _ _).trans hn, rfl⟩ ⟨Out.refl _ _, (List.forall_mem_cons.2 ⟨rfl, (List.forall_mem_cons.2 ⟨rfl, (fun _ h => nomatch h)⟩)⟩)⟩ (Sub.refl _) ?_
  rintro ⟨i2, j2, f⟩ u ⟨hi2, hij2, hj2, hf, hq⟩
  dsimp only at hi2 hij2 hj2 hf hq
  show TC _ _ _ (puts [(9, .int .i64 ((i2 : Nat) : Int)), (10, .int .i64 ((j2 : Nat) : Int))] (scr _ u _)) [Blk g 24 (blkD (f) r)]
  refine TC.block ?_
  refine TC.cutseq (γ := Nat) [29, 30, 31, 32, 33, 34, 35, 36, 37, 38, 39, 40, 41, 42, 43, 44, 45, 9] (fun k => [(9, .int .i64 ((k : Nat) : Int))]) (fun k => [Blk g 24 (blkD f r)]) (fun k => i2 ≤ k ∧ k ≤ j2 + 2 ∧ upE f a j2 i2 = k) ?_ ?_
  · refine TC.block ?_
    refine TC.loop (γ := Nat) [29, 30, 31, 32, 33, 34, 35, 36, 37, 38, 39, 40, 41, 42, 43, 44, 45, 9] (fun k => [(9, .int .i64 ((k : Nat) : Int))]) (fun _ => _) (fun k => i2 ≤ k ∧ k ≤ j2 + 2 ∧ upE f a j2 k = upE f a j2 i2) (fun k => j2 + 2 - k) (i2)
      ⟨Nat.le_refl _, by omega, rfl⟩ ⟨Out.refl _ _, (List.forall_mem_cons.2 ⟨rfl, (fun _ h => nomatch h)⟩)⟩ (Sub.refl _) ?_
    rintro k u ⟨hk, hkj, huk⟩
    refine TC.seq ?_
    refine TC.seq ?_
    refine S.draw ([], []) Try.mixed (Sub.nil _) ?_
    refine D.qX (k := 0) rfl (by kernel_rfl) (by kernel_rfl) (by kernel_rfl) rfl rfl (Qt.move (by conv => lhs; whnf)) ?_
    refine D.qX (k := 1) rfl (by kernel_rfl) (by kernel_rfl) (by kernel_rfl) rfl rfl (Qt.move (by conv => lhs; whnf)) ?_
    refine D.decX (k := 2) rfl (by kernel_rfl) (by kernel_rfl) (by kernel_rfl) rfl rfl (Qt.le rfl rfl) (fun h31 => ?_) (fun h31 => ?_)
    · refine D.qX (k := 3) rfl (by kernel_rfl) (by kernel_rfl) (by kernel_rfl) rfl rfl (Qt.move (by conv => lhs; whnf)) ?_
      refine D.qgX (k := 4) rfl (by kernel_rfl) (by kernel_rfl) (by kernel_rfl) rfl rfl rfl (Qt.move (by conv => lhs; whnf)) ?_
      refine D.qgX (k := 5) rfl (by kernel_rfl) (by kernel_rfl) (by kernel_rfl) rfl rfl rfl (Qt.move (by conv => lhs; whnf)) ?_
      refine D.qgX (k := 6) rfl (by kernel_rfl) (by kernel_rfl) (by kernel_rfl) rfl rfl rfl (Qt.index Try.underlying22 Try.cells24 rfl rfl (by omega) (Has.blk (Has.at 0 rfl)) (by simp only [blkD_len]; omega)) ?_
      refine D.qgX (k := 7) rfl (by kernel_rfl) (by kernel_rfl) (by kernel_rfl) rfl rfl rfl (Qt.load rfl (Ld.sl (Has.blk (Has.at 0 rfl)) Try.one24 (blkD_get (by (try dsimp only); omega)))) ?_
      refine D.qgX (k := 8) rfl (by kernel_rfl) (by kernel_rfl) (by kernel_rfl) rfl rfl rfl (Qt.move (by conv => lhs; whnf)) ?_
      refine D.qgX (k := 9) rfl (by kernel_rfl) (by kernel_rfl) (by kernel_rfl) rfl rfl rfl (Qt.move (by conv => lhs; whnf)) ?_
      refine D.qgX (k := 10) rfl (by kernel_rfl) (by kernel_rfl) (by kernel_rfl) rfl rfl rfl (Qt.index Try.underlying22 Try.cells24 rfl rfl (by omega) (Has.blk (Has.at 0 rfl)) (by simp only [blkD_len]; omega)) ?_
      refine D.qgX (k := 11) rfl (by kernel_rfl) (by kernel_rfl) (by kernel_rfl) rfl rfl rfl (Qt.load rfl (Ld.sl (Has.blk (Has.at 0 rfl)) Try.one24 (blkD_get (by (try dsimp only); omega)))) ?_
      by_cases h41 : ltN f[a]! f[k]! = true
      · refine D.cgX (k := 12) rfl (by kernel_rfl) (by kernel_rfl) (by kernel_rfl) rfl rfl rfl (CalU.con0 Try.ent59 rfl (fun w hw => less_t h41 w)) ?_
        refine D.qgX (k := 13) rfl (by kernel_rfl) (by kernel_rfl) (by kernel_rfl) rfl rfl rfl (Qt.not_t rfl) ?_
        refine D.qX (k := 14) rfl (by kernel_rfl) (by kernel_rfl) (by kernel_rfl) rfl rfl (Qt.pick_t rfl (by conv => lhs; whnf)) ?_
        refine D.done (Sub.nil _) (by kernel_rfl) ?_
        refine S.if_f rfl ?_
        refine TC.exit ?_
        refine ⟨k, ?_, ⟨?_, (List.forall_mem_cons.2 ⟨rfl, (fun _ h => nomatch h)⟩)⟩, Sub.refl _⟩
        · exact ⟨hk, hkj, by rw [← huk, upE_stop2 (by rw [h41]; rfl)]⟩
        repeat (first | exact Out.refl _ _ | refine Out.put rfl ?_ | refine Out.puts rfl ?_ | refine Out.scr ?_ | refine Out.scr' rfl ?_)
      · refine D.cgX (k := 12) rfl (by kernel_rfl) (by kernel_rfl) (by kernel_rfl) rfl rfl rfl (CalU.con0 Try.ent59 rfl (fun w hw => less_f h41 w)) ?_
        refine D.qgX (k := 13) rfl (by kernel_rfl) (by kernel_rfl) (by kernel_rfl) rfl rfl rfl (Qt.not_f rfl) ?_
        refine D.qX (k := 14) rfl (by kernel_rfl) (by kernel_rfl) (by kernel_rfl) rfl rfl (Qt.pick_t rfl (by conv => lhs; whnf)) ?_
        refine D.done (Sub.nil _) (by kernel_rfl) ?_
        refine S.if_t rfl ?_
        refine TC.skip ?_
        refine TC.block ?_
        refine TC.region ?_
        refine S.q rfl rfl (Qt.move (by conv => lhs; whnf)) ?_
        refine S.q rfl rfl (Qt.add (b := 1) rfl rfl (by simp only [kmax]; omega)) ?_
        refine S.q rfl rfl (Qt.assign (by conv => lhs; whnf)) ?_
        refine S.nil ?_
        refine ⟨k + 1, ?_, ?_, ⟨?_, (List.forall_mem_cons.2 ⟨rfl, (fun _ h => nomatch h)⟩)⟩, Sub.refl _⟩
        · exact ⟨by omega, by omega, (upE_step h31 (by rw [Bool.eq_false_iff.2 h41]; rfl)).symm.trans huk⟩
        · show _ < _; dsimp only; omega
        repeat (first | exact Out.refl _ _ | refine Out.put rfl ?_ | refine Out.puts rfl ?_ | refine Out.scr ?_ | refine Out.scr' rfl ?_)
    · refine D.qX (k := 3) rfl (by kernel_rfl) (by kernel_rfl) (by kernel_rfl) rfl rfl (Qt.move (by conv => lhs; whnf)) ?_
      refine D.pass (k := 4) rfl (by kernel_rfl) (by kernel_rfl) rfl rfl rfl ?_
      refine D.pass (k := 5) rfl (by kernel_rfl) (by kernel_rfl) rfl rfl rfl ?_
      refine D.pass (k := 6) rfl (by kernel_rfl) (by kernel_rfl) rfl rfl rfl ?_
      refine D.pass (k := 7) rfl (by kernel_rfl) (by kernel_rfl) rfl rfl rfl ?_
      refine D.pass (k := 8) rfl (by kernel_rfl) (by kernel_rfl) rfl rfl rfl ?_
      refine D.pass (k := 9) rfl (by kernel_rfl) (by kernel_rfl) rfl rfl rfl ?_
      refine D.pass (k := 10) rfl (by kernel_rfl) (by kernel_rfl) rfl rfl rfl ?_
      refine D.pass (k := 11) rfl (by kernel_rfl) (by kernel_rfl) rfl rfl rfl ?_
      refine D.pass (k := 12) rfl (by kernel_rfl) (by kernel_rfl) rfl rfl rfl ?_
      refine D.pass (k := 13) rfl (by kernel_rfl) (by kernel_rfl) rfl rfl rfl ?_
      refine D.qX (k := 14) rfl (by kernel_rfl) (by kernel_rfl) (by kernel_rfl) rfl rfl (Qt.pick_f rfl (by conv => lhs; whnf)) ?_
      refine D.done (Sub.nil _) (by kernel_rfl) ?_
      refine S.if_f rfl ?_
      refine TC.exit ?_
      refine ⟨k, ?_, ⟨?_, (List.forall_mem_cons.2 ⟨rfl, (fun _ h => nomatch h)⟩)⟩, Sub.refl _⟩
      · exact ⟨hk, hkj, by rw [← huk, upE_stop1 h31]⟩
      repeat (first | exact Out.refl _ _ | refine Out.put rfl ?_ | refine Out.puts rfl ?_ | refine Out.scr ?_ | refine Out.scr' rfl ?_)
  · rintro k u ⟨hk, hkj, hU2⟩
    refine TC.cutseq (γ := Nat) [46, 47, 48, 49, 50, 51, 52, 53, 54, 55, 56, 57, 58, 59, 60, 61, 10] (fun l => [(10, .int .i64 ((l : Nat) : Int))]) (fun l => [Blk g 24 (blkD f r)]) (fun l => l ≤ j2 ∧ k ≤ l + 2 ∧ dnE f a k j2 = l) ?_ ?_
    · refine TC.block ?_
      refine TC.loop (γ := Nat) [46, 47, 48, 49, 50, 51, 52, 53, 54, 55, 56, 57, 58, 59, 60, 61, 10] (fun l => [(10, .int .i64 ((l : Nat) : Int))]) (fun _ => _) (fun l => l ≤ j2 ∧ k ≤ l + 2 ∧ dnE f a k l = dnE f a k j2) (fun l => l) (j2)
        ⟨Nat.le_refl _, by omega, rfl⟩ ⟨Out.refl _ _, (List.forall_mem_cons.2 ⟨rfl, (fun _ h => nomatch h)⟩)⟩ (Sub.refl _) ?_
      rintro l u ⟨hl, hkl, hdl⟩
      refine TC.seq ?_
      refine TC.seq ?_
      refine S.draw ([], []) Try.mixed (Sub.nil _) ?_
      refine D.qX (k := 0) rfl (by kernel_rfl) (by kernel_rfl) (by kernel_rfl) rfl rfl (Qt.move (by conv => lhs; whnf)) ?_
      refine D.qX (k := 1) rfl (by kernel_rfl) (by kernel_rfl) (by kernel_rfl) rfl rfl (Qt.move (by conv => lhs; whnf)) ?_
      refine D.decX (k := 2) rfl (by kernel_rfl) (by kernel_rfl) (by kernel_rfl) rfl rfl (Qt.le rfl rfl) (fun h48 => ?_) (fun h48 => ?_)
      · refine D.qX (k := 3) rfl (by kernel_rfl) (by kernel_rfl) (by kernel_rfl) rfl rfl (Qt.move (by conv => lhs; whnf)) ?_
        refine D.qgX (k := 4) rfl (by kernel_rfl) (by kernel_rfl) (by kernel_rfl) rfl rfl rfl (Qt.move (by conv => lhs; whnf)) ?_
        refine D.qgX (k := 5) rfl (by kernel_rfl) (by kernel_rfl) (by kernel_rfl) rfl rfl rfl (Qt.move (by conv => lhs; whnf)) ?_
        refine D.qgX (k := 6) rfl (by kernel_rfl) (by kernel_rfl) (by kernel_rfl) rfl rfl rfl (Qt.index Try.underlying22 Try.cells24 rfl rfl (by omega) (Has.blk (Has.at 0 rfl)) (by simp only [blkD_len]; omega)) ?_
        refine D.qgX (k := 7) rfl (by kernel_rfl) (by kernel_rfl) (by kernel_rfl) rfl rfl rfl (Qt.load rfl (Ld.sl (Has.blk (Has.at 0 rfl)) Try.one24 (blkD_get (by (try dsimp only); omega)))) ?_
        refine D.qgX (k := 8) rfl (by kernel_rfl) (by kernel_rfl) (by kernel_rfl) rfl rfl rfl (Qt.move (by conv => lhs; whnf)) ?_
        refine D.qgX (k := 9) rfl (by kernel_rfl) (by kernel_rfl) (by kernel_rfl) rfl rfl rfl (Qt.move (by conv => lhs; whnf)) ?_
        refine D.qgX (k := 10) rfl (by kernel_rfl) (by kernel_rfl) (by kernel_rfl) rfl rfl rfl (Qt.index Try.underlying22 Try.cells24 rfl rfl (by omega) (Has.blk (Has.at 0 rfl)) (by simp only [blkD_len]; omega)) ?_
        refine D.qgX (k := 11) rfl (by kernel_rfl) (by kernel_rfl) (by kernel_rfl) rfl rfl rfl (Qt.load rfl (Ld.sl (Has.blk (Has.at 0 rfl)) Try.one24 (blkD_get (by (try dsimp only); omega)))) ?_
        by_cases h58 : ltN f[a]! f[l]! = true
        · refine D.cgX (k := 12) rfl (by kernel_rfl) (by kernel_rfl) (by kernel_rfl) rfl rfl rfl (CalU.con0 Try.ent59 rfl (fun w hw => less_t h58 w)) ?_
          refine D.qX (k := 13) rfl (by kernel_rfl) (by kernel_rfl) (by kernel_rfl) rfl rfl (Qt.pick_t rfl (by conv => lhs; whnf)) ?_
          refine D.done (Sub.nil _) (by kernel_rfl) ?_
          refine S.if_t rfl ?_
          refine TC.skip ?_
          refine TC.block ?_
          refine TC.region ?_
          refine S.q rfl rfl (Qt.move (by conv => lhs; whnf)) ?_
          refine S.q rfl rfl (Qt.sub (b := 1) rfl rfl (by omega) (by simp only [kmax]; omega)) ?_
          refine S.q rfl rfl (Qt.assign (by conv => lhs; whnf)) ?_
          refine S.nil ?_
          refine ⟨l - 1, ?_, ?_, ⟨?_, (List.forall_mem_cons.2 ⟨rfl, (fun _ h => nomatch h)⟩)⟩, Sub.refl _⟩
          · exact ⟨by omega, by omega, (dnE_step h48 (by omega) h58).symm.trans hdl⟩
          · show _ < _; dsimp only; omega
          repeat (first | exact Out.refl _ _ | refine Out.put rfl ?_ | refine Out.puts rfl ?_ | refine Out.scr ?_ | refine Out.scr' rfl ?_)
        · refine D.cgX (k := 12) rfl (by kernel_rfl) (by kernel_rfl) (by kernel_rfl) rfl rfl rfl (CalU.con0 Try.ent59 rfl (fun w hw => less_f h58 w)) ?_
          refine D.qX (k := 13) rfl (by kernel_rfl) (by kernel_rfl) (by kernel_rfl) rfl rfl (Qt.pick_t rfl (by conv => lhs; whnf)) ?_
          refine D.done (Sub.nil _) (by kernel_rfl) ?_
          refine S.if_f rfl ?_
          refine TC.exit ?_
          refine ⟨l, ?_, ⟨?_, (List.forall_mem_cons.2 ⟨rfl, (fun _ h => nomatch h)⟩)⟩, Sub.refl _⟩
          · exact ⟨hl, hkl, by rw [← hdl, dnE_stop2 (Bool.eq_false_iff.2 h58)]⟩
          repeat (first | exact Out.refl _ _ | refine Out.put rfl ?_ | refine Out.puts rfl ?_ | refine Out.scr ?_ | refine Out.scr' rfl ?_)
      · refine D.qX (k := 3) rfl (by kernel_rfl) (by kernel_rfl) (by kernel_rfl) rfl rfl (Qt.move (by conv => lhs; whnf)) ?_
        refine D.pass (k := 4) rfl (by kernel_rfl) (by kernel_rfl) rfl rfl rfl ?_
        refine D.pass (k := 5) rfl (by kernel_rfl) (by kernel_rfl) rfl rfl rfl ?_
        refine D.pass (k := 6) rfl (by kernel_rfl) (by kernel_rfl) rfl rfl rfl ?_
        refine D.pass (k := 7) rfl (by kernel_rfl) (by kernel_rfl) rfl rfl rfl ?_
        refine D.pass (k := 8) rfl (by kernel_rfl) (by kernel_rfl) rfl rfl rfl ?_
        refine D.pass (k := 9) rfl (by kernel_rfl) (by kernel_rfl) rfl rfl rfl ?_
        refine D.pass (k := 10) rfl (by kernel_rfl) (by kernel_rfl) rfl rfl rfl ?_
        refine D.pass (k := 11) rfl (by kernel_rfl) (by kernel_rfl) rfl rfl rfl ?_
        refine D.pass (k := 12) rfl (by kernel_rfl) (by kernel_rfl) rfl rfl rfl ?_
        refine D.qX (k := 13) rfl (by kernel_rfl) (by kernel_rfl) (by kernel_rfl) rfl rfl (Qt.pick_f rfl (by conv => lhs; whnf)) ?_
        refine D.done (Sub.nil _) (by kernel_rfl) ?_
        refine S.if_f rfl ?_
        refine TC.exit ?_
        refine ⟨l, ?_, ⟨?_, (List.forall_mem_cons.2 ⟨rfl, (fun _ h => nomatch h)⟩)⟩, Sub.refl _⟩
        · exact ⟨hl, hkl, by rw [← hdl, dnE_stop1 h48]⟩
        repeat (first | exact Out.refl _ _ | refine Out.put rfl ?_ | refine Out.puts rfl ?_ | refine Out.scr ?_ | refine Out.scr' rfl ?_)
    · rintro l u ⟨hl, hkl, hD2⟩
      refine TC.seq ?_
      refine TC.seq ?_
      refine TC.region ?_
      refine S.q rfl rfl (Qt.move (by conv => lhs; whnf)) ?_
      refine S.q rfl rfl (Qt.move (by conv => lhs; whnf)) ?_
      refine S.dec rfl rfl (Qt.gt rfl rfl) (fun h64 => ?_) (fun h64 => ?_)
      · refine S.nil ?_
        refine S.if_t rfl ?_
        refine TC.exit ?_
        refine TC.seq ?_
        refine TC.region ?_
        refine S.q rfl rfl (Qt.move (by conv => lhs; whnf)) ?_
        refine S.q rfl rfl (Qt.assign (by conv => lhs; whnf)) ?_
        refine S.nil ?_
        refine TC.ret ?_
        refine finQ.ret (RVs.tmp (by conv => lhs; whnf) RVs.nil) (Sub.refl _) ?_
        rw [← hq, pe_stop hU2 hD2 h64]
        exact ⟨rfl, rfl⟩
      · refine S.nil ?_
        refine S.if_f rfl ?_
        refine TC.skip ?_
        refine TC.seq ?_
        refine S.draw ([13, 15], []) Try.mixed (Sub.nil _) ?_
        refine D.qX (k := 0) rfl (by kernel_rfl) (by kernel_rfl) (by kernel_rfl) rfl rfl (Qt.move (by conv => lhs; whnf)) ?_
        refine D.qX (k := 1) rfl (by kernel_rfl) (by kernel_rfl) (by kernel_rfl) rfl rfl (Qt.move (by conv => lhs; whnf)) ?_
        refine D.q (k := 2) rfl (by kernel_rfl) (by kernel_rfl) rfl rfl (Qt.move (by conv => lhs; whnf)) ?_
        refine D.q (k := 3) rfl (by kernel_rfl) (by kernel_rfl) rfl rfl (Qt.move (by conv => lhs; whnf)) ?_
        refine D.qX (k := 4) rfl (by kernel_rfl) (by kernel_rfl) (by kernel_rfl) rfl rfl (Qt.move (by conv => lhs; whnf)) ?_
        refine D.qX (k := 5) rfl (by kernel_rfl) (by kernel_rfl) (by kernel_rfl) rfl rfl (Qt.move (by conv => lhs; whnf)) ?_
        refine D.qX (k := 6) rfl (by kernel_rfl) (by kernel_rfl) (by kernel_rfl) rfl rfl (Qt.index Try.underlying22 Try.cells24 rfl rfl (by omega) (Has.blk (Has.at 0 rfl)) (by simp only [blkD_len]; omega)) ?_
        refine D.qX (k := 7) rfl (by kernel_rfl) (by kernel_rfl) (by kernel_rfl) rfl rfl (Qt.load rfl (Ld.sl (Has.blk (Has.at 0 rfl)) Try.one24 (blkD_get (by (try dsimp only); omega)))) ?_
        refine D.qX (k := 8) rfl (by kernel_rfl) (by kernel_rfl) (by kernel_rfl) rfl rfl (Qt.move (by conv => lhs; whnf)) ?_
        refine D.qX (k := 9) rfl (by kernel_rfl) (by kernel_rfl) (by kernel_rfl) rfl rfl (Qt.move (by conv => lhs; whnf)) ?_
        refine D.qX (k := 10) rfl (by kernel_rfl) (by kernel_rfl) (by kernel_rfl) rfl rfl (Qt.index Try.underlying22 Try.cells24 rfl rfl (by omega) (Has.blk (Has.at 0 rfl)) (by simp only [blkD_len]; omega)) ?_
        refine D.qX (k := 11) rfl (by kernel_rfl) (by kernel_rfl) (by kernel_rfl) rfl rfl (Qt.load rfl (Ld.sl (Has.blk (Has.at 0 rfl)) Try.one24 (blkD_get (by (try dsimp only); omega)))) ?_
        refine D.qX (k := 12) rfl (by kernel_rfl) (by kernel_rfl) (by kernel_rfl) rfl rfl (Qt.index1 Try.underlying22 Try.cells24 rfl rfl (by omega) (Has.blk (Has.at 0 rfl)) (by simp only [blkD_len]; omega)) ?_
        refine D.opN (k := 13) (Sub.nil _) rfl (by kernel_rfl) (by kernel_rfl) rfl (OpV.storeE0 rfl (by conv => lhs; whnf) Try.cells24 rfl rfl (by simp only [blkD_len, Array.size_setIfInBounds]; omega) (blkD_set (by (try dsimp only); omega)) ⟨Sub.nil _, ?_⟩)
        refine D.qX (k := 14) rfl (by kernel_rfl) (by kernel_rfl) (by kernel_rfl) rfl rfl (Qt.index1 (i := l) Try.underlying22 Try.cells24 rfl rfl (by omega) (Has.blk (Has.at 0 rfl)) (by simp only [blkD_len, Array.size_setIfInBounds]; omega)) ?_
        refine D.opN (k := 15) (Sub.nil _) rfl (by kernel_rfl) (by kernel_rfl) rfl (OpV.storeE0 rfl (by conv => lhs; whnf) Try.cells24 rfl rfl (by simp only [blkD_len, Array.size_setIfInBounds]; omega) (blkD_set (by (try simp only [Array.size_setIfInBounds]); omega)) ⟨Sub.nil _, ?_⟩)
        refine D.done (Sub.nil _) (by kernel_rfl) ?_
        refine TC.seq ?_
        refine TC.region ?_
        refine S.q rfl rfl (Qt.move (by conv => lhs; whnf)) ?_
        refine S.q rfl rfl (Qt.add (b := 1) rfl rfl (by simp only [kmax]; omega)) ?_
        refine S.q rfl rfl (Qt.assign (by conv => lhs; whnf)) ?_
        refine S.nil ?_
        refine TC.region ?_
        refine S.q rfl rfl (Qt.move (by conv => lhs; whnf)) ?_
        refine S.q rfl rfl (Qt.sub (b := 1) rfl rfl (by omega) (by simp only [kmax]; omega)) ?_
        refine S.q rfl rfl (Qt.assign (by conv => lhs; whnf)) ?_
        refine S.nil ?_
        refine ⟨(k + 1, l - 1, Go.Sort.swp f k l), ?_, ?_, ⟨?_, (List.forall_mem_cons.2 ⟨rfl, (List.forall_mem_cons.2 ⟨rfl, (fun _ h => nomatch h)⟩)⟩)⟩, Sub.refl _⟩
        · exact ⟨by dsimp only; omega, by dsimp only; omega, by dsimp only; omega, (Go.Sort.swp_size _ _ _).trans hf, (pe_step hU2 hD2 h64).symm.trans hq⟩
        · show _ < _; dsimp only; omega
        repeat (first | exact Out.refl _ _ | refine Out.put rfl ?_ | refine Out.puts rfl ?_ | refine Out.scr ?_ | refine Out.scr' rfl ?_)
end Go.Proofs.Ytaoicbjgkghnnaa
namespace Go.Proofs.Ytaoicbjgkghnnaa
open Go.E
set_option linter.unusedVariables false
set_option maxRecDepth 4000


set_option maxHeartbeats 1600000 in
theorem partial_walk (g n cp : Nat) (d : Array Nat) (r : List Value) (hn : d.size = n) (hm : n < 4294967296) (a b : Nat) (hab : a < b) (hb : b ≤ n) (w0 : World) (hL : Sat w0 [Blk g 24 (blkD (d) r)]) :
    Calls Try.prog 58 #[.slice (some ⟨g, 0, none⟩) n cp, .int .i64 ((a : Nat) : Int), .int .i64 ((b : Nat) : Int)] w0 (Post w0 (fps [Blk g 24 (blkD (d) r)]) fun v L => v = .bool (Go.Sort.partialInsertionSort ltN d a b).2 ∧ L = [Blk g 24 (blkD ((Go.Sort.partialInsertionSort ltN d a b).1) r)]) := by
  refine Calls.of (L := [Blk g 24 (blkD (d) r)]) (n := 133) (rs := [.tmp 6]) Try.func58 rfl rfl rfl (Nat.le_of_ble_eq_true rfl) (hL) ?_
  refine TC.seq ?_
  refine TC.region ?_
  refine S.q rfl rfl (Qt.assign (by conv => lhs; whnf)) ?_
  refine S.nil ?_
  refine TC.seq ?_
  refine TC.region ?_
  refine S.q rfl rfl (Qt.move (by conv => lhs; whnf)) ?_
  refine S.q rfl rfl (Qt.add (b := 1) rfl rfl (by simp only [kmax]; omega)) ?_
  refine S.q rfl rfl (Qt.assign (by conv => lhs; whnf)) ?_
  refine S.nil ?_
  refine TC.seq ?_
  refine TC.seq ?_
  refine TC.region ?_
  refine S.q rfl rfl (Qt.assign (by conv => lhs; whnf)) ?_
  refine S.nil ?_
  refine TC.block ?_
  refine TC.loop (γ := Nat × Nat × Array Nat) [13, 14, 17, 18, 19, 20, 21, 22, 23, 24, 25, 26, 27, 28, 29, 30, 31, 32, 33, 34, 7, 35, 36, 37, 6, 38, 39, 40, 41, 42, 43, 44, 45, 46, 47, 48, 49, 50, 51, 52, 53, 54, 55, 56, 57, 58, 59, 60, 61, 62, 63, 9, 64, 65, 68, 69, 70, 71, 72, 73, 74, 75, 76, 77, 78, 79, 80, 81, 82, 83, 84, 85, 86, 87, 88, 89, 90, 91, 92, 93, 94, 66, 67, 95, 96, 97, 98, 99, 100, 10, 101, 102, 103, 106, 107, 108, 109, 110, 111, 112, 113, 114, 115, 116, 117, 118, 119, 120, 121, 122, 123, 124, 125, 126, 127, 128, 129, 130, 131, 132, 104, 105, 15, 16, 8] (fun q => [(8, .int .i64 ((q.1 : Nat) : Int)), (7, .int .i64 ((q.2.1 : Nat) : Int))]) (fun q => [Blk g 24 (blkD q.2.2 r)]) (fun q => q.1 ≤ 5 ∧ a < q.2.1 ∧ q.2.1 ≤ b ∧ q.2.2.size = n ∧ Go.Sort.partialIns ltN a b (5 - q.1) q.2.1 q.2.2 = (Go.Sort.partialInsertionSort ltN d a b)) (fun q => 5 - q.1) ((0, a + 1, d))
    ⟨by dsimp only; omega, by dsimp only; omega, by dsimp only; omega, hn, rfl⟩ ⟨Out.refl _ _, (List.forall_mem_cons.2 ⟨rfl, (List.forall_mem_cons.2 ⟨rfl, (fun _ h => nomatch h)⟩)⟩)⟩ (Sub.refl _) ?_
  rintro ⟨t, i, e⟩ u ⟨ht, hai, hib, he, hq⟩
  dsimp only at ht hai hib he hq
  show TC _ _ _ (puts [(8, .int .i64 ((t : Nat) : Int)), (7, .int .i64 ((i : Nat) : Int))] (scr _ u _)) [Blk g 24 (blkD (e) r)]
  refine TC.seq ?_
  refine TC.seq ?_
  refine TC.region ?_
  refine S.q rfl rfl (Qt.move (by conv => lhs; whnf)) ?_
  refine S.dec rfl rfl (Qt.lt (b := 5) rfl rfl) (fun h14 => ?_) (fun h14 => ?_)
  · refine S.nil ?_
    refine S.if_t rfl ?_
    refine TC.skip ?_
    refine TC.seq ?_
    refine TC.block ?_
    refine TC.cutseq (γ := Nat) [17, 18, 19, 20, 21, 22, 23, 24, 25, 26, 27, 28, 29, 30, 31, 32, 33, 34, 7] (fun k => [(7, .int .i64 ((k : Nat) : Int))]) (fun k => [Blk g 24 (blkD e r)]) (fun k => i ≤ k ∧ k ≤ b ∧ Go.Sort.scanSorted ltN e b i = k) ?_ ?_
    · refine TC.block ?_
      refine TC.loop (γ := Nat) [17, 18, 19, 20, 21, 22, 23, 24, 25, 26, 27, 28, 29, 30, 31, 32, 33, 34, 7] (fun k => [(7, .int .i64 ((k : Nat) : Int))]) (fun _ => _) (fun k => i ≤ k ∧ k ≤ b ∧ Go.Sort.scanSorted ltN e b k = Go.Sort.scanSorted ltN e b i) (fun k => b - k) (i)
        ⟨Nat.le_refl _, hib, rfl⟩ ⟨Out.refl _ _, (List.forall_mem_cons.2 ⟨rfl, (fun _ h => nomatch h)⟩)⟩ (Sub.refl _) ?_
      rintro k u ⟨hik, hkb, hks⟩
      refine TC.seq ?_
      refine TC.seq ?_
      refine S.draw ([], []) Try.mixed (Sub.nil _) ?_
      refine D.qX (k := 0) rfl (by kernel_rfl) (by kernel_rfl) (by kernel_rfl) rfl rfl (Qt.move (by conv => lhs; whnf)) ?_
      refine D.qX (k := 1) rfl (by kernel_rfl) (by kernel_rfl) (by kernel_rfl) rfl rfl (Qt.move (by conv => lhs; whnf)) ?_
      refine D.decX (k := 2) rfl (by kernel_rfl) (by kernel_rfl) (by kernel_rfl) rfl rfl (Qt.lt rfl rfl) (fun h19 => ?_) (fun h19 => ?_)
      · refine D.qX (k := 3) rfl (by kernel_rfl) (by kernel_rfl) (by kernel_rfl) rfl rfl (Qt.move (by conv => lhs; whnf)) ?_
        refine D.qgX (k := 4) rfl (by kernel_rfl) (by kernel_rfl) (by kernel_rfl) rfl rfl rfl (Qt.move (by conv => lhs; whnf)) ?_
        refine D.qgX (k := 5) rfl (by kernel_rfl) (by kernel_rfl) (by kernel_rfl) rfl rfl rfl (Qt.move (by conv => lhs; whnf)) ?_
        refine D.qgX (k := 6) rfl (by kernel_rfl) (by kernel_rfl) (by kernel_rfl) rfl rfl rfl (Qt.index Try.underlying22 Try.cells24 rfl rfl (by omega) (Has.blk (Has.at 0 rfl)) (by simp only [blkD_len]; omega)) ?_
        refine D.qgX (k := 7) rfl (by kernel_rfl) (by kernel_rfl) (by kernel_rfl) rfl rfl rfl (Qt.load rfl (Ld.sl (Has.blk (Has.at 0 rfl)) Try.one24 (blkD_get (by (try dsimp only); omega)))) ?_
        refine D.qgX (k := 8) rfl (by kernel_rfl) (by kernel_rfl) (by kernel_rfl) rfl rfl rfl (Qt.move (by conv => lhs; whnf)) ?_
        refine D.qgX (k := 9) rfl (by kernel_rfl) (by kernel_rfl) (by kernel_rfl) rfl rfl rfl (Qt.move (by conv => lhs; whnf)) ?_
        refine D.qgX (k := 10) rfl (by kernel_rfl) (by kernel_rfl) (by kernel_rfl) rfl rfl rfl (Qt.sub (b := 1) rfl rfl (by omega) (by simp only [kmax]; omega)) ?_
        refine D.qgX (k := 11) rfl (by kernel_rfl) (by kernel_rfl) (by kernel_rfl) rfl rfl rfl (Qt.index Try.underlying22 Try.cells24 rfl rfl (by omega) (Has.blk (Has.at 0 rfl)) (by simp only [blkD_len]; omega)) ?_
        refine D.qgX (k := 12) rfl (by kernel_rfl) (by kernel_rfl) (by kernel_rfl) rfl rfl rfl (Qt.load rfl (Ld.sl (Has.blk (Has.at 0 rfl)) Try.one24 (blkD_get (by (try dsimp only); omega)))) ?_
        by_cases h30 : ltN e[k]! e[k - 1]! = true
        · refine D.cgX (k := 13) rfl (by kernel_rfl) (by kernel_rfl) (by kernel_rfl) rfl rfl rfl (CalU.con0 Try.ent59 rfl (fun w hw => less_t h30 w)) ?_
          refine D.qgX (k := 14) rfl (by kernel_rfl) (by kernel_rfl) (by kernel_rfl) rfl rfl rfl (Qt.not_t rfl) ?_
          refine D.qX (k := 15) rfl (by kernel_rfl) (by kernel_rfl) (by kernel_rfl) rfl rfl (Qt.pick_t rfl (by conv => lhs; whnf)) ?_
          refine D.done (Sub.nil _) (by kernel_rfl) ?_
          refine S.if_f rfl ?_
          refine TC.exit ?_
          refine ⟨k, ?_, ⟨?_, (List.forall_mem_cons.2 ⟨rfl, (fun _ h => nomatch h)⟩)⟩, Sub.refl _⟩
          · exact ⟨hik, hkb, by rw [← hks, sc_stop2 h30]⟩
          repeat (first | exact Out.refl _ _ | refine Out.put rfl ?_ | refine Out.puts rfl ?_ | refine Out.scr ?_ | refine Out.scr' rfl ?_)
        · refine D.cgX (k := 13) rfl (by kernel_rfl) (by kernel_rfl) (by kernel_rfl) rfl rfl rfl (CalU.con0 Try.ent59 rfl (fun w hw => less_f h30 w)) ?_
          refine D.qgX (k := 14) rfl (by kernel_rfl) (by kernel_rfl) (by kernel_rfl) rfl rfl rfl (Qt.not_f rfl) ?_
          refine D.qX (k := 15) rfl (by kernel_rfl) (by kernel_rfl) (by kernel_rfl) rfl rfl (Qt.pick_t rfl (by conv => lhs; whnf)) ?_
          refine D.done (Sub.nil _) (by kernel_rfl) ?_
          refine S.if_t rfl ?_
          refine TC.skip ?_
          refine TC.block ?_
          refine TC.region ?_
          refine S.q rfl rfl (Qt.move (by conv => lhs; whnf)) ?_
          refine S.q rfl rfl (Qt.add (b := 1) rfl rfl (by simp only [kmax]; omega)) ?_
          refine S.q rfl rfl (Qt.assign (by conv => lhs; whnf)) ?_
          refine S.nil ?_
          refine ⟨k + 1, ?_, ?_, ⟨?_, (List.forall_mem_cons.2 ⟨rfl, (fun _ h => nomatch h)⟩)⟩, Sub.refl _⟩
          · exact ⟨by omega, by omega, (sc_step h19 h30).symm.trans hks⟩
          · show _ < _; dsimp only; omega
          repeat (first | exact Out.refl _ _ | refine Out.put rfl ?_ | refine Out.puts rfl ?_ | refine Out.scr ?_ | refine Out.scr' rfl ?_)
      · refine D.qX (k := 3) rfl (by kernel_rfl) (by kernel_rfl) (by kernel_rfl) rfl rfl (Qt.move (by conv => lhs; whnf)) ?_
        refine D.pass (k := 4) rfl (by kernel_rfl) (by kernel_rfl) rfl rfl rfl ?_
        refine D.pass (k := 5) rfl (by kernel_rfl) (by kernel_rfl) rfl rfl rfl ?_
        refine D.pass (k := 6) rfl (by kernel_rfl) (by kernel_rfl) rfl rfl rfl ?_
        refine D.pass (k := 7) rfl (by kernel_rfl) (by kernel_rfl) rfl rfl rfl ?_
        refine D.pass (k := 8) rfl (by kernel_rfl) (by kernel_rfl) rfl rfl rfl ?_
        refine D.pass (k := 9) rfl (by kernel_rfl) (by kernel_rfl) rfl rfl rfl ?_
        refine D.pass (k := 10) rfl (by kernel_rfl) (by kernel_rfl) rfl rfl rfl ?_
        refine D.pass (k := 11) rfl (by kernel_rfl) (by kernel_rfl) rfl rfl rfl ?_
        refine D.pass (k := 12) rfl (by kernel_rfl) (by kernel_rfl) rfl rfl rfl ?_
        refine D.pass (k := 13) rfl (by kernel_rfl) (by kernel_rfl) rfl rfl rfl ?_
        refine D.pass (k := 14) rfl (by kernel_rfl) (by kernel_rfl) rfl rfl rfl ?_
        refine D.qX (k := 15) rfl (by kernel_rfl) (by kernel_rfl) (by kernel_rfl) rfl rfl (Qt.pick_f rfl (by conv => lhs; whnf)) ?_
        refine D.done (Sub.nil _) (by kernel_rfl) ?_
        refine S.if_f rfl ?_
        refine TC.exit ?_
        refine ⟨k, ?_, ⟨?_, (List.forall_mem_cons.2 ⟨rfl, (fun _ h => nomatch h)⟩)⟩, Sub.refl _⟩
        · exact ⟨hik, hkb, by rw [← hks, sc_stop1 h19]⟩
        repeat (first | exact Out.refl _ _ | refine Out.put rfl ?_ | refine Out.puts rfl ?_ | refine Out.scr ?_ | refine Out.scr' rfl ?_)
    · rintro k u ⟨hik, hkb, hk⟩
      refine TC.seq ?_
      refine TC.seq ?_
      refine TC.region ?_
      refine S.q rfl rfl (Qt.move (by conv => lhs; whnf)) ?_
      refine S.q rfl rfl (Qt.move (by conv => lhs; whnf)) ?_
      refine S.dec rfl rfl (Qt.eq rfl rfl) (fun h37 => ?_) (fun h37 => ?_)
      · refine S.nil ?_
        refine S.if_t rfl ?_
        refine TC.seq ?_
        refine TC.region ?_
        refine S.q rfl rfl (Qt.assign (by conv => lhs; whnf)) ?_
        refine S.nil ?_
        refine TC.ret ?_
        refine finQ.ret (RVs.tmp (by conv => lhs; whnf) RVs.nil) (Sub.refl _) ?_
        rw [← hq, pi_done (by omega) hk h37]
        exact ⟨rfl, rfl⟩
      · refine S.nil ?_
        refine S.if_f rfl ?_
        refine TC.skip ?_
        refine TC.seq ?_
        refine TC.seq ?_
        refine TC.region ?_
        refine S.q rfl rfl (Qt.move (by conv => lhs; whnf)) ?_
        refine S.q rfl rfl (Qt.move (by conv => lhs; whnf)) ?_
        refine S.q rfl rfl (Qt.sub rfl rfl (by omega) (by simp only [kmax]; omega)) ?_
        refine S.dec rfl rfl (Qt.lt (b := 50) rfl rfl) (fun h41 => ?_) (fun h41 => ?_)
        · refine S.nil ?_
          refine S.if_t rfl ?_
          refine TC.seq ?_
          refine TC.region ?_
          refine S.q rfl rfl (Qt.assign (by conv => lhs; whnf)) ?_
          refine S.nil ?_
          refine TC.ret ?_
          refine finQ.ret (RVs.tmp (by conv => lhs; whnf) RVs.nil) (Sub.refl _) ?_
          rw [← hq, pi_short (by omega) hk h37 h41]
          exact ⟨rfl, rfl⟩
        · refine S.nil ?_
          refine S.if_f rfl ?_
          refine TC.skip ?_
          refine TC.seq ?_
          refine S.draw ([15, 17], []) Try.mixed (Sub.nil _) ?_
          refine D.qX (k := 0) rfl (by kernel_rfl) (by kernel_rfl) (by kernel_rfl) rfl rfl (Qt.move (by conv => lhs; whnf)) ?_
          refine D.qX (k := 1) rfl (by kernel_rfl) (by kernel_rfl) (by kernel_rfl) rfl rfl (Qt.move (by conv => lhs; whnf)) ?_
          refine D.q (k := 2) rfl (by kernel_rfl) (by kernel_rfl) rfl rfl (Qt.move (by conv => lhs; whnf)) ?_
          refine D.q (k := 3) rfl (by kernel_rfl) (by kernel_rfl) rfl rfl (Qt.move (by conv => lhs; whnf)) ?_
          refine D.q (k := 4) rfl (by kernel_rfl) (by kernel_rfl) rfl rfl (Qt.sub (b := 1) rfl rfl (by omega) (by simp only [kmax]; omega)) ?_
          refine D.qX (k := 5) rfl (by kernel_rfl) (by kernel_rfl) (by kernel_rfl) rfl rfl (Qt.move (by conv => lhs; whnf)) ?_
          refine D.qX (k := 6) rfl (by kernel_rfl) (by kernel_rfl) (by kernel_rfl) rfl rfl (Qt.move (by conv => lhs; whnf)) ?_
          refine D.qX (k := 7) rfl (by kernel_rfl) (by kernel_rfl) (by kernel_rfl) rfl rfl (Qt.sub (b := 1) rfl rfl (by omega) (by simp only [kmax]; omega)) ?_
          refine D.qX (k := 8) rfl (by kernel_rfl) (by kernel_rfl) (by kernel_rfl) rfl rfl (Qt.index Try.underlying22 Try.cells24 rfl rfl (by omega) (Has.blk (Has.at 0 rfl)) (by simp only [blkD_len]; omega)) ?_
          refine D.qX (k := 9) rfl (by kernel_rfl) (by kernel_rfl) (by kernel_rfl) rfl rfl (Qt.load rfl (Ld.sl (Has.blk (Has.at 0 rfl)) Try.one24 (blkD_get (by (try dsimp only); omega)))) ?_
          refine D.qX (k := 10) rfl (by kernel_rfl) (by kernel_rfl) (by kernel_rfl) rfl rfl (Qt.move (by conv => lhs; whnf)) ?_
          refine D.qX (k := 11) rfl (by kernel_rfl) (by kernel_rfl) (by kernel_rfl) rfl rfl (Qt.move (by conv => lhs; whnf)) ?_
          refine D.qX (k := 12) rfl (by kernel_rfl) (by kernel_rfl) (by kernel_rfl) rfl rfl (Qt.index Try.underlying22 Try.cells24 rfl rfl (by omega) (Has.blk (Has.at 0 rfl)) (by simp only [blkD_len]; omega)) ?_
          refine D.qX (k := 13) rfl (by kernel_rfl) (by kernel_rfl) (by kernel_rfl) rfl rfl (Qt.load rfl (Ld.sl (Has.blk (Has.at 0 rfl)) Try.one24 (blkD_get (by (try dsimp only); omega)))) ?_
          refine D.qX (k := 14) rfl (by kernel_rfl) (by kernel_rfl) (by kernel_rfl) rfl rfl (Qt.index1 Try.underlying22 Try.cells24 rfl rfl (by omega) (Has.blk (Has.at 0 rfl)) (by simp only [blkD_len]; omega)) ?_
          refine D.opN (k := 15) (Sub.nil _) rfl (by kernel_rfl) (by kernel_rfl) rfl (OpV.storeE0 rfl (by conv => lhs; whnf) Try.cells24 rfl rfl (by simp only [blkD_len, Array.size_setIfInBounds]; omega) (blkD_set (by (try dsimp only); omega)) ⟨Sub.nil _, ?_⟩)
          refine D.qX (k := 16) rfl (by kernel_rfl) (by kernel_rfl) (by kernel_rfl) rfl rfl (Qt.index1 (i := k - 1) Try.underlying22 Try.cells24 rfl rfl (by omega) (Has.blk (Has.at 0 rfl)) (by simp only [blkD_len, Array.size_setIfInBounds]; omega)) ?_
          refine D.opN (k := 17) (Sub.nil _) rfl (by kernel_rfl) (by kernel_rfl) rfl (OpV.storeE0 rfl (by conv => lhs; whnf) Try.cells24 rfl rfl (by simp only [blkD_len, Array.size_setIfInBounds]; omega) (blkD_set (by (try simp only [Array.size_setIfInBounds]); omega)) ⟨Sub.nil _, ?_⟩)
          refine D.done (Sub.nil _) (by kernel_rfl) ?_
          refine TC.cutseq (γ := Array Nat) [58, 59, 60, 61, 62, 63, 9, 64, 65, 68, 69, 70, 71, 72, 73, 74, 75, 76, 77, 78, 79, 80, 81, 82, 83, 84, 85, 86, 87, 88, 89, 90, 91, 92, 93, 94, 66, 67] (fun f2 => []) (fun f2 => [Blk g 24 (blkD f2 r)]) (fun f2 => f2.size = n ∧ f2 = Go.Sort.fixDown ltN a k (Go.Sort.swp e k (k - 1))) ?_ ?_
          · refine TC.seq ?_
            refine TC.region ?_
            refine S.q rfl rfl (Qt.move (by conv => lhs; whnf)) ?_
            refine S.q rfl rfl (Qt.move (by conv => lhs; whnf)) ?_
            refine S.q rfl rfl (Qt.sub rfl rfl (by omega) (by simp only [kmax]; omega)) ?_
            refine S.dec rfl rfl (Qt.ge (b := 2) rfl rfl) (fun h61 => ?_) (fun h61 => ?_)
            · refine S.nil ?_
              refine S.if_t rfl ?_
              refine TC.seq ?_
              refine TC.region ?_
              refine S.q rfl rfl (Qt.move (by conv => lhs; whnf)) ?_
              refine S.q rfl rfl (Qt.sub (b := 1) rfl rfl (by omega) (by simp only [kmax]; omega)) ?_
              refine S.q rfl rfl (Qt.assign (by conv => lhs; whnf)) ?_
              refine S.nil ?_
              refine TC.block ?_
              refine TC.loop (γ := Nat × Array Nat) [64, 65, 68, 69, 70, 71, 72, 73, 74, 75, 76, 77, 78, 79, 80, 81, 82, 83, 84, 85, 86, 87, 88, 89, 90, 91, 92, 93, 94, 66, 67, 9] (fun q => [(9, .int .i64 ((q.1 : Nat) : Int))]) (fun q => [Blk g 24 (blkD q.2 r)]) (fun q => q.1 < n ∧ q.2.size = n ∧ Go.Sort.shiftDown ltN q.1 q.2 = Go.Sort.shiftDown ltN (k - 1) (Go.Sort.swp e k (k - 1))) (fun q => q.1) ((k - 1, Go.Sort.swp e k (k - 1)))
                ⟨by dsimp only; omega, (Go.Sort.swp_size _ _ _).trans he, rfl⟩ ⟨Out.refl _ _, (List.forall_mem_cons.2 ⟨rfl, (fun _ h => nomatch h)⟩)⟩ (Sub.refl _) ?_
              rintro ⟨j, f⟩ u ⟨hj, hf, hqf⟩
              dsimp only at hj hf hqf
              show TC _ _ _ (puts [(9, .int .i64 ((j : Nat) : Int))] (scr _ u _)) [Blk g 24 (blkD (f) r)]
              refine TC.seq ?_
              refine TC.seq ?_
              refine TC.region ?_
              refine S.q rfl rfl (Qt.move (by conv => lhs; whnf)) ?_
              refine S.dec rfl rfl (Qt.ge (b := 1) rfl rfl) (fun h65 => ?_) (fun h65 => ?_)
              · refine S.nil ?_
                refine S.if_t rfl ?_
                refine TC.skip ?_
                refine TC.seq ?_
                refine TC.block ?_
                refine TC.seq ?_
                refine TC.seq ?_
                refine S.draw ([], []) Try.mixed (Sub.nil _) ?_
                refine D.qX (k := 0) rfl (by kernel_rfl) (by kernel_rfl) (by kernel_rfl) rfl rfl (Qt.move (by conv => lhs; whnf)) ?_
                refine D.qX (k := 1) rfl (by kernel_rfl) (by kernel_rfl) (by kernel_rfl) rfl rfl (Qt.move (by conv => lhs; whnf)) ?_
                refine D.qX (k := 2) rfl (by kernel_rfl) (by kernel_rfl) (by kernel_rfl) rfl rfl (Qt.index Try.underlying22 Try.cells24 rfl rfl (by omega) (Has.blk (Has.at 0 rfl)) (by simp only [blkD_len]; omega)) ?_
                refine D.qX (k := 3) rfl (by kernel_rfl) (by kernel_rfl) (by kernel_rfl) rfl rfl (Qt.load rfl (Ld.sl (Has.blk (Has.at 0 rfl)) Try.one24 (blkD_get (by (try dsimp only); omega)))) ?_
                refine D.qX (k := 4) rfl (by kernel_rfl) (by kernel_rfl) (by kernel_rfl) rfl rfl (Qt.move (by conv => lhs; whnf)) ?_
                refine D.qX (k := 5) rfl (by kernel_rfl) (by kernel_rfl) (by kernel_rfl) rfl rfl (Qt.move (by conv => lhs; whnf)) ?_
                refine D.qX (k := 6) rfl (by kernel_rfl) (by kernel_rfl) (by kernel_rfl) rfl rfl (Qt.sub (b := 1) rfl rfl (by omega) (by simp only [kmax]; omega)) ?_
                refine D.qX (k := 7) rfl (by kernel_rfl) (by kernel_rfl) (by kernel_rfl) rfl rfl (Qt.index Try.underlying22 Try.cells24 rfl rfl (by omega) (Has.blk (Has.at 0 rfl)) (by simp only [blkD_len]; omega)) ?_
                refine D.qX (k := 8) rfl (by kernel_rfl) (by kernel_rfl) (by kernel_rfl) rfl rfl (Qt.load rfl (Ld.sl (Has.blk (Has.at 0 rfl)) Try.one24 (blkD_get (by (try dsimp only); omega)))) ?_
                by_cases h77 : ltN f[j]! f[j - 1]! = true
                · refine D.cX (k := 9) rfl (by kernel_rfl) (by kernel_rfl) (by kernel_rfl) rfl rfl (CalU.con0 Try.ent59 rfl (fun w hw => less_t h77 w)) ?_
                  refine D.qX (k := 10) rfl (by kernel_rfl) (by kernel_rfl) (by kernel_rfl) rfl rfl (Qt.not_t rfl) ?_
                  refine D.done (Sub.nil _) (by kernel_rfl) ?_
                  refine S.if_f rfl ?_
                  refine TC.skip ?_
                  refine S.draw ([15, 17], []) Try.mixed (Sub.nil _) ?_
                  refine D.qX (k := 0) rfl (by kernel_rfl) (by kernel_rfl) (by kernel_rfl) rfl rfl (Qt.move (by conv => lhs; whnf)) ?_
                  refine D.qX (k := 1) rfl (by kernel_rfl) (by kernel_rfl) (by kernel_rfl) rfl rfl (Qt.move (by conv => lhs; whnf)) ?_
                  refine D.q (k := 2) rfl (by kernel_rfl) (by kernel_rfl) rfl rfl (Qt.move (by conv => lhs; whnf)) ?_
                  refine D.q (k := 3) rfl (by kernel_rfl) (by kernel_rfl) rfl rfl (Qt.move (by conv => lhs; whnf)) ?_
                  refine D.q (k := 4) rfl (by kernel_rfl) (by kernel_rfl) rfl rfl (Qt.sub (b := 1) rfl rfl (by omega) (by simp only [kmax]; omega)) ?_
                  refine D.qX (k := 5) rfl (by kernel_rfl) (by kernel_rfl) (by kernel_rfl) rfl rfl (Qt.move (by conv => lhs; whnf)) ?_
                  refine D.qX (k := 6) rfl (by kernel_rfl) (by kernel_rfl) (by kernel_rfl) rfl rfl (Qt.move (by conv => lhs; whnf)) ?_
                  refine D.qX (k := 7) rfl (by kernel_rfl) (by kernel_rfl) (by kernel_rfl) rfl rfl (Qt.sub (b := 1) rfl rfl (by omega) (by simp only [kmax]; omega)) ?_
                  refine D.qX (k := 8) rfl (by kernel_rfl) (by kernel_rfl) (by kernel_rfl) rfl rfl (Qt.index Try.underlying22 Try.cells24 rfl rfl (by omega) (Has.blk (Has.at 0 rfl)) (by simp only [blkD_len]; omega)) ?_
                  refine D.qX (k := 9) rfl (by kernel_rfl) (by kernel_rfl) (by kernel_rfl) rfl rfl (Qt.load rfl (Ld.sl (Has.blk (Has.at 0 rfl)) Try.one24 (blkD_get (by (try dsimp only); omega)))) ?_
                  refine D.qX (k := 10) rfl (by kernel_rfl) (by kernel_rfl) (by kernel_rfl) rfl rfl (Qt.move (by conv => lhs; whnf)) ?_
                  refine D.qX (k := 11) rfl (by kernel_rfl) (by kernel_rfl) (by kernel_rfl) rfl rfl (Qt.move (by conv => lhs; whnf)) ?_
                  refine D.qX (k := 12) rfl (by kernel_rfl) (by kernel_rfl) (by kernel_rfl) rfl rfl (Qt.index Try.underlying22 Try.cells24 rfl rfl (by omega) (Has.blk (Has.at 0 rfl)) (by simp only [blkD_len]; omega)) ?_
                  refine D.qX (k := 13) rfl (by kernel_rfl) (by kernel_rfl) (by kernel_rfl) rfl rfl (Qt.load rfl (Ld.sl (Has.blk (Has.at 0 rfl)) Try.one24 (blkD_get (by (try dsimp only); omega)))) ?_
                  refine D.qX (k := 14) rfl (by kernel_rfl) (by kernel_rfl) (by kernel_rfl) rfl rfl (Qt.index1 Try.underlying22 Try.cells24 rfl rfl (by omega) (Has.blk (Has.at 0 rfl)) (by simp only [blkD_len]; omega)) ?_
                  refine D.opN (k := 15) (Sub.nil _) rfl (by kernel_rfl) (by kernel_rfl) rfl (OpV.storeE0 rfl (by conv => lhs; whnf) Try.cells24 rfl rfl (by simp only [blkD_len, Array.size_setIfInBounds]; omega) (blkD_set (by (try dsimp only); omega)) ⟨Sub.nil _, ?_⟩)
                  refine D.qX (k := 16) rfl (by kernel_rfl) (by kernel_rfl) (by kernel_rfl) rfl rfl (Qt.index1 (i := j - 1) Try.underlying22 Try.cells24 rfl rfl (by omega) (Has.blk (Has.at 0 rfl)) (by simp only [blkD_len, Array.size_setIfInBounds]; omega)) ?_
                  refine D.opN (k := 17) (Sub.nil _) rfl (by kernel_rfl) (by kernel_rfl) rfl (OpV.storeE0 rfl (by conv => lhs; whnf) Try.cells24 rfl rfl (by simp only [blkD_len, Array.size_setIfInBounds]; omega) (blkD_set (by (try simp only [Array.size_setIfInBounds]); omega)) ⟨Sub.nil _, ?_⟩)
                  refine D.done (Sub.nil _) (by kernel_rfl) ?_
                  refine TC.region ?_
                  refine S.q rfl rfl (Qt.move (by conv => lhs; whnf)) ?_
                  refine S.q rfl rfl (Qt.sub (b := 1) rfl rfl (by omega) (by simp only [kmax]; omega)) ?_
                  refine S.q rfl rfl (Qt.assign (by conv => lhs; whnf)) ?_
                  refine S.nil ?_
                  refine ⟨(j - 1, Go.Sort.swp f j (j - 1)), ?_, ?_, ⟨?_, (List.forall_mem_cons.2 ⟨rfl, (fun _ h => nomatch h)⟩)⟩, Sub.refl _⟩
                  · exact ⟨by dsimp only; omega, (Go.Sort.swp_size _ _ _).trans hf, (sd_step h65 h77).symm.trans hqf⟩
                  · show _ < _; dsimp only; omega
                  repeat (first | exact Out.refl _ _ | refine Out.put rfl ?_ | refine Out.puts rfl ?_ | refine Out.scr ?_ | refine Out.scr' rfl ?_)
                · refine D.cX (k := 9) rfl (by kernel_rfl) (by kernel_rfl) (by kernel_rfl) rfl rfl (CalU.con0 Try.ent59 rfl (fun w hw => less_f h77 w)) ?_
                  refine D.qX (k := 10) rfl (by kernel_rfl) (by kernel_rfl) (by kernel_rfl) rfl rfl (Qt.not_f rfl) ?_
                  refine D.done (Sub.nil _) (by kernel_rfl) ?_
                  refine S.if_t rfl ?_
                  refine TC.exit ?_
                  refine ⟨f, ?_, ⟨?_, (fun _ h => nomatch h)⟩, Sub.refl _⟩
                  · exact ⟨hf, by rw [Go.Sort.fixDown, if_pos h61, ← hqf, sd_stop2 h77]⟩
                  repeat (first | exact Out.refl _ _ | refine Out.put rfl ?_ | refine Out.puts rfl ?_ | refine Out.scr ?_ | refine Out.scr' rfl ?_)
              · refine S.nil ?_
                refine S.if_f rfl ?_
                refine TC.exit ?_
                refine ⟨f, ?_, ⟨?_, (fun _ h => nomatch h)⟩, Sub.refl _⟩
                · exact ⟨hf, by rw [Go.Sort.fixDown, if_pos h61, ← hqf, sd_stop1 h65]⟩
                repeat (first | exact Out.refl _ _ | refine Out.put rfl ?_ | refine Out.puts rfl ?_ | refine Out.scr ?_ | refine Out.scr' rfl ?_)
            · refine S.nil ?_
              refine S.if_f rfl ?_
              refine TC.skip ?_
              refine ⟨Go.Sort.swp e k (k - 1), ?_, ⟨?_, (fun _ h => nomatch h)⟩, Sub.refl _⟩
              · exact ⟨(Go.Sort.swp_size _ _ _).trans he, (if_neg h61).symm⟩
              repeat (first | exact Out.refl _ _ | refine Out.put rfl ?_ | refine Out.puts rfl ?_ | refine Out.scr ?_ | refine Out.scr' rfl ?_)
          · rintro f2 u ⟨hf2, ef2⟩
            refine TC.seq ?_
            refine TC.region ?_
            refine S.q rfl rfl (Qt.move (by conv => lhs; whnf)) ?_
            refine S.q rfl rfl (Qt.move (by conv => lhs; whnf)) ?_
            refine S.q rfl rfl (Qt.sub rfl rfl (by omega) (by simp only [kmax]; omega)) ?_
            refine S.dec rfl rfl (Qt.ge (b := 2) rfl rfl) (fun h98 => ?_) (fun h98 => ?_)
            · refine S.nil ?_
              refine S.if_t rfl ?_
              refine TC.seq ?_
              refine TC.region ?_
              refine S.q rfl rfl (Qt.move (by conv => lhs; whnf)) ?_
              refine S.q rfl rfl (Qt.add (b := 1) rfl rfl (by simp only [kmax]; omega)) ?_
              refine S.q rfl rfl (Qt.assign (by conv => lhs; whnf)) ?_
              refine S.nil ?_
              refine TC.block ?_
              refine TC.loop (γ := Nat × Array Nat) [101, 102, 103, 106, 107, 108, 109, 110, 111, 112, 113, 114, 115, 116, 117, 118, 119, 120, 121, 122, 123, 124, 125, 126, 127, 128, 129, 130, 131, 132, 104, 105, 10] (fun q => [(10, .int .i64 ((q.1 : Nat) : Int))]) (fun q => [Blk g 24 (blkD q.2 r)]) (fun q => 1 ≤ q.1 ∧ q.1 ≤ b + 1 ∧ q.2.size = n ∧ Go.Sort.shiftUp ltN b q.1 q.2 = Go.Sort.shiftUp ltN b (k + 1) f2) (fun q => b + 1 - q.1) ((k + 1, f2))
                ⟨by dsimp only; omega, by dsimp only; omega, hf2, rfl⟩ ⟨Out.refl _ _, (List.forall_mem_cons.2 ⟨rfl, (fun _ h => nomatch h)⟩)⟩ (Sub.refl _) ?_
              rintro ⟨m, y⟩ u ⟨hm1, hmb, hy, hqy⟩
              dsimp only at hm1 hmb hy hqy
              show TC _ _ _ (puts [(10, .int .i64 ((m : Nat) : Int))] (scr _ u _)) [Blk g 24 (blkD (y) r)]
              refine TC.seq ?_
              refine TC.seq ?_
              refine TC.region ?_
              refine S.q rfl rfl (Qt.move (by conv => lhs; whnf)) ?_
              refine S.q rfl rfl (Qt.move (by conv => lhs; whnf)) ?_
              refine S.dec rfl rfl (Qt.lt rfl rfl) (fun h103 => ?_) (fun h103 => ?_)
              · refine S.nil ?_
                refine S.if_t rfl ?_
                refine TC.skip ?_
                refine TC.seq ?_
                refine TC.block ?_
                refine TC.seq ?_
                refine TC.seq ?_
                refine S.draw ([], []) Try.mixed (Sub.nil _) ?_
                refine D.qX (k := 0) rfl (by kernel_rfl) (by kernel_rfl) (by kernel_rfl) rfl rfl (Qt.move (by conv => lhs; whnf)) ?_
                refine D.qX (k := 1) rfl (by kernel_rfl) (by kernel_rfl) (by kernel_rfl) rfl rfl (Qt.move (by conv => lhs; whnf)) ?_
                refine D.qX (k := 2) rfl (by kernel_rfl) (by kernel_rfl) (by kernel_rfl) rfl rfl (Qt.index Try.underlying22 Try.cells24 rfl rfl (by omega) (Has.blk (Has.at 0 rfl)) (by simp only [blkD_len]; omega)) ?_
                refine D.qX (k := 3) rfl (by kernel_rfl) (by kernel_rfl) (by kernel_rfl) rfl rfl (Qt.load rfl (Ld.sl (Has.blk (Has.at 0 rfl)) Try.one24 (blkD_get (by (try dsimp only); omega)))) ?_
                refine D.qX (k := 4) rfl (by kernel_rfl) (by kernel_rfl) (by kernel_rfl) rfl rfl (Qt.move (by conv => lhs; whnf)) ?_
                refine D.qX (k := 5) rfl (by kernel_rfl) (by kernel_rfl) (by kernel_rfl) rfl rfl (Qt.move (by conv => lhs; whnf)) ?_
                refine D.qX (k := 6) rfl (by kernel_rfl) (by kernel_rfl) (by kernel_rfl) rfl rfl (Qt.sub (b := 1) rfl rfl (by omega) (by simp only [kmax]; omega)) ?_
                refine D.qX (k := 7) rfl (by kernel_rfl) (by kernel_rfl) (by kernel_rfl) rfl rfl (Qt.index Try.underlying22 Try.cells24 rfl rfl (by omega) (Has.blk (Has.at 0 rfl)) (by simp only [blkD_len]; omega)) ?_
                refine D.qX (k := 8) rfl (by kernel_rfl) (by kernel_rfl) (by kernel_rfl) rfl rfl (Qt.load rfl (Ld.sl (Has.blk (Has.at 0 rfl)) Try.one24 (blkD_get (by (try dsimp only); omega)))) ?_
                by_cases h115 : ltN y[m]! y[m - 1]! = true
                · refine D.cX (k := 9) rfl (by kernel_rfl) (by kernel_rfl) (by kernel_rfl) rfl rfl (CalU.con0 Try.ent59 rfl (fun w hw => less_t h115 w)) ?_
                  refine D.qX (k := 10) rfl (by kernel_rfl) (by kernel_rfl) (by kernel_rfl) rfl rfl (Qt.not_t rfl) ?_
                  refine D.done (Sub.nil _) (by kernel_rfl) ?_
                  refine S.if_f rfl ?_
                  refine TC.skip ?_
                  refine S.draw ([15, 17], []) Try.mixed (Sub.nil _) ?_
                  refine D.qX (k := 0) rfl (by kernel_rfl) (by kernel_rfl) (by kernel_rfl) rfl rfl (Qt.move (by conv => lhs; whnf)) ?_
                  refine D.qX (k := 1) rfl (by kernel_rfl) (by kernel_rfl) (by kernel_rfl) rfl rfl (Qt.move (by conv => lhs; whnf)) ?_
                  refine D.q (k := 2) rfl (by kernel_rfl) (by kernel_rfl) rfl rfl (Qt.move (by conv => lhs; whnf)) ?_
                  refine D.q (k := 3) rfl (by kernel_rfl) (by kernel_rfl) rfl rfl (Qt.move (by conv => lhs; whnf)) ?_
                  refine D.q (k := 4) rfl (by kernel_rfl) (by kernel_rfl) rfl rfl (Qt.sub (b := 1) rfl rfl (by omega) (by simp only [kmax]; omega)) ?_
                  refine D.qX (k := 5) rfl (by kernel_rfl) (by kernel_rfl) (by kernel_rfl) rfl rfl (Qt.move (by conv => lhs; whnf)) ?_
                  refine D.qX (k := 6) rfl (by kernel_rfl) (by kernel_rfl) (by kernel_rfl) rfl rfl (Qt.move (by conv => lhs; whnf)) ?_
                  refine D.qX (k := 7) rfl (by kernel_rfl) (by kernel_rfl) (by kernel_rfl) rfl rfl (Qt.sub (b := 1) rfl rfl (by omega) (by simp only [kmax]; omega)) ?_
                  refine D.qX (k := 8) rfl (by kernel_rfl) (by kernel_rfl) (by kernel_rfl) rfl rfl (Qt.index Try.underlying22 Try.cells24 rfl rfl (by omega) (Has.blk (Has.at 0 rfl)) (by simp only [blkD_len]; omega)) ?_
                  refine D.qX (k := 9) rfl (by kernel_rfl) (by kernel_rfl) (by kernel_rfl) rfl rfl (Qt.load rfl (Ld.sl (Has.blk (Has.at 0 rfl)) Try.one24 (blkD_get (by (try dsimp only); omega)))) ?_
                  refine D.qX (k := 10) rfl (by kernel_rfl) (by kernel_rfl) (by kernel_rfl) rfl rfl (Qt.move (by conv => lhs; whnf)) ?_
                  refine D.qX (k := 11) rfl (by kernel_rfl) (by kernel_rfl) (by kernel_rfl) rfl rfl (Qt.move (by conv => lhs; whnf)) ?_
                  refine D.qX (k := 12) rfl (by kernel_rfl) (by kernel_rfl) (by kernel_rfl) rfl rfl (Qt.index Try.underlying22 Try.cells24 rfl rfl (by omega) (Has.blk (Has.at 0 rfl)) (by simp only [blkD_len]; omega)) ?_
                  refine D.qX (k := 13) rfl (by kernel_rfl) (by kernel_rfl) (by kernel_rfl) rfl rfl (Qt.load rfl (Ld.sl (Has.blk (Has.at 0 rfl)) Try.one24 (blkD_get (by (try dsimp only); omega)))) ?_
                  refine D.qX (k := 14) rfl (by kernel_rfl) (by kernel_rfl) (by kernel_rfl) rfl rfl (Qt.index1 Try.underlying22 Try.cells24 rfl rfl (by omega) (Has.blk (Has.at 0 rfl)) (by simp only [blkD_len]; omega)) ?_
                  refine D.opN (k := 15) (Sub.nil _) rfl (by kernel_rfl) (by kernel_rfl) rfl (OpV.storeE0 rfl (by conv => lhs; whnf) Try.cells24 rfl rfl (by simp only [blkD_len, Array.size_setIfInBounds]; omega) (blkD_set (by (try dsimp only); omega)) ⟨Sub.nil _, ?_⟩)
                  refine D.qX (k := 16) rfl (by kernel_rfl) (by kernel_rfl) (by kernel_rfl) rfl rfl (Qt.index1 (i := m - 1) Try.underlying22 Try.cells24 rfl rfl (by omega) (Has.blk (Has.at 0 rfl)) (by simp only [blkD_len, Array.size_setIfInBounds]; omega)) ?_
                  refine D.opN (k := 17) (Sub.nil _) rfl (by kernel_rfl) (by kernel_rfl) rfl (OpV.storeE0 rfl (by conv => lhs; whnf) Try.cells24 rfl rfl (by simp only [blkD_len, Array.size_setIfInBounds]; omega) (blkD_set (by (try simp only [Array.size_setIfInBounds]); omega)) ⟨Sub.nil _, ?_⟩)
                  refine D.done (Sub.nil _) (by kernel_rfl) ?_
                  refine TC.region ?_
                  refine S.q rfl rfl (Qt.move (by conv => lhs; whnf)) ?_
                  refine S.q rfl rfl (Qt.add (b := 1) rfl rfl (by simp only [kmax]; omega)) ?_
                  refine S.q rfl rfl (Qt.assign (by conv => lhs; whnf)) ?_
                  refine S.nil ?_
                  refine ⟨(m + 1, Go.Sort.swp y m (m - 1)), ?_, ?_, ⟨?_, (List.forall_mem_cons.2 ⟨rfl, (fun _ h => nomatch h)⟩)⟩, Sub.refl _⟩
                  · exact ⟨by dsimp only; omega, by dsimp only; omega, (Go.Sort.swp_size _ _ _).trans hy, (su_step h103 h115).symm.trans hqy⟩
                  · show _ < _; dsimp only; omega
                  repeat (first | exact Out.refl _ _ | refine Out.put rfl ?_ | refine Out.puts rfl ?_ | refine Out.scr ?_ | refine Out.scr' rfl ?_)
                · refine D.cX (k := 9) rfl (by kernel_rfl) (by kernel_rfl) (by kernel_rfl) rfl rfl (CalU.con0 Try.ent59 rfl (fun w hw => less_f h115 w)) ?_
                  refine D.qX (k := 10) rfl (by kernel_rfl) (by kernel_rfl) (by kernel_rfl) rfl rfl (Qt.not_f rfl) ?_
                  refine D.done (Sub.nil _) (by kernel_rfl) ?_
                  refine S.if_t rfl ?_
                  refine TC.exit ?_
                  refine TC.region ?_
                  refine S.q rfl rfl (Qt.move (by conv => lhs; whnf)) ?_
                  refine S.q rfl rfl (Qt.add (b := 1) rfl rfl (by simp only [kmax]; omega)) ?_
                  refine S.q rfl rfl (Qt.assign (by conv => lhs; whnf)) ?_
                  refine S.nil ?_
                  refine ⟨(t + 1, k, y), ?_, ?_, ⟨?_, (List.forall_mem_cons.2 ⟨rfl, (List.forall_mem_cons.2 ⟨rfl, (fun _ h => nomatch h)⟩)⟩)⟩, Sub.refl _⟩
                  · exact ⟨by dsimp only; omega, by dsimp only; omega, by dsimp only; omega, hy, (by dsimp only; rw [← hq, pi_step (by omega) hk h37 h41 ef2 (by rw [Go.Sort.fixUp, if_pos h98, ← hqy, su_stop2 h103 h115]), show 5 - (t + 1) = 5 - t - 1 by omega])⟩
                  · show _ < _; dsimp only; omega
                  repeat (first | exact Out.refl _ _ | refine Out.put rfl ?_ | refine Out.puts rfl ?_ | refine Out.scr ?_ | refine Out.scr' rfl ?_)
              · refine S.nil ?_
                refine S.if_f rfl ?_
                refine TC.exit ?_
                refine TC.region ?_
                refine S.q rfl rfl (Qt.move (by conv => lhs; whnf)) ?_
                refine S.q rfl rfl (Qt.add (b := 1) rfl rfl (by simp only [kmax]; omega)) ?_
                refine S.q rfl rfl (Qt.assign (by conv => lhs; whnf)) ?_
                refine S.nil ?_
                refine ⟨(t + 1, k, y), ?_, ?_, ⟨?_, (List.forall_mem_cons.2 ⟨rfl, (List.forall_mem_cons.2 ⟨rfl, (fun _ h => nomatch h)⟩)⟩)⟩, Sub.refl _⟩
                · exact ⟨by dsimp only; omega, by dsimp only; omega, by dsimp only; omega, hy, (by dsimp only; rw [← hq, pi_step (by omega) hk h37 h41 ef2 (by rw [Go.Sort.fixUp, if_pos h98, ← hqy, su_stop1 h103]), show 5 - (t + 1) = 5 - t - 1 by omega])⟩
                · show _ < _; dsimp only; omega
                repeat (first | exact Out.refl _ _ | refine Out.put rfl ?_ | refine Out.puts rfl ?_ | refine Out.scr ?_ | refine Out.scr' rfl ?_)
            · refine S.nil ?_
              refine S.if_f rfl ?_
              refine TC.skip ?_
              refine TC.region ?_
              refine S.q rfl rfl (Qt.move (by conv => lhs; whnf)) ?_
              refine S.q rfl rfl (Qt.add (b := 1) rfl rfl (by simp only [kmax]; omega)) ?_
              refine S.q rfl rfl (Qt.assign (by conv => lhs; whnf)) ?_
              refine S.nil ?_
              refine ⟨(t + 1, k, f2), ?_, ?_, ⟨?_, (List.forall_mem_cons.2 ⟨rfl, (List.forall_mem_cons.2 ⟨rfl, (fun _ h => nomatch h)⟩)⟩)⟩, Sub.refl _⟩
              · exact ⟨by dsimp only; omega, by dsimp only; omega, by dsimp only; omega, hf2, (by dsimp only; rw [← hq, pi_step (by omega) hk h37 h41 ef2 (if_neg h98).symm, show 5 - (t + 1) = 5 - t - 1 by omega])⟩
              · show _ < _; dsimp only; omega
              repeat (first | exact Out.refl _ _ | refine Out.put rfl ?_ | refine Out.puts rfl ?_ | refine Out.scr ?_ | refine Out.scr' rfl ?_)
  · refine S.nil ?_
    refine S.if_f rfl ?_
    refine TC.exit ?_
    refine TC.seq ?_
    refine TC.region ?_
    refine S.q rfl rfl (Qt.assign (by conv => lhs; whnf)) ?_
    refine S.nil ?_
    refine TC.ret ?_
    refine finQ.ret (RVs.tmp (by conv => lhs; whnf) RVs.nil) (Sub.refl _) ?_
    rw [← hq, show 5 - t = 0 by omega]
    exact ⟨rfl, rfl⟩
end Go.Proofs.Ytaoicbjgkghnnaa
