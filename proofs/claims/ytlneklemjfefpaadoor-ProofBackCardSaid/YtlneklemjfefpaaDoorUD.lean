/-
  Walks: a tree's steps. Printed by a program of ours.
-/
import Derived.Test.YtlneklemjfefpaaDoorUD1
import Derived.Test.YtlneklemjfefpaaDoorTS
namespace Go.Proofs.YtlneklemjfefpaaDoor
open Go.E
set_option linter.unusedVariables false
set_option maxRecDepth 4000

set_option maxHeartbeats 400000 in
theorem wide_walk (A : Option Addr) (c : Nat) (B : Option Addr) (d : Nat) (xs : List Nat) (hx : xs.length ≤ 4096) (w0 : World) (hR : Ro w0 [] (SlA A (u64s xs))) (hB : Ro w0 [] (SlA B (u64s xs))) :
    Calls Tryd.prog 71 #[.slice A xs.length c, .slice B xs.length d] w0 (Post w0 [] fun v L => v = .bool true ∧ L = []) := by
  refine Calls.of (L := []) (n := 26) (rs := [.tmp 4]) Tryd.func71 rfl rfl rfl (Nat.le_of_ble_eq_true rfl) (Sat.nil _) ?_
  refine TC.seq ?_
  refine TC.region ?_
  refine S.q rfl rfl (Qt.assign (by conv => lhs; whnf)) ?_
  refine S.nil ?_
  refine TC.seq ?_
  refine TC.seq ?_
  refine TC.region ?_
  refine S.q rfl rfl (Qt.move (by conv => lhs; whnf)) ?_
  refine S.q rfl rfl (Qt.len_slice Tryd.underlying71 rfl) ?_
  refine S.q rfl rfl (Qt.move (by conv => lhs; whnf)) ?_
  refine S.q rfl rfl (Qt.len_slice Tryd.underlying71 rfl) ?_
  refine S.q rfl rfl (Qt.dF (Qt.ne rfl rfl) (fun h => h rfl)) ?_
  refine S.nil ?_
  refine S.if_f rfl ?_
  refine TC.skip ?_
  refine TC.seq ?_
  refine TC.seq ?_
  refine TC.region ?_
  refine S.q rfl rfl (Qt.move (by conv => lhs; whnf)) ?_
  refine S.q rfl rfl (Qt.len_slice Tryd.underlying71 rfl) ?_
  refine S.q rfl rfl (Qt.move (by conv => lhs; whnf)) ?_
  refine S.nil ?_
  refine TC.block ?_
  refine TC.loop (γ := Nat) [14, 15, 5, 16, 17, 18, 19, 20, 21, 22, 23, 24, 4, 25, 13] (fun k => [(13, .int .i64 (k : Int))]) (fun _ => _) (fun k => k ≤ xs.length) (fun k => xs.length - k) (0)
    (Nat.zero_le _) ⟨Out.refl _ _, (List.forall_mem_cons.2 ⟨rfl, (fun _ h => nomatch h)⟩)⟩ (Sub.refl _) ?_
  rintro k u hk
  refine TC.seq ?_
  refine TC.region ?_
  refine S.dec rfl rfl (Qt.lt rfl rfl) (fun h14 => ?_) (fun h14 => ?_)
  · refine S.nil ?_
    refine TC.seq ?_
    refine S.if_t rfl ?_
    refine TC.skip ?_
    refine TC.seq ?_
    refine TC.block ?_
    refine TC.seq ?_
    refine TC.region ?_
    refine S.q rfl rfl (Qt.move (by conv => lhs; whnf)) ?_
    refine S.q rfl rfl (Qt.assign (by conv => lhs; whnf)) ?_
    refine S.nil ?_
    refine TC.seq ?_
    refine S.draw ([], []) Tryd.mixed (Sub.refl _) ?_
    refine D.qX (k := 0) rfl (by kernel_rfl) (by kernel_rfl) (by kernel_rfl) rfl rfl (Qt.move (by conv => lhs; whnf)) ?_
    refine D.qX (k := 1) rfl (by kernel_rfl) (by kernel_rfl) (by kernel_rfl) rfl rfl (Qt.move (by conv => lhs; whnf)) ?_
    refine D.qX (k := 2) rfl (by kernel_rfl) (by kernel_rfl) (by kernel_rfl) rfl rfl (Qt.index Tryd.underlying71 Tryd.cells24 rfl rfl (by omega) (Has.ro hR) (by rw [u64s_len]; omega)) ?_
    refine D.qX (k := 3) rfl (by kernel_rfl) (by kernel_rfl) (by kernel_rfl) rfl rfl (Qt.load rfl (Ld.sl (v := .int .u64 ((xs.getD (k) 0 : Nat) : Int)) (Has.ro hR) Tryd.one24 (u64s_get1 (by omega)))) ?_
    refine D.qX (k := 4) rfl (by kernel_rfl) (by kernel_rfl) (by kernel_rfl) rfl rfl (Qt.move (by conv => lhs; whnf)) ?_
    refine D.qX (k := 5) rfl (by kernel_rfl) (by kernel_rfl) (by kernel_rfl) rfl rfl (Qt.move (by conv => lhs; whnf)) ?_
    refine D.qX (k := 6) rfl (by kernel_rfl) (by kernel_rfl) (by kernel_rfl) rfl rfl (Qt.index Tryd.underlying71 Tryd.cells24 rfl rfl (by omega) (Has.ro hB) (by rw [u64s_len]; omega)) ?_
    refine D.qX (k := 7) rfl (by kernel_rfl) (by kernel_rfl) (by kernel_rfl) rfl rfl (Qt.load rfl (Ld.sl (v := .int .u64 ((xs.getD k 0 : Nat) : Int)) (Has.ro hB) Tryd.one24 (u64s_get1 (by omega)))) ?_
    refine D.qX (k := 8) rfl (by kernel_rfl) (by kernel_rfl) (by kernel_rfl) rfl rfl (Qt.dF (Qt.ne rfl rfl) (fun h => h rfl)) ?_
    refine D.done (Sub.refl _) (by kernel_rfl) ?_
    refine S.if_f rfl ?_
    refine TC.skip ?_
    refine TC.region ?_
    refine S.q rfl rfl (Qt.add (b := 1) rfl rfl (by simp only [kmax]; omega)) ?_
    refine S.q rfl rfl (Qt.move (by conv => lhs; whnf)) ?_
    refine S.nil ?_
    refine ⟨k + 1, ?_, ?_, ⟨?_, (List.forall_mem_cons.2 ⟨rfl, (fun _ h => nomatch h)⟩)⟩, Sub.refl _⟩
    · show _ ≤ _; omega
    · show _ < _; dsimp only; omega
    repeat (first | exact Out.refl _ _ | refine Out.put rfl ?_ | refine Out.puts rfl ?_ | refine Out.scr ?_ | refine Out.scr' rfl ?_)
  · refine S.nil ?_
    refine TC.seq ?_
    refine S.if_f rfl ?_
    refine TC.exit ?_
    refine TC.seq ?_
    refine TC.region ?_
    refine S.q rfl rfl (Qt.assign (by conv => lhs; whnf)) ?_
    refine S.nil ?_
    refine TC.ret ?_
    refine finQ.ret (RVs.tmp (by conv => lhs; whnf) RVs.nil) (Sub.nil _) ?_
    exact ⟨rfl, rfl⟩
theorem wide_R (A : Option Addr) (c : Nat) (B : Option Addr) (d : Nat) (xs : List Nat) (hx : xs.length ≤ 4096) (w0 : World) (hR : Ro w0 [] (SlA A (u64s xs))) (hB : Ro w0 [] (SlA B (u64s xs))) : Calls Tryd.prog 71 #[.slice A xs.length c, .slice B xs.length d] w0 (Ret w0 (.bool true)) := Calls.ret (wide_walk A c B d xs hx w0 hR hB)

end Go.Proofs.YtlneklemjfefpaaDoor
