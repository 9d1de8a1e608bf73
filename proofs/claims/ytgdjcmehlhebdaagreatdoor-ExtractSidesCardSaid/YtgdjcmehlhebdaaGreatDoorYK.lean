/-
  Facts of the table that the turned walks need. Printed by a program of ours. Walks: spans. Printed by a program of ours. Walks: spans, counted and made. Printed by a program of ours. Walks: spans made. Printed by a program of ours. Walks: the document's sides. Printed by a program of ours. Walks: what the functions of the package sha compute. Printed by a program of ours. Walks: what the functions of the package entrustref02 compute. Printed by a program of ours. Walks: what the functions of the packages octets and node compute. Printed by a program of ours. Walks: heights, and the root behind a growing step. Printed by a program of ours. Walks: the tree of the program. Printed by a program of ours. Facts of the program's table that the later walks use. Printed by a program of ours. Walks: the ways up of a tree. Printed by a program of ours. Walks: the document's tree. Printed by a program of ours. Walks: the two trees side by side. Printed by a program of ours. Walks: spans. Printed by a program of ours. Walks: spans, counted and made. Printed by a program of ours. Walks: a tree that is nil. Printed by a program of ours. Walks: spans made. Printed by a program of ours. Walks: the law of a span's indices. Printed by a program of ours.
-/
import Derived.Test.YtgdjcmehlhebdaaGreatDoorEQ
import Derived.Test.YtgdjcmehlhebdaaGreatDoorYZs
import Derived.Test.YtgdjcmehlhebdaaGreatDoorTP
import Derived.Test.YtgdjcmehlhebdaaGreatDoorY9
import Derived.Test.YtgdjcmehlhebdaaGreatDoorP1
import Derived.Test.YtgdjcmehlhebdaaGreatDoorSH
import Derived.Test.YtgdjcmehlhebdaaGreatDoorE2
import Derived.Test.YtgdjcmehlhebdaaGreatDoorYQ
import Derived.Test.YtgdjcmehlhebdaaGreatDoorYF
import Derived.Test.YtgdjcmehlhebdaaGreatDoorYZTA
import Derived.Test.YtgdjcmehlhebdaaGreatDoorY1
import Derived.Test.YtgdjcmehlhebdaaGreatDoorY2
import Derived.Test.YtgdjcmehlhebdaaGreatDoorYZTJ
import Derived.Test.YtgdjcmehlhebdaaGreatDoorY4
import Derived.Test.YtgdjcmehlhebdaaGreatDoorYZUD1
import Derived.Test.YtgdjcmehlhebdaaGreatDoorY5
import Derived.Test.YtgdjcmehlhebdaaGreatDoorY6
import Derived.Test.YtgdjcmehlhebdaaGreatDoorY7
import Derived.Test.YtgdjcmehlhebdaaGreatDoorY8
import Derived.Test.YtgdjcmehlhebdaaGreatDoorYZE
import Derived.Test.YtgdjcmehlhebdaaGreatDoorYZG
import Derived.Test.YtgdjcmehlhebdaaGreatDoorYZFX
import Derived.Test.YtgdjcmehlhebdaaGreatDoorTR
import Derived.Test.YtgdjcmehlhebdaaGreatDoorGR
import Derived.Test.YtgdjcmehlhebdaaGreatDoorP2
import Derived.Test.YtgdjcmehlhebdaaGreatDoorMO
import Derived.Test.YtgdjcmehlhebdaaGreatDoorProg
namespace Go.Proofs.YtgdjcmehlhebdaaGreatDoor
open Go.E
set_option linter.unusedVariables false
set_option maxRecDepth 4000
theorem Tryz.cells43 : (Tryz.prog.info? 43).map (·.size) = some 2 := by kernel_rfl
theorem Tryz.cells265 : (Tryz.prog.info? 265).map (·.size) = some 2 := by kernel_rfl
theorem Tryz.row43 : rowT Tryz.prog 43 = true := by kernel_rfl
theorem Tryz.row265 : rowT Tryz.prog 265 = true := by kernel_rfl
theorem Tryz.zero43 : zeroOf Tryz.prog 43 = some ([.slice none 0 0] ++ [.slice none 0 0]) := by kernel_rfl
theorem Tryz.zero265 : zeroOf Tryz.prog 265 = some ([.int .i64 0] ++ [.int .u64 0]) := by kernel_rfl
theorem Tryz.ent19 : Enters Tryz.prog 19 := ⟨_, Tryz.func19, by kernel_rfl, rfl⟩
theorem Tryz.ent63 : Enters Tryz.prog 63 := ⟨_, Tryz.func63, by kernel_rfl, rfl⟩
theorem Tryz.ent64 : Enters Tryz.prog 64 := ⟨_, Tryz.func64, by kernel_rfl, rfl⟩
theorem Tryz.ent65 : Enters Tryz.prog 65 := ⟨_, Tryz.func65, by kernel_rfl, rfl⟩
theorem Tryz.ent66 : Enters Tryz.prog 66 := ⟨_, Tryz.func66, by kernel_rfl, rfl⟩
theorem Tryz.ent91 : Enters Tryz.prog 91 := ⟨_, Tryz.func91, by kernel_rfl, rfl⟩
theorem Tryz.ent104 : Enters Tryz.prog 104 := ⟨_, Tryz.func104, by kernel_rfl, rfl⟩
theorem Tryz.ent125 : Enters Tryz.prog 125 := ⟨_, Tryz.func125, by kernel_rfl, rfl⟩
theorem Tryz.ent127 : Enters Tryz.prog 127 := ⟨_, Tryz.func127, by kernel_rfl, rfl⟩
theorem Tryz.ent128 : Enters Tryz.prog 128 := ⟨_, Tryz.func128, by kernel_rfl, rfl⟩
theorem Tryz.ent129 : Enters Tryz.prog 129 := ⟨_, Tryz.func129, by kernel_rfl, rfl⟩
theorem Tryz.ent132 : Enters Tryz.prog 132 := ⟨_, Tryz.func132, by kernel_rfl, rfl⟩
theorem Tryz.ent147 : Enters Tryz.prog 147 := ⟨_, Tryz.func147, by kernel_rfl, rfl⟩
theorem Tryz.ent184 : Enters Tryz.prog 184 := ⟨_, Tryz.func184, by kernel_rfl, rfl⟩
theorem Tryz.ent186 : Enters Tryz.prog 186 := ⟨_, Tryz.func186, by kernel_rfl, rfl⟩
theorem Tryz.elem265 : elemT Tryz.prog 265 2 16 := elemT_of (by kernel_rfl)
end Go.Proofs.YtgdjcmehlhebdaaGreatDoor
namespace Go.Proofs.YtgdjcmehlhebdaaGreatDoor
open Go.E
set_option linter.unusedVariables false
set_option maxRecDepth 4000

end Go.Proofs.YtgdjcmehlhebdaaGreatDoor
namespace Go.Proofs.YtgdjcmehlhebdaaGreatDoor
open Go.E
set_option linter.unusedVariables false
set_option maxRecDepth 4000


end Go.Proofs.YtgdjcmehlhebdaaGreatDoor
namespace Go.Proofs.YtgdjcmehlhebdaaGreatDoor
open Go.E
set_option linter.unusedVariables false
set_option maxRecDepth 4000


end Go.Proofs.YtgdjcmehlhebdaaGreatDoor
namespace Go.Proofs.YtgdjcmehlhebdaaGreatDoor
open Go.E
set_option linter.unusedVariables false
set_option maxRecDepth 4000

theorem m2n0 {n : Nat} (h : n % 2 ≠ 0) : n % 2 = 1 := by omega
theorem m2n0f {n : Nat} (h : ¬ n % 2 ≠ 0) : ¬ n % 2 = 1 := by omega
theorem m2n1 {n : Nat} (h : n % 2 ≠ 1) : n % 2 = 0 := by omega
theorem m2n1f {n : Nat} (h : ¬ n % 2 ≠ 1) : ¬ n % 2 = 0 := by omega
end Go.Proofs.YtgdjcmehlhebdaaGreatDoor
namespace Go.Proofs.YtgdjcmehlhebdaaGreatDoor
open Go.E
set_option linter.unusedVariables false
set_option maxRecDepth 4000
end Go.Proofs.YtgdjcmehlhebdaaGreatDoor
namespace Go.Proofs.YtgdjcmehlhebdaaGreatDoor
open Go.E
set_option linter.unusedVariables false
set_option maxRecDepth 4000
end Go.Proofs.YtgdjcmehlhebdaaGreatDoor
namespace Go.Proofs.YtgdjcmehlhebdaaGreatDoor
open Go.E
set_option linter.unusedVariables false
set_option maxRecDepth 4000
set_option maxHeartbeats 400000 in
theorem rjoin_walk (h : Nat) (h2 : h ≤ 32) (l r : H32) (w0 : World) (hT : Tabs 2 0 w0 []) :
    Calls Tryz.prog 184 #[.int .i64 (h : Int), hv l, hv r] w0 (Post w0 [] fun v L => v = hv (joinH h l r) ∧ L = []) := by
  refine Calls.of (L := []) (n := 12) (rs := [.cell 6 49]) Tryz.func184 rfl rfl rfl (Nat.le_of_ble_eq_true rfl) (Sat.nil _) ?_
  refine TC.seq ?_
  refine TC.region ?_
  refine S.opS rfl rfl (OpV.box (v := hv l) rfl (fun b4 => ?_))
  refine S.opS rfl rfl (OpV.box (v := hv r) rfl (fun b5 => ?_))
  refine S.opS rfl rfl (OpV.alloc Tryz.zero49 (fun b6 => ?_))
  refine S.nil ?_
  refine TC.seq ?_
  refine TC.region ?_
  refine S.mv ?_
  refine S.q rfl rfl (Qt.load rfl (Ld.hash1 (x := l) (Has.at 2 rfl) Tryz.row49 Tryz.cells49)) ?_
  refine S.q rfl rfl (Qt.load rfl (Ld.hash1 (x := r) (Has.at 1 rfl) Tryz.row49 Tryz.cells49)) ?_
  refine S.opS rfl rfl (OpV.con (Pre := []) (R := _) Tryz.ent126 rfl (List.Perm.refl _) (fun w hw => rjointext_walk h h2 l r w) ?_)
  rintro v L' ⟨O, d, rfl, rfl⟩
  refine S.opS rfl rfl (OpV.con0 Tryz.ent57 rfl (fun w hw => Calls.ret (rsum_walk O d (joinT h l r) w (Rd.own (Rd.at 0 rfl) w hw) (by rw [joinT_length]; decide) (hT.at hw))) ?_)
  refine S.opN rfl (OpV.storeV1 (v := hv (joinH h l r)) rfl rfl (hv_size Tryz.cells49) (hv_all _) (hv_len _) ?_)
  refine S.nil ?_
  refine TC.ret ?_
  refine finQ.ret (RVs.cell rfl (Ld.all (Has.at 1 rfl) Tryz.row49 (hv_size Tryz.cells49)) RVs.nil) (Sub.nil _) ?_
  exact ⟨rfl, rfl⟩
theorem rjoin_R (h : Nat) (h2 : h ≤ 32) (l r : H32) (w0 : World) (hT : Tabs 2 0 w0 []) : Calls Tryz.prog 184 #[.int .i64 (h : Int), hv l, hv r] w0 (Ret w0 (hv (joinH h l r))) := Calls.ret (rjoin_walk h h2 l r w0 hT)

end Go.Proofs.YtgdjcmehlhebdaaGreatDoor
namespace Go.Proofs.YtgdjcmehlhebdaaGreatDoor
open Go.E
set_option linter.unusedVariables false
set_option maxRecDepth 4000
end Go.Proofs.YtgdjcmehlhebdaaGreatDoor
namespace Go.Proofs.YtgdjcmehlhebdaaGreatDoor
open Go.E
set_option linter.unusedVariables false
set_option maxRecDepth 4000
end Go.Proofs.YtgdjcmehlhebdaaGreatDoor
namespace Go.Proofs.YtgdjcmehlhebdaaGreatDoor
open Go.E
set_option linter.unusedVariables false
set_option maxRecDepth 4000
end Go.Proofs.YtgdjcmehlhebdaaGreatDoor
namespace Go.Proofs.YtgdjcmehlhebdaaGreatDoor
open Go.E
set_option linter.unusedVariables false
set_option maxRecDepth 4000

end Go.Proofs.YtgdjcmehlhebdaaGreatDoor
namespace Go.Proofs.YtgdjcmehlhebdaaGreatDoor
open Go.E
set_option linter.unusedVariables false
set_option maxRecDepth 4000

end Go.Proofs.YtgdjcmehlhebdaaGreatDoor
namespace Go.Proofs.YtgdjcmehlhebdaaGreatDoor
open Go.E
set_option linter.unusedVariables false
set_option maxRecDepth 4000

end Go.Proofs.YtgdjcmehlhebdaaGreatDoor
namespace Go.Proofs.YtgdjcmehlhebdaaGreatDoor
open Go.E
set_option linter.unusedVariables false
set_option maxRecDepth 4000

set_option maxHeartbeats 400000 in
theorem right_walk (h f n : Nat) (hh : h ≤ 32) (hf : f < 18446744073709551616) (h1 : 1 ≤ n) (h2 : n ≤ 256) (w0 : World) :
    Calls Tryz.prog 104 #[.int .i64 (h : Int), .int .u64 (f : Int), .int .i64 (n : Int)] w0 (Post w0 [] fun v L => v = .bool (decide (f + n ≤ 2 ^ h)) ∧ L = []) := by
  refine Calls.of (L := []) (n := 35) (rs := [.tmp 6]) Tryz.func104 rfl rfl rfl (Nat.le_of_ble_eq_true rfl) (Sat.nil _) ?_
  have hpw : 2 ^ h ≤ 4294967296 := (show 2 ^ h ≤ 2 ^ 32 from Nat.pow_le_pow_right (by decide) hh)
  refine TC.seq ?_
  refine TC.region ?_
  refine S.as ?_
  refine S.nil ?_
  refine TC.seq ?_
  refine TC.seq ?_
  refine TC.region ?_
  refine S.mv ?_
  refine S.q rfl rfl (Qt.dF (Qt.lt (b := 0) rfl rfl) (by omega)) ?_
  refine S.mv ?_
  refine S.qg rfl rfl rfl (Qt.move (by conv => lhs; whnf)) ?_
  refine S.qg rfl rfl rfl (Qt.dF (Qt.gt (b := 32) rfl rfl) (by omega)) ?_
  refine S.q rfl rfl (Qt.pick_f rfl (by conv => lhs; whnf)) ?_
  refine S.mv ?_
  refine S.qg rfl rfl rfl (Qt.move (by conv => lhs; whnf)) ?_
  refine S.qg rfl rfl rfl (Qt.dF (Qt.lt (b := 1) rfl rfl) (by omega)) ?_
  refine S.q rfl rfl (Qt.pick_f rfl (by conv => lhs; whnf)) ?_
  refine S.mv ?_
  refine S.qg rfl rfl rfl (Qt.move (by conv => lhs; whnf)) ?_
  refine S.qg rfl rfl rfl (Qt.dF (Qt.gt (b := 256) rfl rfl) (by omega)) ?_
  refine S.q rfl rfl (Qt.pick_f rfl (by conv => lhs; whnf)) ?_
  refine S.nil ?_
  refine S.if_f rfl ?_
  refine TC.skip ?_
  refine TC.seq ?_
  refine TC.region ?_
  refine S.mv ?_
  refine S.q rfl rfl (Qt.as (Qt.shlN (a := 1) rfl rfl (by simp only [kmax]; omega)) (by rw [Nat.one_mul])) ?_
  refine S.as ?_
  refine S.nil ?_
  refine TC.seq ?_
  refine TC.region ?_
  refine S.mv ?_
  refine S.mv ?_
  refine S.dec rfl rfl (Qt.lt rfl rfl) (fun h26 => ?_) (fun h26 => ?_)
  · refine S.mv ?_
    refine S.qg rfl rfl rfl (Qt.move (by conv => lhs; whnf)) ?_
    refine S.qg rfl rfl rfl (Qt.convert Tryz.underlying3 Tryz.underlying40 rfl (by simp only [kmax]; omega)) ?_
    refine S.qg rfl rfl rfl (Qt.move (by conv => lhs; whnf)) ?_
    refine S.qg rfl rfl rfl (Qt.move (by conv => lhs; whnf)) ?_
    refine S.qg rfl rfl rfl (Qt.sub rfl rfl (by omega) (by simp only [kmax]; omega)) ?_
    refine S.decg rfl rfl rfl (Qt.le rfl rfl) (fun h33 => ?_) (fun h33 => ?_)
    · refine S.q rfl rfl (Qt.pick_t rfl (by conv => lhs; whnf)) ?_
      refine S.as ?_
      refine S.nil ?_
      refine TC.ret ?_
      refine finQ.ret (RVs.tmp (by conv => lhs; whnf) RVs.nil) (Sub.nil _) ?_
      exact ⟨(congrArg Value.bool (decide_eq_true (by omega))).symm, rfl⟩
    · refine S.q rfl rfl (Qt.pick_t rfl (by conv => lhs; whnf)) ?_
      refine S.as ?_
      refine S.nil ?_
      refine TC.ret ?_
      refine finQ.ret (RVs.tmp (by conv => lhs; whnf) RVs.nil) (Sub.nil _) ?_
      exact ⟨(congrArg Value.bool (decide_eq_false (by omega))).symm, rfl⟩
  · refine S.mv ?_
    refine S.pass rfl rfl ?_
    refine S.pass rfl rfl ?_
    refine S.pass rfl rfl ?_
    refine S.pass rfl rfl ?_
    refine S.pass rfl rfl ?_
    refine S.pass rfl rfl ?_
    refine S.q rfl rfl (Qt.pick_f rfl (by conv => lhs; whnf)) ?_
    refine S.as ?_
    refine S.nil ?_
    refine TC.ret ?_
    refine finQ.ret (RVs.tmp (by conv => lhs; whnf) RVs.nil) (Sub.nil _) ?_
    exact ⟨(congrArg Value.bool (decide_eq_false (by omega))).symm, rfl⟩
theorem right_R (h f n : Nat) (hh : h ≤ 32) (hf : f < 18446744073709551616) (h1 : 1 ≤ n) (h2 : n ≤ 256) (w0 : World) : Calls Tryz.prog 104 #[.int .i64 (h : Int), .int .u64 (f : Int), .int .i64 (n : Int)] w0 (Ret w0 (.bool (decide (f + n ≤ 2 ^ h)))) := Calls.ret (right_walk h f n hh hf h1 h2 w0)

set_option maxHeartbeats 400000 in
theorem rightF_walk (h f : Nat) (m : Int) (hm : m < 1 ∨ 256 < m) (hh : h ≤ 32) (w0 : World) :
    Calls Tryz.prog 104 #[.int .i64 (h : Int), .int .u64 (f : Int), .int .i64 m] w0 (Post w0 [] fun v L => v = .bool false ∧ L = []) := by
  refine Calls.of (L := []) (n := 35) (rs := [.tmp 6]) Tryz.func104 rfl rfl rfl (Nat.le_of_ble_eq_true rfl) (Sat.nil _) ?_
  refine TC.seq ?_
  refine TC.region ?_
  refine S.as ?_
  refine S.nil ?_
  refine TC.seq ?_
  refine TC.seq ?_
  refine TC.region ?_
  refine S.mv ?_
  refine S.q rfl rfl (Qt.dF (Qt.lt (b := 0) rfl rfl) (by omega)) ?_
  refine S.mv ?_
  refine S.qg rfl rfl rfl (Qt.move (by conv => lhs; whnf)) ?_
  refine S.qg rfl rfl rfl (Qt.dF (Qt.gt (b := 32) rfl rfl) (by omega)) ?_
  refine S.q rfl rfl (Qt.pick_f rfl (by conv => lhs; whnf)) ?_
  refine S.mv ?_
  refine S.qg rfl rfl rfl (Qt.move (by conv => lhs; whnf)) ?_
  refine S.decg rfl rfl rfl (Qt.lti rfl rfl) (fun h16 => ?_) (fun h16 => ?_)
  · refine S.q rfl rfl (Qt.pick_f rfl (by conv => lhs; whnf)) ?_
    refine S.mv ?_
    refine S.pass rfl rfl ?_
    refine S.pass rfl rfl ?_
    refine S.q rfl rfl (Qt.pick_t rfl (by conv => lhs; whnf)) ?_
    refine S.nil ?_
    refine S.if_t rfl ?_
    refine TC.seq ?_
    refine TC.region ?_
    refine S.as ?_
    refine S.nil ?_
    refine TC.ret ?_
    refine finQ.ret (RVs.tmp (by conv => lhs; whnf) RVs.nil) (Sub.nil _) ?_
    exact ⟨rfl, rfl⟩
  · refine S.q rfl rfl (Qt.pick_f rfl (by conv => lhs; whnf)) ?_
    refine S.mv ?_
    refine S.qg rfl rfl rfl (Qt.move (by conv => lhs; whnf)) ?_
    refine S.qg rfl rfl rfl (Qt.dT (Qt.gti rfl rfl) (by omega)) ?_
    refine S.q rfl rfl (Qt.pick_f rfl (by conv => lhs; whnf)) ?_
    refine S.nil ?_
    refine S.if_t rfl ?_
    refine TC.seq ?_
    refine TC.region ?_
    refine S.as ?_
    refine S.nil ?_
    refine TC.ret ?_
    refine finQ.ret (RVs.tmp (by conv => lhs; whnf) RVs.nil) (Sub.nil _) ?_
    exact ⟨rfl, rfl⟩
theorem rightF_R (h f : Nat) (m : Int) (hm : m < 1 ∨ 256 < m) (hh : h ≤ 32) (w0 : World) : Calls Tryz.prog 104 #[.int .i64 (h : Int), .int .u64 (f : Int), .int .i64 m] w0 (Ret w0 (.bool false)) := Calls.ret (rightF_walk h f m hm hh w0)

set_option maxHeartbeats 400000 in
theorem rrightF_walk (h f : Nat) (m : Int) (hm : m < 1 ∨ 256 < m) (hh : h ≤ 32) (w0 : World) :
    Calls Tryz.prog 147 #[.int .i64 (h : Int), .int .u64 (f : Int), .int .i64 m] w0 (Post w0 [] fun v L => v = .bool false ∧ L = []) := by
  refine Calls.of (L := []) (n := 47) (rs := [.tmp 6]) Tryz.func147 rfl rfl rfl (Nat.le_of_ble_eq_true rfl) (Sat.nil _) ?_
  refine TC.seq ?_
  refine TC.region ?_
  refine S.as ?_
  refine S.nil ?_
  refine TC.seq ?_
  refine TC.seq ?_
  refine TC.region ?_
  refine S.mv ?_
  refine S.q rfl rfl (Qt.dF (Qt.lt (b := 0) rfl rfl) (by omega)) ?_
  refine S.mv ?_
  refine S.qg rfl rfl rfl (Qt.move (by conv => lhs; whnf)) ?_
  refine S.qg rfl rfl rfl (Qt.dF (Qt.gt (b := 32) rfl rfl) (by omega)) ?_
  refine S.q rfl rfl (Qt.pick_f rfl (by conv => lhs; whnf)) ?_
  refine S.mv ?_
  refine S.qg rfl rfl rfl (Qt.move (by conv => lhs; whnf)) ?_
  refine S.decg rfl rfl rfl (Qt.lti rfl rfl) (fun h18 => ?_) (fun h18 => ?_)
  · refine S.q rfl rfl (Qt.pick_f rfl (by conv => lhs; whnf)) ?_
    refine S.mv ?_
    refine S.pass rfl rfl ?_
    refine S.pass rfl rfl ?_
    refine S.q rfl rfl (Qt.pick_t rfl (by conv => lhs; whnf)) ?_
    refine S.nil ?_
    refine S.if_t rfl ?_
    refine TC.seq ?_
    refine TC.region ?_
    refine S.as ?_
    refine S.nil ?_
    refine TC.ret ?_
    refine finQ.ret (RVs.tmp (by conv => lhs; whnf) RVs.nil) (Sub.nil _) ?_
    exact ⟨rfl, rfl⟩
  · refine S.q rfl rfl (Qt.pick_f rfl (by conv => lhs; whnf)) ?_
    refine S.mv ?_
    refine S.qg rfl rfl rfl (Qt.move (by conv => lhs; whnf)) ?_
    refine S.qg rfl rfl rfl (Qt.dT (Qt.gti rfl rfl) (by omega)) ?_
    refine S.q rfl rfl (Qt.pick_f rfl (by conv => lhs; whnf)) ?_
    refine S.nil ?_
    refine S.if_t rfl ?_
    refine TC.seq ?_
    refine TC.region ?_
    refine S.as ?_
    refine S.nil ?_
    refine TC.ret ?_
    refine finQ.ret (RVs.tmp (by conv => lhs; whnf) RVs.nil) (Sub.nil _) ?_
    exact ⟨rfl, rfl⟩
theorem rrightF_R (h f : Nat) (m : Int) (hm : m < 1 ∨ 256 < m) (hh : h ≤ 32) (w0 : World) : Calls Tryz.prog 147 #[.int .i64 (h : Int), .int .u64 (f : Int), .int .i64 m] w0 (Ret w0 (.bool false)) := Calls.ret (rrightF_walk h f m hm hh w0)

set_option maxHeartbeats 400000 in
theorem rright_walk (h f n : Nat) (hh : h ≤ 32) (hf : f < 18446744073709551616) (h1 : 1 ≤ n) (h2 : n ≤ 256) (w0 : World) :
    Calls Tryz.prog 147 #[.int .i64 (h : Int), .int .u64 (f : Int), .int .i64 (n : Int)] w0 (Post w0 [] fun v L => v = .bool (decide (f + n ≤ 2 ^ h)) ∧ L = []) := by
  refine Calls.of (L := []) (n := 47) (rs := [.tmp 6]) Tryz.func147 rfl rfl rfl (Nat.le_of_ble_eq_true rfl) (Sat.nil _) ?_
  have hpw : 2 ^ h ≤ 4294967296 := (show 2 ^ h ≤ 2 ^ 32 from Nat.pow_le_pow_right (by decide) hh)
  refine TC.seq ?_
  refine TC.region ?_
  refine S.as ?_
  refine S.nil ?_
  refine TC.seq ?_
  refine TC.seq ?_
  refine TC.region ?_
  refine S.mv ?_
  refine S.q rfl rfl (Qt.dF (Qt.lt (b := 0) rfl rfl) (by omega)) ?_
  refine S.mv ?_
  refine S.qg rfl rfl rfl (Qt.move (by conv => lhs; whnf)) ?_
  refine S.qg rfl rfl rfl (Qt.dF (Qt.gt (b := 32) rfl rfl) (by omega)) ?_
  refine S.q rfl rfl (Qt.pick_f rfl (by conv => lhs; whnf)) ?_
  refine S.mv ?_
  refine S.qg rfl rfl rfl (Qt.move (by conv => lhs; whnf)) ?_
  refine S.qg rfl rfl rfl (Qt.dF (Qt.lt (b := 1) rfl rfl) (by omega)) ?_
  refine S.q rfl rfl (Qt.pick_f rfl (by conv => lhs; whnf)) ?_
  refine S.mv ?_
  refine S.qg rfl rfl rfl (Qt.move (by conv => lhs; whnf)) ?_
  refine S.qg rfl rfl rfl (Qt.dF (Qt.gt (b := 256) rfl rfl) (by omega)) ?_
  refine S.q rfl rfl (Qt.pick_f rfl (by conv => lhs; whnf)) ?_
  refine S.nil ?_
  refine S.if_f rfl ?_
  refine TC.skip ?_
  refine TC.seq ?_
  refine TC.region ?_
  refine S.as ?_
  refine S.nil ?_
  refine TC.seq ?_
  refine TC.seq ?_
  refine TC.region ?_
  refine S.as ?_
  refine S.nil ?_
  refine TC.block ?_
  refine TC.loop (γ := Nat) [24, 25, 26, 29, 30, 7, 27, 28, 8] (fun k => [(8, .int .i64 (k : Int)), (7, .int .u64 ((2 ^ k : Nat) : Int))]) (fun _ => _) (fun k => k ≤ h) (fun k => h - k) (0)
    (Nat.zero_le _) ⟨Out.refl _ _, (List.forall_mem_cons.2 ⟨rfl, (List.forall_mem_cons.2 ⟨rfl, (fun _ h => nomatch h)⟩)⟩)⟩ (Sub.refl _) ?_
  rintro k u hk
  refine TC.seq ?_
  refine TC.seq ?_
  refine TC.region ?_
  refine S.mv ?_
  refine S.mv ?_
  refine S.dec rfl rfl (Qt.lt rfl rfl) (fun h26 => ?_) (fun h26 => ?_)
  · refine S.nil ?_
    refine S.if_t rfl ?_
    refine TC.skip ?_
    refine TC.seq ?_
    refine TC.block ?_
    refine TC.region ?_
    refine S.mv ?_
    have hm : 2 ^ k < 4294967296 := Nat.lt_of_lt_of_le (Nat.pow_lt_pow_right (by decide) (show k < 32 by omega)) (by decide)
    refine S.q rfl rfl (Qt.mul (b := 2) rfl rfl (by simp only [kmax]; omega)) ?_
    refine S.as ?_
    refine S.nil ?_
    refine TC.region ?_
    refine S.mv ?_
    refine S.q rfl rfl (Qt.add (b := 1) rfl rfl (by simp only [kmax]; omega)) ?_
    refine S.as ?_
    refine S.nil ?_
    refine ⟨k + 1, ?_, ?_, ⟨?_, (List.forall_mem_cons.2 ⟨rfl, (List.forall_mem_cons.2 ⟨(by show Value.int .u64 ((2 ^ k * 2 : Nat) : Int) = Value.int .u64 ((2 ^ (k + 1) : Nat) : Int); rw [Nat.pow_succ]), (fun _ h => nomatch h)⟩)⟩)⟩, Sub.refl _⟩
    · show _ ≤ _; omega
    · show _ < _; dsimp only; omega
    repeat (first | exact Out.refl _ _ | refine Out.put rfl ?_ | refine Out.puts rfl ?_ | refine Out.scr ?_ | refine Out.scr' rfl ?_)
  · refine S.nil ?_
    refine S.if_f rfl ?_
    refine TC.exit ?_
    refine TC.seq ?_
    refine TC.seq ?_
    refine TC.region ?_
    refine S.as ?_
    refine S.nil ?_
    refine TC.block ?_
    obtain rfl : k = h := by omega
    refine TC.loop (γ := Nat) [31, 32, 33, 36, 37, 38, 39, 40, 41, 42, 43, 44, 45, 46, 6, 34, 35, 9] (fun j => [(9, .int .i64 (j : Int))]) (fun _ => _) (fun j => j ≤ n ∧ (j = 0 ∨ f + j ≤ 2 ^ k)) (fun j => n - j) (0)
      ⟨Nat.zero_le _, .inl rfl⟩ ⟨Out.refl _ _, (List.forall_mem_cons.2 ⟨rfl, (fun _ h => nomatch h)⟩)⟩ (Sub.refl _) ?_
    rintro j u ⟨hj, hj2⟩
    refine TC.seq ?_
    refine TC.seq ?_
    refine TC.region ?_
    refine S.mv ?_
    refine S.mv ?_
    refine S.dec rfl rfl (Qt.lt rfl rfl) (fun h33 => ?_) (fun h33 => ?_)
    · refine S.nil ?_
      refine S.if_t rfl ?_
      refine TC.skip ?_
      refine TC.seq ?_
      refine TC.block ?_
      refine TC.seq ?_
      refine TC.region ?_
      refine S.mv ?_
      refine S.mv ?_
      refine S.dec rfl rfl (Qt.ge rfl rfl) (fun h38 => ?_) (fun h38 => ?_)
      · refine S.mv ?_
        refine S.pass rfl rfl ?_
        refine S.pass rfl rfl ?_
        refine S.pass rfl rfl ?_
        refine S.pass rfl rfl ?_
        refine S.pass rfl rfl ?_
        refine S.pass rfl rfl ?_
        refine S.q rfl rfl (Qt.pick_t rfl (by conv => lhs; whnf)) ?_
        refine S.nil ?_
        refine S.if_t rfl ?_
        refine TC.seq ?_
        refine TC.region ?_
        refine S.as ?_
        refine S.nil ?_
        refine TC.ret ?_
        refine finQ.ret (RVs.tmp (by conv => lhs; whnf) RVs.nil) (Sub.nil _) ?_
        exact ⟨(congrArg Value.bool (decide_eq_false (by omega))).symm, rfl⟩
      · refine S.mv ?_
        refine S.qg rfl rfl rfl (Qt.move (by conv => lhs; whnf)) ?_
        refine S.qg rfl rfl rfl (Qt.convert Tryz.underlying3 Tryz.underlying40 rfl (by simp only [kmax]; omega)) ?_
        refine S.qg rfl rfl rfl (Qt.move (by conv => lhs; whnf)) ?_
        refine S.qg rfl rfl rfl (Qt.move (by conv => lhs; whnf)) ?_
        refine S.qg rfl rfl rfl (Qt.sub rfl rfl (by omega) (by simp only [kmax]; omega)) ?_
        refine S.decg rfl rfl rfl (Qt.ge rfl rfl) (fun h45 => ?_) (fun h45 => ?_)
        · refine S.q rfl rfl (Qt.pick_f rfl (by conv => lhs; whnf)) ?_
          refine S.nil ?_
          refine S.if_t rfl ?_
          refine TC.seq ?_
          refine TC.region ?_
          refine S.as ?_
          refine S.nil ?_
          refine TC.ret ?_
          refine finQ.ret (RVs.tmp (by conv => lhs; whnf) RVs.nil) (Sub.nil _) ?_
          exact ⟨(congrArg Value.bool (decide_eq_false (by omega))).symm, rfl⟩
        · refine S.q rfl rfl (Qt.pick_f rfl (by conv => lhs; whnf)) ?_
          refine S.nil ?_
          refine S.if_f rfl ?_
          refine TC.skip ?_
          refine TC.region ?_
          refine S.mv ?_
          refine S.q rfl rfl (Qt.add (b := 1) rfl rfl (by simp only [kmax]; omega)) ?_
          refine S.as ?_
          refine S.nil ?_
          refine ⟨j + 1, ?_, ?_, ⟨?_, (List.forall_mem_cons.2 ⟨rfl, (fun _ h => nomatch h)⟩)⟩, Sub.refl _⟩
          · exact ⟨by omega, by omega⟩
          · show _ < _; dsimp only; omega
          repeat (first | exact Out.refl _ _ | refine Out.put rfl ?_ | refine Out.puts rfl ?_ | refine Out.scr ?_ | refine Out.scr' rfl ?_)
    · refine S.nil ?_
      refine S.if_f rfl ?_
      refine TC.exit ?_
      refine TC.seq ?_
      refine TC.region ?_
      refine S.as ?_
      refine S.nil ?_
      refine TC.ret ?_
      refine finQ.ret (RVs.tmp (by conv => lhs; whnf) RVs.nil) (Sub.nil _) ?_
      exact ⟨(congrArg Value.bool (decide_eq_true (by omega))).symm, rfl⟩
theorem rright_R (h f n : Nat) (hh : h ≤ 32) (hf : f < 18446744073709551616) (h1 : 1 ≤ n) (h2 : n ≤ 256) (w0 : World) : Calls Tryz.prog 147 #[.int .i64 (h : Int), .int .u64 (f : Int), .int .i64 (n : Int)] w0 (Ret w0 (.bool (decide (f + n ≤ 2 ^ h)))) := Calls.ret (rright_walk h f n hh hf h1 h2 w0)

set_option maxHeartbeats 400000 in
theorem sides_walk (J : Sd → Sd → List Assn → Prop) (h f n : Nat) (hh : h ≤ 32) (hf : f + n ≤ 2 ^ h) (h1 : 1 ≤ n) (h2 : n ≤ 256) (fl fr : FuncId) (cl cr : Array Value) (hel : Enters Tryz.prog fl) (her : Enters Tryz.prog fr) (L0 : List Assn) (w0 : World) (h0 : Sat w0 L0) (hJ0 : J [] [] L0)
    (hleft : ∀ (k : Nat) (rs : Sd) (L : List Assn) (w : World), k < h → f / 2 ^ k % 2 = 1 → J (sideL f k) rs L → St w0 (fps L0) L w → Calls Tryz.prog fl ((([.int .i64 ((k : Nat) : Int), .int .u64 ((f / 2 ^ k - 1 : Nat) : Int)] : List Value) ++ cl.toList).toArray) w (Post w (fps L) fun v L' => J (sideL f (k + 1)) rs L'))
    (hright : ∀ (k : Nat) (ls : Sd) (L : List Assn) (w : World), k < h → (f + n - 1) / 2 ^ k % 2 = 0 → J ls (sideR (f + n - 1) k) L → St w0 (fps L0) L w → Calls Tryz.prog fr ((([.int .i64 ((k : Nat) : Int), .int .u64 (((f + n - 1) / 2 ^ k + 1 : Nat) : Int)] : List Value) ++ cr.toList).toArray) w (Post w (fps L) fun v L' => J ls (sideR (f + n - 1) (k + 1)) L')) :
    Calls Tryz.prog 127 #[.int .i64 (h : Int), .int .u64 (f : Int), .int .i64 (n : Int), .func (.func fl) #[] cl, .func (.func fr) #[] cr] w0 (Post w0 (fps L0) fun v L => J (sideL f h) (sideR (f + n - 1) h) L) := by
  refine Calls.of (L := L0) (n := 44) (rs := []) Tryz.func127 rfl rfl rfl (Nat.le_of_ble_eq_true rfl) (h0) ?_
  have hpw : 2 ^ h ≤ 4294967296 := (show 2 ^ h ≤ 2 ^ 32 from Nat.pow_le_pow_right (by decide) hh)
  refine TC.seq ?_
  refine TC.region ?_
  refine S.mv ?_
  refine S.mv ?_
  refine S.mv ?_
  refine S.q rfl rfl (Qt.convert Tryz.underlying3 Tryz.underlying40 rfl (by simp only [kmax]; omega)) ?_
  refine S.q rfl rfl (Qt.add rfl rfl (by simp only [kmax]; omega)) ?_
  refine S.q rfl rfl (Qt.sub (b := 1) rfl rfl (by omega) (by simp only [kmax]; omega)) ?_
  refine S.as ?_
  refine S.as ?_
  refine S.nil ?_
  refine TC.seq ?_
  refine TC.region ?_
  refine S.mv ?_
  refine S.mv ?_
  refine S.nil ?_
  refine TC.block ?_
  refine TC.loop (γ := Nat × List Assn) [21, 22, 12, 23, 24, 25, 26, 27, 28, 29, 30, 31, 32, 33, 34, 35, 36, 37, 38, 39, 40, 41, 42, 10, 11, 43, 20] (fun g => [(20, .int .i64 ((g.1 : Nat) : Int)), (10, .int .u64 ((f / 2 ^ g.1 : Nat) : Int)), (11, .int .u64 (((f + n - 1) / 2 ^ g.1 : Nat) : Int))]) (fun g => g.2) (fun g => g.1 ≤ h ∧ J (sideL f g.1) (sideR (f + n - 1) g.1) g.2) (fun g => h - g.1) ((0, L0))
    ⟨Nat.zero_le _, hJ0⟩ ⟨Out.refl _ _, (List.forall_mem_cons.2 ⟨rfl, (List.forall_mem_cons.2 ⟨(by show Value.int .u64 (f : Int) = Value.int .u64 ((f / 2 ^ 0 : Nat) : Int); rw [Nat.pow_zero, Nat.div_one]), (List.forall_mem_cons.2 ⟨(by show Value.int .u64 (((f + n - 1) : Nat) : Int) = Value.int .u64 (((f + n - 1) / 2 ^ 0 : Nat) : Int); rw [Nat.pow_zero, Nat.div_one]), (fun _ h => nomatch h)⟩)⟩)⟩)⟩ (Sub.refl _) ?_
  rintro ⟨k, Lk⟩ u ⟨hk, hJ⟩
  dsimp only at hk hJ
  refine TC.seq ?_
  refine TC.region ?_
  refine S.dec rfl rfl (Qt.lt rfl rfl) (fun h21 => ?_) (fun h21 => ?_)
  · refine S.nil ?_
    refine TC.seq ?_
    refine S.if_t rfl ?_
    refine TC.skip ?_
    refine TC.seq ?_
    refine TC.block ?_
    refine TC.seq ?_
    refine TC.region ?_
    refine S.mv ?_
    refine S.as ?_
    refine S.nil ?_
    refine TC.seq ?_
    refine TC.seq ?_
    refine TC.region ?_
    refine S.mv ?_
    refine S.q rfl rfl (Qt.rem (b := 2) rfl rfl (by omega)) ?_
    refine S.dec rfl rfl (Qt.eq (b := 1) rfl rfl) (fun h25 => ?_) (fun h25 => ?_)
    · refine S.nil ?_
      refine S.if_t rfl ?_
      refine TC.region ?_
      refine S.mv ?_
      refine S.mv ?_
      refine S.mv ?_
      refine S.q rfl rfl (Qt.sub (b := 1) rfl rfl (by have h25b : f / 2 ^ k % 2 = 1 := h25; generalize f / 2 ^ k = m at h25b ⊢; omega) (by have := Nat.div_le_self f (2 ^ k); simp only [kmax]; omega)) ?_
      refine S.opS rfl rfl (OpV.con (Pre := Lk) (R := []) hel rfl ((by show List.Perm Lk (Lk ++ []); rw [List.append_nil])) (fun w hw => hleft k _ Lk w h21 h25 hJ (by have h := hw; rw [List.append_nil] at h; exact h)) ?_)
      rintro v L1 hJ1
      rw [List.append_nil]
      refine S.nil ?_
      refine TC.seq ?_
      refine TC.seq ?_
      refine TC.region ?_
      refine S.mv ?_
      refine S.q rfl rfl (Qt.rem (b := 2) rfl rfl (by omega)) ?_
      refine S.dec rfl rfl (Qt.eq (b := 0) rfl rfl) (fun h33 => ?_) (fun h33 => ?_)
      · refine S.nil ?_
        refine S.if_t rfl ?_
        refine TC.region ?_
        refine S.mv ?_
        refine S.mv ?_
        refine S.mv ?_
        refine S.q rfl rfl (Qt.add (b := 1) rfl rfl (by have := Nat.div_le_self (f + n - 1) (2 ^ k); simp only [kmax]; omega)) ?_
        refine S.opS rfl rfl (OpV.con (Pre := L1) (R := []) her rfl ((by show List.Perm L1 (L1 ++ []); rw [List.append_nil])) (fun w hw => hright k _ _ w h21 h33 hJ1 (by have h := hw; rw [List.append_nil] at h; exact h)) ?_)
        rintro v L2 hJ2
        rw [List.append_nil]
        refine S.nil ?_
        refine TC.region ?_
        refine S.mv ?_
        refine S.q rfl rfl (Qt.as (Qt.quo (b := 2) rfl rfl (by omega) (by have := Nat.div_le_self f (2 ^ k); simp only [kmax]; omega)) (by rw [half_step])) ?_
        refine S.mv ?_
        refine S.q rfl rfl (Qt.as (Qt.quo (b := 2) rfl rfl (by omega) (by have := Nat.div_le_self (f + n - 1) (2 ^ k); simp only [kmax]; omega)) (by rw [half_step])) ?_
        refine S.as ?_
        refine S.as ?_
        refine S.nil ?_
        refine TC.region ?_
        refine S.q rfl rfl (Qt.add (b := 1) rfl rfl (by simp only [kmax]; omega)) ?_
        refine S.mv ?_
        refine S.nil ?_
        refine ⟨(k + 1, L2), ?_, ?_, ⟨?_, (List.forall_mem_cons.2 ⟨rfl, (List.forall_mem_cons.2 ⟨rfl, (List.forall_mem_cons.2 ⟨rfl, (fun _ h => nomatch h)⟩)⟩)⟩)⟩, Sub.refl _⟩
        · exact ⟨by show _ ≤ _; dsimp only; omega, hJ2⟩
        · show _ < _; dsimp only; omega
        repeat (first | exact Out.refl _ _ | refine Out.put rfl ?_ | refine Out.puts rfl ?_ | refine Out.scr ?_ | refine Out.scr' rfl ?_)
      · refine S.nil ?_
        refine S.if_f rfl ?_
        refine TC.skip ?_
        refine TC.region ?_
        refine S.mv ?_
        refine S.q rfl rfl (Qt.as (Qt.quo (b := 2) rfl rfl (by omega) (by have := Nat.div_le_self f (2 ^ k); simp only [kmax]; omega)) (by rw [half_step])) ?_
        refine S.mv ?_
        refine S.q rfl rfl (Qt.as (Qt.quo (b := 2) rfl rfl (by omega) (by have := Nat.div_le_self (f + n - 1) (2 ^ k); simp only [kmax]; omega)) (by rw [half_step])) ?_
        refine S.as ?_
        refine S.as ?_
        refine S.nil ?_
        refine TC.region ?_
        refine S.q rfl rfl (Qt.add (b := 1) rfl rfl (by simp only [kmax]; omega)) ?_
        refine S.mv ?_
        refine S.nil ?_
        refine ⟨(k + 1, L1), ?_, ?_, ⟨?_, (List.forall_mem_cons.2 ⟨rfl, (List.forall_mem_cons.2 ⟨rfl, (List.forall_mem_cons.2 ⟨rfl, (fun _ h => nomatch h)⟩)⟩)⟩)⟩, Sub.refl _⟩
        · exact ⟨by show _ ≤ _; dsimp only; omega, by rw [sideR_0 h33]; exact hJ1⟩
        · show _ < _; dsimp only; omega
        repeat (first | exact Out.refl _ _ | refine Out.put rfl ?_ | refine Out.puts rfl ?_ | refine Out.scr ?_ | refine Out.scr' rfl ?_)
    · refine S.nil ?_
      refine S.if_f rfl ?_
      refine TC.skip ?_
      refine TC.seq ?_
      refine TC.seq ?_
      refine TC.region ?_
      refine S.mv ?_
      refine S.q rfl rfl (Qt.rem (b := 2) rfl rfl (by omega)) ?_
      refine S.dec rfl rfl (Qt.eq (b := 0) rfl rfl) (fun h33 => ?_) (fun h33 => ?_)
      · refine S.nil ?_
        refine S.if_t rfl ?_
        refine TC.region ?_
        refine S.mv ?_
        refine S.mv ?_
        refine S.mv ?_
        refine S.q rfl rfl (Qt.add (b := 1) rfl rfl (by have := Nat.div_le_self (f + n - 1) (2 ^ k); simp only [kmax]; omega)) ?_
        refine S.opS rfl rfl (OpV.con (Pre := Lk) (R := []) her rfl ((by show List.Perm Lk (Lk ++ []); rw [List.append_nil])) (fun w hw => hright k _ _ w h21 h33 (by rw [← sideL_0 h25] at hJ; exact hJ) (by have h := hw; rw [List.append_nil] at h; exact h)) ?_)
        rintro v L2 hJ2
        rw [List.append_nil]
        refine S.nil ?_
        refine TC.region ?_
        refine S.mv ?_
        refine S.q rfl rfl (Qt.as (Qt.quo (b := 2) rfl rfl (by omega) (by have := Nat.div_le_self f (2 ^ k); simp only [kmax]; omega)) (by rw [half_step])) ?_
        refine S.mv ?_
        refine S.q rfl rfl (Qt.as (Qt.quo (b := 2) rfl rfl (by omega) (by have := Nat.div_le_self (f + n - 1) (2 ^ k); simp only [kmax]; omega)) (by rw [half_step])) ?_
        refine S.as ?_
        refine S.as ?_
        refine S.nil ?_
        refine TC.region ?_
        refine S.q rfl rfl (Qt.add (b := 1) rfl rfl (by simp only [kmax]; omega)) ?_
        refine S.mv ?_
        refine S.nil ?_
        refine ⟨(k + 1, L2), ?_, ?_, ⟨?_, (List.forall_mem_cons.2 ⟨rfl, (List.forall_mem_cons.2 ⟨rfl, (List.forall_mem_cons.2 ⟨rfl, (fun _ h => nomatch h)⟩)⟩)⟩)⟩, Sub.refl _⟩
        · exact ⟨by show _ ≤ _; dsimp only; omega, hJ2⟩
        · show _ < _; dsimp only; omega
        repeat (first | exact Out.refl _ _ | refine Out.put rfl ?_ | refine Out.puts rfl ?_ | refine Out.scr ?_ | refine Out.scr' rfl ?_)
      · refine S.nil ?_
        refine S.if_f rfl ?_
        refine TC.skip ?_
        refine TC.region ?_
        refine S.mv ?_
        refine S.q rfl rfl (Qt.as (Qt.quo (b := 2) rfl rfl (by omega) (by have := Nat.div_le_self f (2 ^ k); simp only [kmax]; omega)) (by rw [half_step])) ?_
        refine S.mv ?_
        refine S.q rfl rfl (Qt.as (Qt.quo (b := 2) rfl rfl (by omega) (by have := Nat.div_le_self (f + n - 1) (2 ^ k); simp only [kmax]; omega)) (by rw [half_step])) ?_
        refine S.as ?_
        refine S.as ?_
        refine S.nil ?_
        refine TC.region ?_
        refine S.q rfl rfl (Qt.add (b := 1) rfl rfl (by simp only [kmax]; omega)) ?_
        refine S.mv ?_
        refine S.nil ?_
        refine ⟨(k + 1, Lk), ?_, ?_, ⟨?_, (List.forall_mem_cons.2 ⟨rfl, (List.forall_mem_cons.2 ⟨rfl, (List.forall_mem_cons.2 ⟨rfl, (fun _ h => nomatch h)⟩)⟩)⟩)⟩, Sub.refl _⟩
        · exact ⟨by show _ ≤ _; dsimp only; omega, by rw [sideR_0 h33, sideL_0 h25]; exact hJ⟩
        · show _ < _; dsimp only; omega
        repeat (first | exact Out.refl _ _ | refine Out.put rfl ?_ | refine Out.puts rfl ?_ | refine Out.scr ?_ | refine Out.scr' rfl ?_)
  · refine S.nil ?_
    refine TC.seq ?_
    refine S.if_f rfl ?_
    refine TC.exit ?_
    refine finQ.normal RVs.nil (Sub.refl _) ?_
    obtain rfl : k = h := by omega
    exact hJ
end Go.Proofs.YtgdjcmehlhebdaaGreatDoor
namespace Go.Proofs.YtgdjcmehlhebdaaGreatDoor
open Go.E
set_option linter.unusedVariables false
set_option maxRecDepth 4000


set_option maxHeartbeats 400000 in
theorem cnt1_walk (a b m n l p : Nat) (hm : m ≤ 4096) (hn : n ≤ 4096) (w0 : World) (hL : Sat w0 [Blk a 3 [.int .i64 ((m : Nat) : Int)], Blk b 3 [.int .i64 ((n : Nat) : Int)]]) :
    Calls Tryz.prog 128 #[.int .i64 (l : Int), .int .u64 (p : Int), .pointer (some ⟨a, 0, none⟩)] w0 (Post w0 (fps [Blk a 3 [.int .i64 ((m : Nat) : Int)], Blk b 3 [.int .i64 ((n : Nat) : Int)]]) fun v L => L = [Blk a 3 [.int .i64 ((m + 1 : Nat) : Int)], Blk b 3 [.int .i64 ((n : Nat) : Int)]]) := by
  refine Calls.of (L := [Blk a 3 [.int .i64 ((m : Nat) : Int)], Blk b 3 [.int .i64 ((n : Nat) : Int)]]) (n := 7) (rs := []) Tryz.func128 rfl rfl rfl (Nat.le_of_ble_eq_true rfl) (hL) ?_
  refine TC.region ?_
  refine S.q rfl rfl (Qt.load rfl (Ld.one (Has.at 0 rfl) Tryz.one3 (rfl))) ?_
  refine S.q rfl rfl (Qt.add (b := 1) rfl rfl (by simp only [kmax]; omega)) ?_
  refine S.opN rfl (OpV.storeV0 rfl (by conv => lhs; whnf) (by exact Tryz.cells3) (by rfl) (by rfl) ?_)
  refine S.nil ?_
  refine finQ.normal RVs.nil (Sub.refl _) ?_
  rfl
set_option maxHeartbeats 400000 in
theorem cnt2_walk (a b m n l p : Nat) (hm : m ≤ 4096) (hn : n ≤ 4096) (w0 : World) (hL : Sat w0 [Blk a 3 [.int .i64 ((m : Nat) : Int)], Blk b 3 [.int .i64 ((n : Nat) : Int)]]) :
    Calls Tryz.prog 129 #[.int .i64 (l : Int), .int .u64 (p : Int), .pointer (some ⟨b, 0, none⟩)] w0 (Post w0 (fps [Blk a 3 [.int .i64 ((m : Nat) : Int)], Blk b 3 [.int .i64 ((n : Nat) : Int)]]) fun v L => L = [Blk a 3 [.int .i64 ((m : Nat) : Int)], Blk b 3 [.int .i64 ((n + 1 : Nat) : Int)]]) := by
  refine Calls.of (L := [Blk a 3 [.int .i64 ((m : Nat) : Int)], Blk b 3 [.int .i64 ((n : Nat) : Int)]]) (n := 7) (rs := []) Tryz.func129 rfl rfl rfl (Nat.le_of_ble_eq_true rfl) (hL) ?_
  refine TC.region ?_
  refine S.q rfl rfl (Qt.load rfl (Ld.one (Has.at 1 rfl) Tryz.one3 (rfl))) ?_
  refine S.q rfl rfl (Qt.add (b := 1) rfl rfl (by simp only [kmax]; omega)) ?_
  refine S.opN rfl (OpV.storeV1 rfl (by conv => lhs; whnf) (by exact Tryz.cells3) (by rfl) (by rfl) ?_)
  refine S.nil ?_
  refine finQ.normal RVs.nil (Sub.refl _) ?_
  rfl
set_option maxHeartbeats 400000 in
theorem counts_walk (h f n : Nat) (hh : h ≤ 32) (hf64 : f < 18446744073709551616) (hf : f + n ≤ 2 ^ h) (h1 : 1 ≤ n) (h2 : n ≤ 256) (w0 : World) :
    Calls Tryz.prog 63 #[.int .i64 (h : Int), .int .u64 (f : Int), .int .i64 (n : Int)] w0 (Post w0 [] fun v L => v = .tuple #[.int .i64 (((sideL f h).length : Nat) : Int), .int .i64 (((sideR (f + n - 1) h).length : Nat) : Int), .nilIface] ∧ L = []) := by
  refine Calls.of (L := []) (n := 23) (rs := [.cell 6 3, .cell 7 3, .tmp 8]) Tryz.func63 rfl rfl rfl (Nat.le_of_ble_eq_true rfl) (Sat.nil _) ?_
  refine TC.seq ?_
  refine TC.region ?_
  refine S.opS rfl rfl (OpV.alloc Tryz.zero3 (fun b6 => ?_))
  refine S.opS rfl rfl (OpV.alloc Tryz.zero3 (fun b7 => ?_))
  refine S.as ?_
  refine S.nil ?_
  refine TC.seq ?_
  refine TC.seq ?_
  refine TC.region ?_
  refine S.mv ?_
  refine S.mv ?_
  refine S.mv ?_
  refine S.opS rfl rfl (OpV.con0 Tryz.ent104 rfl (fun w hw => (by have k := right_R h f n hh hf64 h1 h2 w; rw [decide_eq_true hf] at k; exact k : Calls Tryz.prog 104 #[.int .i64 (h : Int), .int .u64 (f : Int), .int .i64 (n : Int)] w (Ret w (.bool true)))) ?_)
  refine S.q rfl rfl (Qt.not_t rfl) ?_
  refine S.nil ?_
  refine S.if_f rfl ?_
  refine TC.skip ?_
  refine TC.seq ?_
  refine TC.region ?_
  refine S.mv ?_
  refine S.mv ?_
  refine S.mv ?_
  refine S.q rfl rfl (Qt.makeFuncL (fs := []) (cs := [.pointer (some ⟨b6, 0, none⟩)]) rfl rfl) ?_
  refine S.q rfl rfl (Qt.makeFuncL (fs := []) (cs := [.pointer (some ⟨b7, 0, none⟩)]) rfl rfl) ?_
  refine S.opS rfl rfl (OpV.con (Pre := [Blk b6 3 [.int .i64 ((0 : Nat) : Int)], Blk b7 3 [.int .i64 ((0 : Nat) : Int)]]) (R := _) Tryz.ent127 rfl (List.perm_middle (l₁ := [_])) (fun w hw => sides_walk (fun ls rs L => ls.length ≤ 64 ∧ rs.length ≤ 64 ∧ L = [Blk b6 3 [.int .i64 ((ls.length : Nat) : Int)], Blk b7 3 [.int .i64 ((rs.length : Nat) : Int)]]) h f n hh hf h1 h2 128 129 #[.pointer (some ⟨b6, 0, none⟩)] #[.pointer (some ⟨b7, 0, none⟩)] Tryz.ent128 Tryz.ent129 _ w hw.sat.left ⟨Nat.zero_le _, Nat.zero_le _, rfl⟩ (fun k rs L w' hk hb hJ hst => by obtain ⟨j1, j2, rfl⟩ := hJ; exact (cnt1_walk b6 b7 _ _ k _ (by omega) (by omega) w' hst.sat).mono fun e w'' ⟨v, L', q1, q2, q3⟩ => ⟨v, L', q1, q2, (by have := sideL_len f (k + 1); omega), j2, by subst q3; rw [sideL_1 hb, len_snoc]⟩) (fun k ls L w' hk hb hJ hst => by obtain ⟨j1, j2, rfl⟩ := hJ; exact (cnt2_walk b6 b7 _ _ k _ (by omega) (by omega) w' hst.sat).mono fun e w'' ⟨v, L', q1, q2, q3⟩ => ⟨v, L', q1, q2, j1, (by have := sideR_len (f + n - 1) (k + 1); omega), by subst q3; rw [sideR_1 hb, len_snoc]⟩)) ?_)
  rintro v L' ⟨hj1, hj2, rfl⟩
  refine S.nil ?_
  refine TC.seq ?_
  refine S.draw ([2, 3], []) Tryz.mixed (Sub.refl _) ?_
  refine D.qY 0 rfl (Qt.load rfl (Ld.one (Has.at 0 rfl) Tryz.one3 (rfl))) ?_
  refine D.q (k := 1) rfl (by kernel_rfl) (by kernel_rfl) rfl rfl (Qt.load rfl (Ld.one (Has.at 1 rfl) Tryz.one3 (rfl))) ?_
  refine D.opN (k := 2) (Sub.refl _) rfl (by kernel_rfl) (by kernel_rfl) rfl (OpV.storeV0 rfl (by conv => lhs; whnf) (by exact Tryz.cells3) (by rfl) (by rfl) ⟨Sub.refl _, ?_⟩)
  refine D.opN (k := 3) (Sub.refl _) rfl (by kernel_rfl) (by kernel_rfl) rfl (OpV.storeV1 rfl (by conv => lhs; whnf) (by exact Tryz.cells3) (by rfl) (by rfl) ⟨Sub.refl _, ?_⟩)
  refine D.qY 4 rfl (Qt.assign (by conv => lhs; whnf)) ?_
  refine D.done (Sub.refl _) (by kernel_rfl) ?_
  refine TC.ret ?_
  refine finQ.ret (RVs.cell rfl (Ld.one (Has.at 0 rfl) Tryz.one3 (rfl)) (RVs.cell rfl (Ld.one (Has.at 1 rfl) Tryz.one3 (rfl)) (RVs.tmp (by conv => lhs; whnf) RVs.nil))) (Sub.nil _) ?_
  exact ⟨rfl, rfl⟩
end Go.Proofs.YtgdjcmehlhebdaaGreatDoor
namespace Go.Proofs.YtgdjcmehlhebdaaGreatDoor
open Go.E
set_option linter.unusedVariables false
set_option maxRecDepth 4000

end Go.Proofs.YtgdjcmehlhebdaaGreatDoor
namespace Go.Proofs.YtgdjcmehlhebdaaGreatDoor
open Go.E
set_option linter.unusedVariables false
set_option maxRecDepth 4000


end Go.Proofs.YtgdjcmehlhebdaaGreatDoor
namespace Go.Proofs.YtgdjcmehlhebdaaGreatDoor
open Go.E
set_option linter.unusedVariables false
set_option maxRecDepth 4000


end Go.Proofs.YtgdjcmehlhebdaaGreatDoor
