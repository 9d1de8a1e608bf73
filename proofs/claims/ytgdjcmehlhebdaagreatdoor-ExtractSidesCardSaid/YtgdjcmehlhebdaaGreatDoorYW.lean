/-
  Walks: the root that a span comes to. Printed by a program of ours. Walks: the law of a span's root. Printed by a program of ours.
-/
import Derived.Test.YtgdjcmehlhebdaaGreatDoorYV
import Derived.Test.YtgdjcmehlhebdaaGreatDoorXS
import Derived.Test.YtgdjcmehlhebdaaGreatDoorYK
import Derived.Test.YtgdjcmehlhebdaaGreatDoorY9
import Derived.Test.YtgdjcmehlhebdaaGreatDoorYQ
import Derived.Test.YtgdjcmehlhebdaaGreatDoorYF
import Derived.Test.YtgdjcmehlhebdaaGreatDoorYZTA
import Derived.Test.YtgdjcmehlhebdaaGreatDoorY1
import Derived.Test.YtgdjcmehlhebdaaGreatDoorY2
import Derived.Test.YtgdjcmehlhebdaaGreatDoorYZs
import Derived.Test.YtgdjcmehlhebdaaGreatDoorYZTJ
import Derived.Test.YtgdjcmehlhebdaaGreatDoorY4
import Derived.Test.YtgdjcmehlhebdaaGreatDoorYZUD1
import Derived.Test.YtgdjcmehlhebdaaGreatDoorY5
import Derived.Test.YtgdjcmehlhebdaaGreatDoorY6
import Derived.Test.YtgdjcmehlhebdaaGreatDoorY7
import Derived.Test.YtgdjcmehlhebdaaGreatDoorY8
import Derived.Test.YtgdjcmehlhebdaaGreatDoorYZE
import Derived.Test.YtgdjcmehlhebdaaGreatDoorYZG
import Derived.Test.YtgdjcmehlhebdaaGreatDoorYZFX
namespace Go.Proofs.YtgdjcmehlhebdaaGreatDoor
open Go.E
set_option linter.unusedVariables false
set_option maxRecDepth 4000
theorem getD_drop0 (l : List H32) (i : Nat) : (l.drop i).getD 0 zeroH = l.getD i zeroH := by simp [List.getD]
theorem lenL_lt {f k h : Nat} {left : List H32} (hl : (sideL f h).length = left.length) (hk : k < h) (o : f / 2 ^ k % 2 = 1) : (sideL f k).length < left.length := by
  obtain ⟨rest, e⟩ := sideL_pre (f := f) (k := k + 1) (h := h) hk
  rw [sideL_1 o] at e
  rw [← hl, e]; simp
theorem lenR_lt {b k h : Nat} {right : List H32} (hl : (sideR b h).length = right.length) (hk : k < h) (o : b / 2 ^ k % 2 = 0) : (sideR b k).length < right.length := by
  obtain ⟨rest, e⟩ := sideR_pre (b := b) (k := k + 1) (h := h) hk
  rw [sideR_1 o] at e
  rw [← hl, e]; simp
set_option maxHeartbeats 400000 in
theorem cloneh2_walk (A : Option Addr) (n c : Nat) (ps : List H32) (hn : ps.length = n) (hx : n ≤ 4096) (w0 : World) (hR : Ro w0 [] (SlA A (hcs ps))) :
    Calls Tryz.prog 64 #[.slice A n c] w0 (Post w0 [] fun v L => ∃ O d, v = .slice O n d ∧ L = [OwnA 49 32 O n d (hcs ps)]) := by
  refine Calls.of (L := []) (n := 8) (rs := [.tmp 2]) Tryz.func64 rfl rfl rfl (Nat.le_of_ble_eq_true rfl) (Sat.nil _) ?_
  refine TC.ownNil 49 32 ?_
  refine TC.seq ?_
  refine TC.region ?_
  refine S.as ?_
  refine S.nil ?_
  refine TC.seq ?_
  refine TC.seq ?_
  refine TC.region ?_
  refine S.mv ?_
  refine S.q rfl rfl (Qt.eqsl Tryz.underlying33 rfl) ?_
  refine S.nil ?_
  refine TC.ifb rfl (fun hnl => ?_) (fun hnl => ?_)
  · refine TC.seq ?_
    refine TC.region ?_
    refine S.as ?_
    refine S.nil ?_
    refine TC.ret ?_
    refine finQ.ret (RVs.tmp (by conv => lhs; whnf) RVs.nil) (Sub.refl _) ?_
    obtain rfl : A = none := Option.isNone_iff_eq_none.1 hnl
    obtain rfl : ps = [] := hcs_nil_of (SlA.none_nil hR.1)
    obtain rfl : n = 0 := hn.symm
    exact ⟨none, 0, rfl, rfl⟩
  · refine TC.skip ?_
    refine TC.seq ?_
    refine TC.region ?_
    refine S.opS rfl rfl (OpV.slice0 Tryz.underlying33 ⟨_, Tryz.elem49⟩ (fun g5 => ?_))
    refine S.mv ?_
    refine S.opS rfl rfl (OpV.app0 (bytes := 32) (news := hcs ps) Tryz.underlying33 Tryz.elem49 rfl rfl (Has.ro hR) (by rw [hcs_length, hn]) (hcs_one _) (by simp only [maxLen]; omega) (by omega) (fun O d => ?_))
    refine S.as ?_
    refine S.nil ?_
    refine TC.ret ?_
    refine finQ.ret (RVs.tmp (by conv => lhs; whnf) RVs.nil) (Sub.keep _ (Sub.drop _ (Sub.nil _))) ?_
    exact ⟨O, d, by rw [Nat.zero_add]; rfl, by rw [Nat.zero_add, List.nil_append]⟩
set_option maxHeartbeats 400000 in
theorem right11Z_walk (z : Int) (hz : z < 0 ∨ 32 < z) (f : Nat) (m : Int) (w0 : World) :
    Calls Tryz.prog 104 #[.int .i64 z, .int .u64 (f : Int), .int .i64 m] w0 (Post w0 [] fun v L => v = .bool false ∧ L = []) := by
  refine Calls.of (L := []) (n := 35) (rs := [.tmp 6]) Tryz.func104 rfl rfl rfl (Nat.le_of_ble_eq_true rfl) (Sat.nil _) ?_
  refine TC.seq ?_
  refine TC.region ?_
  refine S.as ?_
  refine S.nil ?_
  refine TC.seq ?_
  refine TC.seq ?_
  refine TC.region ?_
  refine S.mv ?_
  refine S.dec rfl rfl (Qt.lti rfl rfl) (fun h9 => ?_) (fun h9 => ?_)
  · refine S.mv ?_
    refine S.pass rfl rfl ?_
    refine S.pass rfl rfl ?_
    refine S.q rfl rfl (Qt.pick_t rfl (by conv => lhs; whnf)) ?_
    refine S.mv ?_
    refine S.pass rfl rfl ?_
    refine S.pass rfl rfl ?_
    refine S.q rfl rfl (Qt.pick_t rfl (by conv => lhs; whnf)) ?_
    refine S.mv ?_
    refine S.pass rfl rfl ?_
    refine S.pass rfl rfl ?_
    refine S.q rfl rfl (Qt.pick_t rfl (by conv => lhs; whnf)) ?_
    refine S.nil ?_
    refine S.if_t rfl ?_
    refine TC.seq ?_
    refine TC.region ?_
    refine S.as ?_
    refine S.nil ?_
    refine TC.ret ?_
    refine finQ.ret (RVs.tmp (by conv => lhs; whnf) RVs.nil) (Sub.nil _) ?_
    exact ⟨rfl, rfl⟩
  · refine S.mv ?_
    refine S.qg rfl rfl rfl (Qt.move (by conv => lhs; whnf)) ?_
    refine S.qg rfl rfl rfl (Qt.dT (Qt.gti rfl rfl) (by omega)) ?_
    refine S.q rfl rfl (Qt.pick_f rfl (by conv => lhs; whnf)) ?_
    refine S.mv ?_
    refine S.pass rfl rfl ?_
    refine S.pass rfl rfl ?_
    refine S.q rfl rfl (Qt.pick_t rfl (by conv => lhs; whnf)) ?_
    refine S.mv ?_
    refine S.pass rfl rfl ?_
    refine S.pass rfl rfl ?_
    refine S.q rfl rfl (Qt.pick_t rfl (by conv => lhs; whnf)) ?_
    refine S.nil ?_
    refine S.if_t rfl ?_
    refine TC.seq ?_
    refine TC.region ?_
    refine S.as ?_
    refine S.nil ?_
    refine TC.ret ?_
    refine finQ.ret (RVs.tmp (by conv => lhs; whnf) RVs.nil) (Sub.nil _) ?_
    exact ⟨rfl, rfl⟩
theorem right11Z_R (z : Int) (hz : z < 0 ∨ 32 < z) (f : Nat) (m : Int) (w0 : World) : Calls Tryz.prog 104 #[.int .i64 z, .int .u64 (f : Int), .int .i64 m] w0 (Ret w0 (.bool false)) := Calls.ret (right11Z_walk z hz f m w0)

set_option maxHeartbeats 400000 in
theorem rright11Z_walk (z : Int) (hz : z < 0 ∨ 32 < z) (f : Nat) (m : Int) (w0 : World) :
    Calls Tryz.prog 147 #[.int .i64 z, .int .u64 (f : Int), .int .i64 m] w0 (Post w0 [] fun v L => v = .bool false ∧ L = []) := by
  refine Calls.of (L := []) (n := 47) (rs := [.tmp 6]) Tryz.func147 rfl rfl rfl (Nat.le_of_ble_eq_true rfl) (Sat.nil _) ?_
  refine TC.seq ?_
  refine TC.region ?_
  refine S.as ?_
  refine S.nil ?_
  refine TC.seq ?_
  refine TC.seq ?_
  refine TC.region ?_
  refine S.mv ?_
  refine S.dec rfl rfl (Qt.lti rfl rfl) (fun h9 => ?_) (fun h9 => ?_)
  · refine S.mv ?_
    refine S.pass rfl rfl ?_
    refine S.pass rfl rfl ?_
    refine S.q rfl rfl (Qt.pick_t rfl (by conv => lhs; whnf)) ?_
    refine S.mv ?_
    refine S.pass rfl rfl ?_
    refine S.pass rfl rfl ?_
    refine S.q rfl rfl (Qt.pick_t rfl (by conv => lhs; whnf)) ?_
    refine S.mv ?_
    refine S.pass rfl rfl ?_
    refine S.pass rfl rfl ?_
    refine S.q rfl rfl (Qt.pick_t rfl (by conv => lhs; whnf)) ?_
    refine S.nil ?_
    refine S.if_t rfl ?_
    refine TC.seq ?_
    refine TC.region ?_
    refine S.as ?_
    refine S.nil ?_
    refine TC.ret ?_
    refine finQ.ret (RVs.tmp (by conv => lhs; whnf) RVs.nil) (Sub.nil _) ?_
    exact ⟨rfl, rfl⟩
  · refine S.mv ?_
    refine S.qg rfl rfl rfl (Qt.move (by conv => lhs; whnf)) ?_
    refine S.qg rfl rfl rfl (Qt.dT (Qt.gti rfl rfl) (by omega)) ?_
    refine S.q rfl rfl (Qt.pick_f rfl (by conv => lhs; whnf)) ?_
    refine S.mv ?_
    refine S.pass rfl rfl ?_
    refine S.pass rfl rfl ?_
    refine S.q rfl rfl (Qt.pick_t rfl (by conv => lhs; whnf)) ?_
    refine S.mv ?_
    refine S.pass rfl rfl ?_
    refine S.pass rfl rfl ?_
    refine S.q rfl rfl (Qt.pick_t rfl (by conv => lhs; whnf)) ?_
    refine S.nil ?_
    refine S.if_t rfl ?_
    refine TC.seq ?_
    refine TC.region ?_
    refine S.as ?_
    refine S.nil ?_
    refine TC.ret ?_
    refine finQ.ret (RVs.tmp (by conv => lhs; whnf) RVs.nil) (Sub.nil _) ?_
    exact ⟨rfl, rfl⟩
theorem rright11Z_R (z : Int) (hz : z < 0 ∨ 32 < z) (f : Nat) (m : Int) (w0 : World) : Calls Tryz.prog 147 #[.int .i64 z, .int .u64 (f : Int), .int .i64 m] w0 (Ret w0 (.bool false)) := Calls.ret (rright11Z_walk z hz f m w0)

set_option maxHeartbeats 400000 in
theorem counts_walkY (y : Int) (f : Nat) (z : Int) (hr : ∀ w, Calls Tryz.prog 104 #[.int .i64 y, .int .u64 (f : Int), .int .i64 z] w (Ret w (.bool false))) (w0 : World) :
    Calls Tryz.prog 63 #[.int .i64 y, .int .u64 (f : Int), .int .i64 z] w0 (Post w0 [] fun v L => v = .tuple #[.int .i64 0, .int .i64 0, .iface 73 (.int .i64 1)] ∧ L = []) := by
  refine Calls.of (L := []) (n := 23) (rs := [.cell 6 3, .cell 7 3, .tmp 8]) Tryz.func63 rfl rfl rfl (Nat.le_of_ble_eq_true rfl) (Sat.nil _) ?_
  refine TC.seq ?_
  refine TC.region ?_
  refine S.opS rfl rfl (OpV.alloc Tryz.zero3 (fun b6 => ?_))
  refine S.opS rfl rfl (OpV.alloc Tryz.zero3 (fun b7 => ?_))
  refine S.as ?_
  refine S.nil ?_
  refine TC.seq ?_
  refine TC.seq ?_
  refine TC.region ?_
  refine S.mv ?_
  refine S.mv ?_
  refine S.mv ?_
  refine S.opS rfl rfl (OpV.con0 Tryz.ent104 rfl (fun w hw => hr w) ?_)
  refine S.q rfl rfl (Qt.not_f rfl) ?_
  refine S.nil ?_
  refine S.if_t rfl ?_
  refine TC.seq ?_
  refine TC.region ?_
  refine S.q rfl rfl (Qt.makeInterface Tryz.underlying73 (fun _ h => nomatch h) (by conv => lhs; whnf)) ?_
  refine S.opN rfl (OpV.storeV1 rfl (by conv => lhs; whnf) (by exact Tryz.cells3) (by rfl) (by rfl) ?_)
  refine S.opN rfl (OpV.storeV0 rfl (by conv => lhs; whnf) (by exact Tryz.cells3) (by rfl) (by rfl) ?_)
  refine S.as ?_
  refine S.nil ?_
  refine TC.ret ?_
  refine finQ.ret (RVs.cell rfl (Ld.one (Has.at 1 rfl) Tryz.one3 (rfl)) (RVs.cell rfl (Ld.one (Has.at 0 rfl) Tryz.one3 (rfl)) (RVs.tmp (by conv => lhs; whnf) RVs.nil))) (Sub.nil _) ?_
  exact ⟨rfl, rfl⟩
set_option maxHeartbeats 400000 in
theorem sroot_walk1 (y : Int) (f : Nat) (A : Option Addr) (c : Nat) (ls : List H32) (Bl : Option Addr) (cl : Nat) (left : List H32) (Br : Option Addr) (cr : Nat) (right : List H32) (hf : ∀ w, Calls Tryz.prog 104 #[.int .i64 y, .int .u64 (f : Int), .int .i64 (ls.length : Int)] w (Ret w (.bool false))) (w0 : World) :
    Calls Tryz.prog 19 #[.int .i64 y, .int .u64 (f : Int), .slice A ls.length c, .agg #[.slice Bl left.length cl, .slice Br right.length cr]] w0 (Post w0 [] fun v L => v = .tuple #[hv zeroH, .iface 73 (.int .i64 1)] ∧ L = []) := by
  refine Calls.of (L := []) (n := 106) (rs := [.cell 8 49, .tmp 9]) Tryz.func19 rfl rfl rfl (Nat.le_of_ble_eq_true rfl) (Sat.nil _) ?_
  refine TC.seq ?_
  refine TC.region ?_
  refine S.opS rfl rfl (OpV.box (v := .agg #[.slice Bl left.length cl, .slice Br right.length cr]) rfl (fun b7 => ?_))
  refine S.opS rfl rfl (OpV.alloc Tryz.zero49 (fun b8 => ?_))
  refine S.as ?_
  refine S.nil ?_
  refine TC.seq ?_
  refine TC.region ?_
  refine S.mv ?_
  refine S.mv ?_
  refine S.mv ?_
  refine S.q rfl rfl (Qt.len_slice Tryz.underlying33 rfl) ?_
  refine S.opS rfl rfl (OpV.con0 Tryz.ent63 rfl (fun w hw => Calls.ret (counts_walkY y f (ls.length : Int) hf w)) ?_)
  refine S.mv ?_
  refine S.q rfl rfl (Qt.extract rfl rfl) ?_
  refine S.q rfl rfl (Qt.extract rfl rfl) ?_
  refine S.q rfl rfl (Qt.extract rfl rfl) ?_
  refine S.as ?_
  refine S.as ?_
  refine S.as ?_
  refine S.nil ?_
  refine TC.seq ?_
  refine TC.block ?_
  refine TC.seq ?_
  refine TC.region ?_
  refine S.mv ?_
  refine S.q rfl rfl (Qt.nenil_iface Tryz.underlying51 rfl) ?_
  refine S.as ?_
  refine S.nil ?_
  refine S.if_t rfl ?_
  refine TC.seq ?_
  refine TC.region ?_
  refine S.q rfl rfl (Qt.build (v := hv zeroH) rfl (fun _ => by kernel_rfl)) ?_
  refine S.mv ?_
  refine S.opN rfl (OpV.storeV0 (v := hv (zeroH)) rfl rfl (hv_size Tryz.cells49) (hv_all _) (hv_len _) ?_)
  refine S.as ?_
  refine S.nil ?_
  refine TC.ret ?_
  refine finQ.ret (RVs.cell rfl (Ld.all (Has.at 0 rfl) Tryz.row49 (hv_size Tryz.cells49)) (RVs.tmp (by conv => lhs; whnf) RVs.nil)) (Sub.nil _) ?_
  exact ⟨rfl, rfl⟩
set_option maxHeartbeats 400000 in
theorem sroot_walk5 (h f : Nat) (hh : h ≤ 32) (hf64 : f < 18446744073709551616) (A : Option Addr) (c : Nat) (ls : List H32) (Bl : Option Addr) (cl : Nat) (left : List H32) (Br : Option Addr) (cr : Nat) (right : List H32) (h1 : 1 ≤ ls.length) (h2 : ls.length ≤ 256) (hf : f + ls.length ≤ 2 ^ h) (h3 : ¬ ((sideL f h).length = left.length ∧ (sideR (f + ls.length - 1) h).length = right.length)) (w0 : World) :
    Calls Tryz.prog 19 #[.int .i64 (h : Int), .int .u64 (f : Int), .slice A ls.length c, .agg #[.slice Bl left.length cl, .slice Br right.length cr]] w0 (Post w0 [] fun v L => v = .tuple #[hv zeroH, .iface 73 (.int .i64 5)] ∧ L = []) := by
  refine Calls.of (L := []) (n := 106) (rs := [.cell 8 49, .tmp 9]) Tryz.func19 rfl rfl rfl (Nat.le_of_ble_eq_true rfl) (Sat.nil _) ?_
  refine TC.seq ?_
  refine TC.region ?_
  refine S.opS rfl rfl (OpV.box (v := .agg #[.slice Bl left.length cl, .slice Br right.length cr]) rfl (fun b7 => ?_))
  refine S.opS rfl rfl (OpV.alloc Tryz.zero49 (fun b8 => ?_))
  refine S.as ?_
  refine S.nil ?_
  refine TC.seq ?_
  refine TC.region ?_
  refine S.mv ?_
  refine S.mv ?_
  refine S.mv ?_
  refine S.q rfl rfl (Qt.len_slice Tryz.underlying33 rfl) ?_
  refine S.opS rfl rfl (OpV.con0 Tryz.ent63 rfl (fun w hw => Calls.ret (counts_walk h f ls.length hh hf64 hf h1 h2 w)) ?_)
  refine S.mv ?_
  refine S.q rfl rfl (Qt.extract rfl rfl) ?_
  refine S.q rfl rfl (Qt.extract rfl rfl) ?_
  refine S.q rfl rfl (Qt.extract rfl rfl) ?_
  refine S.as ?_
  refine S.as ?_
  refine S.as ?_
  refine S.nil ?_
  refine TC.seq ?_
  refine TC.block ?_
  refine TC.seq ?_
  refine TC.region ?_
  refine S.mv ?_
  refine S.q rfl rfl (Qt.nenil_nil Tryz.underlying51 rfl) ?_
  refine S.as ?_
  refine S.nil ?_
  refine S.if_f rfl ?_
  refine TC.seq ?_
  refine TC.region ?_
  refine S.q rfl rfl (Qt.field Tryz.underlying43 rfl Tryz.cells33 rfl) ?_
  refine S.q rfl rfl (Qt.load rfl (Ld.one (v := .slice Bl left.length cl) (Has.at 1 rfl) Tryz.one33 rfl)) ?_
  refine S.q rfl rfl (Qt.len_slice Tryz.underlying33 rfl) ?_
  refine S.mv ?_
  refine S.dec rfl rfl (Qt.ne rfl rfl) (fun h38 => ?_) (fun h38 => ?_)
  · refine S.mv ?_
    refine S.pass rfl rfl ?_
    refine S.pass rfl rfl ?_
    refine S.pass rfl rfl ?_
    refine S.pass rfl rfl ?_
    refine S.pass rfl rfl ?_
    refine S.q rfl rfl (Qt.pick_t rfl (by conv => lhs; whnf)) ?_
    refine S.as ?_
    refine S.nil ?_
    refine S.if_t rfl ?_
    refine TC.seq ?_
    refine TC.region ?_
    refine S.q rfl rfl (Qt.build (v := hv zeroH) rfl (fun _ => by kernel_rfl)) ?_
    refine S.q rfl rfl (Qt.makeInterface Tryz.underlying73 (fun _ h => nomatch h) (by conv => lhs; whnf)) ?_
    refine S.opN rfl (OpV.storeV0 (v := hv (zeroH)) rfl rfl (hv_size Tryz.cells49) (hv_all _) (hv_len _) ?_)
    refine S.as ?_
    refine S.nil ?_
    refine TC.ret ?_
    refine finQ.ret (RVs.cell rfl (Ld.all (Has.at 0 rfl) Tryz.row49 (hv_size Tryz.cells49)) (RVs.tmp (by conv => lhs; whnf) RVs.nil)) (Sub.nil _) ?_
    exact ⟨rfl, rfl⟩
  · refine S.mv ?_
    refine S.qg rfl rfl rfl (Qt.field Tryz.underlying43 rfl Tryz.cells33 rfl) ?_
    refine S.qg rfl rfl rfl (Qt.load rfl (Ld.one (v := .slice Br right.length cr) (Has.at 1 rfl) Tryz.one33 rfl)) ?_
    refine S.qg rfl rfl rfl (Qt.len_slice Tryz.underlying33 rfl) ?_
    refine S.qg rfl rfl rfl (Qt.move (by conv => lhs; whnf)) ?_
    refine S.qg rfl rfl rfl (Qt.dT (Qt.ne rfl rfl) (fun e => h3 ⟨(Decidable.not_not.1 h38).symm, e.symm⟩)) ?_
    refine S.q rfl rfl (Qt.pick_f rfl (by conv => lhs; whnf)) ?_
    refine S.as ?_
    refine S.nil ?_
    refine S.if_t rfl ?_
    refine TC.seq ?_
    refine TC.region ?_
    refine S.q rfl rfl (Qt.build (v := hv zeroH) rfl (fun _ => by kernel_rfl)) ?_
    refine S.q rfl rfl (Qt.makeInterface Tryz.underlying73 (fun _ h => nomatch h) (by conv => lhs; whnf)) ?_
    refine S.opN rfl (OpV.storeV0 (v := hv (zeroH)) rfl rfl (hv_size Tryz.cells49) (hv_all _) (hv_len _) ?_)
    refine S.as ?_
    refine S.nil ?_
    refine TC.ret ?_
    refine finQ.ret (RVs.cell rfl (Ld.all (Has.at 0 rfl) Tryz.row49 (hv_size Tryz.cells49)) (RVs.tmp (by conv => lhs; whnf) RVs.nil)) (Sub.nil _) ?_
    exact ⟨rfl, rfl⟩
set_option maxHeartbeats 3200000 in
theorem sroot_walk0 (h f : Nat) (hh : h ≤ 32) (hf64 : f < 18446744073709551616) (A : Option Addr) (c : Nat) (ls : List H32) (Bl : Option Addr) (cl : Nat) (left : List H32) (Br : Option Addr) (cr : Nat) (right : List H32) (h1 : 1 ≤ ls.length) (h2 : ls.length ≤ 256) (hf : f + ls.length ≤ 2 ^ h) (hLl : (sideL f h).length = left.length) (hLr : (sideR (f + ls.length - 1) h).length = right.length) (hcl : left.length ≤ cl) (hcr : right.length ≤ cr) (w0 : World) (hR : Ro w0 [] (SlA A (hcs ls))) (hl : Ro w0 [] (SlA Bl (hcs left))) (hr : Ro w0 [] (SlA Br (hcs right))) (hT : Tabs 3 1 w0 []) :
    Calls Tryz.prog 19 #[.int .i64 (h : Int), .int .u64 (f : Int), .slice A ls.length c, .agg #[.slice Bl left.length cl, .slice Br right.length cr]] w0 (Post w0 [] fun v L => v = .tuple #[hv (refN ((sideL f h).zip left) ((sideR (f + ls.length - 1) h).zip right) ls f h 0), .nilIface] ∧ L = []) := by
  refine Calls.of (L := []) (n := 106) (rs := [.cell 8 49, .tmp 9]) Tryz.func19 rfl rfl rfl (Nat.le_of_ble_eq_true rfl) (Sat.nil _) ?_
  have hpw : 2 ^ h ≤ 4294967296 := (show 2 ^ h ≤ 2 ^ 32 from Nat.pow_le_pow_right (by decide) hh)
  have ctx : RowCtx f ls.length h ls left right := ⟨h1, hf, rfl, hLl, hLr⟩
  refine TC.seq ?_
  refine TC.region ?_
  refine S.opS rfl rfl (OpV.box (v := .agg #[.slice Bl left.length cl, .slice Br right.length cr]) rfl (fun b7 => ?_))
  refine S.opS rfl rfl (OpV.alloc Tryz.zero49 (fun b8 => ?_))
  refine S.as ?_
  refine S.nil ?_
  refine TC.seq ?_
  refine TC.region ?_
  refine S.mv ?_
  refine S.mv ?_
  refine S.mv ?_
  refine S.q rfl rfl (Qt.len_slice Tryz.underlying33 rfl) ?_
  refine S.opS rfl rfl (OpV.con0 Tryz.ent63 rfl (fun w hw => Calls.ret (counts_walk h f ls.length hh hf64 hf h1 h2 w)) ?_)
  refine S.mv ?_
  refine S.q rfl rfl (Qt.extract rfl rfl) ?_
  refine S.q rfl rfl (Qt.extract rfl rfl) ?_
  refine S.q rfl rfl (Qt.extract rfl rfl) ?_
  refine S.as ?_
  refine S.as ?_
  refine S.as ?_
  refine S.nil ?_
  refine TC.seq ?_
  refine TC.block ?_
  refine TC.seq ?_
  refine TC.region ?_
  refine S.mv ?_
  refine S.q rfl rfl (Qt.nenil_nil Tryz.underlying51 rfl) ?_
  refine S.as ?_
  refine S.nil ?_
  refine S.if_f rfl ?_
  refine TC.seq ?_
  refine TC.region ?_
  refine S.q rfl rfl (Qt.field Tryz.underlying43 rfl Tryz.cells33 rfl) ?_
  refine S.q rfl rfl (Qt.load rfl (Ld.one (v := .slice Bl left.length cl) (Has.at 1 rfl) Tryz.one33 rfl)) ?_
  refine S.q rfl rfl (Qt.len_slice Tryz.underlying33 rfl) ?_
  refine S.mv ?_
  refine S.q rfl rfl (Qt.dF (Qt.ne rfl rfl) (fun e => e hLl.symm)) ?_
  refine S.mv ?_
  refine S.qg rfl rfl rfl (Qt.field Tryz.underlying43 rfl Tryz.cells33 rfl) ?_
  refine S.qg rfl rfl rfl (Qt.load rfl (Ld.one (v := .slice Br right.length cr) (Has.at 1 rfl) Tryz.one33 rfl)) ?_
  refine S.qg rfl rfl rfl (Qt.len_slice Tryz.underlying33 rfl) ?_
  refine S.qg rfl rfl rfl (Qt.move (by conv => lhs; whnf)) ?_
  refine S.qg rfl rfl rfl (Qt.dF (Qt.ne rfl rfl) (fun e => e hLr.symm)) ?_
  refine S.q rfl rfl (Qt.pick_f rfl (by conv => lhs; whnf)) ?_
  refine S.as ?_
  refine S.nil ?_
  refine S.if_f rfl ?_
  refine TC.skip ?_
  refine TC.seq ?_
  refine TC.region ?_
  refine S.mv ?_
  refine S.opS rfl rfl (OpV.con (Pre := []) (R := _) Tryz.ent64 rfl (List.Perm.refl _) (fun w hw => cloneh2_walk A ls.length c ls rfl (by omega) w (Rd.ro hR w hw)) ?_)
  rintro v L' ⟨O, d, rfl, rfl⟩
  refine S.as ?_
  refine S.nil ?_
  refine TC.seq ?_
  refine TC.region ?_
  refine S.mv ?_
  refine S.mv ?_
  refine S.mv ?_
  refine S.q rfl rfl (Qt.len_slice Tryz.underlying33 rfl) ?_
  refine S.q rfl rfl (Qt.convert Tryz.underlying3 Tryz.underlying40 rfl (by simp only [kmax]; omega)) ?_
  refine S.q rfl rfl (Qt.add rfl rfl (by simp only [kmax]; omega)) ?_
  refine S.q rfl rfl (Qt.sub (b := 1) rfl rfl (by omega) (by simp only [kmax]; omega)) ?_
  refine S.as ?_
  refine S.as ?_
  refine S.nil ?_
  refine TC.seq ?_
  refine S.draw ([], []) Tryz.mixed (Sub.nil _) ?_
  refine D.qY 0 rfl (Qt.field Tryz.underlying43 rfl Tryz.cells33 rfl) ?_
  refine D.qY 1 rfl (Qt.load rfl (Ld.one (v := .slice Bl left.length cl) (Has.at 2 rfl) Tryz.one33 rfl)) ?_
  refine D.qY 2 rfl (Qt.field Tryz.underlying43 rfl Tryz.cells33 rfl) ?_
  refine D.qY 3 rfl (Qt.load rfl (Ld.one (v := .slice Br right.length cr) (Has.at 2 rfl) Tryz.one33 rfl)) ?_
  refine D.qY 4 rfl (Qt.assign (by conv => lhs; whnf)) ?_
  refine D.qY 5 rfl (Qt.assign (by conv => lhs; whnf)) ?_
  refine D.done (Sub.nil _) (by kernel_rfl) ?_
  refine TC.seq ?_
  refine TC.seq ?_
  refine TC.region ?_
  refine S.mv ?_
  refine S.mv ?_
  refine S.nil ?_
  refine TC.block ?_
  refine TC.loop (γ := Nat × (Option Addr × Nat) × (Option Addr × Nat) × (Option Addr × Nat)) [63, 64, 18, 65, 66, 67, 68, 69, 70, 71, 72, 73, 13, 74, 75, 16, 76, 77, 78, 79, 80, 81, 82, 83, 84, 85, 86, 17, 88, 89, 90, 91, 87, 92, 93, 12, 94, 95, 96, 97, 9, 98, 99, 100, 101, 14, 15, 102, 62] (fun g => [(62, .int .i64 ((g.1 : Nat) : Int)), (13, .slice g.2.1.1 (rowLv f ls.length h ls left right g.1).length g.2.1.2), (14, .int .u64 ((f / 2 ^ g.1 : Nat) : Int)), (15, .int .u64 (((f + ls.length - 1) / 2 ^ g.1 : Nat) : Int)), (16, .slice g.2.2.1.1 (left.drop (sideL f g.1).length).length g.2.2.1.2), (17, .slice g.2.2.2.1 (right.drop (sideR (f + ls.length - 1) g.1).length).length g.2.2.2.2)]) (fun g => [OwnA 49 32 g.2.1.1 (rowLv f ls.length h ls left right g.1).length g.2.1.2 (hcs (rowLv f ls.length h ls left right g.1)), Blk b8 49 (List.replicate 32 (.int .u8 0)), Blk b7 43 [.slice Bl left.length cl, .slice Br right.length cr]]) (fun g => g.1 ≤ h ∧ Less Bl left (sideL f g.1).length g.2.2.1.1 g.2.2.1.2 ∧ Less Br right (sideR (f + ls.length - 1) g.1).length g.2.2.2.1 g.2.2.2.2) (fun g => h - g.1) ((0, (O, d), (Bl, cl), (Br, cr)))
    ⟨Nat.zero_le _, Less.zero hcl, Less.zero hcr⟩ ⟨Out.refl _ _, (List.forall_mem_cons.2 ⟨rfl, (List.forall_mem_cons.2 ⟨(by show Value.slice O ls.length d = Value.slice O (rowLv f ls.length h ls left right 0).length d; rw [ctx.zero]), (List.forall_mem_cons.2 ⟨(by show Value.int .u64 (f : Int) = Value.int .u64 ((f / 2 ^ 0 : Nat) : Int); rw [Nat.pow_zero, Nat.div_one]), (List.forall_mem_cons.2 ⟨(by show Value.int .u64 (((f + ls.length - 1) : Nat) : Int) = Value.int .u64 (((f + ls.length - 1) / 2 ^ 0 : Nat) : Int); rw [Nat.pow_zero, Nat.div_one]), (List.forall_mem_cons.2 ⟨rfl, (List.forall_mem_cons.2 ⟨rfl, (fun _ h => nomatch h)⟩)⟩)⟩)⟩)⟩)⟩)⟩ ((by dsimp only; rw [ctx.zero]; exact Sub.refl _)) ?_
  rintro ⟨k, ⟨O, d⟩, ⟨A1, c1⟩, ⟨A2, c2⟩⟩ u ⟨hk, le1, le2⟩
  dsimp only at hk le1 le2
  obtain ⟨hpos, hlen⟩ := ctx.lenAt k
  refine TC.seq ?_
  refine TC.region ?_
  refine S.dec rfl rfl (Qt.lt rfl rfl) (fun h63 => ?_) (fun h63 => ?_)
  · refine S.nil ?_
    refine TC.seq ?_
    refine S.if_t rfl ?_
    refine TC.skip ?_
    refine TC.seq ?_
    refine TC.block ?_
    refine TC.seq ?_
    refine TC.region ?_
    refine S.mv ?_
    refine S.as ?_
    refine S.nil ?_
    refine TC.seq ?_
    refine TC.seq ?_
    refine TC.region ?_
    refine S.mv ?_
    refine S.q rfl rfl (Qt.rem (b := 2) rfl rfl (by omega)) ?_
    refine S.dec rfl rfl (Qt.eq (b := 1) rfl rfl) (fun h67 => ?_) (fun h67 => ?_)
    · refine S.nil ?_
      refine S.if_t rfl ?_
      refine TC.seq ?_
      refine TC.region ?_
      refine S.mv ?_
      refine S.mv ?_
      refine S.q rfl rfl (Qt.index (i := 0) Tryz.underlying33 Tryz.cells49 rfl rfl (by show 0 < (left.drop (sideL f k).length).length; rw [List.length_drop]; have := lenL_lt ctx.lenL (show k < h from h63) (show f / 2 ^ k % 2 = 1 from h67); omega) (Has.ro (le1.ro _ _ hl)) (by show 0 * 32 < (hcs (left.drop (sideL f k).length)).length; rw [hcs_length, List.length_drop]; have := lenL_lt ctx.lenL (show k < h from h63) (show f / 2 ^ k % 2 = 1 from h67); omega)) ?_
      refine S.q rfl rfl (Qt.as (Qt.load rfl (Ld.hashS (l := left.drop (sideL f k).length) (Has.ro (le1.ro _ _ hl)) 0 Tryz.row49 Tryz.cells49 (by rw [List.length_drop]; have := lenL_lt ctx.lenL (show k < h from h63) (show f / 2 ^ k % 2 = 1 from h67); omega) rfl)) (by rw [getD_drop0])) ?_
      refine S.opS rfl rfl (OpV.slice1 (bytes := 32) (v := hv (left.getD (sideL f k).length zeroH)) Tryz.underlying33 Tryz.elem49 (by decide) rfl (hv_len _) (fun g72 => ?_))
      refine S.opS rfl rfl (OpV.con (Pre := [OwnA 49 32 O (rowLv f ls.length h ls left right k).length d (hcs (rowLv f ls.length h ls left right k))]) (R := _) Tryz.ent65 rfl (List.perm_middle (l₁ := [_])) (fun w hw => insert_walk O d (rowLv f ls.length h ls left right k) g72 (left.getD (sideL f k).length zeroH) hpos (by omega) w hw.sat.left (Ro.of_rest hw (.head _))) ?_)
      rintro v L' ⟨O1, d1, rfl, rfl⟩
      refine S.as ?_
      refine S.nil ?_
      refine TC.region ?_
      refine S.mv ?_
      refine S.q rfl rfl (Qt.slice_lo (l := 1) Tryz.underlying33 Tryz.cells49 rfl rfl (by show 1 ≤ (left.drop (sideL f k).length).length; rw [List.length_drop]; have := lenL_lt ctx.lenL (show k < h from h63) (show f / 2 ^ k % 2 = 1 from h67); omega)) ?_
      refine S.as ?_
      refine S.nil ?_
      refine TC.seq ?_
      refine TC.seq ?_
      refine TC.region ?_
      refine S.mv ?_
      refine S.q rfl rfl (Qt.rem (b := 2) rfl rfl (by omega)) ?_
      refine S.dec rfl rfl (Qt.eq (b := 0) rfl rfl) (fun h78 => ?_) (fun h78 => ?_)
      · refine S.nil ?_
        refine S.if_t rfl ?_
        refine TC.seq ?_
        refine TC.region ?_
        refine S.mv ?_
        refine S.mv ?_
        refine S.q rfl rfl (Qt.index (i := 0) Tryz.underlying33 Tryz.cells49 rfl rfl (by show 0 < (right.drop (sideR (f + ls.length - 1) k).length).length; rw [List.length_drop]; have := lenR_lt ctx.lenR (show k < h from h63) (show (f + ls.length - 1) / 2 ^ k % 2 = 0 from h78); omega) (Has.ro (le2.ro _ _ hr)) (by show 0 * 32 < (hcs (right.drop (sideR (f + ls.length - 1) k).length)).length; rw [hcs_length, List.length_drop]; have := lenR_lt ctx.lenR (show k < h from h63) (show (f + ls.length - 1) / 2 ^ k % 2 = 0 from h78); omega)) ?_
        refine S.q rfl rfl (Qt.as (Qt.load rfl (Ld.hashS (l := right.drop (sideR (f + ls.length - 1) k).length) (Has.ro (le2.ro _ _ hr)) 0 Tryz.row49 Tryz.cells49 (by rw [List.length_drop]; have := lenR_lt ctx.lenR (show k < h from h63) (show (f + ls.length - 1) / 2 ^ k % 2 = 0 from h78); omega) rfl)) (by rw [getD_drop0])) ?_
        refine S.opS rfl rfl (OpV.slice1 (bytes := 32) (v := hv (right.getD (sideR (f + ls.length - 1) k).length zeroH)) Tryz.underlying33 Tryz.elem49 (by decide) rfl (hv_len _) (fun g83 => ?_))
        refine S.opS rfl rfl (OpV.app1 (bytes := 32) (news := hvl ((right.getD (sideR (f + ls.length - 1) k).length zeroH))) Tryz.underlying33 Tryz.elem49 rfl rfl (Has.blk (cs := hvl (right.getD (sideR (f + ls.length - 1) k).length zeroH)) (Has.at 0 rfl)) (by rw [hvl_length]) (bytesL_one _) (by first | (simp only [maxLen]; omega) | (show (rowLv f ls.length h ls left right k).length + 1 ≤ maxLen; simp only [maxLen]; omega)) (by first | omega | (show ((rowLv f ls.length h ls left right k).length + 1) * 32 ≤ _; omega)) (fun O2 d2 => ?_))
        refine S.as ?_
        refine S.nil ?_
        refine TC.region ?_
        refine S.mv ?_
        refine S.q rfl rfl (Qt.slice_lo (l := 1) Tryz.underlying33 Tryz.cells49 rfl rfl (by show 1 ≤ (right.drop (sideR (f + ls.length - 1) k).length).length; rw [List.length_drop]; have := lenR_lt ctx.lenR (show k < h from h63) (show (f + ls.length - 1) / 2 ^ k % 2 = 0 from h78); omega)) ?_
        refine S.as ?_
        refine S.nil ?_
        refine TC.seq ?_
        refine TC.seq ?_
        refine TC.region ?_
        refine S.mv ?_
        refine S.q rfl rfl (Qt.add (b := 1) rfl rfl (by simp only [kmax]; omega)) ?_
        refine S.mv ?_
        have hmid : hcs ((left.getD (sideL f k).length zeroH) :: (rowLv f ls.length h ls left right k)) ++ hvl (right.getD (sideR (f + ls.length - 1) k).length zeroH) = hcs (rowMd f ls.length h ls left right k) := by rw [rowMd, if_pos (show f / 2 ^ k % 2 = 1 from h67), if_pos (show (f + ls.length - 1) / 2 ^ k % 2 = 0 from h78)]; simp [hcs]
        have hml : (rowLv f ls.length h ls left right k).length + 1 + 1 = 2 * ((f + ls.length - 1) / 2 ^ (k + 1) + 1 - f / 2 ^ (k + 1)) := by rw [← ctx.midLen (show k < h from h63), rowMd, if_pos (show f / 2 ^ k % 2 = 1 from h67), if_pos (show (f + ls.length - 1) / 2 ^ k % 2 = 0 from h78)]; simp
        refine S.opS rfl rfl (OpV.con (Pre := []) (R := _) Tryz.ent66 rfl (List.Perm.refl _) (fun w hw => (by have cap := own_cap (hw.ok (List.mem_of_getElem? (i := 1) rfl)); have q := joined_walk (k + 1) (by omega) (by omega) O2 ((f + ls.length - 1) / 2 ^ (k + 1) + 1 - f / 2 ^ (k + 1)) d2 (rowMd f ls.length h ls left right k) (ctx.midLen (show k < h from h63)) (by rw [← hml]; exact cap.1) (by have := cap.2.1; simp only [maxLen] at this; omega) (by have := hlen; omega) w (by rw [← hmid]; exact (Rd.own (Rd.at 1 rfl) w hw)) (hT.at hw); rw [← hml] at q; exact q : Calls Tryz.prog 66 #[.int .i64 ((k + 1 : Nat) : Int), .slice O2 ((rowLv f ls.length h ls left right k).length + 1 + 1) d2] w (Post w [] fun v L => ∃ O d, v = .tuple #[.slice O ((f + ls.length - 1) / 2 ^ (k + 1) + 1 - f / 2 ^ (k + 1)) d, .nilIface] ∧ L = [OwnA 49 32 O ((f + ls.length - 1) / 2 ^ (k + 1) + 1 - f / 2 ^ (k + 1)) d (hcs ((List.finRange ((f + ls.length - 1) / 2 ^ (k + 1) + 1 - f / 2 ^ (k + 1))).map (fun i : Fin ((f + ls.length - 1) / 2 ^ (k + 1) + 1 - f / 2 ^ (k + 1)) => pairF (k + 1) (rowMd f ls.length h ls left right k) i.val)))]))) ?_)
        rintro v L' ⟨O3, d3, rfl, rfl⟩
        have hnx : (List.finRange ((f + ls.length - 1) / 2 ^ (k + 1) + 1 - f / 2 ^ (k + 1))).map (fun i : Fin ((f + ls.length - 1) / 2 ^ (k + 1) + 1 - f / 2 ^ (k + 1)) => pairF (k + 1) (rowMd f ls.length h ls left right k) i.val) = (rowLv f ls.length h ls left right (k + 1)) := ctx.next (show k < h from h63) rfl
        have hnl : ((f + ls.length - 1) / 2 ^ (k + 1) + 1 - f / 2 ^ (k + 1)) = (rowLv f ls.length h ls left right (k + 1)).length := by rw [rowLv, rowV_len]
        refine S.mv ?_
        refine S.q rfl rfl (Qt.extract rfl rfl) ?_
        refine S.q rfl rfl (Qt.extract rfl rfl) ?_
        refine S.as ?_
        refine S.as ?_
        refine S.nil ?_
        refine TC.seq ?_
        refine TC.region ?_
        refine S.mv ?_
        refine S.q rfl rfl (Qt.nenil_nil Tryz.underlying51 rfl) ?_
        refine S.nil ?_
        refine S.if_f rfl ?_
        refine TC.skip ?_
        refine TC.region ?_
        refine S.mv ?_
        refine S.q rfl rfl (Qt.as (Qt.quo (b := 2) rfl rfl (by omega) (by have := Nat.div_le_self f (2 ^ k); simp only [kmax]; omega)) (by rw [half_step])) ?_
        refine S.mv ?_
        refine S.q rfl rfl (Qt.as (Qt.quo (b := 2) rfl rfl (by omega) (by have := Nat.div_le_self (f + ls.length - 1) (2 ^ k); simp only [kmax]; omega)) (by rw [half_step])) ?_
        refine S.as ?_
        refine S.as ?_
        refine S.nil ?_
        refine TC.region ?_
        refine S.q rfl rfl (Qt.add (b := 1) rfl rfl (by simp only [kmax]; omega)) ?_
        refine S.mv ?_
        refine S.nil ?_
        refine ⟨(k + 1, (O3, d3), ((if c1 = 1 then A1 else A1.map (·.add (1 * 32))), (c1 - 1)), ((if c2 = 1 then A2 else A2.map (·.add (1 * 32))), (c2 - 1))), ?_, ?_, ⟨?_, (List.forall_mem_cons.2 ⟨rfl, (List.forall_mem_cons.2 ⟨(by show Value.slice O3 ((f + ls.length - 1) / 2 ^ (k + 1) + 1 - f / 2 ^ (k + 1)) d3 = Value.slice O3 (rowLv f ls.length h ls left right (k + 1)).length d3; rw [← hnl]), (List.forall_mem_cons.2 ⟨rfl, (List.forall_mem_cons.2 ⟨rfl, (List.forall_mem_cons.2 ⟨(by show Value.slice (if c1 = 1 then A1 else A1.map (·.add (1 * 32))) ((left.drop (sideL f k).length).length - 1) (c1 - 1) = Value.slice (if c1 = 1 then A1 else A1.map (·.add (1 * 32))) (left.drop (sideL f (k + 1)).length).length (c1 - 1); rw [sideL_1 (show f / 2 ^ k % 2 = 1 from h67), len_snoc, List.length_drop, List.length_drop]; congr 1), (List.forall_mem_cons.2 ⟨(by show Value.slice (if c2 = 1 then A2 else A2.map (·.add (1 * 32))) ((right.drop (sideR (f + ls.length - 1) k).length).length - 1) (c2 - 1) = Value.slice (if c2 = 1 then A2 else A2.map (·.add (1 * 32))) (right.drop (sideR (f + ls.length - 1) (k + 1)).length).length (c2 - 1); rw [sideR_1 (show (f + ls.length - 1) / 2 ^ k % 2 = 0 from h78), len_snoc, List.length_drop, List.length_drop]; congr 1), (fun _ h => nomatch h)⟩)⟩)⟩)⟩)⟩)⟩)⟩, (by dsimp only; rw [hnx, hnl]; exact Sub.trans (Sub.keep _ (Sub.keep _ (Sub.keep _ (Sub.drop _ (Sub.drop _ (Sub.drop _ (Sub.nil []))))))) (Sub.keep _ (Sub.trans (Sub.keep _ (Sub.trans (Sub.keep _ (Sub.refl _)) (Sub.of_perm (List.perm_middle (l₁ := [_, _, _]))))) (Sub.of_perm (List.perm_middle (l₁ := [_, _, _]))))))⟩
        · exact ⟨by show _ ≤ _; dsimp only; omega, by rw [sideL_1 (show f / 2 ^ k % 2 = 1 from h67), len_snoc]; exact le1.next (Less.one le1.cap (by (try dsimp only); rw [List.length_drop]; have := lenL_lt ctx.lenL (show k < h from h63) (show f / 2 ^ k % 2 = 1 from h67); omega)), by rw [sideR_1 (show (f + ls.length - 1) / 2 ^ k % 2 = 0 from h78), len_snoc]; exact le2.next (Less.one le2.cap (by (try dsimp only); rw [List.length_drop]; have := lenR_lt ctx.lenR (show k < h from h63) (show (f + ls.length - 1) / 2 ^ k % 2 = 0 from h78); omega))⟩
        · show _ < _; dsimp only; omega
        repeat (first | exact Out.refl _ _ | refine Out.put rfl ?_ | refine Out.puts rfl ?_ | refine Out.scr ?_ | refine Out.scr' rfl ?_)
      · refine S.nil ?_
        refine S.if_f rfl ?_
        refine TC.skip ?_
        refine TC.seq ?_
        refine TC.seq ?_
        refine TC.region ?_
        refine S.mv ?_
        refine S.q rfl rfl (Qt.add (b := 1) rfl rfl (by simp only [kmax]; omega)) ?_
        refine S.mv ?_
        have hmid : hcs ((left.getD (sideL f k).length zeroH) :: (rowLv f ls.length h ls left right k)) = hcs (rowMd f ls.length h ls left right k) := by rw [rowMd, if_pos (show f / 2 ^ k % 2 = 1 from h67), if_neg (show ¬ (f + ls.length - 1) / 2 ^ k % 2 = 0 from h78)]; simp [hcs]
        have hml : (rowLv f ls.length h ls left right k).length + 1 = 2 * ((f + ls.length - 1) / 2 ^ (k + 1) + 1 - f / 2 ^ (k + 1)) := by rw [← ctx.midLen (show k < h from h63), rowMd, if_pos (show f / 2 ^ k % 2 = 1 from h67), if_neg (show ¬ (f + ls.length - 1) / 2 ^ k % 2 = 0 from h78)]; simp
        refine S.opS rfl rfl (OpV.con (Pre := []) (R := _) Tryz.ent66 rfl (List.Perm.refl _) (fun w hw => (by have cap := own_cap (hw.ok (List.mem_of_getElem? (i := 0) rfl)); have q := joined_walk (k + 1) (by omega) (by omega) O1 ((f + ls.length - 1) / 2 ^ (k + 1) + 1 - f / 2 ^ (k + 1)) d1 (rowMd f ls.length h ls left right k) (ctx.midLen (show k < h from h63)) (by rw [← hml]; exact cap.1) (by have := cap.2.1; simp only [maxLen] at this; omega) (by have := hlen; omega) w (by rw [← hmid]; exact (Rd.own (Rd.at 0 rfl) w hw)) (hT.at hw); rw [← hml] at q; exact q : Calls Tryz.prog 66 #[.int .i64 ((k + 1 : Nat) : Int), .slice O1 ((rowLv f ls.length h ls left right k).length + 1) d1] w (Post w [] fun v L => ∃ O d, v = .tuple #[.slice O ((f + ls.length - 1) / 2 ^ (k + 1) + 1 - f / 2 ^ (k + 1)) d, .nilIface] ∧ L = [OwnA 49 32 O ((f + ls.length - 1) / 2 ^ (k + 1) + 1 - f / 2 ^ (k + 1)) d (hcs ((List.finRange ((f + ls.length - 1) / 2 ^ (k + 1) + 1 - f / 2 ^ (k + 1))).map (fun i : Fin ((f + ls.length - 1) / 2 ^ (k + 1) + 1 - f / 2 ^ (k + 1)) => pairF (k + 1) (rowMd f ls.length h ls left right k) i.val)))]))) ?_)
        rintro v L' ⟨O3, d3, rfl, rfl⟩
        have hnx : (List.finRange ((f + ls.length - 1) / 2 ^ (k + 1) + 1 - f / 2 ^ (k + 1))).map (fun i : Fin ((f + ls.length - 1) / 2 ^ (k + 1) + 1 - f / 2 ^ (k + 1)) => pairF (k + 1) (rowMd f ls.length h ls left right k) i.val) = (rowLv f ls.length h ls left right (k + 1)) := ctx.next (show k < h from h63) rfl
        have hnl : ((f + ls.length - 1) / 2 ^ (k + 1) + 1 - f / 2 ^ (k + 1)) = (rowLv f ls.length h ls left right (k + 1)).length := by rw [rowLv, rowV_len]
        refine S.mv ?_
        refine S.q rfl rfl (Qt.extract rfl rfl) ?_
        refine S.q rfl rfl (Qt.extract rfl rfl) ?_
        refine S.as ?_
        refine S.as ?_
        refine S.nil ?_
        refine TC.seq ?_
        refine TC.region ?_
        refine S.mv ?_
        refine S.q rfl rfl (Qt.nenil_nil Tryz.underlying51 rfl) ?_
        refine S.nil ?_
        refine S.if_f rfl ?_
        refine TC.skip ?_
        refine TC.region ?_
        refine S.mv ?_
        refine S.q rfl rfl (Qt.as (Qt.quo (b := 2) rfl rfl (by omega) (by have := Nat.div_le_self f (2 ^ k); simp only [kmax]; omega)) (by rw [half_step])) ?_
        refine S.mv ?_
        refine S.q rfl rfl (Qt.as (Qt.quo (b := 2) rfl rfl (by omega) (by have := Nat.div_le_self (f + ls.length - 1) (2 ^ k); simp only [kmax]; omega)) (by rw [half_step])) ?_
        refine S.as ?_
        refine S.as ?_
        refine S.nil ?_
        refine TC.region ?_
        refine S.q rfl rfl (Qt.add (b := 1) rfl rfl (by simp only [kmax]; omega)) ?_
        refine S.mv ?_
        refine S.nil ?_
        refine ⟨(k + 1, (O3, d3), ((if c1 = 1 then A1 else A1.map (·.add (1 * 32))), (c1 - 1)), (A2, c2)), ?_, ?_, ⟨?_, (List.forall_mem_cons.2 ⟨rfl, (List.forall_mem_cons.2 ⟨(by show Value.slice O3 ((f + ls.length - 1) / 2 ^ (k + 1) + 1 - f / 2 ^ (k + 1)) d3 = Value.slice O3 (rowLv f ls.length h ls left right (k + 1)).length d3; rw [← hnl]), (List.forall_mem_cons.2 ⟨rfl, (List.forall_mem_cons.2 ⟨rfl, (List.forall_mem_cons.2 ⟨(by show Value.slice (if c1 = 1 then A1 else A1.map (·.add (1 * 32))) ((left.drop (sideL f k).length).length - 1) (c1 - 1) = Value.slice (if c1 = 1 then A1 else A1.map (·.add (1 * 32))) (left.drop (sideL f (k + 1)).length).length (c1 - 1); rw [sideL_1 (show f / 2 ^ k % 2 = 1 from h67), len_snoc, List.length_drop, List.length_drop]; congr 1), (List.forall_mem_cons.2 ⟨(by show Value.slice A2 (right.drop (sideR (f + ls.length - 1) k).length).length c2 = Value.slice A2 (right.drop (sideR (f + ls.length - 1) (k + 1)).length).length c2; rw [sideR_0 (show ¬ (f + ls.length - 1) / 2 ^ k % 2 = 0 from h78)]), (fun _ h => nomatch h)⟩)⟩)⟩)⟩)⟩)⟩)⟩, (by dsimp only; rw [hnx, hnl]; exact Sub.trans (Sub.keep _ (Sub.keep _ (Sub.keep _ (Sub.drop _ (Sub.drop _ (Sub.nil [])))))) (Sub.keep _ (Sub.trans (Sub.keep _ (Sub.trans (Sub.keep _ (Sub.refl _)) (Sub.of_perm (List.perm_middle (l₁ := [_, _]))))) (Sub.of_perm (List.perm_middle (l₁ := [_, _]))))))⟩
        · exact ⟨by show _ ≤ _; dsimp only; omega, by rw [sideL_1 (show f / 2 ^ k % 2 = 1 from h67), len_snoc]; exact le1.next (Less.one le1.cap (by (try dsimp only); rw [List.length_drop]; have := lenL_lt ctx.lenL (show k < h from h63) (show f / 2 ^ k % 2 = 1 from h67); omega)), by rw [sideR_0 (show ¬ (f + ls.length - 1) / 2 ^ k % 2 = 0 from h78)]; exact le2⟩
        · show _ < _; dsimp only; omega
        repeat (first | exact Out.refl _ _ | refine Out.put rfl ?_ | refine Out.puts rfl ?_ | refine Out.scr ?_ | refine Out.scr' rfl ?_)
    · refine S.nil ?_
      refine S.if_f rfl ?_
      refine TC.skip ?_
      refine TC.seq ?_
      refine TC.seq ?_
      refine TC.region ?_
      refine S.mv ?_
      refine S.q rfl rfl (Qt.rem (b := 2) rfl rfl (by omega)) ?_
      refine S.dec rfl rfl (Qt.eq (b := 0) rfl rfl) (fun h78 => ?_) (fun h78 => ?_)
      · refine S.nil ?_
        refine S.if_t rfl ?_
        refine TC.seq ?_
        refine TC.region ?_
        refine S.mv ?_
        refine S.mv ?_
        refine S.q rfl rfl (Qt.index (i := 0) Tryz.underlying33 Tryz.cells49 rfl rfl (by show 0 < (right.drop (sideR (f + ls.length - 1) k).length).length; rw [List.length_drop]; have := lenR_lt ctx.lenR (show k < h from h63) (show (f + ls.length - 1) / 2 ^ k % 2 = 0 from h78); omega) (Has.ro (le2.ro _ _ hr)) (by show 0 * 32 < (hcs (right.drop (sideR (f + ls.length - 1) k).length)).length; rw [hcs_length, List.length_drop]; have := lenR_lt ctx.lenR (show k < h from h63) (show (f + ls.length - 1) / 2 ^ k % 2 = 0 from h78); omega)) ?_
        refine S.q rfl rfl (Qt.as (Qt.load rfl (Ld.hashS (l := right.drop (sideR (f + ls.length - 1) k).length) (Has.ro (le2.ro _ _ hr)) 0 Tryz.row49 Tryz.cells49 (by rw [List.length_drop]; have := lenR_lt ctx.lenR (show k < h from h63) (show (f + ls.length - 1) / 2 ^ k % 2 = 0 from h78); omega) rfl)) (by rw [getD_drop0])) ?_
        refine S.opS rfl rfl (OpV.slice1 (bytes := 32) (v := hv (right.getD (sideR (f + ls.length - 1) k).length zeroH)) Tryz.underlying33 Tryz.elem49 (by decide) rfl (hv_len _) (fun g83 => ?_))
        refine S.opS rfl rfl (OpV.app1 (bytes := 32) (news := hvl ((right.getD (sideR (f + ls.length - 1) k).length zeroH))) Tryz.underlying33 Tryz.elem49 rfl rfl (Has.blk (cs := hvl (right.getD (sideR (f + ls.length - 1) k).length zeroH)) (Has.at 0 rfl)) (by rw [hvl_length]) (bytesL_one _) (by first | (simp only [maxLen]; omega) | (show (rowLv f ls.length h ls left right k).length + 1 ≤ maxLen; simp only [maxLen]; omega)) (by first | omega | (show ((rowLv f ls.length h ls left right k).length + 1) * 32 ≤ _; omega)) (fun O2 d2 => ?_))
        refine S.as ?_
        refine S.nil ?_
        refine TC.region ?_
        refine S.mv ?_
        refine S.q rfl rfl (Qt.slice_lo (l := 1) Tryz.underlying33 Tryz.cells49 rfl rfl (by show 1 ≤ (right.drop (sideR (f + ls.length - 1) k).length).length; rw [List.length_drop]; have := lenR_lt ctx.lenR (show k < h from h63) (show (f + ls.length - 1) / 2 ^ k % 2 = 0 from h78); omega)) ?_
        refine S.as ?_
        refine S.nil ?_
        refine TC.seq ?_
        refine TC.seq ?_
        refine TC.region ?_
        refine S.mv ?_
        refine S.q rfl rfl (Qt.add (b := 1) rfl rfl (by simp only [kmax]; omega)) ?_
        refine S.mv ?_
        have hmid : hcs (rowLv f ls.length h ls left right k) ++ hvl (right.getD (sideR (f + ls.length - 1) k).length zeroH) = hcs (rowMd f ls.length h ls left right k) := by rw [rowMd, if_neg (show ¬ f / 2 ^ k % 2 = 1 from h67), if_pos (show (f + ls.length - 1) / 2 ^ k % 2 = 0 from h78)]; simp [hcs]
        have hml : (rowLv f ls.length h ls left right k).length + 1 = 2 * ((f + ls.length - 1) / 2 ^ (k + 1) + 1 - f / 2 ^ (k + 1)) := by rw [← ctx.midLen (show k < h from h63), rowMd, if_neg (show ¬ f / 2 ^ k % 2 = 1 from h67), if_pos (show (f + ls.length - 1) / 2 ^ k % 2 = 0 from h78)]; simp
        refine S.opS rfl rfl (OpV.con (Pre := []) (R := _) Tryz.ent66 rfl (List.Perm.refl _) (fun w hw => (by have cap := own_cap (hw.ok (List.mem_of_getElem? (i := 1) rfl)); have q := joined_walk (k + 1) (by omega) (by omega) O2 ((f + ls.length - 1) / 2 ^ (k + 1) + 1 - f / 2 ^ (k + 1)) d2 (rowMd f ls.length h ls left right k) (ctx.midLen (show k < h from h63)) (by rw [← hml]; exact cap.1) (by have := cap.2.1; simp only [maxLen] at this; omega) (by have := hlen; omega) w (by rw [← hmid]; exact (Rd.own (Rd.at 1 rfl) w hw)) (hT.at hw); rw [← hml] at q; exact q : Calls Tryz.prog 66 #[.int .i64 ((k + 1 : Nat) : Int), .slice O2 ((rowLv f ls.length h ls left right k).length + 1) d2] w (Post w [] fun v L => ∃ O d, v = .tuple #[.slice O ((f + ls.length - 1) / 2 ^ (k + 1) + 1 - f / 2 ^ (k + 1)) d, .nilIface] ∧ L = [OwnA 49 32 O ((f + ls.length - 1) / 2 ^ (k + 1) + 1 - f / 2 ^ (k + 1)) d (hcs ((List.finRange ((f + ls.length - 1) / 2 ^ (k + 1) + 1 - f / 2 ^ (k + 1))).map (fun i : Fin ((f + ls.length - 1) / 2 ^ (k + 1) + 1 - f / 2 ^ (k + 1)) => pairF (k + 1) (rowMd f ls.length h ls left right k) i.val)))]))) ?_)
        rintro v L' ⟨O3, d3, rfl, rfl⟩
        have hnx : (List.finRange ((f + ls.length - 1) / 2 ^ (k + 1) + 1 - f / 2 ^ (k + 1))).map (fun i : Fin ((f + ls.length - 1) / 2 ^ (k + 1) + 1 - f / 2 ^ (k + 1)) => pairF (k + 1) (rowMd f ls.length h ls left right k) i.val) = (rowLv f ls.length h ls left right (k + 1)) := ctx.next (show k < h from h63) rfl
        have hnl : ((f + ls.length - 1) / 2 ^ (k + 1) + 1 - f / 2 ^ (k + 1)) = (rowLv f ls.length h ls left right (k + 1)).length := by rw [rowLv, rowV_len]
        refine S.mv ?_
        refine S.q rfl rfl (Qt.extract rfl rfl) ?_
        refine S.q rfl rfl (Qt.extract rfl rfl) ?_
        refine S.as ?_
        refine S.as ?_
        refine S.nil ?_
        refine TC.seq ?_
        refine TC.region ?_
        refine S.mv ?_
        refine S.q rfl rfl (Qt.nenil_nil Tryz.underlying51 rfl) ?_
        refine S.nil ?_
        refine S.if_f rfl ?_
        refine TC.skip ?_
        refine TC.region ?_
        refine S.mv ?_
        refine S.q rfl rfl (Qt.as (Qt.quo (b := 2) rfl rfl (by omega) (by have := Nat.div_le_self f (2 ^ k); simp only [kmax]; omega)) (by rw [half_step])) ?_
        refine S.mv ?_
        refine S.q rfl rfl (Qt.as (Qt.quo (b := 2) rfl rfl (by omega) (by have := Nat.div_le_self (f + ls.length - 1) (2 ^ k); simp only [kmax]; omega)) (by rw [half_step])) ?_
        refine S.as ?_
        refine S.as ?_
        refine S.nil ?_
        refine TC.region ?_
        refine S.q rfl rfl (Qt.add (b := 1) rfl rfl (by simp only [kmax]; omega)) ?_
        refine S.mv ?_
        refine S.nil ?_
        refine ⟨(k + 1, (O3, d3), (A1, c1), ((if c2 = 1 then A2 else A2.map (·.add (1 * 32))), (c2 - 1))), ?_, ?_, ⟨?_, (List.forall_mem_cons.2 ⟨rfl, (List.forall_mem_cons.2 ⟨(by show Value.slice O3 ((f + ls.length - 1) / 2 ^ (k + 1) + 1 - f / 2 ^ (k + 1)) d3 = Value.slice O3 (rowLv f ls.length h ls left right (k + 1)).length d3; rw [← hnl]), (List.forall_mem_cons.2 ⟨rfl, (List.forall_mem_cons.2 ⟨rfl, (List.forall_mem_cons.2 ⟨(by show Value.slice A1 (left.drop (sideL f k).length).length c1 = Value.slice A1 (left.drop (sideL f (k + 1)).length).length c1; rw [sideL_0 (show ¬ f / 2 ^ k % 2 = 1 from h67)]), (List.forall_mem_cons.2 ⟨(by show Value.slice (if c2 = 1 then A2 else A2.map (·.add (1 * 32))) ((right.drop (sideR (f + ls.length - 1) k).length).length - 1) (c2 - 1) = Value.slice (if c2 = 1 then A2 else A2.map (·.add (1 * 32))) (right.drop (sideR (f + ls.length - 1) (k + 1)).length).length (c2 - 1); rw [sideR_1 (show (f + ls.length - 1) / 2 ^ k % 2 = 0 from h78), len_snoc, List.length_drop, List.length_drop]; congr 1), (fun _ h => nomatch h)⟩)⟩)⟩)⟩)⟩)⟩)⟩, (by dsimp only; rw [hnx, hnl]; exact Sub.trans (Sub.keep _ (Sub.keep _ (Sub.keep _ (Sub.drop _ (Sub.drop _ (Sub.nil [])))))) (Sub.keep _ (Sub.trans (Sub.keep _ (Sub.trans (Sub.keep _ (Sub.refl _)) (Sub.of_perm (List.perm_middle (l₁ := [_, _]))))) (Sub.of_perm (List.perm_middle (l₁ := [_, _]))))))⟩
        · exact ⟨by show _ ≤ _; dsimp only; omega, by rw [sideL_0 (show ¬ f / 2 ^ k % 2 = 1 from h67)]; exact le1, by rw [sideR_1 (show (f + ls.length - 1) / 2 ^ k % 2 = 0 from h78), len_snoc]; exact le2.next (Less.one le2.cap (by (try dsimp only); rw [List.length_drop]; have := lenR_lt ctx.lenR (show k < h from h63) (show (f + ls.length - 1) / 2 ^ k % 2 = 0 from h78); omega))⟩
        · show _ < _; dsimp only; omega
        repeat (first | exact Out.refl _ _ | refine Out.put rfl ?_ | refine Out.puts rfl ?_ | refine Out.scr ?_ | refine Out.scr' rfl ?_)
      · refine S.nil ?_
        refine S.if_f rfl ?_
        refine TC.skip ?_
        refine TC.seq ?_
        refine TC.seq ?_
        refine TC.region ?_
        refine S.mv ?_
        refine S.q rfl rfl (Qt.add (b := 1) rfl rfl (by simp only [kmax]; omega)) ?_
        refine S.mv ?_
        have hmid : hcs (rowLv f ls.length h ls left right k) = hcs (rowMd f ls.length h ls left right k) := by rw [rowMd, if_neg (show ¬ f / 2 ^ k % 2 = 1 from h67), if_neg (show ¬ (f + ls.length - 1) / 2 ^ k % 2 = 0 from h78)]; simp [hcs]
        have hml : (rowLv f ls.length h ls left right k).length = 2 * ((f + ls.length - 1) / 2 ^ (k + 1) + 1 - f / 2 ^ (k + 1)) := by rw [← ctx.midLen (show k < h from h63), rowMd, if_neg (show ¬ f / 2 ^ k % 2 = 1 from h67), if_neg (show ¬ (f + ls.length - 1) / 2 ^ k % 2 = 0 from h78)]; simp
        refine S.opS rfl rfl (OpV.con (Pre := []) (R := _) Tryz.ent66 rfl (List.Perm.refl _) (fun w hw => (by have cap := own_cap (hw.ok (List.mem_of_getElem? (i := 0) rfl)); have q := joined_walk (k + 1) (by omega) (by omega) O ((f + ls.length - 1) / 2 ^ (k + 1) + 1 - f / 2 ^ (k + 1)) d (rowMd f ls.length h ls left right k) (ctx.midLen (show k < h from h63)) (by rw [← hml]; exact cap.1) (by have := cap.2.1; simp only [maxLen] at this; omega) (by have := hlen; omega) w (by rw [← hmid]; exact (Rd.own (Rd.at 0 rfl) w hw)) (hT.at hw); rw [← hml] at q; exact q : Calls Tryz.prog 66 #[.int .i64 ((k + 1 : Nat) : Int), .slice O ((rowLv f ls.length h ls left right k).length) d] w (Post w [] fun v L => ∃ O d, v = .tuple #[.slice O ((f + ls.length - 1) / 2 ^ (k + 1) + 1 - f / 2 ^ (k + 1)) d, .nilIface] ∧ L = [OwnA 49 32 O ((f + ls.length - 1) / 2 ^ (k + 1) + 1 - f / 2 ^ (k + 1)) d (hcs ((List.finRange ((f + ls.length - 1) / 2 ^ (k + 1) + 1 - f / 2 ^ (k + 1))).map (fun i : Fin ((f + ls.length - 1) / 2 ^ (k + 1) + 1 - f / 2 ^ (k + 1)) => pairF (k + 1) (rowMd f ls.length h ls left right k) i.val)))]))) ?_)
        rintro v L' ⟨O3, d3, rfl, rfl⟩
        have hnx : (List.finRange ((f + ls.length - 1) / 2 ^ (k + 1) + 1 - f / 2 ^ (k + 1))).map (fun i : Fin ((f + ls.length - 1) / 2 ^ (k + 1) + 1 - f / 2 ^ (k + 1)) => pairF (k + 1) (rowMd f ls.length h ls left right k) i.val) = (rowLv f ls.length h ls left right (k + 1)) := ctx.next (show k < h from h63) rfl
        have hnl : ((f + ls.length - 1) / 2 ^ (k + 1) + 1 - f / 2 ^ (k + 1)) = (rowLv f ls.length h ls left right (k + 1)).length := by rw [rowLv, rowV_len]
        refine S.mv ?_
        refine S.q rfl rfl (Qt.extract rfl rfl) ?_
        refine S.q rfl rfl (Qt.extract rfl rfl) ?_
        refine S.as ?_
        refine S.as ?_
        refine S.nil ?_
        refine TC.seq ?_
        refine TC.region ?_
        refine S.mv ?_
        refine S.q rfl rfl (Qt.nenil_nil Tryz.underlying51 rfl) ?_
        refine S.nil ?_
        refine S.if_f rfl ?_
        refine TC.skip ?_
        refine TC.region ?_
        refine S.mv ?_
        refine S.q rfl rfl (Qt.as (Qt.quo (b := 2) rfl rfl (by omega) (by have := Nat.div_le_self f (2 ^ k); simp only [kmax]; omega)) (by rw [half_step])) ?_
        refine S.mv ?_
        refine S.q rfl rfl (Qt.as (Qt.quo (b := 2) rfl rfl (by omega) (by have := Nat.div_le_self (f + ls.length - 1) (2 ^ k); simp only [kmax]; omega)) (by rw [half_step])) ?_
        refine S.as ?_
        refine S.as ?_
        refine S.nil ?_
        refine TC.region ?_
        refine S.q rfl rfl (Qt.add (b := 1) rfl rfl (by simp only [kmax]; omega)) ?_
        refine S.mv ?_
        refine S.nil ?_
        refine ⟨(k + 1, (O3, d3), (A1, c1), (A2, c2)), ?_, ?_, ⟨?_, (List.forall_mem_cons.2 ⟨rfl, (List.forall_mem_cons.2 ⟨(by show Value.slice O3 ((f + ls.length - 1) / 2 ^ (k + 1) + 1 - f / 2 ^ (k + 1)) d3 = Value.slice O3 (rowLv f ls.length h ls left right (k + 1)).length d3; rw [← hnl]), (List.forall_mem_cons.2 ⟨rfl, (List.forall_mem_cons.2 ⟨rfl, (List.forall_mem_cons.2 ⟨(by show Value.slice A1 (left.drop (sideL f k).length).length c1 = Value.slice A1 (left.drop (sideL f (k + 1)).length).length c1; rw [sideL_0 (show ¬ f / 2 ^ k % 2 = 1 from h67)]), (List.forall_mem_cons.2 ⟨(by show Value.slice A2 (right.drop (sideR (f + ls.length - 1) k).length).length c2 = Value.slice A2 (right.drop (sideR (f + ls.length - 1) (k + 1)).length).length c2; rw [sideR_0 (show ¬ (f + ls.length - 1) / 2 ^ k % 2 = 0 from h78)]), (fun _ h => nomatch h)⟩)⟩)⟩)⟩)⟩)⟩)⟩, (by dsimp only; rw [hnx, hnl]; exact Sub.trans (Sub.keep _ (Sub.keep _ (Sub.keep _ (Sub.drop _ (Sub.nil []))))) (Sub.keep _ (Sub.trans (Sub.keep _ (Sub.trans (Sub.keep _ (Sub.refl _)) (Sub.of_perm (List.perm_middle (l₁ := [_]))))) (Sub.of_perm (List.perm_middle (l₁ := [_]))))))⟩
        · exact ⟨by show _ ≤ _; dsimp only; omega, by rw [sideL_0 (show ¬ f / 2 ^ k % 2 = 1 from h67)]; exact le1, by rw [sideR_0 (show ¬ (f + ls.length - 1) / 2 ^ k % 2 = 0 from h78)]; exact le2⟩
        · show _ < _; dsimp only; omega
        repeat (first | exact Out.refl _ _ | refine Out.put rfl ?_ | refine Out.puts rfl ?_ | refine Out.scr ?_ | refine Out.scr' rfl ?_)
  · refine S.nil ?_
    refine TC.seq ?_
    refine S.if_f rfl ?_
    refine TC.exit ?_
    refine TC.seq ?_
    refine TC.region ?_
    have hke : k = h := by omega
    refine S.mv ?_
    refine S.q rfl rfl (Qt.index (i := 0) Tryz.underlying33 Tryz.cells49 rfl rfl (hpos) (Has.own (Has.at 0 rfl)) (by show 0 * 32 < (hcs (rowLv f ls.length h ls left right k)).length; rw [hcs_length]; omega)) ?_
    refine S.q rfl rfl (Qt.as (Qt.load rfl (Ld.hashS (l := (rowLv f ls.length h ls left right k)) (Has.own (Has.at 0 rfl)) 0 Tryz.row49 Tryz.cells49 hpos rfl)) (by rw [hke, ctx.last])) ?_
    refine S.opN rfl (OpV.storeV1 (v := hv ((refN ((sideL f h).zip left) ((sideR (f + ls.length - 1) h).zip right) ls f h 0))) rfl rfl (hv_size Tryz.cells49) (hv_all _) (hv_len _) ?_)
    refine S.as ?_
    refine S.nil ?_
    refine TC.ret ?_
    refine finQ.ret (RVs.cell rfl (Ld.all (Has.at 1 rfl) Tryz.row49 (hv_size Tryz.cells49)) (RVs.tmp (by conv => lhs; whnf) RVs.nil)) (Sub.nil _) ?_
    exact ⟨rfl, rfl⟩
end Go.Proofs.YtgdjcmehlhebdaaGreatDoor
namespace Go.Proofs.YtgdjcmehlhebdaaGreatDoor
open Go.E
set_option linter.unusedVariables false
set_option maxRecDepth 4000
theorem Tryz.key171 : KeyLaw Tryz.prog 265 encAt := Go.E.keyAt Tryz.underlying265 (by decide) (by decide) rfl rfl Tryz.underlying3 Tryz.underlying40 (by kernel_rfl)
theorem right49_F {z : Int} {f : Nat} (hf64 : f < 18446744073709551616) {n : Nat} (g : z < 0 ∨ 32 < z ∨ ∃ h : Nat, z = (h : Int) ∧ h ≤ 32 ∧ ¬ (1 ≤ n ∧ n ≤ 256 ∧ f + n ≤ 2 ^ h)) (w : World) : Calls Tryz.prog 104 #[.int .i64 z, .int .u64 (f : Int), .int .i64 (n : Int)] w (Ret w (.bool false)) := by
  rcases g with g | g | ⟨h, rfl, hh, g⟩
  · exact right11Z_R z (.inl g) f n w
  · exact right11Z_R z (.inr g) f n w
  · by_cases h1 : 1 ≤ n ∧ n ≤ 256
    · have k := right_R h f n hh hf64 h1.1 h1.2 w
      rw [decide_eq_false (fun e => g ⟨h1.1, h1.2, e⟩)] at k; exact k
    · exact rightF_R h f n (by omega) hh w
theorem right46_F {z : Int} {f : Nat} (hf64 : f < 18446744073709551616) {n : Nat} (g : z < 0 ∨ 32 < z ∨ ∃ h : Nat, z = (h : Int) ∧ h ≤ 32 ∧ ¬ (1 ≤ n ∧ n ≤ 256 ∧ f + n ≤ 2 ^ h)) (w : World) : Calls Tryz.prog 147 #[.int .i64 z, .int .u64 (f : Int), .int .i64 (n : Int)] w (Ret w (.bool false)) := by
  rcases g with g | g | ⟨h, rfl, hh, g⟩
  · exact rright11Z_R z (.inl g) f n w
  · exact rright11Z_R z (.inr g) f n w
  · by_cases h1 : 1 ≤ n ∧ n ≤ 256
    · have k := rright_R h f n hh hf64 h1.1 h1.2 w
      rw [decide_eq_false (fun e => g ⟨h1.1, h1.2, e⟩)] at k; exact k
    · exact rrightF_R h f n (by omega) hh w
theorem sroot_R (z : Int) (f : Nat) (hf64 : f < 18446744073709551616) (A : Option Addr) (c : Nat) (ls : List H32) (Bl : Option Addr) (cl : Nat) (left : List H32) (Br : Option Addr) (cr : Nat) (right : List H32) (hcl : left.length ≤ cl) (hcr : right.length ≤ cr) (w0 : World) (hR : Ro w0 [] (SlA A (hcs ls))) (hl : Ro w0 [] (SlA Bl (hcs left))) (hr : Ro w0 [] (SlA Br (hcs right))) (hT : Tabs 3 1 w0 []) : Calls Tryz.prog 19 #[.int .i64 z, .int .u64 (f : Int), .slice A ls.length c, .agg #[.slice Bl left.length cl, .slice Br right.length cr]] w0 (Ret w0 (.tuple #[hv (spanR z f ls left right).1, errv 73 (spanR z f ls left right).2])) := by
  by_cases hz : z < 0 ∨ 32 < z
  · rw [spanR, if_pos hz]; exact Calls.ret (sroot_walk1 z f A c ls Bl cl left Br cr right (fun w => right49_F hf64 (by omega) w) w0)
  · obtain ⟨h, rfl⟩ : ∃ n : Nat, z = (n : Int) := ⟨z.toNat, by omega⟩
    have hh : h ≤ 32 := by omega
    rw [spanR_nat hh]
    by_cases g : 1 ≤ ls.length ∧ ls.length ≤ 256 ∧ f + ls.length ≤ 2 ^ h
    · by_cases g2 : (sideL f h).length = left.length ∧ (sideR (f + ls.length - 1) h).length = right.length
      · rw [spanN_0 g g2]; exact Calls.ret (sroot_walk0 h f hh hf64 A c ls Bl cl left Br cr right g.1 g.2.1 g.2.2 g2.1 g2.2 hcl hcr w0 hR hl hr hT)
      · rw [spanN_5 g g2]; exact Calls.ret (sroot_walk5 h f hh hf64 A c ls Bl cl left Br cr right g.1 g.2.1 g.2.2 g2 w0)
    · rw [spanN_1 g]; exact Calls.ret (sroot_walk1 h f A c ls Bl cl left Br cr right (fun w => right49_F hf64 (.inr (.inr ⟨h, rfl, hh, g⟩)) w) w0)
def RNodeC (h : Nat) (f : Nat) (B : Option Addr) (b : Nat) (ls : List H32) (P : Option Addr) (q : Nat) (P2 : Option Addr) (q2 : Nat) (Bl : Option Addr) (cl : Nat) (left : List H32) (Br : Option Addr) (cr : Nat) (right : List H32) (l : Nat) : Prop := ∀ (p : Nat) (w0 : World), okAt h (l, p) → NodeOk ((sideL f h).zip left) ((sideR (f + ls.length - 1) h).zip right) f (f + ls.length - 1) l p → Ro w0 [] (SlA B (hcs ls)) → Ro w0 [] (SlA P (sdL (sideL f h))) → Ro w0 [] (SlA P2 (sdL (sideR (f + ls.length - 1) h))) → Ro w0 [] (SlA Bl (hcs left)) → Ro w0 [] (SlA Br (hcs right)) → Tabs 2 0 w0 [] →
  Calls Tryz.prog 125 #[.int .i64 ((l : Nat) : Int), .int .u64 (p : Int), .int .u64 (f : Int), .slice B ls.length b, .slice P (sideL f h).length q, .slice P2 (sideR (f + ls.length - 1) h).length q2, .slice Bl left.length cl, .slice Br right.length cr] w0 (Ret w0 (hv (refN ((sideL f h).zip left) ((sideR (f + ls.length - 1) h).zip right) ls f (l) (p))))
set_option maxHeartbeats 800000 in
theorem node11_walk0 (h : Nat) (hh : h ≤ 32) (f : Nat) (B : Option Addr) (b : Nat) (ls : List H32) (P : Option Addr) (q : Nat) (P2 : Option Addr) (q2 : Nat) (Bl : Option Addr) (cl : Nat) (left : List H32) (Br : Option Addr) (cr : Nat) (right : List H32) (ctx : RowCtx f ls.length h ls left right) (h256 : ls.length ≤ 256) (p : Nat) (w0 : World) (ho : okAt h (0, p)) (hok : NodeOk ((sideL f h).zip left) ((sideR (f + ls.length - 1) h).zip right) f (f + ls.length - 1) (0) p) (hB : Ro w0 [] (SlA B (hcs ls))) (hP : Ro w0 [] (SlA P (sdL (sideL f h)))) (hP2 : Ro w0 [] (SlA P2 (sdL (sideR (f + ls.length - 1) h)))) (hl : Ro w0 [] (SlA Bl (hcs left))) (hr : Ro w0 [] (SlA Br (hcs right))) (hT : Tabs 2 0 w0 [])  :
    Calls Tryz.prog 125 #[.int .i64 ((0 : Nat) : Int), .int .u64 (p : Int), .int .u64 (f : Int), .slice B ls.length b, .slice P (sideL f h).length q, .slice P2 (sideR (f + ls.length - 1) h).length q2, .slice Bl left.length cl, .slice Br right.length cr] w0 (Post w0 [] fun v L => v = hv (refN ((sideL f h).zip left) ((sideR (f + ls.length - 1) h).zip right) ls f (0) (p)) ∧ L = []) := by
  refine Calls.of (L := []) (n := 89) (rs := [.cell 16 49]) Tryz.func125 rfl rfl rfl (Nat.le_of_ble_eq_true rfl) (Sat.nil _) ?_
  obtain ⟨hl32, hp32⟩ := okAt_lt hh ho
  have hsl := sideL_len f h
  have hsr := sideR_len (f + ls.length - 1) h
  have hcl := ctx.lenL
  have hcr := ctx.lenR
  refine TC.seq ?_
  refine TC.region ?_
  refine S.opS rfl rfl (OpV.alloc Tryz.zero49 (fun b16 => ?_))
  refine S.nil ?_
  refine TC.seq ?_
  refine TC.seq ?_
  refine TC.region ?_
  refine S.as ?_
  refine S.nil ?_
  refine TC.block ?_
  refine TC.loop (γ := Nat) [19, 20, 21, 22, 25, 26, 27, 28, 29, 30, 31, 32, 33, 34, 35, 36, 23, 24, 17] (fun k => [(17, .int .i64 (k : Int))]) (fun _ => _) (fun k => k ≤ (sideL f h).length ∧ ∀ i, i < k → (sideL f h).getD i (0, 0) ≠ (0, p)) (fun k => (sideL f h).length - k) (0)
    ⟨Nat.zero_le _, fun i h => absurd h (Nat.not_lt_zero _)⟩ ⟨Out.refl _ _, (List.forall_mem_cons.2 ⟨rfl, (fun _ h => nomatch h)⟩)⟩ (Sub.refl _) ?_
  rintro k u ⟨hk, hq⟩
  refine TC.seq ?_
  refine TC.seq ?_
  refine TC.region ?_
  refine S.mv ?_
  refine S.mv ?_
  refine S.q rfl rfl (Qt.len_slice Tryz.underlying188 rfl) ?_
  refine S.dec rfl rfl (Qt.lt rfl rfl) (fun h22 => ?_) (fun h22 => ?_)
  · refine S.nil ?_
    refine S.if_t rfl ?_
    refine TC.skip ?_
    refine TC.seq ?_
    refine TC.block ?_
    refine TC.seq ?_
    refine TC.region ?_
    refine S.mv ?_
    refine S.mv ?_
    refine S.q rfl rfl (Qt.index Tryz.underlying188 Tryz.cells265 rfl rfl (by omega) (Has.ro hP) (by rw [sdL_len]; omega)) ?_
    refine S.q rfl rfl (Qt.load rfl (Ld.slr (vs := [.int .i64 (((sideL f h).getD k (0, 0)).1 : Int), .int .u64 (((sideL f h).getD k (0, 0)).2 : Int)]) (Has.ro hP) Tryz.row265 Tryz.cells265 (Nat.zero_lt_succ _) (sdL_row h22))) ?_
    refine S.mv ?_
    refine S.mv ?_
    refine S.q rfl rfl (Qt.as (Qt.buildS (vs := [.int .i64 ((0 : Nat) : Int), .int .u64 (p : Int)]) (pls := #[(0, 1), (1, 1)]) Tryz.underlying265 (fun w => by kernel_rfl) Tryz.zero265 rfl ⟨rfl, rfl, trivial⟩ rfl) (show _ = encAt (0, p) from rfl)) ?_
    refine S.dec rfl rfl (Qt.eqAt (a := (sideL f h).getD k (0, 0)) (b := (0, p)) (by kernel_rfl) Tryz.key171 rfl rfl) (fun h32 => ?_) (fun h32 => ?_)
    · refine S.nil ?_
      refine S.if_t rfl ?_
      refine TC.seq ?_
      refine TC.region ?_
      refine S.mv ?_
      refine S.mv ?_
      refine S.q rfl rfl (Qt.index Tryz.underlying33 Tryz.cells49 rfl rfl (by omega) (Has.ro hl) (by rw [hcs_length]; omega)) ?_
      refine S.q rfl rfl (Qt.load rfl (Ld.hashS (Has.ro hl) k Tryz.row49 Tryz.cells49 (by omega) rfl)) ?_
      refine S.opN rfl (OpV.storeV0 (v := hv (_)) rfl rfl (hv_size Tryz.cells49) (hv_all _) (hv_len _) ?_)
      refine S.nil ?_
      refine TC.ret ?_
      refine finQ.ret (RVs.cell rfl (Ld.all (Has.at 0 rfl) Tryz.row49 (hv_size Tryz.cells49)) RVs.nil) (Sub.nil _) ?_
      rw [refN_left (look_first (0, 0) h22 ctx.lenL hq h32)]
      exact ⟨rfl, rfl⟩
    · refine S.nil ?_
      refine S.if_f rfl ?_
      refine TC.skip ?_
      refine TC.region ?_
      refine S.mv ?_
      refine S.q rfl rfl (Qt.add (b := 1) rfl rfl (by simp only [kmax]; omega)) ?_
      refine S.as ?_
      refine S.nil ?_
      refine ⟨k + 1, ?_, ?_, ⟨?_, (List.forall_mem_cons.2 ⟨rfl, (fun _ h => nomatch h)⟩)⟩, Sub.refl _⟩
      · exact ⟨by show _ ≤ _; omega, fun i hi => (Nat.lt_or_ge i k).elim (hq i) (fun h => by (obtain rfl : i = k := by omega); exact h32)⟩
      · show _ < _; dsimp only; omega
      repeat (first | exact Out.refl _ _ | refine Out.put rfl ?_ | refine Out.puts rfl ?_ | refine Out.scr ?_ | refine Out.scr' rfl ?_)
  · refine S.nil ?_
    refine S.if_f rfl ?_
    refine TC.exit ?_
    refine TC.seq ?_
    refine TC.seq ?_
    refine TC.region ?_
    refine S.as ?_
    refine S.nil ?_
    refine TC.block ?_
    have hnoL : Go.E.look (0, p) ((sideL f h).zip left) = none := look_missing (0, 0) (fun i hi => hq i (by omega))
    refine TC.loop (γ := Nat) [37, 38, 39, 40, 43, 44, 45, 46, 47, 48, 49, 50, 51, 52, 53, 54, 41, 42, 18] (fun j => [(18, .int .i64 (j : Int))]) (fun _ => _) (fun j => j ≤ (sideR (f + ls.length - 1) h).length ∧ ∀ i, i < j → (sideR (f + ls.length - 1) h).getD i (0, 0) ≠ (0, p)) (fun j => (sideR (f + ls.length - 1) h).length - j) (0)
      ⟨Nat.zero_le _, fun i h => absurd h (Nat.not_lt_zero _)⟩ ⟨Out.refl _ _, (List.forall_mem_cons.2 ⟨rfl, (fun _ h => nomatch h)⟩)⟩ (Sub.refl _) ?_
    rintro j u ⟨hj, hq2⟩
    refine TC.seq ?_
    refine TC.seq ?_
    refine TC.region ?_
    refine S.mv ?_
    refine S.mv ?_
    refine S.q rfl rfl (Qt.len_slice Tryz.underlying188 rfl) ?_
    refine S.dec rfl rfl (Qt.lt rfl rfl) (fun h40 => ?_) (fun h40 => ?_)
    · refine S.nil ?_
      refine S.if_t rfl ?_
      refine TC.skip ?_
      refine TC.seq ?_
      refine TC.block ?_
      refine TC.seq ?_
      refine TC.region ?_
      refine S.mv ?_
      refine S.mv ?_
      refine S.q rfl rfl (Qt.index Tryz.underlying188 Tryz.cells265 rfl rfl (by omega) (Has.ro hP2) (by rw [sdL_len]; omega)) ?_
      refine S.q rfl rfl (Qt.load rfl (Ld.slr (vs := [.int .i64 (((sideR (f + ls.length - 1) h).getD j (0, 0)).1 : Int), .int .u64 (((sideR (f + ls.length - 1) h).getD j (0, 0)).2 : Int)]) (Has.ro hP2) Tryz.row265 Tryz.cells265 (Nat.zero_lt_succ _) (sdL_row h40))) ?_
      refine S.mv ?_
      refine S.mv ?_
      refine S.q rfl rfl (Qt.as (Qt.buildS (vs := [.int .i64 ((0 : Nat) : Int), .int .u64 (p : Int)]) (pls := #[(0, 1), (1, 1)]) Tryz.underlying265 (fun w => by kernel_rfl) Tryz.zero265 rfl ⟨rfl, rfl, trivial⟩ rfl) (show _ = encAt (0, p) from rfl)) ?_
      refine S.dec rfl rfl (Qt.eqAt (a := (sideR (f + ls.length - 1) h).getD j (0, 0)) (b := (0, p)) (by kernel_rfl) Tryz.key171 rfl rfl) (fun h50 => ?_) (fun h50 => ?_)
      · refine S.nil ?_
        refine S.if_t rfl ?_
        refine TC.seq ?_
        refine TC.region ?_
        refine S.mv ?_
        refine S.mv ?_
        refine S.q rfl rfl (Qt.index Tryz.underlying33 Tryz.cells49 rfl rfl (by omega) (Has.ro hr) (by rw [hcs_length]; omega)) ?_
        refine S.q rfl rfl (Qt.load rfl (Ld.hashS (Has.ro hr) j Tryz.row49 Tryz.cells49 (by omega) rfl)) ?_
        refine S.opN rfl (OpV.storeV0 (v := hv (_)) rfl rfl (hv_size Tryz.cells49) (hv_all _) (hv_len _) ?_)
        refine S.nil ?_
        refine TC.ret ?_
        refine finQ.ret (RVs.cell rfl (Ld.all (Has.at 0 rfl) Tryz.row49 (hv_size Tryz.cells49)) RVs.nil) (Sub.nil _) ?_
        rw [refN_right hnoL (look_first (0, 0) h40 ctx.lenR hq2 h50)]
        exact ⟨rfl, rfl⟩
      · refine S.nil ?_
        refine S.if_f rfl ?_
        refine TC.skip ?_
        refine TC.region ?_
        refine S.mv ?_
        refine S.q rfl rfl (Qt.add (b := 1) rfl rfl (by simp only [kmax]; omega)) ?_
        refine S.as ?_
        refine S.nil ?_
        refine ⟨j + 1, ?_, ?_, ⟨?_, (List.forall_mem_cons.2 ⟨rfl, (fun _ h => nomatch h)⟩)⟩, Sub.refl _⟩
        · exact ⟨by show _ ≤ _; omega, fun i hi => (Nat.lt_or_ge i j).elim (hq2 i) (fun h => by (obtain rfl : i = j := by omega); exact h50)⟩
        · show _ < _; dsimp only; omega
        repeat (first | exact Out.refl _ _ | refine Out.put rfl ?_ | refine Out.puts rfl ?_ | refine Out.scr ?_ | refine Out.scr' rfl ?_)
    · refine S.nil ?_
      refine S.if_f rfl ?_
      refine TC.exit ?_
      refine TC.seq ?_
      refine TC.seq ?_
      refine TC.region ?_
      have hnoR : Go.E.look (0, p) ((sideR (f + ls.length - 1) h).zip right) = none := look_missing (0, 0) (fun i hi => hq2 i (by omega))
      obtain ⟨hf1, hf2⟩ := hok.leaf hnoL hnoR
      have hn1 := ctx.n1
      refine S.mv ?_
      refine S.q rfl rfl (Qt.dT (Qt.eq (b := 0) rfl rfl) (rfl)) ?_
      refine S.nil ?_
      refine S.if_t rfl ?_
      refine TC.seq ?_
      refine TC.region ?_
      refine S.mv ?_
      refine S.mv ?_
      refine S.mv ?_
      refine S.q rfl rfl (Qt.sub rfl rfl (by omega) (by simp only [kmax]; omega)) ?_
      refine S.q rfl rfl (Qt.convert Tryz.underlying40 Tryz.underlying3 rfl (by simp only [kmax]; omega)) ?_
      refine S.q rfl rfl (Qt.index Tryz.underlying33 Tryz.cells49 rfl rfl (by omega) (Has.ro hB) (by rw [hcs_length]; omega)) ?_
      refine S.q rfl rfl (Qt.load rfl (Ld.hashS (Has.ro hB) (p - f) Tryz.row49 Tryz.cells49 (by omega) rfl)) ?_
      refine S.opN rfl (OpV.storeV0 (v := hv (_)) rfl rfl (hv_size Tryz.cells49) (hv_all _) (hv_len _) ?_)
      refine S.nil ?_
      refine TC.ret ?_
      refine finQ.ret (RVs.cell rfl (Ld.all (Has.at 0 rfl) Tryz.row49 (hv_size Tryz.cells49)) RVs.nil) (Sub.nil _) ?_
      rw [refN_leaf hnoL hnoR]
      exact ⟨rfl, rfl⟩
set_option maxHeartbeats 1600000 in
theorem node11_walkS (h : Nat) (hh : h ≤ 32) (f : Nat) (B : Option Addr) (b : Nat) (ls : List H32) (P : Option Addr) (q : Nat) (P2 : Option Addr) (q2 : Nat) (Bl : Option Addr) (cl : Nat) (left : List H32) (Br : Option Addr) (cr : Nat) (right : List H32) (ctx : RowCtx f ls.length h ls left right) (h256 : ls.length ≤ 256) (l p : Nat) (w0 : World) (ho : okAt h (l + 1, p)) (hok : NodeOk ((sideL f h).zip left) ((sideR (f + ls.length - 1) h).zip right) f (f + ls.length - 1) (l + 1) p) (hB : Ro w0 [] (SlA B (hcs ls))) (hP : Ro w0 [] (SlA P (sdL (sideL f h)))) (hP2 : Ro w0 [] (SlA P2 (sdL (sideR (f + ls.length - 1) h)))) (hl : Ro w0 [] (SlA Bl (hcs left))) (hr : Ro w0 [] (SlA Br (hcs right))) (hT : Tabs 2 0 w0 []) (hlh : l + 1 ≤ h) (hrec : RNodeC h f B b ls P q P2 q2 Bl cl left Br cr right l) :
    Calls Tryz.prog 125 #[.int .i64 ((l + 1 : Nat) : Int), .int .u64 (p : Int), .int .u64 (f : Int), .slice B ls.length b, .slice P (sideL f h).length q, .slice P2 (sideR (f + ls.length - 1) h).length q2, .slice Bl left.length cl, .slice Br right.length cr] w0 (Post w0 [] fun v L => v = hv (refN ((sideL f h).zip left) ((sideR (f + ls.length - 1) h).zip right) ls f (l + 1) (p)) ∧ L = []) := by
  refine Calls.of (L := []) (n := 89) (rs := [.cell 16 49]) Tryz.func125 rfl rfl rfl (Nat.le_of_ble_eq_true rfl) (Sat.nil _) ?_
  obtain ⟨hl32, hp32⟩ := okAt_lt hh ho
  have hsl := sideL_len f h
  have hsr := sideR_len (f + ls.length - 1) h
  have hcl := ctx.lenL
  have hcr := ctx.lenR
  refine TC.seq ?_
  refine TC.region ?_
  refine S.opS rfl rfl (OpV.alloc Tryz.zero49 (fun b16 => ?_))
  refine S.nil ?_
  refine TC.seq ?_
  refine TC.seq ?_
  refine TC.region ?_
  refine S.as ?_
  refine S.nil ?_
  refine TC.block ?_
  refine TC.loop (γ := Nat) [19, 20, 21, 22, 25, 26, 27, 28, 29, 30, 31, 32, 33, 34, 35, 36, 23, 24, 17] (fun k => [(17, .int .i64 (k : Int))]) (fun _ => _) (fun k => k ≤ (sideL f h).length ∧ ∀ i, i < k → (sideL f h).getD i (0, 0) ≠ (l + 1, p)) (fun k => (sideL f h).length - k) (0)
    ⟨Nat.zero_le _, fun i h => absurd h (Nat.not_lt_zero _)⟩ ⟨Out.refl _ _, (List.forall_mem_cons.2 ⟨rfl, (fun _ h => nomatch h)⟩)⟩ (Sub.refl _) ?_
  rintro k u ⟨hk, hq⟩
  refine TC.seq ?_
  refine TC.seq ?_
  refine TC.region ?_
  refine S.mv ?_
  refine S.mv ?_
  refine S.q rfl rfl (Qt.len_slice Tryz.underlying188 rfl) ?_
  refine S.dec rfl rfl (Qt.lt rfl rfl) (fun h22 => ?_) (fun h22 => ?_)
  · refine S.nil ?_
    refine S.if_t rfl ?_
    refine TC.skip ?_
    refine TC.seq ?_
    refine TC.block ?_
    refine TC.seq ?_
    refine TC.region ?_
    refine S.mv ?_
    refine S.mv ?_
    refine S.q rfl rfl (Qt.index Tryz.underlying188 Tryz.cells265 rfl rfl (by omega) (Has.ro hP) (by rw [sdL_len]; omega)) ?_
    refine S.q rfl rfl (Qt.load rfl (Ld.slr (vs := [.int .i64 (((sideL f h).getD k (0, 0)).1 : Int), .int .u64 (((sideL f h).getD k (0, 0)).2 : Int)]) (Has.ro hP) Tryz.row265 Tryz.cells265 (Nat.zero_lt_succ _) (sdL_row h22))) ?_
    refine S.mv ?_
    refine S.mv ?_
    refine S.q rfl rfl (Qt.as (Qt.buildS (vs := [.int .i64 ((l + 1 : Nat) : Int), .int .u64 (p : Int)]) (pls := #[(0, 1), (1, 1)]) Tryz.underlying265 (fun w => by kernel_rfl) Tryz.zero265 rfl ⟨rfl, rfl, trivial⟩ rfl) (show _ = encAt (l + 1, p) from rfl)) ?_
    refine S.dec rfl rfl (Qt.eqAt (a := (sideL f h).getD k (0, 0)) (b := (l + 1, p)) (by kernel_rfl) Tryz.key171 rfl rfl) (fun h32 => ?_) (fun h32 => ?_)
    · refine S.nil ?_
      refine S.if_t rfl ?_
      refine TC.seq ?_
      refine TC.region ?_
      refine S.mv ?_
      refine S.mv ?_
      refine S.q rfl rfl (Qt.index Tryz.underlying33 Tryz.cells49 rfl rfl (by omega) (Has.ro hl) (by rw [hcs_length]; omega)) ?_
      refine S.q rfl rfl (Qt.load rfl (Ld.hashS (Has.ro hl) k Tryz.row49 Tryz.cells49 (by omega) rfl)) ?_
      refine S.opN rfl (OpV.storeV0 (v := hv (_)) rfl rfl (hv_size Tryz.cells49) (hv_all _) (hv_len _) ?_)
      refine S.nil ?_
      refine TC.ret ?_
      refine finQ.ret (RVs.cell rfl (Ld.all (Has.at 0 rfl) Tryz.row49 (hv_size Tryz.cells49)) RVs.nil) (Sub.nil _) ?_
      rw [refN_left (look_first (0, 0) h22 ctx.lenL hq h32)]
      exact ⟨rfl, rfl⟩
    · refine S.nil ?_
      refine S.if_f rfl ?_
      refine TC.skip ?_
      refine TC.region ?_
      refine S.mv ?_
      refine S.q rfl rfl (Qt.add (b := 1) rfl rfl (by simp only [kmax]; omega)) ?_
      refine S.as ?_
      refine S.nil ?_
      refine ⟨k + 1, ?_, ?_, ⟨?_, (List.forall_mem_cons.2 ⟨rfl, (fun _ h => nomatch h)⟩)⟩, Sub.refl _⟩
      · exact ⟨by show _ ≤ _; omega, fun i hi => (Nat.lt_or_ge i k).elim (hq i) (fun h => by (obtain rfl : i = k := by omega); exact h32)⟩
      · show _ < _; dsimp only; omega
      repeat (first | exact Out.refl _ _ | refine Out.put rfl ?_ | refine Out.puts rfl ?_ | refine Out.scr ?_ | refine Out.scr' rfl ?_)
  · refine S.nil ?_
    refine S.if_f rfl ?_
    refine TC.exit ?_
    refine TC.seq ?_
    refine TC.seq ?_
    refine TC.region ?_
    refine S.as ?_
    refine S.nil ?_
    refine TC.block ?_
    have hnoL : Go.E.look (l + 1, p) ((sideL f h).zip left) = none := look_missing (0, 0) (fun i hi => hq i (by omega))
    refine TC.loop (γ := Nat) [37, 38, 39, 40, 43, 44, 45, 46, 47, 48, 49, 50, 51, 52, 53, 54, 41, 42, 18] (fun j => [(18, .int .i64 (j : Int))]) (fun _ => _) (fun j => j ≤ (sideR (f + ls.length - 1) h).length ∧ ∀ i, i < j → (sideR (f + ls.length - 1) h).getD i (0, 0) ≠ (l + 1, p)) (fun j => (sideR (f + ls.length - 1) h).length - j) (0)
      ⟨Nat.zero_le _, fun i h => absurd h (Nat.not_lt_zero _)⟩ ⟨Out.refl _ _, (List.forall_mem_cons.2 ⟨rfl, (fun _ h => nomatch h)⟩)⟩ (Sub.refl _) ?_
    rintro j u ⟨hj, hq2⟩
    refine TC.seq ?_
    refine TC.seq ?_
    refine TC.region ?_
    refine S.mv ?_
    refine S.mv ?_
    refine S.q rfl rfl (Qt.len_slice Tryz.underlying188 rfl) ?_
    refine S.dec rfl rfl (Qt.lt rfl rfl) (fun h40 => ?_) (fun h40 => ?_)
    · refine S.nil ?_
      refine S.if_t rfl ?_
      refine TC.skip ?_
      refine TC.seq ?_
      refine TC.block ?_
      refine TC.seq ?_
      refine TC.region ?_
      refine S.mv ?_
      refine S.mv ?_
      refine S.q rfl rfl (Qt.index Tryz.underlying188 Tryz.cells265 rfl rfl (by omega) (Has.ro hP2) (by rw [sdL_len]; omega)) ?_
      refine S.q rfl rfl (Qt.load rfl (Ld.slr (vs := [.int .i64 (((sideR (f + ls.length - 1) h).getD j (0, 0)).1 : Int), .int .u64 (((sideR (f + ls.length - 1) h).getD j (0, 0)).2 : Int)]) (Has.ro hP2) Tryz.row265 Tryz.cells265 (Nat.zero_lt_succ _) (sdL_row h40))) ?_
      refine S.mv ?_
      refine S.mv ?_
      refine S.q rfl rfl (Qt.as (Qt.buildS (vs := [.int .i64 ((l + 1 : Nat) : Int), .int .u64 (p : Int)]) (pls := #[(0, 1), (1, 1)]) Tryz.underlying265 (fun w => by kernel_rfl) Tryz.zero265 rfl ⟨rfl, rfl, trivial⟩ rfl) (show _ = encAt (l + 1, p) from rfl)) ?_
      refine S.dec rfl rfl (Qt.eqAt (a := (sideR (f + ls.length - 1) h).getD j (0, 0)) (b := (l + 1, p)) (by kernel_rfl) Tryz.key171 rfl rfl) (fun h50 => ?_) (fun h50 => ?_)
      · refine S.nil ?_
        refine S.if_t rfl ?_
        refine TC.seq ?_
        refine TC.region ?_
        refine S.mv ?_
        refine S.mv ?_
        refine S.q rfl rfl (Qt.index Tryz.underlying33 Tryz.cells49 rfl rfl (by omega) (Has.ro hr) (by rw [hcs_length]; omega)) ?_
        refine S.q rfl rfl (Qt.load rfl (Ld.hashS (Has.ro hr) j Tryz.row49 Tryz.cells49 (by omega) rfl)) ?_
        refine S.opN rfl (OpV.storeV0 (v := hv (_)) rfl rfl (hv_size Tryz.cells49) (hv_all _) (hv_len _) ?_)
        refine S.nil ?_
        refine TC.ret ?_
        refine finQ.ret (RVs.cell rfl (Ld.all (Has.at 0 rfl) Tryz.row49 (hv_size Tryz.cells49)) RVs.nil) (Sub.nil _) ?_
        rw [refN_right hnoL (look_first (0, 0) h40 ctx.lenR hq2 h50)]
        exact ⟨rfl, rfl⟩
      · refine S.nil ?_
        refine S.if_f rfl ?_
        refine TC.skip ?_
        refine TC.region ?_
        refine S.mv ?_
        refine S.q rfl rfl (Qt.add (b := 1) rfl rfl (by simp only [kmax]; omega)) ?_
        refine S.as ?_
        refine S.nil ?_
        refine ⟨j + 1, ?_, ?_, ⟨?_, (List.forall_mem_cons.2 ⟨rfl, (fun _ h => nomatch h)⟩)⟩, Sub.refl _⟩
        · exact ⟨by show _ ≤ _; omega, fun i hi => (Nat.lt_or_ge i j).elim (hq2 i) (fun h => by (obtain rfl : i = j := by omega); exact h50)⟩
        · show _ < _; dsimp only; omega
        repeat (first | exact Out.refl _ _ | refine Out.put rfl ?_ | refine Out.puts rfl ?_ | refine Out.scr ?_ | refine Out.scr' rfl ?_)
    · refine S.nil ?_
      refine S.if_f rfl ?_
      refine TC.exit ?_
      refine TC.seq ?_
      refine TC.seq ?_
      refine TC.region ?_
      have hnoR : Go.E.look (l + 1, p) ((sideR (f + ls.length - 1) h).zip right) = none := look_missing (0, 0) (fun i hi => hq2 i (by omega))
      obtain ⟨okl, okr⟩ := okAt_kids ho
      obtain ⟨kl, kr⟩ := NodeOk.kids ctx hlh hok hnoL hnoR
      refine S.mv ?_
      refine S.q rfl rfl (Qt.dF (Qt.eq (b := 0) rfl rfl) (by omega)) ?_
      refine S.nil ?_
      refine S.if_f rfl ?_
      refine TC.skip ?_
      refine TC.seq ?_
      refine TC.region ?_
      refine S.mv ?_
      refine S.mv ?_
      refine S.q rfl rfl (Qt.as (Qt.sub (a := l + 1) (b := 1) rfl rfl (by omega) (by simp only [kmax]; omega)) (by rw [Nat.add_sub_cancel])) ?_
      refine S.mv ?_
      refine S.q rfl rfl (Qt.mul (a := 2) rfl rfl (by simp only [kmax]; omega)) ?_
      refine S.mv ?_
      refine S.mv ?_
      refine S.mv ?_
      refine S.mv ?_
      refine S.mv ?_
      refine S.mv ?_
      refine S.opS rfl rfl (OpV.con0 Tryz.ent125 rfl (fun w hw => hrec (2 * p) w okl kl (Rd.ro hB w hw) (Rd.ro hP w hw) (Rd.ro hP2 w hw) (Rd.ro hl w hw) (Rd.ro hr w hw) (hT.at hw)) ?_)
      refine S.mv ?_
      refine S.q rfl rfl (Qt.as (Qt.sub (a := l + 1) (b := 1) rfl rfl (by omega) (by simp only [kmax]; omega)) (by rw [Nat.add_sub_cancel])) ?_
      refine S.mv ?_
      refine S.q rfl rfl (Qt.mul (a := 2) rfl rfl (by simp only [kmax]; omega)) ?_
      refine S.q rfl rfl (Qt.add (b := 1) rfl rfl (by simp only [kmax]; omega)) ?_
      refine S.mv ?_
      refine S.mv ?_
      refine S.mv ?_
      refine S.mv ?_
      refine S.mv ?_
      refine S.mv ?_
      refine S.opS rfl rfl (OpV.con0 Tryz.ent125 rfl (fun w hw => hrec (2 * p + 1) w okr kr (Rd.ro hB w hw) (Rd.ro hP w hw) (Rd.ro hP2 w hw) (Rd.ro hl w hw) (Rd.ro hr w hw) (hT.at hw)) ?_)
      refine S.opS rfl rfl (OpV.con0 Tryz.ent184 rfl (fun w hw => rjoin_R (l + 1) (by omega) (refN ((sideL f h).zip left) ((sideR (f + ls.length - 1) h).zip right) ls f (l) (2 * p)) (refN ((sideL f h).zip left) ((sideR (f + ls.length - 1) h).zip right) ls f (l) (2 * p + 1)) w (hT.at hw)) ?_)
      refine S.opN rfl (OpV.storeV0 (v := hv (_)) rfl rfl (hv_size Tryz.cells49) (hv_all _) (hv_len _) ?_)
      refine S.nil ?_
      refine TC.ret ?_
      refine finQ.ret (RVs.cell rfl (Ld.all (Has.at 0 rfl) Tryz.row49 (hv_size Tryz.cells49)) RVs.nil) (Sub.nil _) ?_
      rw [refN_join hnoL hnoR]
      exact ⟨rfl, rfl⟩
theorem rnode11_C (h : Nat) (hh : h ≤ 32) (f : Nat) (B : Option Addr) (b : Nat) (ls : List H32) (P : Option Addr) (q : Nat) (P2 : Option Addr) (q2 : Nat) (Bl : Option Addr) (cl : Nat) (left : List H32) (Br : Option Addr) (cr : Nat) (right : List H32) (ctx : RowCtx f ls.length h ls left right) (h256 : ls.length ≤ 256) : ∀ l, l ≤ h → RNodeC h f B b ls P q P2 q2 Bl cl left Br cr right l
  | 0, hl0 => fun p w0 ho hok hB hP hP2 hl hr hT => Calls.ret (node11_walk0 h hh f B b ls P q P2 q2 Bl cl left Br cr right ctx h256 p w0 ho hok hB hP hP2 hl hr hT)
  | l + 1, hl0 => fun p w0 ho hok hB hP hP2 hl hr hT => Calls.ret (node11_walkS h hh f B b ls P q P2 q2 Bl cl left Br cr right ctx h256 l p w0 ho hok hB hP hP2 hl hr hT hl0 (rnode11_C h hh f B b ls P q P2 q2 Bl cl left Br cr right ctx h256 l (by omega)))

set_option maxHeartbeats 400000 in
theorem rroot11_walk1 (z : Int) (f : Nat) (A : Option Addr) (c : Nat) (ls : List H32) (Bl : Option Addr) (cl : Nat) (left : List H32) (Br : Option Addr) (cr : Nat) (right : List H32) (hf : ∀ w, Calls Tryz.prog 147 #[.int .i64 z, .int .u64 (f : Int), .int .i64 (ls.length : Int)] w (Ret w (.bool false))) (w0 : World) :
    Calls Tryz.prog 124 #[.int .i64 z, .int .u64 (f : Int), .slice A ls.length c, .slice Bl left.length cl, .slice Br right.length cr] w0 (Post w0 [] fun v L => v = .tuple #[hv zeroH, .int .i64 1] ∧ L = []) := by
  refine Calls.of (L := []) (n := 50) (rs := [.cell 10 49, .tmp 11]) Tryz.func124 rfl rfl rfl (Nat.le_of_ble_eq_true rfl) (Sat.nil _) ?_
  refine TC.seq ?_
  refine TC.region ?_
  refine S.opS rfl rfl (OpV.alloc Tryz.zero49 (fun b10 => ?_))
  refine S.as ?_
  refine S.nil ?_
  refine TC.seq ?_
  refine TC.seq ?_
  refine TC.region ?_
  refine S.mv ?_
  refine S.mv ?_
  refine S.mv ?_
  refine S.q rfl rfl (Qt.len_slice Tryz.underlying33 rfl) ?_
  refine S.opS rfl rfl (OpV.con0 Tryz.ent147 rfl (fun w hw => hf w) ?_)
  refine S.q rfl rfl (Qt.not_f rfl) ?_
  refine S.nil ?_
  refine S.if_t rfl ?_
  refine TC.seq ?_
  refine TC.region ?_
  refine S.q rfl rfl (Qt.build (v := hv zeroH) rfl (fun _ => by kernel_rfl)) ?_
  refine S.opN rfl (OpV.storeV0 (v := hv (zeroH)) rfl rfl (hv_size Tryz.cells49) (hv_all _) (hv_len _) ?_)
  refine S.as ?_
  refine S.nil ?_
  refine TC.ret ?_
  refine finQ.ret (RVs.cell rfl (Ld.all (Has.at 0 rfl) Tryz.row49 (hv_size Tryz.cells49)) (RVs.tmp (by conv => lhs; whnf) RVs.nil)) (Sub.nil _) ?_
  exact ⟨rfl, rfl⟩
set_option maxHeartbeats 400000 in
theorem rroot11_walk5 (h f : Nat) (hh : h ≤ 32) (hf64 : f < 18446744073709551616) (A : Option Addr) (c : Nat) (ls : List H32) (Bl : Option Addr) (cl : Nat) (left : List H32) (Br : Option Addr) (cr : Nat) (right : List H32) (h1 : 1 ≤ ls.length) (h2 : ls.length ≤ 256) (hf : f + ls.length ≤ 2 ^ h) (h3 : ¬ ((sideL f h).length = left.length ∧ (sideR (f + ls.length - 1) h).length = right.length)) (w0 : World) :
    Calls Tryz.prog 124 #[.int .i64 (h : Int), .int .u64 (f : Int), .slice A ls.length c, .slice Bl left.length cl, .slice Br right.length cr] w0 (Post w0 [] fun v L => v = .tuple #[hv zeroH, .int .i64 5] ∧ L = []) := by
  refine Calls.of (L := []) (n := 50) (rs := [.cell 10 49, .tmp 11]) Tryz.func124 rfl rfl rfl (Nat.le_of_ble_eq_true rfl) (Sat.nil _) ?_
  refine TC.seq ?_
  refine TC.region ?_
  refine S.opS rfl rfl (OpV.alloc Tryz.zero49 (fun b10 => ?_))
  refine S.as ?_
  refine S.nil ?_
  refine TC.seq ?_
  refine TC.seq ?_
  refine TC.region ?_
  refine S.mv ?_
  refine S.mv ?_
  refine S.mv ?_
  refine S.q rfl rfl (Qt.len_slice Tryz.underlying33 rfl) ?_
  refine S.opS rfl rfl (OpV.con0 Tryz.ent147 rfl (fun w hw => (by have k := rright_R h f ls.length hh hf64 h1 h2 w; rw [decide_eq_true hf] at k; exact k : Calls Tryz.prog 147 #[.int .i64 (h : Int), .int .u64 (f : Int), .int .i64 (ls.length : Int)] w (Ret w (.bool true)))) ?_)
  refine S.q rfl rfl (Qt.not_t rfl) ?_
  refine S.nil ?_
  refine S.if_f rfl ?_
  refine TC.skip ?_
  refine TC.seq ?_
  refine TC.region ?_
  refine S.mv ?_
  refine S.mv ?_
  refine S.mv ?_
  refine S.q rfl rfl (Qt.len_slice Tryz.underlying33 rfl) ?_
  refine S.opS rfl rfl (OpV.con (Pre := []) (R := _) Tryz.ent91 rfl (List.Perm.refl _) (fun w hw => rsides_walk h f ls.length hh hf h1 h2 w) ?_)
  rintro v L' ⟨A1, e1, A2, e2, rfl, rfl⟩
  refine S.mv ?_
  refine S.q rfl rfl (Qt.extract rfl rfl) ?_
  refine S.q rfl rfl (Qt.extract rfl rfl) ?_
  refine S.as ?_
  refine S.as ?_
  refine S.nil ?_
  refine TC.seq ?_
  refine TC.seq ?_
  refine TC.region ?_
  refine S.mv ?_
  refine S.q rfl rfl (Qt.len_slice Tryz.underlying188 rfl) ?_
  refine S.mv ?_
  refine S.q rfl rfl (Qt.len_slice Tryz.underlying33 rfl) ?_
  refine S.dec rfl rfl (Qt.ne rfl rfl) (fun h33 => ?_) (fun h33 => ?_)
  · refine S.mv ?_
    refine S.pass rfl rfl ?_
    refine S.pass rfl rfl ?_
    refine S.pass rfl rfl ?_
    refine S.pass rfl rfl ?_
    refine S.pass rfl rfl ?_
    refine S.q rfl rfl (Qt.pick_t rfl (by conv => lhs; whnf)) ?_
    refine S.nil ?_
    refine S.if_t rfl ?_
    refine TC.seq ?_
    refine TC.region ?_
    refine S.q rfl rfl (Qt.build (v := hv zeroH) rfl (fun _ => by kernel_rfl)) ?_
    refine S.opN rfl (OpV.storeV2 (v := hv (zeroH)) rfl rfl (hv_size Tryz.cells49) (hv_all _) (hv_len _) ?_)
    refine S.as ?_
    refine S.nil ?_
    refine TC.ret ?_
    refine finQ.ret (RVs.cell rfl (Ld.all (Has.at 2 rfl) Tryz.row49 (hv_size Tryz.cells49)) (RVs.tmp (by conv => lhs; whnf) RVs.nil)) (Sub.nil _) ?_
    exact ⟨rfl, rfl⟩
  · refine S.mv ?_
    refine S.qg rfl rfl rfl (Qt.move (by conv => lhs; whnf)) ?_
    refine S.qg rfl rfl rfl (Qt.len_slice Tryz.underlying188 rfl) ?_
    refine S.qg rfl rfl rfl (Qt.move (by conv => lhs; whnf)) ?_
    refine S.qg rfl rfl rfl (Qt.len_slice Tryz.underlying33 rfl) ?_
    refine S.qg rfl rfl rfl (Qt.dT (Qt.ne rfl rfl) (fun e => h3 ⟨Decidable.not_not.1 h33, e⟩)) ?_
    refine S.q rfl rfl (Qt.pick_f rfl (by conv => lhs; whnf)) ?_
    refine S.nil ?_
    refine S.if_t rfl ?_
    refine TC.seq ?_
    refine TC.region ?_
    refine S.q rfl rfl (Qt.build (v := hv zeroH) rfl (fun _ => by kernel_rfl)) ?_
    refine S.opN rfl (OpV.storeV2 (v := hv (zeroH)) rfl rfl (hv_size Tryz.cells49) (hv_all _) (hv_len _) ?_)
    refine S.as ?_
    refine S.nil ?_
    refine TC.ret ?_
    refine finQ.ret (RVs.cell rfl (Ld.all (Has.at 2 rfl) Tryz.row49 (hv_size Tryz.cells49)) (RVs.tmp (by conv => lhs; whnf) RVs.nil)) (Sub.nil _) ?_
    exact ⟨rfl, rfl⟩
set_option maxHeartbeats 400000 in
theorem rroot11_walk0 (h f : Nat) (hh : h ≤ 32) (hf64 : f < 18446744073709551616) (A : Option Addr) (c : Nat) (ls : List H32) (Bl : Option Addr) (cl : Nat) (left : List H32) (Br : Option Addr) (cr : Nat) (right : List H32) (h1 : 1 ≤ ls.length) (h2 : ls.length ≤ 256) (hf : f + ls.length ≤ 2 ^ h) (hLl : (sideL f h).length = left.length) (hLr : (sideR (f + ls.length - 1) h).length = right.length) (w0 : World) (hR : Ro w0 [] (SlA A (hcs ls))) (hl : Ro w0 [] (SlA Bl (hcs left))) (hr : Ro w0 [] (SlA Br (hcs right))) (hT : Tabs 2 0 w0 []) :
    Calls Tryz.prog 124 #[.int .i64 (h : Int), .int .u64 (f : Int), .slice A ls.length c, .slice Bl left.length cl, .slice Br right.length cr] w0 (Post w0 [] fun v L => v = .tuple #[hv (refN ((sideL f h).zip left) ((sideR (f + ls.length - 1) h).zip right) ls f h 0), .int .i64 0] ∧ L = []) := by
  refine Calls.of (L := []) (n := 50) (rs := [.cell 10 49, .tmp 11]) Tryz.func124 rfl rfl rfl (Nat.le_of_ble_eq_true rfl) (Sat.nil _) ?_
  have ctx : RowCtx f ls.length h ls left right := ⟨h1, hf, rfl, hLl, hLr⟩
  refine TC.seq ?_
  refine TC.region ?_
  refine S.opS rfl rfl (OpV.alloc Tryz.zero49 (fun b10 => ?_))
  refine S.as ?_
  refine S.nil ?_
  refine TC.seq ?_
  refine TC.seq ?_
  refine TC.region ?_
  refine S.mv ?_
  refine S.mv ?_
  refine S.mv ?_
  refine S.q rfl rfl (Qt.len_slice Tryz.underlying33 rfl) ?_
  refine S.opS rfl rfl (OpV.con0 Tryz.ent147 rfl (fun w hw => (by have k := rright_R h f ls.length hh hf64 h1 h2 w; rw [decide_eq_true hf] at k; exact k : Calls Tryz.prog 147 #[.int .i64 (h : Int), .int .u64 (f : Int), .int .i64 (ls.length : Int)] w (Ret w (.bool true)))) ?_)
  refine S.q rfl rfl (Qt.not_t rfl) ?_
  refine S.nil ?_
  refine S.if_f rfl ?_
  refine TC.skip ?_
  refine TC.seq ?_
  refine TC.region ?_
  refine S.mv ?_
  refine S.mv ?_
  refine S.mv ?_
  refine S.q rfl rfl (Qt.len_slice Tryz.underlying33 rfl) ?_
  refine S.opS rfl rfl (OpV.con (Pre := []) (R := _) Tryz.ent91 rfl (List.Perm.refl _) (fun w hw => rsides_walk h f ls.length hh hf h1 h2 w) ?_)
  rintro v L' ⟨A1, e1, A2, e2, rfl, rfl⟩
  refine S.mv ?_
  refine S.q rfl rfl (Qt.extract rfl rfl) ?_
  refine S.q rfl rfl (Qt.extract rfl rfl) ?_
  refine S.as ?_
  refine S.as ?_
  refine S.nil ?_
  refine TC.seq ?_
  refine TC.seq ?_
  refine TC.region ?_
  refine S.mv ?_
  refine S.q rfl rfl (Qt.len_slice Tryz.underlying188 rfl) ?_
  refine S.mv ?_
  refine S.q rfl rfl (Qt.len_slice Tryz.underlying33 rfl) ?_
  refine S.q rfl rfl (Qt.dF (Qt.ne rfl rfl) (fun e => e hLl)) ?_
  refine S.mv ?_
  refine S.qg rfl rfl rfl (Qt.move (by conv => lhs; whnf)) ?_
  refine S.qg rfl rfl rfl (Qt.len_slice Tryz.underlying188 rfl) ?_
  refine S.qg rfl rfl rfl (Qt.move (by conv => lhs; whnf)) ?_
  refine S.qg rfl rfl rfl (Qt.len_slice Tryz.underlying33 rfl) ?_
  refine S.qg rfl rfl rfl (Qt.dF (Qt.ne rfl rfl) (fun e => e hLr)) ?_
  refine S.q rfl rfl (Qt.pick_f rfl (by conv => lhs; whnf)) ?_
  refine S.nil ?_
  refine S.if_f rfl ?_
  refine TC.skip ?_
  refine TC.seq ?_
  refine TC.region ?_
  refine S.mv ?_
  refine S.mv ?_
  refine S.mv ?_
  refine S.mv ?_
  refine S.mv ?_
  refine S.mv ?_
  refine S.mv ?_
  refine S.opS rfl rfl (OpV.con0 Tryz.ent125 rfl (fun w hw => rnode11_C h hh f A c ls A1 e1 A2 e2 Bl cl left Br cr right ctx h2 h (Nat.le_refl _) 0 w (okRoot h) (NodeOk.root ctx) (Rd.ro hR w hw) (Rd.own (Rd.at 0 rfl) w hw) (Rd.own (Rd.at 1 rfl) w hw) (Rd.ro hl w hw) (Rd.ro hr w hw) (hT.at hw)) ?_)
  refine S.opN rfl (OpV.storeV2 (v := hv (_)) rfl rfl (hv_size Tryz.cells49) (hv_all _) (hv_len _) ?_)
  refine S.as ?_
  refine S.nil ?_
  refine TC.ret ?_
  refine finQ.ret (RVs.cell rfl (Ld.all (Has.at 2 rfl) Tryz.row49 (hv_size Tryz.cells49)) (RVs.tmp (by conv => lhs; whnf) RVs.nil)) (Sub.nil _) ?_
  exact ⟨rfl, rfl⟩
theorem rroot11_R (z : Int) (f : Nat) (hf64 : f < 18446744073709551616) (A : Option Addr) (c : Nat) (ls : List H32) (Bl : Option Addr) (cl : Nat) (left : List H32) (Br : Option Addr) (cr : Nat) (right : List H32) (w0 : World) (hR : Ro w0 [] (SlA A (hcs ls))) (hl : Ro w0 [] (SlA Bl (hcs left))) (hr : Ro w0 [] (SlA Br (hcs right))) (hT : Tabs 2 0 w0 []) : Calls Tryz.prog 124 #[.int .i64 z, .int .u64 (f : Int), .slice A ls.length c, .slice Bl left.length cl, .slice Br right.length cr] w0 (Ret w0 (.tuple #[hv (spanR z f ls left right).1, .int .i64 (((spanR z f ls left right).2 : Nat) : Int)])) := by
  by_cases hz : z < 0 ∨ 32 < z
  · rw [spanR, if_pos hz]; exact Calls.ret (rroot11_walk1 z f A c ls Bl cl left Br cr right (fun w => right46_F hf64 (by omega) w) w0)
  · obtain ⟨h, rfl⟩ : ∃ n : Nat, z = (n : Int) := ⟨z.toNat, by omega⟩
    have hh : h ≤ 32 := by omega
    rw [spanR_nat hh]
    by_cases g : 1 ≤ ls.length ∧ ls.length ≤ 256 ∧ f + ls.length ≤ 2 ^ h
    · by_cases g2 : (sideL f h).length = left.length ∧ (sideR (f + ls.length - 1) h).length = right.length
      · rw [spanN_0 g g2]; exact Calls.ret (rroot11_walk0 h f hh hf64 A c ls Bl cl left Br cr right g.1 g.2.1 g.2.2 g2.1 g2.2 w0 hR hl hr hT)
      · rw [spanN_5 g g2]; exact Calls.ret (rroot11_walk5 h f hh hf64 A c ls Bl cl left Br cr right g.1 g.2.1 g.2.2 g2 w0)
    · rw [spanN_1 g]; exact Calls.ret (rroot11_walk1 h f A c ls Bl cl left Br cr right (fun w => right46_F hf64 (.inr (.inr ⟨h, rfl, hh, g⟩)) w) w0)

end Go.Proofs.YtgdjcmehlhebdaaGreatDoor
