/-
  Walks: the law of a span's root. Printed by a program of ours.
-/
import Derived.Test.YtlneklemjfefpaaDoorVC
import Derived.Test.YtlneklemjfefpaaDoorUA0
import Derived.Test.YtlneklemjfefpaaDoorTX
import Derived.Test.YtlneklemjfefpaaDoorSN
namespace Go.Proofs.YtlneklemjfefpaaDoor
open Go.E
set_option linter.unusedVariables false
set_option maxRecDepth 4000
theorem Tryd.ent73 : Enters Tryd.prog 73 := ⟨_, Tryd.func73, by kernel_rfl, rfl⟩
theorem Tryd.ent75 : Enters Tryd.prog 75 := ⟨_, Tryd.func75, by kernel_rfl, rfl⟩
theorem right49_F {z : Int} {f : Nat} (hf64 : f < 18446744073709551616) {n : Nat} (g : z < 0 ∨ 32 < z ∨ ∃ h : Nat, z = (h : Int) ∧ h ≤ 32 ∧ ¬ (1 ≤ n ∧ n ≤ 256 ∧ f + n ≤ 2 ^ h)) (w : World) : Calls Tryd.prog 49 #[.int .i64 z, .int .u64 (f : Int), .int .i64 (n : Int)] w (Ret w (.bool false)) := by
  rcases g with g | g | ⟨h, rfl, hh, g⟩
  · exact right11Z_R z (.inl g) f n w
  · exact right11Z_R z (.inr g) f n w
  · by_cases h1 : 1 ≤ n ∧ n ≤ 256
    · have k := right_R h f n hh hf64 h1.1 h1.2 w
      rw [decide_eq_false (fun e => g ⟨h1.1, h1.2, e⟩)] at k; exact k
    · exact rightF_R h f n (by omega) hh w
theorem sroot_R (z : Int) (f : Nat) (hf64 : f < 18446744073709551616) (A : Option Addr) (c : Nat) (ls : List H32) (Bl : Option Addr) (cl : Nat) (left : List H32) (Br : Option Addr) (cr : Nat) (right : List H32) (hcl : left.length ≤ cl) (hcr : right.length ≤ cr) (w0 : World) (hR : Ro w0 [] (SlA A (hcs ls))) (hl : Ro w0 [] (SlA Bl (hcs left))) (hr : Ro w0 [] (SlA Br (hcs right))) (hT : Tabs 2 0 w0 []) : Calls Tryd.prog 73 #[.int .i64 z, .int .u64 (f : Int), .slice A ls.length c, .agg #[.slice Bl left.length cl, .slice Br right.length cr]] w0 (Ret w0 (.tuple #[hv (spanR z f ls left right).1, errv 58 (spanR z f ls left right).2])) := by
  by_cases hz : z < 0 ∨ 32 < z
  · rw [spanR, if_pos hz]; exact Calls.ret (sroot_walk1 z f A c ls Bl cl left Br cr right (fun w => right49_F hf64 (by omega) w) w0)
  · obtain ⟨h, rfl⟩ : ∃ n : Nat, z = (n : Int) := ⟨z.toNat, by omega⟩
    have hh : h ≤ 32 := by omega
    rw [spanR_nat hh]
    by_cases g : 1 ≤ ls.length ∧ ls.length ≤ 256 ∧ f + ls.length ≤ 2 ^ h
    · by_cases g2 : (sideL f h).length = left.length ∧ (sideR (f + ls.length - 1) h).length = right.length
      · rw [spanN_0 g g2]; exact Calls.ret (sroot_walk0 h f hh hf64 A c ls Bl cl left Br cr right g.1 g.2.1 g.2.2 g2.1 g2.2 hcl hcr w0 hR hl hr hT)
      · rw [spanN_5 g g2]; exact Calls.ret (sroot_walk5 h f hh hf64 A c ls Bl cl left Br cr right g.1 g.2.1 g.2.2 g2 w0)
    · rw [spanN_1 g]; exact Calls.ret (sroot_walk1 h f A c ls Bl cl left Br cr right (fun w => right49_F hf64 (.inr (.inr ⟨h, rfl, hh, g⟩)) w) w0)
set_option maxHeartbeats 400000 in
theorem schk_walk0 (root : H32) (z : Int) (f : Nat) (hf64 : f < 18446744073709551616) (A : Option Addr) (c : Nat) (ls : List H32) (Bl : Option Addr) (cl : Nat) (left : List H32) (Br : Option Addr) (cr : Nat) (right : List H32) (hcl : left.length ≤ cl) (hcr : right.length ≤ cr) (h0 : (spanR z f ls left right).2 = 0) (w0 : World) (hR : Ro w0 [] (SlA A (hcs ls))) (hl : Ro w0 [] (SlA Bl (hcs left))) (hr : Ro w0 [] (SlA Br (hcs right))) (hT : Tabs 2 0 w0 []) :
    Calls Tryd.prog 75 #[hv root, .int .i64 z, .int .u64 (f : Int), .slice A ls.length c, .agg #[.slice Bl left.length cl, .slice Br right.length cr]] w0 (Post w0 [] fun v L => v = errv 58 (if (spanR z f ls left right).1 ≠ root then 5 else 0) ∧ L = []) := by
  refine Calls.of (L := []) (n := 30) (rs := [.tmp 10]) Tryd.func75 rfl rfl rfl (Nat.le_of_ble_eq_true rfl) (Sat.nil _) ?_
  refine TC.seq ?_
  refine TC.region ?_
  refine S.opS rfl rfl (OpV.box (v := hv root) rfl (fun b5 => ?_))
  refine S.opS rfl rfl (OpV.box (v := .agg #[.slice Bl left.length cl, .slice Br right.length cr]) rfl (fun b9 => ?_))
  refine S.q rfl rfl (Qt.assign (by conv => lhs; whnf)) ?_
  refine S.nil ?_
  refine TC.seq ?_
  refine TC.region ?_
  refine S.q rfl rfl (Qt.move (by conv => lhs; whnf)) ?_
  refine S.q rfl rfl (Qt.move (by conv => lhs; whnf)) ?_
  refine S.q rfl rfl (Qt.move (by conv => lhs; whnf)) ?_
  refine S.q rfl rfl (Qt.load rfl (Ld.all (Has.at 0 rfl) Tryd.row77 (Tryd.cells77))) ?_
  refine S.opS rfl rfl (OpV.con0 Tryd.ent73 rfl (fun w hw => (by have h := sroot_R z f hf64 A c ls Bl cl left Br cr right hcl hcr w (Rd.ro hR w hw) (Rd.ro hl w hw) (Rd.ro hr w hw) (hT.at hw); rw [h0] at h; exact h : Calls Tryd.prog 73 #[.int .i64 z, .int .u64 (f : Int), .slice A ls.length c, .agg #[.slice Bl left.length cl, .slice Br right.length cr]] w (Ret w (.tuple #[hv (spanR z f ls left right).1, .nilIface])))) ?_)
  refine S.q rfl rfl (Qt.move (by conv => lhs; whnf)) ?_
  refine S.q rfl rfl (Qt.extract rfl rfl) ?_
  refine S.q rfl rfl (Qt.extract rfl rfl) ?_
  refine S.opS rfl rfl (OpV.alloc Tryd.zero23 (fun b11 => ?_))
  refine S.opN rfl (OpV.storeV0 (v := hv (_)) rfl rfl (hv_size Tryd.cells23) (hv_all _) (hv_len _) ?_)
  refine S.q rfl rfl (Qt.assign (by conv => lhs; whnf)) ?_
  refine S.nil ?_
  refine TC.seq ?_
  refine TC.block ?_
  refine TC.seq ?_
  refine TC.region ?_
  refine S.q rfl rfl (Qt.move (by conv => lhs; whnf)) ?_
  refine S.q rfl rfl (Qt.nenil_nil Tryd.underlying27 rfl) ?_
  refine S.q rfl rfl (Qt.assign (by conv => lhs; whnf)) ?_
  refine S.nil ?_
  refine S.if_f rfl ?_
  refine TC.seq ?_
  refine TC.region ?_
  refine S.q rfl rfl (Qt.load rfl (Ld.hash1 (x := (spanR z f ls left right).1) (Has.at 0 rfl) Tryd.row23 Tryd.cells23)) ?_
  refine S.q rfl rfl (Qt.load rfl (Ld.hash1 (x := root) (Has.at 2 rfl) Tryd.row23 Tryd.cells23)) ?_
  refine S.dec rfl rfl (Qt.neH (a := (spanR z f ls left right).1) (b := root) Tryd.guard23 Tryd.underlying23 Tryd.underlying5 Tryd.cells5 rfl rfl) (fun h28 => ?_) (fun h28 => ?_)
  · refine S.q rfl rfl (Qt.assign (by conv => lhs; whnf)) ?_
    refine S.nil ?_
    refine S.if_t rfl ?_
    refine TC.seq ?_
    refine TC.region ?_
    refine S.q rfl rfl (Qt.makeInterface Tryd.underlying58 (fun _ h => nomatch h) (by conv => lhs; whnf)) ?_
    refine S.q rfl rfl (Qt.assign (by conv => lhs; whnf)) ?_
    refine S.nil ?_
    refine TC.ret ?_
    refine finQ.ret (RVs.tmp (by conv => lhs; whnf) RVs.nil) (Sub.nil _) ?_
    exact ⟨by rw [if_pos h28]; rfl, rfl⟩
  · refine S.q rfl rfl (Qt.assign (by conv => lhs; whnf)) ?_
    refine S.nil ?_
    refine S.if_f rfl ?_
    refine TC.skip ?_
    refine TC.seq ?_
    refine TC.region ?_
    refine S.q rfl rfl (Qt.assign (by conv => lhs; whnf)) ?_
    refine S.nil ?_
    refine TC.ret ?_
    refine finQ.ret (RVs.tmp (by conv => lhs; whnf) RVs.nil) (Sub.nil _) ?_
    exact ⟨by rw [if_neg h28]; rfl, rfl⟩
set_option maxHeartbeats 400000 in
theorem schk_walkE (root : H32) (z : Int) (f : Nat) (hf64 : f < 18446744073709551616) (A : Option Addr) (c : Nat) (ls : List H32) (Bl : Option Addr) (cl : Nat) (left : List H32) (Br : Option Addr) (cr : Nat) (right : List H32) (hcl : left.length ≤ cl) (hcr : right.length ≤ cr) (k : Nat) (h0 : (spanR z f ls left right).2 = k) (hk : k ≠ 0) (w0 : World) (hR : Ro w0 [] (SlA A (hcs ls))) (hl : Ro w0 [] (SlA Bl (hcs left))) (hr : Ro w0 [] (SlA Br (hcs right))) (hT : Tabs 2 0 w0 []) :
    Calls Tryd.prog 75 #[hv root, .int .i64 z, .int .u64 (f : Int), .slice A ls.length c, .agg #[.slice Bl left.length cl, .slice Br right.length cr]] w0 (Post w0 [] fun v L => v = .iface 58 (.int .i64 (k : Int)) ∧ L = []) := by
  refine Calls.of (L := []) (n := 30) (rs := [.tmp 10]) Tryd.func75 rfl rfl rfl (Nat.le_of_ble_eq_true rfl) (Sat.nil _) ?_
  refine TC.seq ?_
  refine TC.region ?_
  refine S.opS rfl rfl (OpV.box (v := hv root) rfl (fun b5 => ?_))
  refine S.opS rfl rfl (OpV.box (v := .agg #[.slice Bl left.length cl, .slice Br right.length cr]) rfl (fun b9 => ?_))
  refine S.q rfl rfl (Qt.assign (by conv => lhs; whnf)) ?_
  refine S.nil ?_
  refine TC.seq ?_
  refine TC.region ?_
  refine S.q rfl rfl (Qt.move (by conv => lhs; whnf)) ?_
  refine S.q rfl rfl (Qt.move (by conv => lhs; whnf)) ?_
  refine S.q rfl rfl (Qt.move (by conv => lhs; whnf)) ?_
  refine S.q rfl rfl (Qt.load rfl (Ld.all (Has.at 0 rfl) Tryd.row77 (Tryd.cells77))) ?_
  refine S.opS rfl rfl (OpV.con0 Tryd.ent73 rfl (fun w hw => (by have h := sroot_R z f hf64 A c ls Bl cl left Br cr right hcl hcr w (Rd.ro hR w hw) (Rd.ro hl w hw) (Rd.ro hr w hw) (hT.at hw); rw [h0, errv_pos hk] at h; exact h : Calls Tryd.prog 73 #[.int .i64 z, .int .u64 (f : Int), .slice A ls.length c, .agg #[.slice Bl left.length cl, .slice Br right.length cr]] w (Ret w (.tuple #[hv (spanR z f ls left right).1, .iface 58 (.int .i64 (k : Int))])))) ?_)
  refine S.q rfl rfl (Qt.move (by conv => lhs; whnf)) ?_
  refine S.q rfl rfl (Qt.extract rfl rfl) ?_
  refine S.q rfl rfl (Qt.extract rfl rfl) ?_
  refine S.opS rfl rfl (OpV.alloc Tryd.zero23 (fun b11 => ?_))
  refine S.opN rfl (OpV.storeV0 (v := hv (_)) rfl rfl (hv_size Tryd.cells23) (hv_all _) (hv_len _) ?_)
  refine S.q rfl rfl (Qt.assign (by conv => lhs; whnf)) ?_
  refine S.nil ?_
  refine TC.seq ?_
  refine TC.block ?_
  refine TC.seq ?_
  refine TC.region ?_
  refine S.q rfl rfl (Qt.move (by conv => lhs; whnf)) ?_
  refine S.q rfl rfl (Qt.nenil_iface Tryd.underlying27 rfl) ?_
  refine S.q rfl rfl (Qt.assign (by conv => lhs; whnf)) ?_
  refine S.nil ?_
  refine S.if_t rfl ?_
  refine TC.seq ?_
  refine TC.region ?_
  refine S.q rfl rfl (Qt.move (by conv => lhs; whnf)) ?_
  refine S.q rfl rfl (Qt.assign (by conv => lhs; whnf)) ?_
  refine S.nil ?_
  refine TC.ret ?_
  refine finQ.ret (RVs.tmp (by conv => lhs; whnf) RVs.nil) (Sub.nil _) ?_
  exact ⟨rfl, rfl⟩
theorem schk_R (root : H32) (z : Int) (f : Nat) (hf64 : f < 18446744073709551616) (A : Option Addr) (c : Nat) (ls : List H32) (Bl : Option Addr) (cl : Nat) (left : List H32) (Br : Option Addr) (cr : Nat) (right : List H32) (hcl : left.length ≤ cl) (hcr : right.length ≤ cr) (w0 : World) (hR : Ro w0 [] (SlA A (hcs ls))) (hl : Ro w0 [] (SlA Bl (hcs left))) (hr : Ro w0 [] (SlA Br (hcs right))) (hT : Tabs 2 0 w0 []) : Calls Tryd.prog 75 #[hv root, .int .i64 z, .int .u64 (f : Int), .slice A ls.length c, .agg #[.slice Bl left.length cl, .slice Br right.length cr]] w0 (Ret w0 (errv 58 (chkS root z f ls left right))) := by
  by_cases h : (spanR z f ls left right).2 = 0
  · rw [chkS, if_neg (fun k => k h)]
    exact Calls.ret (schk_walk0 root z f hf64 A c ls Bl cl left Br cr right hcl hcr h w0 hR hl hr hT)
  · rw [chkS, if_pos h, errv_pos h]
    exact Calls.ret (schk_walkE root z f hf64 A c ls Bl cl left Br cr right hcl hcr _ rfl h w0 hR hl hr hT)

end Go.Proofs.YtlneklemjfefpaaDoor
