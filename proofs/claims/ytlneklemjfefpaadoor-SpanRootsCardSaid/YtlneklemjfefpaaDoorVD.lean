/-
  Walks: the law of a span's root. Printed by a program of ours.
-/
import Derived.Test.YtlneklemjfefpaaDoorVC
import Derived.Test.YtlneklemjfefpaaDoorUA0
import Derived.Test.YtlneklemjfefpaaDoorTX
import Derived.Test.YtlneklemjfefpaaDoorSN
namespace Go.Proofs.YtlneklemjfefpaaDoor
open Go.E
set_option linter.unusedVariables false
set_option maxRecDepth 4000
theorem Tryd.cells119 : (Tryd.prog.info? 119).map (·.size) = some 3 := by kernel_rfl
theorem Tryd.row119 : rowT Tryd.prog 119 = true := by kernel_rfl
theorem Tryd.ent73 : Enters Tryd.prog 73 := ⟨_, Tryd.func73, by kernel_rfl, rfl⟩
theorem Tryd.ent74 : Enters Tryd.prog 74 := ⟨_, Tryd.func74, by kernel_rfl, rfl⟩
theorem Tryd.ent75 : Enters Tryd.prog 75 := ⟨_, Tryd.func75, by kernel_rfl, rfl⟩
theorem Tryd.ent116 : Enters Tryd.prog 116 := ⟨_, Tryd.func116, by kernel_rfl, rfl⟩
theorem Tryd.key171 : KeyLaw Tryd.prog 171 encAt := Go.E.keyAt Tryd.underlying171 (by decide) (by decide) rfl rfl Tryd.underlying3 Tryd.underlying24 (by kernel_rfl)
theorem right49_F {z : Int} {f : Nat} (hf64 : f < 18446744073709551616) {n : Nat} (g : z < 0 ∨ 32 < z ∨ ∃ h : Nat, z = (h : Int) ∧ h ≤ 32 ∧ ¬ (1 ≤ n ∧ n ≤ 256 ∧ f + n ≤ 2 ^ h)) (w : World) : Calls Tryd.prog 49 #[.int .i64 z, .int .u64 (f : Int), .int .i64 (n : Int)] w (Ret w (.bool false)) := by
  rcases g with g | g | ⟨h, rfl, hh, g⟩
  · exact right11Z_R z (.inl g) f n w
  · exact right11Z_R z (.inr g) f n w
  · by_cases h1 : 1 ≤ n ∧ n ≤ 256
    · have k := right_R h f n hh hf64 h1.1 h1.2 w
      rw [decide_eq_false (fun e => g ⟨h1.1, h1.2, e⟩)] at k; exact k
    · exact rightF_R h f n (by omega) hh w
theorem right46_F {z : Int} {f : Nat} (hf64 : f < 18446744073709551616) {n : Nat} (g : z < 0 ∨ 32 < z ∨ ∃ h : Nat, z = (h : Int) ∧ h ≤ 32 ∧ ¬ (1 ≤ n ∧ n ≤ 256 ∧ f + n ≤ 2 ^ h)) (w : World) : Calls Tryd.prog 46 #[.int .i64 z, .int .u64 (f : Int), .int .i64 (n : Int)] w (Ret w (.bool false)) := by
  rcases g with g | g | ⟨h, rfl, hh, g⟩
  · exact rright11Z_R z (.inl g) f n w
  · exact rright11Z_R z (.inr g) f n w
  · by_cases h1 : 1 ≤ n ∧ n ≤ 256
    · have k := rright_R h f n hh hf64 h1.1 h1.2 w
      rw [decide_eq_false (fun e => g ⟨h1.1, h1.2, e⟩)] at k; exact k
    · exact rrightF_R h f n (by omega) hh w
theorem sroot_R (z : Int) (f : Nat) (hf64 : f < 18446744073709551616) (A : Option Addr) (c : Nat) (ls : List H32) (Bl : Option Addr) (cl : Nat) (left : List H32) (Br : Option Addr) (cr : Nat) (right : List H32) (hcl : left.length ≤ cl) (hcr : right.length ≤ cr) (w0 : World) (hR : Ro w0 [] (SlA A (hcs ls))) (hl : Ro w0 [] (SlA Bl (hcs left))) (hr : Ro w0 [] (SlA Br (hcs right))) (hT : Tabs 2 0 w0 []) : Calls Tryd.prog 73 #[.int .i64 z, .int .u64 (f : Int), .slice A ls.length c, .agg #[.slice Bl left.length cl, .slice Br right.length cr]] w0 (Ret w0 (.tuple #[hv (spanR z f ls left right).1, errv 58 (spanR z f ls left right).2])) := by
  by_cases hz : z < 0 ∨ 32 < z
  · rw [spanR, if_pos hz]; exact Calls.ret (sroot_walk1 z f A c ls Bl cl left Br cr right (fun w => right49_F hf64 (by omega) w) w0)
  · obtain ⟨h, rfl⟩ : ∃ n : Nat, z = (n : Int) := ⟨z.toNat, by omega⟩
    have hh : h ≤ 32 := by omega
    rw [spanR_nat hh]
    by_cases g : 1 ≤ ls.length ∧ ls.length ≤ 256 ∧ f + ls.length ≤ 2 ^ h
    · by_cases g2 : (sideL f h).length = left.length ∧ (sideR (f + ls.length - 1) h).length = right.length
      · rw [spanN_0 g g2]; exact Calls.ret (sroot_walk0 h f hh hf64 A c ls Bl cl left Br cr right g.1 g.2.1 g.2.2 g2.1 g2.2 hcl hcr w0 hR hl hr hT)
      · rw [spanN_5 g g2]; exact Calls.ret (sroot_walk5 h f hh hf64 A c ls Bl cl left Br cr right g.1 g.2.1 g.2.2 g2 w0)
    · rw [spanN_1 g]; exact Calls.ret (sroot_walk1 h f A c ls Bl cl left Br cr right (fun w => right49_F hf64 (.inr (.inr ⟨h, rfl, hh, g⟩)) w) w0)
def RNodeC (h : Nat) (f : Nat) (B : Option Addr) (b : Nat) (ls : List H32) (P : Option Addr) (q : Nat) (P2 : Option Addr) (q2 : Nat) (Bl : Option Addr) (cl : Nat) (left : List H32) (Br : Option Addr) (cr : Nat) (right : List H32) (l : Nat) : Prop := ∀ (p : Nat) (w0 : World), okAt h (l, p) → NodeOk ((sideL f h).zip left) ((sideR (f + ls.length - 1) h).zip right) f (f + ls.length - 1) l p → Ro w0 [] (SlA B (hcs ls)) → Ro w0 [] (SlA P (sdL (sideL f h))) → Ro w0 [] (SlA P2 (sdL (sideR (f + ls.length - 1) h))) → Ro w0 [] (SlA Bl (hcs left)) → Ro w0 [] (SlA Br (hcs right)) → Tabs 3 1 w0 [] →
  Calls Tryd.prog 116 #[.int .i64 ((l : Nat) : Int), .int .u64 (p : Int), .int .u64 (f : Int), .slice B ls.length b, .slice P (sideL f h).length q, .slice P2 (sideR (f + ls.length - 1) h).length q2, .slice Bl left.length cl, .slice Br right.length cr] w0 (Ret w0 (hv (refN ((sideL f h).zip left) ((sideR (f + ls.length - 1) h).zip right) ls f (l) (p))))
set_option maxHeartbeats 400000 in
theorem schk_walk0 (root : H32) (z : Int) (f : Nat) (hf64 : f < 18446744073709551616) (A : Option Addr) (c : Nat) (ls : List H32) (Bl : Option Addr) (cl : Nat) (left : List H32) (Br : Option Addr) (cr : Nat) (right : List H32) (hcl : left.length ≤ cl) (hcr : right.length ≤ cr) (h0 : (spanR z f ls left right).2 = 0) (w0 : World) (hR : Ro w0 [] (SlA A (hcs ls))) (hl : Ro w0 [] (SlA Bl (hcs left))) (hr : Ro w0 [] (SlA Br (hcs right))) (hT : Tabs 2 0 w0 []) :
    Calls Tryd.prog 75 #[hv root, .int .i64 z, .int .u64 (f : Int), .slice A ls.length c, .agg #[.slice Bl left.length cl, .slice Br right.length cr]] w0 (Post w0 [] fun v L => v = errv 58 (if (spanR z f ls left right).1 ≠ root then 5 else 0) ∧ L = []) := by
  refine Calls.of (L := []) (n := 30) (rs := [.tmp 10]) Tryd.func75 rfl rfl rfl (Nat.le_of_ble_eq_true rfl) (Sat.nil _) ?_
  refine TC.seq ?_
  refine TC.region ?_
  refine S.opS rfl rfl (OpV.box (v := hv root) rfl (fun b5 => ?_))
  refine S.opS rfl rfl (OpV.box (v := .agg #[.slice Bl left.length cl, .slice Br right.length cr]) rfl (fun b9 => ?_))
  refine S.q rfl rfl (Qt.assign (by conv => lhs; whnf)) ?_
  refine S.nil ?_
  refine TC.seq ?_
  refine TC.region ?_
  refine S.q rfl rfl (Qt.move (by conv => lhs; whnf)) ?_
  refine S.q rfl rfl (Qt.move (by conv => lhs; whnf)) ?_
  refine S.q rfl rfl (Qt.move (by conv => lhs; whnf)) ?_
  refine S.q rfl rfl (Qt.load rfl (Ld.all (Has.at 0 rfl) Tryd.row77 (Tryd.cells77))) ?_
  refine S.opS rfl rfl (OpV.con0 Tryd.ent73 rfl (fun w hw => (by have h := sroot_R z f hf64 A c ls Bl cl left Br cr right hcl hcr w (Rd.ro hR w hw) (Rd.ro hl w hw) (Rd.ro hr w hw) (hT.at hw); rw [h0] at h; exact h : Calls Tryd.prog 73 #[.int .i64 z, .int .u64 (f : Int), .slice A ls.length c, .agg #[.slice Bl left.length cl, .slice Br right.length cr]] w (Ret w (.tuple #[hv (spanR z f ls left right).1, .nilIface])))) ?_)
  refine S.q rfl rfl (Qt.move (by conv => lhs; whnf)) ?_
  refine S.q rfl rfl (Qt.extract rfl rfl) ?_
  refine S.q rfl rfl (Qt.extract rfl rfl) ?_
  refine S.opS rfl rfl (OpV.alloc Tryd.zero23 (fun b11 => ?_))
  refine S.opN rfl (OpV.storeV0 (v := hv (_)) rfl rfl (hv_size Tryd.cells23) (hv_all _) (hv_len _) ?_)
  refine S.q rfl rfl (Qt.assign (by conv => lhs; whnf)) ?_
  refine S.nil ?_
  refine TC.seq ?_
  refine TC.block ?_
  refine TC.seq ?_
  refine TC.region ?_
  refine S.q rfl rfl (Qt.move (by conv => lhs; whnf)) ?_
  refine S.q rfl rfl (Qt.nenil_nil Tryd.underlying27 rfl) ?_
  refine S.q rfl rfl (Qt.assign (by conv => lhs; whnf)) ?_
  refine S.nil ?_
  refine S.if_f rfl ?_
  refine TC.seq ?_
  refine TC.region ?_
  refine S.q rfl rfl (Qt.load rfl (Ld.hash1 (x := (spanR z f ls left right).1) (Has.at 0 rfl) Tryd.row23 Tryd.cells23)) ?_
  refine S.q rfl rfl (Qt.load rfl (Ld.hash1 (x := root) (Has.at 2 rfl) Tryd.row23 Tryd.cells23)) ?_
  refine S.dec rfl rfl (Qt.neH (a := (spanR z f ls left right).1) (b := root) Tryd.guard23 Tryd.underlying23 Tryd.underlying5 Tryd.cells5 rfl rfl) (fun h28 => ?_) (fun h28 => ?_)
  · refine S.q rfl rfl (Qt.assign (by conv => lhs; whnf)) ?_
    refine S.nil ?_
    refine S.if_t rfl ?_
    refine TC.seq ?_
    refine TC.region ?_
    refine S.q rfl rfl (Qt.makeInterface Tryd.underlying58 (fun _ h => nomatch h) (by conv => lhs; whnf)) ?_
    refine S.q rfl rfl (Qt.assign (by conv => lhs; whnf)) ?_
    refine S.nil ?_
    refine TC.ret ?_
    refine finQ.ret (RVs.tmp (by conv => lhs; whnf) RVs.nil) (Sub.nil _) ?_
    exact ⟨by rw [if_pos h28]; rfl, rfl⟩
  · refine S.q rfl rfl (Qt.assign (by conv => lhs; whnf)) ?_
    refine S.nil ?_
    refine S.if_f rfl ?_
    refine TC.skip ?_
    refine TC.seq ?_
    refine TC.region ?_
    refine S.q rfl rfl (Qt.assign (by conv => lhs; whnf)) ?_
    refine S.nil ?_
    refine TC.ret ?_
    refine finQ.ret (RVs.tmp (by conv => lhs; whnf) RVs.nil) (Sub.nil _) ?_
    exact ⟨by rw [if_neg h28]; rfl, rfl⟩
set_option maxHeartbeats 400000 in
theorem schk_walkE (root : H32) (z : Int) (f : Nat) (hf64 : f < 18446744073709551616) (A : Option Addr) (c : Nat) (ls : List H32) (Bl : Option Addr) (cl : Nat) (left : List H32) (Br : Option Addr) (cr : Nat) (right : List H32) (hcl : left.length ≤ cl) (hcr : right.length ≤ cr) (k : Nat) (h0 : (spanR z f ls left right).2 = k) (hk : k ≠ 0) (w0 : World) (hR : Ro w0 [] (SlA A (hcs ls))) (hl : Ro w0 [] (SlA Bl (hcs left))) (hr : Ro w0 [] (SlA Br (hcs right))) (hT : Tabs 2 0 w0 []) :
    Calls Tryd.prog 75 #[hv root, .int .i64 z, .int .u64 (f : Int), .slice A ls.length c, .agg #[.slice Bl left.length cl, .slice Br right.length cr]] w0 (Post w0 [] fun v L => v = .iface 58 (.int .i64 (k : Int)) ∧ L = []) := by
  refine Calls.of (L := []) (n := 30) (rs := [.tmp 10]) Tryd.func75 rfl rfl rfl (Nat.le_of_ble_eq_true rfl) (Sat.nil _) ?_
  refine TC.seq ?_
  refine TC.region ?_
  refine S.opS rfl rfl (OpV.box (v := hv root) rfl (fun b5 => ?_))
  refine S.opS rfl rfl (OpV.box (v := .agg #[.slice Bl left.length cl, .slice Br right.length cr]) rfl (fun b9 => ?_))
  refine S.q rfl rfl (Qt.assign (by conv => lhs; whnf)) ?_
  refine S.nil ?_
  refine TC.seq ?_
  refine TC.region ?_
  refine S.q rfl rfl (Qt.move (by conv => lhs; whnf)) ?_
  refine S.q rfl rfl (Qt.move (by conv => lhs; whnf)) ?_
  refine S.q rfl rfl (Qt.move (by conv => lhs; whnf)) ?_
  refine S.q rfl rfl (Qt.load rfl (Ld.all (Has.at 0 rfl) Tryd.row77 (Tryd.cells77))) ?_
  refine S.opS rfl rfl (OpV.con0 Tryd.ent73 rfl (fun w hw => (by have h := sroot_R z f hf64 A c ls Bl cl left Br cr right hcl hcr w (Rd.ro hR w hw) (Rd.ro hl w hw) (Rd.ro hr w hw) (hT.at hw); rw [h0, errv_pos hk] at h; exact h : Calls Tryd.prog 73 #[.int .i64 z, .int .u64 (f : Int), .slice A ls.length c, .agg #[.slice Bl left.length cl, .slice Br right.length cr]] w (Ret w (.tuple #[hv (spanR z f ls left right).1, .iface 58 (.int .i64 (k : Int))])))) ?_)
  refine S.q rfl rfl (Qt.move (by conv => lhs; whnf)) ?_
  refine S.q rfl rfl (Qt.extract rfl rfl) ?_
  refine S.q rfl rfl (Qt.extract rfl rfl) ?_
  refine S.opS rfl rfl (OpV.alloc Tryd.zero23 (fun b11 => ?_))
  refine S.opN rfl (OpV.storeV0 (v := hv (_)) rfl rfl (hv_size Tryd.cells23) (hv_all _) (hv_len _) ?_)
  refine S.q rfl rfl (Qt.assign (by conv => lhs; whnf)) ?_
  refine S.nil ?_
  refine TC.seq ?_
  refine TC.block ?_
  refine TC.seq ?_
  refine TC.region ?_
  refine S.q rfl rfl (Qt.move (by conv => lhs; whnf)) ?_
  refine S.q rfl rfl (Qt.nenil_iface Tryd.underlying27 rfl) ?_
  refine S.q rfl rfl (Qt.assign (by conv => lhs; whnf)) ?_
  refine S.nil ?_
  refine S.if_t rfl ?_
  refine TC.seq ?_
  refine TC.region ?_
  refine S.q rfl rfl (Qt.move (by conv => lhs; whnf)) ?_
  refine S.q rfl rfl (Qt.assign (by conv => lhs; whnf)) ?_
  refine S.nil ?_
  refine TC.ret ?_
  refine finQ.ret (RVs.tmp (by conv => lhs; whnf) RVs.nil) (Sub.nil _) ?_
  exact ⟨rfl, rfl⟩
theorem schk_R (root : H32) (z : Int) (f : Nat) (hf64 : f < 18446744073709551616) (A : Option Addr) (c : Nat) (ls : List H32) (Bl : Option Addr) (cl : Nat) (left : List H32) (Br : Option Addr) (cr : Nat) (right : List H32) (hcl : left.length ≤ cl) (hcr : right.length ≤ cr) (w0 : World) (hR : Ro w0 [] (SlA A (hcs ls))) (hl : Ro w0 [] (SlA Bl (hcs left))) (hr : Ro w0 [] (SlA Br (hcs right))) (hT : Tabs 2 0 w0 []) : Calls Tryd.prog 75 #[hv root, .int .i64 z, .int .u64 (f : Int), .slice A ls.length c, .agg #[.slice Bl left.length cl, .slice Br right.length cr]] w0 (Ret w0 (errv 58 (chkS root z f ls left right))) := by
  by_cases h : (spanR z f ls left right).2 = 0
  · rw [chkS, if_neg (fun k => k h)]
    exact Calls.ret (schk_walk0 root z f hf64 A c ls Bl cl left Br cr right hcl hcr h w0 hR hl hr hT)
  · rw [chkS, if_pos h, errv_pos h]
    exact Calls.ret (schk_walkE root z f hf64 A c ls Bl cl left Br cr right hcl hcr _ rfl h w0 hR hl hr hT)

set_option maxHeartbeats 800000 in
theorem node11_walk0 (h : Nat) (hh : h ≤ 32) (f : Nat) (B : Option Addr) (b : Nat) (ls : List H32) (P : Option Addr) (q : Nat) (P2 : Option Addr) (q2 : Nat) (Bl : Option Addr) (cl : Nat) (left : List H32) (Br : Option Addr) (cr : Nat) (right : List H32) (ctx : RowCtx f ls.length h ls left right) (h256 : ls.length ≤ 256) (p : Nat) (w0 : World) (ho : okAt h (0, p)) (hok : NodeOk ((sideL f h).zip left) ((sideR (f + ls.length - 1) h).zip right) f (f + ls.length - 1) (0) p) (hB : Ro w0 [] (SlA B (hcs ls))) (hP : Ro w0 [] (SlA P (sdL (sideL f h)))) (hP2 : Ro w0 [] (SlA P2 (sdL (sideR (f + ls.length - 1) h)))) (hl : Ro w0 [] (SlA Bl (hcs left))) (hr : Ro w0 [] (SlA Br (hcs right))) (hT : Tabs 3 1 w0 [])  :
    Calls Tryd.prog 116 #[.int .i64 ((0 : Nat) : Int), .int .u64 (p : Int), .int .u64 (f : Int), .slice B ls.length b, .slice P (sideL f h).length q, .slice P2 (sideR (f + ls.length - 1) h).length q2, .slice Bl left.length cl, .slice Br right.length cr] w0 (Post w0 [] fun v L => v = hv (refN ((sideL f h).zip left) ((sideR (f + ls.length - 1) h).zip right) ls f (0) (p)) ∧ L = []) := by
  refine Calls.of (L := []) (n := 89) (rs := [.cell 16 23]) Tryd.func116 rfl rfl rfl (Nat.le_of_ble_eq_true rfl) (Sat.nil _) ?_
  obtain ⟨hl32, hp32⟩ := okAt_lt hh ho
  have hsl := sideL_len f h
  have hsr := sideR_len (f + ls.length - 1) h
  have hcl := ctx.lenL
  have hcr := ctx.lenR
  refine TC.seq ?_
  refine TC.region ?_
  refine S.opS rfl rfl (OpV.alloc Tryd.zero23 (fun b16 => ?_))
  refine S.nil ?_
  refine TC.seq ?_
  refine TC.seq ?_
  refine TC.region ?_
  refine S.q rfl rfl (Qt.assign (by conv => lhs; whnf)) ?_
  refine S.nil ?_
  refine TC.block ?_
  refine TC.loop (γ := Nat) [19, 20, 21, 22, 25, 26, 27, 28, 29, 30, 31, 32, 33, 34, 35, 36, 23, 24, 17] (fun k => [(17, .int .i64 (k : Int))]) (fun _ => _) (fun k => k ≤ (sideL f h).length ∧ ∀ i, i < k → (sideL f h).getD i (0, 0) ≠ (0, p)) (fun k => (sideL f h).length - k) (0)
    ⟨Nat.zero_le _, fun i h => absurd h (Nat.not_lt_zero _)⟩ ⟨Out.refl _ _, (List.forall_mem_cons.2 ⟨rfl, (fun _ h => nomatch h)⟩)⟩ (Sub.refl _) ?_
  rintro k u ⟨hk, hq⟩
  refine TC.seq ?_
  refine TC.seq ?_
  refine TC.region ?_
  refine S.q rfl rfl (Qt.move (by conv => lhs; whnf)) ?_
  refine S.q rfl rfl (Qt.move (by conv => lhs; whnf)) ?_
  refine S.q rfl rfl (Qt.len_slice Tryd.underlying82 rfl) ?_
  refine S.dec rfl rfl (Qt.lt rfl rfl) (fun h22 => ?_) (fun h22 => ?_)
  · refine S.nil ?_
    refine S.if_t rfl ?_
    refine TC.skip ?_
    refine TC.seq ?_
    refine TC.block ?_
    refine TC.seq ?_
    refine TC.region ?_
    refine S.q rfl rfl (Qt.move (by conv => lhs; whnf)) ?_
    refine S.q rfl rfl (Qt.move (by conv => lhs; whnf)) ?_
    refine S.q rfl rfl (Qt.index Tryd.underlying82 Tryd.cells171 rfl rfl (by omega) (Has.ro hP) (by rw [sdL_len]; omega)) ?_
    refine S.q rfl rfl (Qt.load rfl (Ld.slr (vs := [.int .i64 (((sideL f h).getD k (0, 0)).1 : Int), .int .u64 (((sideL f h).getD k (0, 0)).2 : Int)]) (Has.ro hP) Tryd.row171 Tryd.cells171 (Nat.zero_lt_succ _) (sdL_row h22))) ?_
    refine S.q rfl rfl (Qt.move (by conv => lhs; whnf)) ?_
    refine S.q rfl rfl (Qt.move (by conv => lhs; whnf)) ?_
    refine S.q rfl rfl (Qt.as (Qt.buildS (vs := [.int .i64 ((0 : Nat) : Int), .int .u64 (p : Int)]) (pls := #[(0, 1), (1, 1)]) Tryd.underlying171 (fun w => by kernel_rfl) Tryd.zero171 rfl ⟨rfl, rfl, trivial⟩ rfl) (show _ = encAt (0, p) from rfl)) ?_
    refine S.dec rfl rfl (Qt.eqAt (a := (sideL f h).getD k (0, 0)) (b := (0, p)) (by kernel_rfl) Tryd.key171 rfl rfl) (fun h32 => ?_) (fun h32 => ?_)
    · refine S.nil ?_
      refine S.if_t rfl ?_
      refine TC.seq ?_
      refine TC.region ?_
      refine S.q rfl rfl (Qt.move (by conv => lhs; whnf)) ?_
      refine S.q rfl rfl (Qt.move (by conv => lhs; whnf)) ?_
      refine S.q rfl rfl (Qt.index Tryd.underlying44 Tryd.cells23 rfl rfl (by omega) (Has.ro hl) (by rw [hcs_length]; omega)) ?_
      refine S.q rfl rfl (Qt.load rfl (Ld.hashS (Has.ro hl) k Tryd.row23 Tryd.cells23 (by omega) rfl)) ?_
      refine S.opN rfl (OpV.storeV0 (v := hv (_)) rfl rfl (hv_size Tryd.cells23) (hv_all _) (hv_len _) ?_)
      refine S.nil ?_
      refine TC.ret ?_
      refine finQ.ret (RVs.cell rfl (Ld.all (Has.at 0 rfl) Tryd.row23 (hv_size Tryd.cells23)) RVs.nil) (Sub.nil _) ?_
      rw [refN_left (look_first (0, 0) h22 ctx.lenL hq h32)]
      exact ⟨rfl, rfl⟩
    · refine S.nil ?_
      refine S.if_f rfl ?_
      refine TC.skip ?_
      refine TC.region ?_
      refine S.q rfl rfl (Qt.move (by conv => lhs; whnf)) ?_
      refine S.q rfl rfl (Qt.add (b := 1) rfl rfl (by simp only [kmax]; omega)) ?_
      refine S.q rfl rfl (Qt.assign (by conv => lhs; whnf)) ?_
      refine S.nil ?_
      refine ⟨k + 1, ?_, ?_, ⟨?_, (List.forall_mem_cons.2 ⟨rfl, (fun _ h => nomatch h)⟩)⟩, Sub.refl _⟩
      · exact ⟨by show _ ≤ _; omega, fun i hi => (Nat.lt_or_ge i k).elim (hq i) (fun h => by (obtain rfl : i = k := by omega); exact h32)⟩
      · show _ < _; dsimp only; omega
      repeat (first | exact Out.refl _ _ | refine Out.put rfl ?_ | refine Out.puts rfl ?_ | refine Out.scr ?_ | refine Out.scr' rfl ?_)
  · refine S.nil ?_
    refine S.if_f rfl ?_
    refine TC.exit ?_
    refine TC.seq ?_
    refine TC.seq ?_
    refine TC.region ?_
    refine S.q rfl rfl (Qt.assign (by conv => lhs; whnf)) ?_
    refine S.nil ?_
    refine TC.block ?_
    have hnoL : Go.E.look (0, p) ((sideL f h).zip left) = none := look_missing (0, 0) (fun i hi => hq i (by omega))
    refine TC.loop (γ := Nat) [37, 38, 39, 40, 43, 44, 45, 46, 47, 48, 49, 50, 51, 52, 53, 54, 41, 42, 18] (fun j => [(18, .int .i64 (j : Int))]) (fun _ => _) (fun j => j ≤ (sideR (f + ls.length - 1) h).length ∧ ∀ i, i < j → (sideR (f + ls.length - 1) h).getD i (0, 0) ≠ (0, p)) (fun j => (sideR (f + ls.length - 1) h).length - j) (0)
      ⟨Nat.zero_le _, fun i h => absurd h (Nat.not_lt_zero _)⟩ ⟨Out.refl _ _, (List.forall_mem_cons.2 ⟨rfl, (fun _ h => nomatch h)⟩)⟩ (Sub.refl _) ?_
    rintro j u ⟨hj, hq2⟩
    refine TC.seq ?_
    refine TC.seq ?_
    refine TC.region ?_
    refine S.q rfl rfl (Qt.move (by conv => lhs; whnf)) ?_
    refine S.q rfl rfl (Qt.move (by conv => lhs; whnf)) ?_
    refine S.q rfl rfl (Qt.len_slice Tryd.underlying82 rfl) ?_
    refine S.dec rfl rfl (Qt.lt rfl rfl) (fun h40 => ?_) (fun h40 => ?_)
    · refine S.nil ?_
      refine S.if_t rfl ?_
      refine TC.skip ?_
      refine TC.seq ?_
      refine TC.block ?_
      refine TC.seq ?_
      refine TC.region ?_
      refine S.q rfl rfl (Qt.move (by conv => lhs; whnf)) ?_
      refine S.q rfl rfl (Qt.move (by conv => lhs; whnf)) ?_
      refine S.q rfl rfl (Qt.index Tryd.underlying82 Tryd.cells171 rfl rfl (by omega) (Has.ro hP2) (by rw [sdL_len]; omega)) ?_
      refine S.q rfl rfl (Qt.load rfl (Ld.slr (vs := [.int .i64 (((sideR (f + ls.length - 1) h).getD j (0, 0)).1 : Int), .int .u64 (((sideR (f + ls.length - 1) h).getD j (0, 0)).2 : Int)]) (Has.ro hP2) Tryd.row171 Tryd.cells171 (Nat.zero_lt_succ _) (sdL_row h40))) ?_
      refine S.q rfl rfl (Qt.move (by conv => lhs; whnf)) ?_
      refine S.q rfl rfl (Qt.move (by conv => lhs; whnf)) ?_
      refine S.q rfl rfl (Qt.as (Qt.buildS (vs := [.int .i64 ((0 : Nat) : Int), .int .u64 (p : Int)]) (pls := #[(0, 1), (1, 1)]) Tryd.underlying171 (fun w => by kernel_rfl) Tryd.zero171 rfl ⟨rfl, rfl, trivial⟩ rfl) (show _ = encAt (0, p) from rfl)) ?_
      refine S.dec rfl rfl (Qt.eqAt (a := (sideR (f + ls.length - 1) h).getD j (0, 0)) (b := (0, p)) (by kernel_rfl) Tryd.key171 rfl rfl) (fun h50 => ?_) (fun h50 => ?_)
      · refine S.nil ?_
        refine S.if_t rfl ?_
        refine TC.seq ?_
        refine TC.region ?_
        refine S.q rfl rfl (Qt.move (by conv => lhs; whnf)) ?_
        refine S.q rfl rfl (Qt.move (by conv => lhs; whnf)) ?_
        refine S.q rfl rfl (Qt.index Tryd.underlying44 Tryd.cells23 rfl rfl (by omega) (Has.ro hr) (by rw [hcs_length]; omega)) ?_
        refine S.q rfl rfl (Qt.load rfl (Ld.hashS (Has.ro hr) j Tryd.row23 Tryd.cells23 (by omega) rfl)) ?_
        refine S.opN rfl (OpV.storeV0 (v := hv (_)) rfl rfl (hv_size Tryd.cells23) (hv_all _) (hv_len _) ?_)
        refine S.nil ?_
        refine TC.ret ?_
        refine finQ.ret (RVs.cell rfl (Ld.all (Has.at 0 rfl) Tryd.row23 (hv_size Tryd.cells23)) RVs.nil) (Sub.nil _) ?_
        rw [refN_right hnoL (look_first (0, 0) h40 ctx.lenR hq2 h50)]
        exact ⟨rfl, rfl⟩
      · refine S.nil ?_
        refine S.if_f rfl ?_
        refine TC.skip ?_
        refine TC.region ?_
        refine S.q rfl rfl (Qt.move (by conv => lhs; whnf)) ?_
        refine S.q rfl rfl (Qt.add (b := 1) rfl rfl (by simp only [kmax]; omega)) ?_
        refine S.q rfl rfl (Qt.assign (by conv => lhs; whnf)) ?_
        refine S.nil ?_
        refine ⟨j + 1, ?_, ?_, ⟨?_, (List.forall_mem_cons.2 ⟨rfl, (fun _ h => nomatch h)⟩)⟩, Sub.refl _⟩
        · exact ⟨by show _ ≤ _; omega, fun i hi => (Nat.lt_or_ge i j).elim (hq2 i) (fun h => by (obtain rfl : i = j := by omega); exact h50)⟩
        · show _ < _; dsimp only; omega
        repeat (first | exact Out.refl _ _ | refine Out.put rfl ?_ | refine Out.puts rfl ?_ | refine Out.scr ?_ | refine Out.scr' rfl ?_)
    · refine S.nil ?_
      refine S.if_f rfl ?_
      refine TC.exit ?_
      refine TC.seq ?_
      refine TC.seq ?_
      refine TC.region ?_
      have hnoR : Go.E.look (0, p) ((sideR (f + ls.length - 1) h).zip right) = none := look_missing (0, 0) (fun i hi => hq2 i (by omega))
      obtain ⟨hf1, hf2⟩ := hok.leaf hnoL hnoR
      have hn1 := ctx.n1
      refine S.q rfl rfl (Qt.move (by conv => lhs; whnf)) ?_
      refine S.q rfl rfl (Qt.dT (Qt.eq (b := 0) rfl rfl) (rfl)) ?_
      refine S.nil ?_
      refine S.if_t rfl ?_
      refine TC.seq ?_
      refine TC.region ?_
      refine S.q rfl rfl (Qt.move (by conv => lhs; whnf)) ?_
      refine S.q rfl rfl (Qt.move (by conv => lhs; whnf)) ?_
      refine S.q rfl rfl (Qt.move (by conv => lhs; whnf)) ?_
      refine S.q rfl rfl (Qt.sub rfl rfl (by omega) (by simp only [kmax]; omega)) ?_
      refine S.q rfl rfl (Qt.convert Tryd.underlying24 Tryd.underlying3 rfl (by simp only [kmax]; omega)) ?_
      refine S.q rfl rfl (Qt.index Tryd.underlying44 Tryd.cells23 rfl rfl (by omega) (Has.ro hB) (by rw [hcs_length]; omega)) ?_
      refine S.q rfl rfl (Qt.load rfl (Ld.hashS (Has.ro hB) (p - f) Tryd.row23 Tryd.cells23 (by omega) rfl)) ?_
      refine S.opN rfl (OpV.storeV0 (v := hv (_)) rfl rfl (hv_size Tryd.cells23) (hv_all _) (hv_len _) ?_)
      refine S.nil ?_
      refine TC.ret ?_
      refine finQ.ret (RVs.cell rfl (Ld.all (Has.at 0 rfl) Tryd.row23 (hv_size Tryd.cells23)) RVs.nil) (Sub.nil _) ?_
      rw [refN_leaf hnoL hnoR]
      exact ⟨rfl, rfl⟩
set_option maxHeartbeats 1600000 in
theorem node11_walkS (h : Nat) (hh : h ≤ 32) (f : Nat) (B : Option Addr) (b : Nat) (ls : List H32) (P : Option Addr) (q : Nat) (P2 : Option Addr) (q2 : Nat) (Bl : Option Addr) (cl : Nat) (left : List H32) (Br : Option Addr) (cr : Nat) (right : List H32) (ctx : RowCtx f ls.length h ls left right) (h256 : ls.length ≤ 256) (l p : Nat) (w0 : World) (ho : okAt h (l + 1, p)) (hok : NodeOk ((sideL f h).zip left) ((sideR (f + ls.length - 1) h).zip right) f (f + ls.length - 1) (l + 1) p) (hB : Ro w0 [] (SlA B (hcs ls))) (hP : Ro w0 [] (SlA P (sdL (sideL f h)))) (hP2 : Ro w0 [] (SlA P2 (sdL (sideR (f + ls.length - 1) h)))) (hl : Ro w0 [] (SlA Bl (hcs left))) (hr : Ro w0 [] (SlA Br (hcs right))) (hT : Tabs 3 1 w0 []) (hlh : l + 1 ≤ h) (hrec : RNodeC h f B b ls P q P2 q2 Bl cl left Br cr right l) :
    Calls Tryd.prog 116 #[.int .i64 ((l + 1 : Nat) : Int), .int .u64 (p : Int), .int .u64 (f : Int), .slice B ls.length b, .slice P (sideL f h).length q, .slice P2 (sideR (f + ls.length - 1) h).length q2, .slice Bl left.length cl, .slice Br right.length cr] w0 (Post w0 [] fun v L => v = hv (refN ((sideL f h).zip left) ((sideR (f + ls.length - 1) h).zip right) ls f (l + 1) (p)) ∧ L = []) := by
  refine Calls.of (L := []) (n := 89) (rs := [.cell 16 23]) Tryd.func116 rfl rfl rfl (Nat.le_of_ble_eq_true rfl) (Sat.nil _) ?_
  obtain ⟨hl32, hp32⟩ := okAt_lt hh ho
  have hsl := sideL_len f h
  have hsr := sideR_len (f + ls.length - 1) h
  have hcl := ctx.lenL
  have hcr := ctx.lenR
  refine TC.seq ?_
  refine TC.region ?_
  refine S.opS rfl rfl (OpV.alloc Tryd.zero23 (fun b16 => ?_))
  refine S.nil ?_
  refine TC.seq ?_
  refine TC.seq ?_
  refine TC.region ?_
  refine S.q rfl rfl (Qt.assign (by conv => lhs; whnf)) ?_
  refine S.nil ?_
  refine TC.block ?_
  refine TC.loop (γ := Nat) [19, 20, 21, 22, 25, 26, 27, 28, 29, 30, 31, 32, 33, 34, 35, 36, 23, 24, 17] (fun k => [(17, .int .i64 (k : Int))]) (fun _ => _) (fun k => k ≤ (sideL f h).length ∧ ∀ i, i < k → (sideL f h).getD i (0, 0) ≠ (l + 1, p)) (fun k => (sideL f h).length - k) (0)
    ⟨Nat.zero_le _, fun i h => absurd h (Nat.not_lt_zero _)⟩ ⟨Out.refl _ _, (List.forall_mem_cons.2 ⟨rfl, (fun _ h => nomatch h)⟩)⟩ (Sub.refl _) ?_
  rintro k u ⟨hk, hq⟩
  refine TC.seq ?_
  refine TC.seq ?_
  refine TC.region ?_
  refine S.q rfl rfl (Qt.move (by conv => lhs; whnf)) ?_
  refine S.q rfl rfl (Qt.move (by conv => lhs; whnf)) ?_
  refine S.q rfl rfl (Qt.len_slice Tryd.underlying82 rfl) ?_
  refine S.dec rfl rfl (Qt.lt rfl rfl) (fun h22 => ?_) (fun h22 => ?_)
  · refine S.nil ?_
    refine S.if_t rfl ?_
    refine TC.skip ?_
    refine TC.seq ?_
    refine TC.block ?_
    refine TC.seq ?_
    refine TC.region ?_
    refine S.q rfl rfl (Qt.move (by conv => lhs; whnf)) ?_
    refine S.q rfl rfl (Qt.move (by conv => lhs; whnf)) ?_
    refine S.q rfl rfl (Qt.index Tryd.underlying82 Tryd.cells171 rfl rfl (by omega) (Has.ro hP) (by rw [sdL_len]; omega)) ?_
    refine S.q rfl rfl (Qt.load rfl (Ld.slr (vs := [.int .i64 (((sideL f h).getD k (0, 0)).1 : Int), .int .u64 (((sideL f h).getD k (0, 0)).2 : Int)]) (Has.ro hP) Tryd.row171 Tryd.cells171 (Nat.zero_lt_succ _) (sdL_row h22))) ?_
    refine S.q rfl rfl (Qt.move (by conv => lhs; whnf)) ?_
    refine S.q rfl rfl (Qt.move (by conv => lhs; whnf)) ?_
    refine S.q rfl rfl (Qt.as (Qt.buildS (vs := [.int .i64 ((l + 1 : Nat) : Int), .int .u64 (p : Int)]) (pls := #[(0, 1), (1, 1)]) Tryd.underlying171 (fun w => by kernel_rfl) Tryd.zero171 rfl ⟨rfl, rfl, trivial⟩ rfl) (show _ = encAt (l + 1, p) from rfl)) ?_
    refine S.dec rfl rfl (Qt.eqAt (a := (sideL f h).getD k (0, 0)) (b := (l + 1, p)) (by kernel_rfl) Tryd.key171 rfl rfl) (fun h32 => ?_) (fun h32 => ?_)
    · refine S.nil ?_
      refine S.if_t rfl ?_
      refine TC.seq ?_
      refine TC.region ?_
      refine S.q rfl rfl (Qt.move (by conv => lhs; whnf)) ?_
      refine S.q rfl rfl (Qt.move (by conv => lhs; whnf)) ?_
      refine S.q rfl rfl (Qt.index Tryd.underlying44 Tryd.cells23 rfl rfl (by omega) (Has.ro hl) (by rw [hcs_length]; omega)) ?_
      refine S.q rfl rfl (Qt.load rfl (Ld.hashS (Has.ro hl) k Tryd.row23 Tryd.cells23 (by omega) rfl)) ?_
      refine S.opN rfl (OpV.storeV0 (v := hv (_)) rfl rfl (hv_size Tryd.cells23) (hv_all _) (hv_len _) ?_)
      refine S.nil ?_
      refine TC.ret ?_
      refine finQ.ret (RVs.cell rfl (Ld.all (Has.at 0 rfl) Tryd.row23 (hv_size Tryd.cells23)) RVs.nil) (Sub.nil _) ?_
      rw [refN_left (look_first (0, 0) h22 ctx.lenL hq h32)]
      exact ⟨rfl, rfl⟩
    · refine S.nil ?_
      refine S.if_f rfl ?_
      refine TC.skip ?_
      refine TC.region ?_
      refine S.q rfl rfl (Qt.move (by conv => lhs; whnf)) ?_
      refine S.q rfl rfl (Qt.add (b := 1) rfl rfl (by simp only [kmax]; omega)) ?_
      refine S.q rfl rfl (Qt.assign (by conv => lhs; whnf)) ?_
      refine S.nil ?_
      refine ⟨k + 1, ?_, ?_, ⟨?_, (List.forall_mem_cons.2 ⟨rfl, (fun _ h => nomatch h)⟩)⟩, Sub.refl _⟩
      · exact ⟨by show _ ≤ _; omega, fun i hi => (Nat.lt_or_ge i k).elim (hq i) (fun h => by (obtain rfl : i = k := by omega); exact h32)⟩
      · show _ < _; dsimp only; omega
      repeat (first | exact Out.refl _ _ | refine Out.put rfl ?_ | refine Out.puts rfl ?_ | refine Out.scr ?_ | refine Out.scr' rfl ?_)
  · refine S.nil ?_
    refine S.if_f rfl ?_
    refine TC.exit ?_
    refine TC.seq ?_
    refine TC.seq ?_
    refine TC.region ?_
    refine S.q rfl rfl (Qt.assign (by conv => lhs; whnf)) ?_
    refine S.nil ?_
    refine TC.block ?_
    have hnoL : Go.E.look (l + 1, p) ((sideL f h).zip left) = none := look_missing (0, 0) (fun i hi => hq i (by omega))
    refine TC.loop (γ := Nat) [37, 38, 39, 40, 43, 44, 45, 46, 47, 48, 49, 50, 51, 52, 53, 54, 41, 42, 18] (fun j => [(18, .int .i64 (j : Int))]) (fun _ => _) (fun j => j ≤ (sideR (f + ls.length - 1) h).length ∧ ∀ i, i < j → (sideR (f + ls.length - 1) h).getD i (0, 0) ≠ (l + 1, p)) (fun j => (sideR (f + ls.length - 1) h).length - j) (0)
      ⟨Nat.zero_le _, fun i h => absurd h (Nat.not_lt_zero _)⟩ ⟨Out.refl _ _, (List.forall_mem_cons.2 ⟨rfl, (fun _ h => nomatch h)⟩)⟩ (Sub.refl _) ?_
    rintro j u ⟨hj, hq2⟩
    refine TC.seq ?_
    refine TC.seq ?_
    refine TC.region ?_
    refine S.q rfl rfl (Qt.move (by conv => lhs; whnf)) ?_
    refine S.q rfl rfl (Qt.move (by conv => lhs; whnf)) ?_
    refine S.q rfl rfl (Qt.len_slice Tryd.underlying82 rfl) ?_
    refine S.dec rfl rfl (Qt.lt rfl rfl) (fun h40 => ?_) (fun h40 => ?_)
    · refine S.nil ?_
      refine S.if_t rfl ?_
      refine TC.skip ?_
      refine TC.seq ?_
      refine TC.block ?_
      refine TC.seq ?_
      refine TC.region ?_
      refine S.q rfl rfl (Qt.move (by conv => lhs; whnf)) ?_
      refine S.q rfl rfl (Qt.move (by conv => lhs; whnf)) ?_
      refine S.q rfl rfl (Qt.index Tryd.underlying82 Tryd.cells171 rfl rfl (by omega) (Has.ro hP2) (by rw [sdL_len]; omega)) ?_
      refine S.q rfl rfl (Qt.load rfl (Ld.slr (vs := [.int .i64 (((sideR (f + ls.length - 1) h).getD j (0, 0)).1 : Int), .int .u64 (((sideR (f + ls.length - 1) h).getD j (0, 0)).2 : Int)]) (Has.ro hP2) Tryd.row171 Tryd.cells171 (Nat.zero_lt_succ _) (sdL_row h40))) ?_
      refine S.q rfl rfl (Qt.move (by conv => lhs; whnf)) ?_
      refine S.q rfl rfl (Qt.move (by conv => lhs; whnf)) ?_
      refine S.q rfl rfl (Qt.as (Qt.buildS (vs := [.int .i64 ((l + 1 : Nat) : Int), .int .u64 (p : Int)]) (pls := #[(0, 1), (1, 1)]) Tryd.underlying171 (fun w => by kernel_rfl) Tryd.zero171 rfl ⟨rfl, rfl, trivial⟩ rfl) (show _ = encAt (l + 1, p) from rfl)) ?_
      refine S.dec rfl rfl (Qt.eqAt (a := (sideR (f + ls.length - 1) h).getD j (0, 0)) (b := (l + 1, p)) (by kernel_rfl) Tryd.key171 rfl rfl) (fun h50 => ?_) (fun h50 => ?_)
      · refine S.nil ?_
        refine S.if_t rfl ?_
        refine TC.seq ?_
        refine TC.region ?_
        refine S.q rfl rfl (Qt.move (by conv => lhs; whnf)) ?_
        refine S.q rfl rfl (Qt.move (by conv => lhs; whnf)) ?_
        refine S.q rfl rfl (Qt.index Tryd.underlying44 Tryd.cells23 rfl rfl (by omega) (Has.ro hr) (by rw [hcs_length]; omega)) ?_
        refine S.q rfl rfl (Qt.load rfl (Ld.hashS (Has.ro hr) j Tryd.row23 Tryd.cells23 (by omega) rfl)) ?_
        refine S.opN rfl (OpV.storeV0 (v := hv (_)) rfl rfl (hv_size Tryd.cells23) (hv_all _) (hv_len _) ?_)
        refine S.nil ?_
        refine TC.ret ?_
        refine finQ.ret (RVs.cell rfl (Ld.all (Has.at 0 rfl) Tryd.row23 (hv_size Tryd.cells23)) RVs.nil) (Sub.nil _) ?_
        rw [refN_right hnoL (look_first (0, 0) h40 ctx.lenR hq2 h50)]
        exact ⟨rfl, rfl⟩
      · refine S.nil ?_
        refine S.if_f rfl ?_
        refine TC.skip ?_
        refine TC.region ?_
        refine S.q rfl rfl (Qt.move (by conv => lhs; whnf)) ?_
        refine S.q rfl rfl (Qt.add (b := 1) rfl rfl (by simp only [kmax]; omega)) ?_
        refine S.q rfl rfl (Qt.assign (by conv => lhs; whnf)) ?_
        refine S.nil ?_
        refine ⟨j + 1, ?_, ?_, ⟨?_, (List.forall_mem_cons.2 ⟨rfl, (fun _ h => nomatch h)⟩)⟩, Sub.refl _⟩
        · exact ⟨by show _ ≤ _; omega, fun i hi => (Nat.lt_or_ge i j).elim (hq2 i) (fun h => by (obtain rfl : i = j := by omega); exact h50)⟩
        · show _ < _; dsimp only; omega
        repeat (first | exact Out.refl _ _ | refine Out.put rfl ?_ | refine Out.puts rfl ?_ | refine Out.scr ?_ | refine Out.scr' rfl ?_)
    · refine S.nil ?_
      refine S.if_f rfl ?_
      refine TC.exit ?_
      refine TC.seq ?_
      refine TC.seq ?_
      refine TC.region ?_
      have hnoR : Go.E.look (l + 1, p) ((sideR (f + ls.length - 1) h).zip right) = none := look_missing (0, 0) (fun i hi => hq2 i (by omega))
      obtain ⟨okl, okr⟩ := okAt_kids ho
      obtain ⟨kl, kr⟩ := NodeOk.kids ctx hlh hok hnoL hnoR
      refine S.q rfl rfl (Qt.move (by conv => lhs; whnf)) ?_
      refine S.q rfl rfl (Qt.dF (Qt.eq (b := 0) rfl rfl) (by omega)) ?_
      refine S.nil ?_
      refine S.if_f rfl ?_
      refine TC.skip ?_
      refine TC.seq ?_
      refine TC.region ?_
      refine S.q rfl rfl (Qt.move (by conv => lhs; whnf)) ?_
      refine S.q rfl rfl (Qt.move (by conv => lhs; whnf)) ?_
      refine S.q rfl rfl (Qt.as (Qt.sub (a := l + 1) (b := 1) rfl rfl (by omega) (by simp only [kmax]; omega)) (by rw [Nat.add_sub_cancel])) ?_
      refine S.q rfl rfl (Qt.move (by conv => lhs; whnf)) ?_
      refine S.q rfl rfl (Qt.mul (a := 2) rfl rfl (by simp only [kmax]; omega)) ?_
      refine S.q rfl rfl (Qt.move (by conv => lhs; whnf)) ?_
      refine S.q rfl rfl (Qt.move (by conv => lhs; whnf)) ?_
      refine S.q rfl rfl (Qt.move (by conv => lhs; whnf)) ?_
      refine S.q rfl rfl (Qt.move (by conv => lhs; whnf)) ?_
      refine S.q rfl rfl (Qt.move (by conv => lhs; whnf)) ?_
      refine S.q rfl rfl (Qt.move (by conv => lhs; whnf)) ?_
      refine S.opS rfl rfl (OpV.con0 Tryd.ent116 rfl (fun w hw => hrec (2 * p) w okl kl (Rd.ro hB w hw) (Rd.ro hP w hw) (Rd.ro hP2 w hw) (Rd.ro hl w hw) (Rd.ro hr w hw) (hT.at hw)) ?_)
      refine S.q rfl rfl (Qt.move (by conv => lhs; whnf)) ?_
      refine S.q rfl rfl (Qt.as (Qt.sub (a := l + 1) (b := 1) rfl rfl (by omega) (by simp only [kmax]; omega)) (by rw [Nat.add_sub_cancel])) ?_
      refine S.q rfl rfl (Qt.move (by conv => lhs; whnf)) ?_
      refine S.q rfl rfl (Qt.mul (a := 2) rfl rfl (by simp only [kmax]; omega)) ?_
      refine S.q rfl rfl (Qt.add (b := 1) rfl rfl (by simp only [kmax]; omega)) ?_
      refine S.q rfl rfl (Qt.move (by conv => lhs; whnf)) ?_
      refine S.q rfl rfl (Qt.move (by conv => lhs; whnf)) ?_
      refine S.q rfl rfl (Qt.move (by conv => lhs; whnf)) ?_
      refine S.q rfl rfl (Qt.move (by conv => lhs; whnf)) ?_
      refine S.q rfl rfl (Qt.move (by conv => lhs; whnf)) ?_
      refine S.q rfl rfl (Qt.move (by conv => lhs; whnf)) ?_
      refine S.opS rfl rfl (OpV.con0 Tryd.ent116 rfl (fun w hw => hrec (2 * p + 1) w okr kr (Rd.ro hB w hw) (Rd.ro hP w hw) (Rd.ro hP2 w hw) (Rd.ro hl w hw) (Rd.ro hr w hw) (hT.at hw)) ?_)
      refine S.opS rfl rfl (OpV.con0 Tryd.ent91 rfl (fun w hw => rjoin_R (l + 1) (by omega) (refN ((sideL f h).zip left) ((sideR (f + ls.length - 1) h).zip right) ls f (l) (2 * p)) (refN ((sideL f h).zip left) ((sideR (f + ls.length - 1) h).zip right) ls f (l) (2 * p + 1)) w (hT.at hw)) ?_)
      refine S.opN rfl (OpV.storeV0 (v := hv (_)) rfl rfl (hv_size Tryd.cells23) (hv_all _) (hv_len _) ?_)
      refine S.nil ?_
      refine TC.ret ?_
      refine finQ.ret (RVs.cell rfl (Ld.all (Has.at 0 rfl) Tryd.row23 (hv_size Tryd.cells23)) RVs.nil) (Sub.nil _) ?_
      rw [refN_join hnoL hnoR]
      exact ⟨rfl, rfl⟩
theorem rnode11_C (h : Nat) (hh : h ≤ 32) (f : Nat) (B : Option Addr) (b : Nat) (ls : List H32) (P : Option Addr) (q : Nat) (P2 : Option Addr) (q2 : Nat) (Bl : Option Addr) (cl : Nat) (left : List H32) (Br : Option Addr) (cr : Nat) (right : List H32) (ctx : RowCtx f ls.length h ls left right) (h256 : ls.length ≤ 256) : ∀ l, l ≤ h → RNodeC h f B b ls P q P2 q2 Bl cl left Br cr right l
  | 0, hl0 => fun p w0 ho hok hB hP hP2 hl hr hT => Calls.ret (node11_walk0 h hh f B b ls P q P2 q2 Bl cl left Br cr right ctx h256 p w0 ho hok hB hP hP2 hl hr hT)
  | l + 1, hl0 => fun p w0 ho hok hB hP hP2 hl hr hT => Calls.ret (node11_walkS h hh f B b ls P q P2 q2 Bl cl left Br cr right ctx h256 l p w0 ho hok hB hP hP2 hl hr hT hl0 (rnode11_C h hh f B b ls P q P2 q2 Bl cl left Br cr right ctx h256 l (by omega)))

set_option maxHeartbeats 400000 in
theorem rroot11_walk1 (z : Int) (f : Nat) (A : Option Addr) (c : Nat) (ls : List H32) (Bl : Option Addr) (cl : Nat) (left : List H32) (Br : Option Addr) (cr : Nat) (right : List H32) (hf : ∀ w, Calls Tryd.prog 46 #[.int .i64 z, .int .u64 (f : Int), .int .i64 (ls.length : Int)] w (Ret w (.bool false))) (w0 : World) :
    Calls Tryd.prog 74 #[.int .i64 z, .int .u64 (f : Int), .slice A ls.length c, .slice Bl left.length cl, .slice Br right.length cr] w0 (Post w0 [] fun v L => v = .tuple #[hv zeroH, .int .i64 1] ∧ L = []) := by
  refine Calls.of (L := []) (n := 50) (rs := [.cell 10 23, .tmp 11]) Tryd.func74 rfl rfl rfl (Nat.le_of_ble_eq_true rfl) (Sat.nil _) ?_
  refine TC.seq ?_
  refine TC.region ?_
  refine S.opS rfl rfl (OpV.alloc Tryd.zero23 (fun b10 => ?_))
  refine S.q rfl rfl (Qt.assign (by conv => lhs; whnf)) ?_
  refine S.nil ?_
  refine TC.seq ?_
  refine TC.seq ?_
  refine TC.region ?_
  refine S.q rfl rfl (Qt.move (by conv => lhs; whnf)) ?_
  refine S.q rfl rfl (Qt.move (by conv => lhs; whnf)) ?_
  refine S.q rfl rfl (Qt.move (by conv => lhs; whnf)) ?_
  refine S.q rfl rfl (Qt.len_slice Tryd.underlying44 rfl) ?_
  refine S.opS rfl rfl (OpV.con0 Tryd.ent46 rfl (fun w hw => hf w) ?_)
  refine S.q rfl rfl (Qt.not_f rfl) ?_
  refine S.nil ?_
  refine S.if_t rfl ?_
  refine TC.seq ?_
  refine TC.region ?_
  refine S.q rfl rfl (Qt.build (v := hv zeroH) rfl (fun _ => by kernel_rfl)) ?_
  refine S.opN rfl (OpV.storeV0 (v := hv (zeroH)) rfl rfl (hv_size Tryd.cells23) (hv_all _) (hv_len _) ?_)
  refine S.q rfl rfl (Qt.assign (by conv => lhs; whnf)) ?_
  refine S.nil ?_
  refine TC.ret ?_
  refine finQ.ret (RVs.cell rfl (Ld.all (Has.at 0 rfl) Tryd.row23 (hv_size Tryd.cells23)) (RVs.tmp (by conv => lhs; whnf) RVs.nil)) (Sub.nil _) ?_
  exact ⟨rfl, rfl⟩
set_option maxHeartbeats 400000 in
theorem rroot11_walk5 (h f : Nat) (hh : h ≤ 32) (hf64 : f < 18446744073709551616) (A : Option Addr) (c : Nat) (ls : List H32) (Bl : Option Addr) (cl : Nat) (left : List H32) (Br : Option Addr) (cr : Nat) (right : List H32) (h1 : 1 ≤ ls.length) (h2 : ls.length ≤ 256) (hf : f + ls.length ≤ 2 ^ h) (h3 : ¬ ((sideL f h).length = left.length ∧ (sideR (f + ls.length - 1) h).length = right.length)) (w0 : World) :
    Calls Tryd.prog 74 #[.int .i64 (h : Int), .int .u64 (f : Int), .slice A ls.length c, .slice Bl left.length cl, .slice Br right.length cr] w0 (Post w0 [] fun v L => v = .tuple #[hv zeroH, .int .i64 5] ∧ L = []) := by
  refine Calls.of (L := []) (n := 50) (rs := [.cell 10 23, .tmp 11]) Tryd.func74 rfl rfl rfl (Nat.le_of_ble_eq_true rfl) (Sat.nil _) ?_
  refine TC.seq ?_
  refine TC.region ?_
  refine S.opS rfl rfl (OpV.alloc Tryd.zero23 (fun b10 => ?_))
  refine S.q rfl rfl (Qt.assign (by conv => lhs; whnf)) ?_
  refine S.nil ?_
  refine TC.seq ?_
  refine TC.seq ?_
  refine TC.region ?_
  refine S.q rfl rfl (Qt.move (by conv => lhs; whnf)) ?_
  refine S.q rfl rfl (Qt.move (by conv => lhs; whnf)) ?_
  refine S.q rfl rfl (Qt.move (by conv => lhs; whnf)) ?_
  refine S.q rfl rfl (Qt.len_slice Tryd.underlying44 rfl) ?_
  refine S.opS rfl rfl (OpV.con0 Tryd.ent46 rfl (fun w hw => (by have k := rright_R h f ls.length hh hf64 h1 h2 w; rw [decide_eq_true hf] at k; exact k : Calls Tryd.prog 46 #[.int .i64 (h : Int), .int .u64 (f : Int), .int .i64 (ls.length : Int)] w (Ret w (.bool true)))) ?_)
  refine S.q rfl rfl (Qt.not_t rfl) ?_
  refine S.nil ?_
  refine S.if_f rfl ?_
  refine TC.skip ?_
  refine TC.seq ?_
  refine TC.region ?_
  refine S.q rfl rfl (Qt.move (by conv => lhs; whnf)) ?_
  refine S.q rfl rfl (Qt.move (by conv => lhs; whnf)) ?_
  refine S.q rfl rfl (Qt.move (by conv => lhs; whnf)) ?_
  refine S.q rfl rfl (Qt.len_slice Tryd.underlying44 rfl) ?_
  refine S.opS rfl rfl (OpV.con (Pre := []) (R := _) Tryd.ent50 rfl (List.Perm.refl _) (fun w hw => rsides_walk h f ls.length hh hf h1 h2 w) ?_)
  rintro v L' ⟨A1, e1, A2, e2, rfl, rfl⟩
  refine S.q rfl rfl (Qt.move (by conv => lhs; whnf)) ?_
  refine S.q rfl rfl (Qt.extract rfl rfl) ?_
  refine S.q rfl rfl (Qt.extract rfl rfl) ?_
  refine S.q rfl rfl (Qt.assign (by conv => lhs; whnf)) ?_
  refine S.q rfl rfl (Qt.assign (by conv => lhs; whnf)) ?_
  refine S.nil ?_
  refine TC.seq ?_
  refine TC.seq ?_
  refine TC.region ?_
  refine S.q rfl rfl (Qt.move (by conv => lhs; whnf)) ?_
  refine S.q rfl rfl (Qt.len_slice Tryd.underlying82 rfl) ?_
  refine S.q rfl rfl (Qt.move (by conv => lhs; whnf)) ?_
  refine S.q rfl rfl (Qt.len_slice Tryd.underlying44 rfl) ?_
  refine S.dec rfl rfl (Qt.ne rfl rfl) (fun h33 => ?_) (fun h33 => ?_)
  · refine S.q rfl rfl (Qt.move (by conv => lhs; whnf)) ?_
    refine S.pass rfl rfl ?_
    refine S.pass rfl rfl ?_
    refine S.pass rfl rfl ?_
    refine S.pass rfl rfl ?_
    refine S.pass rfl rfl ?_
    refine S.q rfl rfl (Qt.pick_t rfl (by conv => lhs; whnf)) ?_
    refine S.nil ?_
    refine S.if_t rfl ?_
    refine TC.seq ?_
    refine TC.region ?_
    refine S.q rfl rfl (Qt.build (v := hv zeroH) rfl (fun _ => by kernel_rfl)) ?_
    refine S.opN rfl (OpV.storeV2 (v := hv (zeroH)) rfl rfl (hv_size Tryd.cells23) (hv_all _) (hv_len _) ?_)
    refine S.q rfl rfl (Qt.assign (by conv => lhs; whnf)) ?_
    refine S.nil ?_
    refine TC.ret ?_
    refine finQ.ret (RVs.cell rfl (Ld.all (Has.at 2 rfl) Tryd.row23 (hv_size Tryd.cells23)) (RVs.tmp (by conv => lhs; whnf) RVs.nil)) (Sub.nil _) ?_
    exact ⟨rfl, rfl⟩
  · refine S.q rfl rfl (Qt.move (by conv => lhs; whnf)) ?_
    refine S.qg rfl rfl rfl (Qt.move (by conv => lhs; whnf)) ?_
    refine S.qg rfl rfl rfl (Qt.len_slice Tryd.underlying82 rfl) ?_
    refine S.qg rfl rfl rfl (Qt.move (by conv => lhs; whnf)) ?_
    refine S.qg rfl rfl rfl (Qt.len_slice Tryd.underlying44 rfl) ?_
    refine S.qg rfl rfl rfl (Qt.dT (Qt.ne rfl rfl) (fun e => h3 ⟨Decidable.not_not.1 h33, e⟩)) ?_
    refine S.q rfl rfl (Qt.pick_f rfl (by conv => lhs; whnf)) ?_
    refine S.nil ?_
    refine S.if_t rfl ?_
    refine TC.seq ?_
    refine TC.region ?_
    refine S.q rfl rfl (Qt.build (v := hv zeroH) rfl (fun _ => by kernel_rfl)) ?_
    refine S.opN rfl (OpV.storeV2 (v := hv (zeroH)) rfl rfl (hv_size Tryd.cells23) (hv_all _) (hv_len _) ?_)
    refine S.q rfl rfl (Qt.assign (by conv => lhs; whnf)) ?_
    refine S.nil ?_
    refine TC.ret ?_
    refine finQ.ret (RVs.cell rfl (Ld.all (Has.at 2 rfl) Tryd.row23 (hv_size Tryd.cells23)) (RVs.tmp (by conv => lhs; whnf) RVs.nil)) (Sub.nil _) ?_
    exact ⟨rfl, rfl⟩
set_option maxHeartbeats 400000 in
theorem rroot11_walk0 (h f : Nat) (hh : h ≤ 32) (hf64 : f < 18446744073709551616) (A : Option Addr) (c : Nat) (ls : List H32) (Bl : Option Addr) (cl : Nat) (left : List H32) (Br : Option Addr) (cr : Nat) (right : List H32) (h1 : 1 ≤ ls.length) (h2 : ls.length ≤ 256) (hf : f + ls.length ≤ 2 ^ h) (hLl : (sideL f h).length = left.length) (hLr : (sideR (f + ls.length - 1) h).length = right.length) (w0 : World) (hR : Ro w0 [] (SlA A (hcs ls))) (hl : Ro w0 [] (SlA Bl (hcs left))) (hr : Ro w0 [] (SlA Br (hcs right))) (hT : Tabs 3 1 w0 []) :
    Calls Tryd.prog 74 #[.int .i64 (h : Int), .int .u64 (f : Int), .slice A ls.length c, .slice Bl left.length cl, .slice Br right.length cr] w0 (Post w0 [] fun v L => v = .tuple #[hv (refN ((sideL f h).zip left) ((sideR (f + ls.length - 1) h).zip right) ls f h 0), .int .i64 0] ∧ L = []) := by
  refine Calls.of (L := []) (n := 50) (rs := [.cell 10 23, .tmp 11]) Tryd.func74 rfl rfl rfl (Nat.le_of_ble_eq_true rfl) (Sat.nil _) ?_
  have ctx : RowCtx f ls.length h ls left right := ⟨h1, hf, rfl, hLl, hLr⟩
  refine TC.seq ?_
  refine TC.region ?_
  refine S.opS rfl rfl (OpV.alloc Tryd.zero23 (fun b10 => ?_))
  refine S.q rfl rfl (Qt.assign (by conv => lhs; whnf)) ?_
  refine S.nil ?_
  refine TC.seq ?_
  refine TC.seq ?_
  refine TC.region ?_
  refine S.q rfl rfl (Qt.move (by conv => lhs; whnf)) ?_
  refine S.q rfl rfl (Qt.move (by conv => lhs; whnf)) ?_
  refine S.q rfl rfl (Qt.move (by conv => lhs; whnf)) ?_
  refine S.q rfl rfl (Qt.len_slice Tryd.underlying44 rfl) ?_
  refine S.opS rfl rfl (OpV.con0 Tryd.ent46 rfl (fun w hw => (by have k := rright_R h f ls.length hh hf64 h1 h2 w; rw [decide_eq_true hf] at k; exact k : Calls Tryd.prog 46 #[.int .i64 (h : Int), .int .u64 (f : Int), .int .i64 (ls.length : Int)] w (Ret w (.bool true)))) ?_)
  refine S.q rfl rfl (Qt.not_t rfl) ?_
  refine S.nil ?_
  refine S.if_f rfl ?_
  refine TC.skip ?_
  refine TC.seq ?_
  refine TC.region ?_
  refine S.q rfl rfl (Qt.move (by conv => lhs; whnf)) ?_
  refine S.q rfl rfl (Qt.move (by conv => lhs; whnf)) ?_
  refine S.q rfl rfl (Qt.move (by conv => lhs; whnf)) ?_
  refine S.q rfl rfl (Qt.len_slice Tryd.underlying44 rfl) ?_
  refine S.opS rfl rfl (OpV.con (Pre := []) (R := _) Tryd.ent50 rfl (List.Perm.refl _) (fun w hw => rsides_walk h f ls.length hh hf h1 h2 w) ?_)
  rintro v L' ⟨A1, e1, A2, e2, rfl, rfl⟩
  refine S.q rfl rfl (Qt.move (by conv => lhs; whnf)) ?_
  refine S.q rfl rfl (Qt.extract rfl rfl) ?_
  refine S.q rfl rfl (Qt.extract rfl rfl) ?_
  refine S.q rfl rfl (Qt.assign (by conv => lhs; whnf)) ?_
  refine S.q rfl rfl (Qt.assign (by conv => lhs; whnf)) ?_
  refine S.nil ?_
  refine TC.seq ?_
  refine TC.seq ?_
  refine TC.region ?_
  refine S.q rfl rfl (Qt.move (by conv => lhs; whnf)) ?_
  refine S.q rfl rfl (Qt.len_slice Tryd.underlying82 rfl) ?_
  refine S.q rfl rfl (Qt.move (by conv => lhs; whnf)) ?_
  refine S.q rfl rfl (Qt.len_slice Tryd.underlying44 rfl) ?_
  refine S.q rfl rfl (Qt.dF (Qt.ne rfl rfl) (fun e => e hLl)) ?_
  refine S.q rfl rfl (Qt.move (by conv => lhs; whnf)) ?_
  refine S.qg rfl rfl rfl (Qt.move (by conv => lhs; whnf)) ?_
  refine S.qg rfl rfl rfl (Qt.len_slice Tryd.underlying82 rfl) ?_
  refine S.qg rfl rfl rfl (Qt.move (by conv => lhs; whnf)) ?_
  refine S.qg rfl rfl rfl (Qt.len_slice Tryd.underlying44 rfl) ?_
  refine S.qg rfl rfl rfl (Qt.dF (Qt.ne rfl rfl) (fun e => e hLr)) ?_
  refine S.q rfl rfl (Qt.pick_f rfl (by conv => lhs; whnf)) ?_
  refine S.nil ?_
  refine S.if_f rfl ?_
  refine TC.skip ?_
  refine TC.seq ?_
  refine TC.region ?_
  refine S.q rfl rfl (Qt.move (by conv => lhs; whnf)) ?_
  refine S.q rfl rfl (Qt.move (by conv => lhs; whnf)) ?_
  refine S.q rfl rfl (Qt.move (by conv => lhs; whnf)) ?_
  refine S.q rfl rfl (Qt.move (by conv => lhs; whnf)) ?_
  refine S.q rfl rfl (Qt.move (by conv => lhs; whnf)) ?_
  refine S.q rfl rfl (Qt.move (by conv => lhs; whnf)) ?_
  refine S.q rfl rfl (Qt.move (by conv => lhs; whnf)) ?_
  refine S.opS rfl rfl (OpV.con0 Tryd.ent116 rfl (fun w hw => rnode11_C h hh f A c ls A1 e1 A2 e2 Bl cl left Br cr right ctx h2 h (Nat.le_refl _) 0 w (okRoot h) (NodeOk.root ctx) (Rd.ro hR w hw) (Rd.own (Rd.at 0 rfl) w hw) (Rd.own (Rd.at 1 rfl) w hw) (Rd.ro hl w hw) (Rd.ro hr w hw) (hT.at hw)) ?_)
  refine S.opN rfl (OpV.storeV2 (v := hv (_)) rfl rfl (hv_size Tryd.cells23) (hv_all _) (hv_len _) ?_)
  refine S.q rfl rfl (Qt.assign (by conv => lhs; whnf)) ?_
  refine S.nil ?_
  refine TC.ret ?_
  refine finQ.ret (RVs.cell rfl (Ld.all (Has.at 2 rfl) Tryd.row23 (hv_size Tryd.cells23)) (RVs.tmp (by conv => lhs; whnf) RVs.nil)) (Sub.nil _) ?_
  exact ⟨rfl, rfl⟩
theorem rroot11_R (z : Int) (f : Nat) (hf64 : f < 18446744073709551616) (A : Option Addr) (c : Nat) (ls : List H32) (Bl : Option Addr) (cl : Nat) (left : List H32) (Br : Option Addr) (cr : Nat) (right : List H32) (w0 : World) (hR : Ro w0 [] (SlA A (hcs ls))) (hl : Ro w0 [] (SlA Bl (hcs left))) (hr : Ro w0 [] (SlA Br (hcs right))) (hT : Tabs 3 1 w0 []) : Calls Tryd.prog 74 #[.int .i64 z, .int .u64 (f : Int), .slice A ls.length c, .slice Bl left.length cl, .slice Br right.length cr] w0 (Ret w0 (.tuple #[hv (spanR z f ls left right).1, .int .i64 (((spanR z f ls left right).2 : Nat) : Int)])) := by
  by_cases hz : z < 0 ∨ 32 < z
  · rw [spanR, if_pos hz]; exact Calls.ret (rroot11_walk1 z f A c ls Bl cl left Br cr right (fun w => right46_F hf64 (by omega) w) w0)
  · obtain ⟨h, rfl⟩ : ∃ n : Nat, z = (n : Int) := ⟨z.toNat, by omega⟩
    have hh : h ≤ 32 := by omega
    rw [spanR_nat hh]
    by_cases g : 1 ≤ ls.length ∧ ls.length ≤ 256 ∧ f + ls.length ≤ 2 ^ h
    · by_cases g2 : (sideL f h).length = left.length ∧ (sideR (f + ls.length - 1) h).length = right.length
      · rw [spanN_0 g g2]; exact Calls.ret (rroot11_walk0 h f hh hf64 A c ls Bl cl left Br cr right g.1 g.2.1 g.2.2 g2.1 g2.2 w0 hR hl hr hT)
      · rw [spanN_5 g g2]; exact Calls.ret (rroot11_walk5 h f hh hf64 A c ls Bl cl left Br cr right g.1 g.2.1 g.2.2 g2 w0)
    · rw [spanN_1 g]; exact Calls.ret (rroot11_walk1 h f A c ls Bl cl left Br cr right (fun w => right46_F hf64 (.inr (.inr ⟨h, rfl, hh, g⟩)) w) w0)

set_option maxHeartbeats 1600000 in
theorem law14_walkE1 (E : Nat → H32) (hEm : ∀ w, Tabs 2 0 w [] → Calls Tryd.prog 88 #[] w (Ret w (.agg (hcs (emptL E)).toArray))) (hE : ∀ h, E (h + 1) = joinH (h + 1) (E h) (E h)) (z : Int) (f : Nat) (A : Option Addr) (c : Nat) (ls : List H32) (Bl : Option Addr) (cl : Nat) (left : List H32) (Br : Option Addr) (cr : Nat) (right : List H32) (g1 : 60 < ls.length) (w0 : World)  (hT : Tabs 2 0 w0 [])  :
    Calls Tryd.prog 14 #[.int .i64 z, .int .u64 (f : Int), .agg #[.slice A ls.length c, .slice Bl left.length cl, .slice Br right.length cr]] w0 (Post w0 [] fun v L => v = .bool true ∧ L = []) := by
  refine Calls.of (L := []) (n := 105) (rs := [.tmp 6]) Tryd.func14 rfl rfl rfl (Nat.le_of_ble_eq_true rfl) (Sat.nil _) ?_
  refine TC.seq ?_
  refine TC.region ?_
  refine S.opS rfl rfl (OpV.box (v := .agg #[.slice A ls.length c, .slice Bl left.length cl, .slice Br right.length cr]) rfl (fun b5 => ?_))
  refine S.q rfl rfl (Qt.assign (by conv => lhs; whnf)) ?_
  refine S.nil ?_
  refine TC.seq ?_
  refine TC.seq ?_
  refine TC.region ?_
  refine S.opS rfl rfl (OpV.con0 Tryd.ent44 rfl (fun w hw => Calls.ret (alive11_walk E hEm hE w (hT.at hw))) ?_)
  refine S.q rfl rfl (Qt.not_t rfl) ?_
  refine S.nil ?_
  refine S.if_f rfl ?_
  refine TC.skip ?_
  refine TC.seq ?_
  refine TC.seq ?_
  refine TC.region ?_
  refine S.q rfl rfl (Qt.indexB (i := 0) Tryd.underlying119 Tryd.cells44 rfl rfl (by omega)) ?_
  refine S.q rfl rfl (Qt.load rfl (Ld.one (v := .slice A ls.length c) (Has.at 0 rfl) Tryd.one44 rfl)) ?_
  refine S.q rfl rfl (Qt.len_slice Tryd.underlying44 rfl) ?_
  refine S.q rfl rfl (Qt.dT (Qt.gt (b := 60) rfl rfl) (by omega)) ?_
  refine S.q rfl rfl (Qt.move (by conv => lhs; whnf)) ?_
  refine S.pass rfl rfl ?_
  refine S.pass rfl rfl ?_
  refine S.pass rfl rfl ?_
  refine S.pass rfl rfl ?_
  refine S.q rfl rfl (Qt.pick_t rfl (by conv => lhs; whnf)) ?_
  refine S.q rfl rfl (Qt.move (by conv => lhs; whnf)) ?_
  refine S.pass rfl rfl ?_
  refine S.pass rfl rfl ?_
  refine S.pass rfl rfl ?_
  refine S.pass rfl rfl ?_
  refine S.q rfl rfl (Qt.pick_t rfl (by conv => lhs; whnf)) ?_
  refine S.nil ?_
  refine S.if_t rfl ?_
  refine TC.seq ?_
  refine TC.region ?_
  refine S.q rfl rfl (Qt.assign (by conv => lhs; whnf)) ?_
  refine S.nil ?_
  refine TC.ret ?_
  refine finQ.ret (RVs.tmp (by conv => lhs; whnf) RVs.nil) (Sub.nil _) ?_
  exact ⟨rfl, rfl⟩
set_option maxHeartbeats 1600000 in
theorem law14_walkE2 (E : Nat → H32) (hEm : ∀ w, Tabs 2 0 w [] → Calls Tryd.prog 88 #[] w (Ret w (.agg (hcs (emptL E)).toArray))) (hE : ∀ h, E (h + 1) = joinH (h + 1) (E h) (E h)) (z : Int) (f : Nat) (A : Option Addr) (c : Nat) (ls : List H32) (Bl : Option Addr) (cl : Nat) (left : List H32) (Br : Option Addr) (cr : Nat) (right : List H32) (g1 : ls.length ≤ 60) (g2 : 100 < left.length) (w0 : World)  (hT : Tabs 2 0 w0 [])  :
    Calls Tryd.prog 14 #[.int .i64 z, .int .u64 (f : Int), .agg #[.slice A ls.length c, .slice Bl left.length cl, .slice Br right.length cr]] w0 (Post w0 [] fun v L => v = .bool true ∧ L = []) := by
  refine Calls.of (L := []) (n := 105) (rs := [.tmp 6]) Tryd.func14 rfl rfl rfl (Nat.le_of_ble_eq_true rfl) (Sat.nil _) ?_
  refine TC.seq ?_
  refine TC.region ?_
  refine S.opS rfl rfl (OpV.box (v := .agg #[.slice A ls.length c, .slice Bl left.length cl, .slice Br right.length cr]) rfl (fun b5 => ?_))
  refine S.q rfl rfl (Qt.assign (by conv => lhs; whnf)) ?_
  refine S.nil ?_
  refine TC.seq ?_
  refine TC.seq ?_
  refine TC.region ?_
  refine S.opS rfl rfl (OpV.con0 Tryd.ent44 rfl (fun w hw => Calls.ret (alive11_walk E hEm hE w (hT.at hw))) ?_)
  refine S.q rfl rfl (Qt.not_t rfl) ?_
  refine S.nil ?_
  refine S.if_f rfl ?_
  refine TC.skip ?_
  refine TC.seq ?_
  refine TC.seq ?_
  refine TC.region ?_
  refine S.q rfl rfl (Qt.indexB (i := 0) Tryd.underlying119 Tryd.cells44 rfl rfl (by omega)) ?_
  refine S.q rfl rfl (Qt.load rfl (Ld.one (v := .slice A ls.length c) (Has.at 0 rfl) Tryd.one44 rfl)) ?_
  refine S.q rfl rfl (Qt.len_slice Tryd.underlying44 rfl) ?_
  refine S.q rfl rfl (Qt.dF (Qt.gt (b := 60) rfl rfl) (by omega)) ?_
  refine S.q rfl rfl (Qt.move (by conv => lhs; whnf)) ?_
  refine S.qg rfl rfl rfl (Qt.indexB (i := 1) Tryd.underlying119 Tryd.cells44 rfl rfl (by omega)) ?_
  refine S.qg rfl rfl rfl (Qt.load rfl (Ld.one (v := .slice Bl left.length cl) (Has.at 0 rfl) Tryd.one44 rfl)) ?_
  refine S.qg rfl rfl rfl (Qt.len_slice Tryd.underlying44 rfl) ?_
  refine S.qg rfl rfl rfl (Qt.dT (Qt.gt (b := 100) rfl rfl) (by omega)) ?_
  refine S.q rfl rfl (Qt.pick_f rfl (by conv => lhs; whnf)) ?_
  refine S.q rfl rfl (Qt.move (by conv => lhs; whnf)) ?_
  refine S.pass rfl rfl ?_
  refine S.pass rfl rfl ?_
  refine S.pass rfl rfl ?_
  refine S.pass rfl rfl ?_
  refine S.q rfl rfl (Qt.pick_t rfl (by conv => lhs; whnf)) ?_
  refine S.nil ?_
  refine S.if_t rfl ?_
  refine TC.seq ?_
  refine TC.region ?_
  refine S.q rfl rfl (Qt.assign (by conv => lhs; whnf)) ?_
  refine S.nil ?_
  refine TC.ret ?_
  refine finQ.ret (RVs.tmp (by conv => lhs; whnf) RVs.nil) (Sub.nil _) ?_
  exact ⟨rfl, rfl⟩
set_option maxHeartbeats 1600000 in
theorem law14_walkE3 (E : Nat → H32) (hEm : ∀ w, Tabs 2 0 w [] → Calls Tryd.prog 88 #[] w (Ret w (.agg (hcs (emptL E)).toArray))) (hE : ∀ h, E (h + 1) = joinH (h + 1) (E h) (E h)) (z : Int) (f : Nat) (A : Option Addr) (c : Nat) (ls : List H32) (Bl : Option Addr) (cl : Nat) (left : List H32) (Br : Option Addr) (cr : Nat) (right : List H32) (g1 : ls.length ≤ 60) (g2 : left.length ≤ 100) (g3 : 100 < right.length) (w0 : World)  (hT : Tabs 2 0 w0 [])  :
    Calls Tryd.prog 14 #[.int .i64 z, .int .u64 (f : Int), .agg #[.slice A ls.length c, .slice Bl left.length cl, .slice Br right.length cr]] w0 (Post w0 [] fun v L => v = .bool true ∧ L = []) := by
  refine Calls.of (L := []) (n := 105) (rs := [.tmp 6]) Tryd.func14 rfl rfl rfl (Nat.le_of_ble_eq_true rfl) (Sat.nil _) ?_
  refine TC.seq ?_
  refine TC.region ?_
  refine S.opS rfl rfl (OpV.box (v := .agg #[.slice A ls.length c, .slice Bl left.length cl, .slice Br right.length cr]) rfl (fun b5 => ?_))
  refine S.q rfl rfl (Qt.assign (by conv => lhs; whnf)) ?_
  refine S.nil ?_
  refine TC.seq ?_
  refine TC.seq ?_
  refine TC.region ?_
  refine S.opS rfl rfl (OpV.con0 Tryd.ent44 rfl (fun w hw => Calls.ret (alive11_walk E hEm hE w (hT.at hw))) ?_)
  refine S.q rfl rfl (Qt.not_t rfl) ?_
  refine S.nil ?_
  refine S.if_f rfl ?_
  refine TC.skip ?_
  refine TC.seq ?_
  refine TC.seq ?_
  refine TC.region ?_
  refine S.q rfl rfl (Qt.indexB (i := 0) Tryd.underlying119 Tryd.cells44 rfl rfl (by omega)) ?_
  refine S.q rfl rfl (Qt.load rfl (Ld.one (v := .slice A ls.length c) (Has.at 0 rfl) Tryd.one44 rfl)) ?_
  refine S.q rfl rfl (Qt.len_slice Tryd.underlying44 rfl) ?_
  refine S.q rfl rfl (Qt.dF (Qt.gt (b := 60) rfl rfl) (by omega)) ?_
  refine S.q rfl rfl (Qt.move (by conv => lhs; whnf)) ?_
  refine S.qg rfl rfl rfl (Qt.indexB (i := 1) Tryd.underlying119 Tryd.cells44 rfl rfl (by omega)) ?_
  refine S.qg rfl rfl rfl (Qt.load rfl (Ld.one (v := .slice Bl left.length cl) (Has.at 0 rfl) Tryd.one44 rfl)) ?_
  refine S.qg rfl rfl rfl (Qt.len_slice Tryd.underlying44 rfl) ?_
  refine S.qg rfl rfl rfl (Qt.dF (Qt.gt (b := 100) rfl rfl) (by omega)) ?_
  refine S.q rfl rfl (Qt.pick_f rfl (by conv => lhs; whnf)) ?_
  refine S.q rfl rfl (Qt.move (by conv => lhs; whnf)) ?_
  refine S.qg rfl rfl rfl (Qt.indexB (i := 2) Tryd.underlying119 Tryd.cells44 rfl rfl (by omega)) ?_
  refine S.qg rfl rfl rfl (Qt.load rfl (Ld.one (v := .slice Br right.length cr) (Has.at 0 rfl) Tryd.one44 rfl)) ?_
  refine S.qg rfl rfl rfl (Qt.len_slice Tryd.underlying44 rfl) ?_
  refine S.qg rfl rfl rfl (Qt.dT (Qt.gt (b := 100) rfl rfl) (by omega)) ?_
  refine S.q rfl rfl (Qt.pick_f rfl (by conv => lhs; whnf)) ?_
  refine S.nil ?_
  refine S.if_t rfl ?_
  refine TC.seq ?_
  refine TC.region ?_
  refine S.q rfl rfl (Qt.assign (by conv => lhs; whnf)) ?_
  refine S.nil ?_
  refine TC.ret ?_
  refine finQ.ret (RVs.tmp (by conv => lhs; whnf) RVs.nil) (Sub.nil _) ?_
  exact ⟨rfl, rfl⟩
set_option maxHeartbeats 3200000 in
theorem law14_walk (E : Nat → H32) (hEm : ∀ w, Tabs 2 0 w [] → Calls Tryd.prog 88 #[] w (Ret w (.agg (hcs (emptL E)).toArray))) (hE : ∀ h, E (h + 1) = joinH (h + 1) (E h) (E h)) (z : Int) (f : Nat) (A : Option Addr) (c : Nat) (ls : List H32) (Bl : Option Addr) (cl : Nat) (left : List H32) (Br : Option Addr) (cr : Nat) (right : List H32) (hf64 : f < 18446744073709551616) (g1 : ls.length ≤ 60) (g2 : left.length ≤ 100) (g3 : right.length ≤ 100) (hcl : left.length ≤ cl) (hcr : right.length ≤ cr) (w0 : World) (hR : Ro w0 [] (SlA A (hcs ls))) (hl : Ro w0 [] (SlA Bl (hcs left))) (hr : Ro w0 [] (SlA Br (hcs right))) (hT : Tabs 2 0 w0 []) (hT2 : Tabs 3 1 w0 []) :
    Calls Tryd.prog 14 #[.int .i64 z, .int .u64 (f : Int), .agg #[.slice A ls.length c, .slice Bl left.length cl, .slice Br right.length cr]] w0 (Post w0 [] fun v L => v = .bool true ∧ L = []) := by
  refine Calls.of (L := []) (n := 105) (rs := [.tmp 6]) Tryd.func14 rfl rfl rfl (Nat.le_of_ble_eq_true rfl) (Sat.nil _) ?_
  refine TC.seq ?_
  refine TC.region ?_
  refine S.opS rfl rfl (OpV.box (v := .agg #[.slice A ls.length c, .slice Bl left.length cl, .slice Br right.length cr]) rfl (fun b5 => ?_))
  refine S.q rfl rfl (Qt.assign (by conv => lhs; whnf)) ?_
  refine S.nil ?_
  refine TC.seq ?_
  refine TC.seq ?_
  refine TC.region ?_
  refine S.opS rfl rfl (OpV.con0 Tryd.ent44 rfl (fun w hw => Calls.ret (alive11_walk E hEm hE w (hT.at hw))) ?_)
  refine S.q rfl rfl (Qt.not_t rfl) ?_
  refine S.nil ?_
  refine S.if_f rfl ?_
  refine TC.skip ?_
  refine TC.seq ?_
  refine TC.seq ?_
  refine TC.region ?_
  refine S.q rfl rfl (Qt.indexB (i := 0) Tryd.underlying119 Tryd.cells44 rfl rfl (by omega)) ?_
  refine S.q rfl rfl (Qt.load rfl (Ld.one (v := .slice A ls.length c) (Has.at 0 rfl) Tryd.one44 rfl)) ?_
  refine S.q rfl rfl (Qt.len_slice Tryd.underlying44 rfl) ?_
  refine S.q rfl rfl (Qt.dF (Qt.gt (b := 60) rfl rfl) (by omega)) ?_
  refine S.q rfl rfl (Qt.move (by conv => lhs; whnf)) ?_
  refine S.qg rfl rfl rfl (Qt.indexB (i := 1) Tryd.underlying119 Tryd.cells44 rfl rfl (by omega)) ?_
  refine S.qg rfl rfl rfl (Qt.load rfl (Ld.one (v := .slice Bl left.length cl) (Has.at 0 rfl) Tryd.one44 rfl)) ?_
  refine S.qg rfl rfl rfl (Qt.len_slice Tryd.underlying44 rfl) ?_
  refine S.qg rfl rfl rfl (Qt.dF (Qt.gt (b := 100) rfl rfl) (by omega)) ?_
  refine S.q rfl rfl (Qt.pick_f rfl (by conv => lhs; whnf)) ?_
  refine S.q rfl rfl (Qt.move (by conv => lhs; whnf)) ?_
  refine S.qg rfl rfl rfl (Qt.indexB (i := 2) Tryd.underlying119 Tryd.cells44 rfl rfl (by omega)) ?_
  refine S.qg rfl rfl rfl (Qt.load rfl (Ld.one (v := .slice Br right.length cr) (Has.at 0 rfl) Tryd.one44 rfl)) ?_
  refine S.qg rfl rfl rfl (Qt.len_slice Tryd.underlying44 rfl) ?_
  refine S.qg rfl rfl rfl (Qt.dF (Qt.gt (b := 100) rfl rfl) (by omega)) ?_
  refine S.q rfl rfl (Qt.pick_f rfl (by conv => lhs; whnf)) ?_
  refine S.nil ?_
  refine S.if_f rfl ?_
  refine TC.skip ?_
  refine TC.seq ?_
  refine TC.region ?_
  refine S.q rfl rfl (Qt.indexB (i := 1) Tryd.underlying119 Tryd.cells44 rfl rfl (by omega)) ?_
  refine S.q rfl rfl (Qt.load rfl (Ld.one (v := .slice Bl left.length cl) (Has.at 0 rfl) Tryd.one44 rfl)) ?_
  refine S.q rfl rfl (Qt.indexB (i := 2) Tryd.underlying119 Tryd.cells44 rfl rfl (by omega)) ?_
  refine S.q rfl rfl (Qt.load rfl (Ld.one (v := .slice Br right.length cr) (Has.at 0 rfl) Tryd.one44 rfl)) ?_
  refine S.q rfl rfl (Qt.as (Qt.buildS (vs := [.slice Bl left.length cl, .slice Br right.length cr]) (pls := #[(0, 1), (1, 1)]) Tryd.underlying77 (fun w => by kernel_rfl) Tryd.zero77 rfl ⟨rfl, rfl, trivial⟩ rfl) (show _ = Value.agg #[.slice Bl left.length cl, .slice Br right.length cr] from rfl)) ?_
  refine S.opS rfl rfl (OpV.alloc Tryd.zero77 (fun b7 => ?_))
  refine S.opN rfl (OpV.storeV0 rfl (by conv => lhs; whnf) (by exact Tryd.cells77) (by rfl) (by rfl) ?_)
  refine S.nil ?_
  refine TC.seq ?_
  refine TC.region ?_
  refine S.opS rfl rfl (OpV.slice0 Tryd.underlying44 ⟨_, Tryd.elem23⟩ (fun g37 => ?_))
  refine S.q rfl rfl (Qt.indexB (i := 0) Tryd.underlying119 Tryd.cells44 rfl rfl (by omega)) ?_
  refine S.q rfl rfl (Qt.load rfl (Ld.one (v := .slice A ls.length c) (Has.at 2 rfl) Tryd.one44 rfl)) ?_
  refine S.opS rfl rfl (OpV.app0 (bytes := 32) (news := hcs ls) Tryd.underlying44 Tryd.elem23 rfl rfl (Has.ro hR) (by rw [hcs_length]) (hcs_one _) (by simp only [maxLen]; omega) (by omega) (fun O d => ?_))
  rw [Nat.zero_add ls.length, List.nil_append]
  refine S.q rfl rfl (Qt.assign (by conv => lhs; whnf)) ?_
  refine S.nil ?_
  refine TC.seq ?_
  refine TC.region ?_
  refine S.q rfl rfl (Qt.move (by conv => lhs; whnf)) ?_
  refine S.q rfl rfl (Qt.move (by conv => lhs; whnf)) ?_
  refine S.q rfl rfl (Qt.move (by conv => lhs; whnf)) ?_
  refine S.q rfl rfl (Qt.load rfl (Ld.all (Has.at 1 rfl) Tryd.row77 (Tryd.cells77))) ?_
  refine S.opS rfl rfl (OpV.con0 Tryd.ent73 rfl (fun w hw => sroot_R z f hf64 O d ls Bl cl left Br cr right hcl hcr w (Rd.own (Rd.at 0 rfl) w hw) (Rd.ro hl w hw) (Rd.ro hr w hw) (hT.at hw)) ?_)
  refine S.q rfl rfl (Qt.move (by conv => lhs; whnf)) ?_
  refine S.q rfl rfl (Qt.extract rfl rfl) ?_
  refine S.q rfl rfl (Qt.extract rfl rfl) ?_
  refine S.opS rfl rfl (OpV.alloc Tryd.zero23 (fun b9 => ?_))
  refine S.opN rfl (OpV.storeV0 (v := hv (_)) rfl rfl (hv_size Tryd.cells23) (hv_all _) (hv_len _) ?_)
  refine S.q rfl rfl (Qt.assign (by conv => lhs; whnf)) ?_
  refine S.nil ?_
  refine TC.seq ?_
  refine TC.region ?_
  refine S.q rfl rfl (Qt.move (by conv => lhs; whnf)) ?_
  refine S.q rfl rfl (Qt.move (by conv => lhs; whnf)) ?_
  refine S.q rfl rfl (Qt.indexB (i := 0) Tryd.underlying119 Tryd.cells44 rfl rfl (by omega)) ?_
  refine S.q rfl rfl (Qt.load rfl (Ld.one (v := .slice A ls.length c) (Has.at 3 rfl) Tryd.one44 rfl)) ?_
  refine S.q rfl rfl (Qt.indexB (i := 1) Tryd.underlying119 Tryd.cells44 rfl rfl (by omega)) ?_
  refine S.q rfl rfl (Qt.load rfl (Ld.one (v := .slice Bl left.length cl) (Has.at 3 rfl) Tryd.one44 rfl)) ?_
  refine S.q rfl rfl (Qt.indexB (i := 2) Tryd.underlying119 Tryd.cells44 rfl rfl (by omega)) ?_
  refine S.q rfl rfl (Qt.load rfl (Ld.one (v := .slice Br right.length cr) (Has.at 3 rfl) Tryd.one44 rfl)) ?_
  refine S.opS rfl rfl (OpV.con0 Tryd.ent74 rfl (fun w hw => rroot11_R z f hf64 A c ls Bl cl left Br cr right w (Rd.ro hR w hw) (Rd.ro hl w hw) (Rd.ro hr w hw) (hT2.at hw)) ?_)
  refine S.q rfl rfl (Qt.move (by conv => lhs; whnf)) ?_
  refine S.q rfl rfl (Qt.extract rfl rfl) ?_
  refine S.q rfl rfl (Qt.extract rfl rfl) ?_
  refine S.opS rfl rfl (OpV.alloc Tryd.zero23 (fun b11 => ?_))
  refine S.opN rfl (OpV.storeV0 (v := hv (_)) rfl rfl (hv_size Tryd.cells23) (hv_all _) (hv_len _) ?_)
  refine S.q rfl rfl (Qt.assign (by conv => lhs; whnf)) ?_
  refine S.nil ?_
  refine TC.seq ?_
  refine TC.seq ?_
  refine TC.region ?_
  refine S.q rfl rfl (Qt.move (by conv => lhs; whnf)) ?_
  refine S.opS rfl rfl (OpV.con0 Tryd.ent24 rfl (fun w hw => num_R (spanR z f ls left right).2 w) ?_)
  refine S.q rfl rfl (Qt.move (by conv => lhs; whnf)) ?_
  refine S.q rfl rfl (Qt.dF (Qt.ne rfl rfl) (fun h => h rfl)) ?_
  refine S.q rfl rfl (Qt.move (by conv => lhs; whnf)) ?_
  refine S.qg rfl rfl rfl (Qt.load rfl (Ld.hash1 (x := (spanR z f ls left right).1) (Has.at 1 rfl) Tryd.row23 Tryd.cells23)) ?_
  refine S.qg rfl rfl rfl (Qt.load rfl (Ld.hash1 (x := (spanR z f ls left right).1) (Has.at 0 rfl) Tryd.row23 Tryd.cells23)) ?_
  refine S.qg rfl rfl rfl (Qt.dF (Qt.neH (a := (spanR z f ls left right).1) (b := (spanR z f ls left right).1) Tryd.guard23 Tryd.underlying23 Tryd.underlying5 Tryd.cells5 rfl rfl) (fun h => h rfl)) ?_
  refine S.q rfl rfl (Qt.pick_f rfl (by conv => lhs; whnf)) ?_
  refine S.q rfl rfl (Qt.move (by conv => lhs; whnf)) ?_
  refine S.qg rfl rfl rfl (Qt.move (by conv => lhs; whnf)) ?_
  refine S.qg rfl rfl rfl (Qt.indexB (i := 0) Tryd.underlying119 Tryd.cells44 rfl rfl (by omega)) ?_
  refine S.qg rfl rfl rfl (Qt.load rfl (Ld.one (v := .slice A ls.length c) (Has.at 4 rfl) Tryd.one44 rfl)) ?_
  refine S.opg rfl rfl rfl (OpV.con0 Tryd.ent37 rfl (fun w hw => hashes_R O d A c ls (by omega) w (Rd.own (Rd.at 2 rfl) w hw) (Rd.ro hR w hw)) ?_)
  refine S.qg rfl rfl rfl (Qt.not_t rfl) ?_
  refine S.q rfl rfl (Qt.pick_f rfl (by conv => lhs; whnf)) ?_
  refine S.nil ?_
  refine S.if_f rfl ?_
  refine TC.skip ?_
  refine TC.seq ?_
  refine TC.region ?_
  refine S.q rfl rfl (Qt.move (by conv => lhs; whnf)) ?_
  refine S.q rfl rfl (Qt.assign (by conv => lhs; whnf)) ?_
  refine S.nil ?_
  refine TC.seq ?_
  refine TC.seq ?_
  refine TC.region ?_
  refine S.q rfl rfl (Qt.move (by conv => lhs; whnf)) ?_
  refine S.dec rfl rfl (Qt.eq (b := 0) rfl rfl) (fun h79 => ?_) (fun h79 => ?_)
  · refine S.q rfl rfl (Qt.move (by conv => lhs; whnf)) ?_
    refine S.qg rfl rfl rfl (Qt.load rfl (Ld.hash1 (x := (spanR z f ls left right).1) (Has.at 0 rfl) Tryd.row23 Tryd.cells23)) ?_
    refine S.qg rfl rfl rfl (Qt.build (v := hv H9s) rfl (fun _ => by kernel_rfl)) ?_
    refine S.decg rfl rfl rfl (Qt.neH (a := (spanR z f ls left right).1) (b := H9s) Tryd.guard23 Tryd.underlying23 Tryd.underlying5 Tryd.cells5 rfl rfl) (fun h83 => ?_) (fun h83 => ?_)
    · refine S.q rfl rfl (Qt.pick_t rfl (by conv => lhs; whnf)) ?_
      refine S.nil ?_
      refine S.if_t rfl ?_
      refine TC.region ?_
      refine S.q rfl rfl (Qt.assign (by conv => lhs; whnf)) ?_
      refine S.nil ?_
      refine TC.seq ?_
      refine TC.region ?_
      refine S.q rfl rfl (Qt.load rfl (Ld.hash1 (x := (spanR z f ls left right).1) (Has.at 0 rfl) Tryd.row23 Tryd.cells23)) ?_
      refine S.q rfl rfl (Qt.move (by conv => lhs; whnf)) ?_
      refine S.q rfl rfl (Qt.move (by conv => lhs; whnf)) ?_
      refine S.q rfl rfl (Qt.move (by conv => lhs; whnf)) ?_
      refine S.q rfl rfl (Qt.load rfl (Ld.all (Has.at 3 rfl) Tryd.row77 (Tryd.cells77))) ?_
      refine S.opS rfl rfl (OpV.con0 Tryd.ent75 rfl (fun w hw => schk_R (spanR z f ls left right).1 z f hf64 O d ls Bl cl left Br cr right hcl hcr w (Rd.own (Rd.at 2 rfl) w hw) (Rd.ro hl w hw) (Rd.ro hr w hw) (hT.at hw)) ?_)
      refine S.opS rfl rfl (OpV.con0 Tryd.ent24 rfl (fun w hw => num_R (chkS (spanR z f ls left right).1 z f ls left right) w) ?_)
      refine S.q rfl rfl (Qt.move (by conv => lhs; whnf)) ?_
      refine S.q rfl rfl (Qt.dT (Qt.eq rfl rfl) (show chkS (spanR z f ls left right).1 z f ls left right = (spanR z f ls left right).2 from chkS_self ..)) ?_
      refine S.q rfl rfl (Qt.move (by conv => lhs; whnf)) ?_
      refine S.qg rfl rfl rfl (Qt.build (v := hv H9s) rfl (fun _ => by kernel_rfl)) ?_
      refine S.qg rfl rfl rfl (Qt.move (by conv => lhs; whnf)) ?_
      refine S.qg rfl rfl rfl (Qt.move (by conv => lhs; whnf)) ?_
      refine S.qg rfl rfl rfl (Qt.move (by conv => lhs; whnf)) ?_
      refine S.qg rfl rfl rfl (Qt.load rfl (Ld.all (Has.at 3 rfl) Tryd.row77 (Tryd.cells77))) ?_
      refine S.opg rfl rfl rfl (OpV.con0 Tryd.ent75 rfl (fun w hw => schk_R H9s z f hf64 O d ls Bl cl left Br cr right hcl hcr w (Rd.own (Rd.at 2 rfl) w hw) (Rd.ro hl w hw) (Rd.ro hr w hw) (hT.at hw)) ?_)
      refine S.opg rfl rfl rfl (OpV.con0 Tryd.ent24 rfl (fun w hw => num_R (chkS H9s z f ls left right) w) ?_)
      refine S.qg rfl rfl rfl (Qt.move (by conv => lhs; whnf)) ?_
      refine S.qg rfl rfl rfl (Qt.dT (Qt.eq rfl rfl) (show chkS H9s z f ls left right = 5 by rw [chkS, if_neg (fun k => k h79), if_pos h83])) ?_
      refine S.q rfl rfl (Qt.pick_t rfl (by conv => lhs; whnf)) ?_
      refine S.q rfl rfl (Qt.assign (by conv => lhs; whnf)) ?_
      refine S.nil ?_
      refine TC.ret ?_
      refine finQ.ret (RVs.tmp (by conv => lhs; whnf) RVs.nil) (Sub.nil _) ?_
      exact ⟨rfl, rfl⟩
    · refine S.q rfl rfl (Qt.pick_t rfl (by conv => lhs; whnf)) ?_
      refine S.nil ?_
      refine S.if_f rfl ?_
      refine TC.skip ?_
      refine TC.seq ?_
      refine TC.region ?_
      refine S.q rfl rfl (Qt.load rfl (Ld.hash1 (x := (spanR z f ls left right).1) (Has.at 0 rfl) Tryd.row23 Tryd.cells23)) ?_
      refine S.q rfl rfl (Qt.move (by conv => lhs; whnf)) ?_
      refine S.q rfl rfl (Qt.move (by conv => lhs; whnf)) ?_
      refine S.q rfl rfl (Qt.move (by conv => lhs; whnf)) ?_
      refine S.q rfl rfl (Qt.load rfl (Ld.all (Has.at 3 rfl) Tryd.row77 (Tryd.cells77))) ?_
      refine S.opS rfl rfl (OpV.con0 Tryd.ent75 rfl (fun w hw => schk_R (spanR z f ls left right).1 z f hf64 O d ls Bl cl left Br cr right hcl hcr w (Rd.own (Rd.at 2 rfl) w hw) (Rd.ro hl w hw) (Rd.ro hr w hw) (hT.at hw)) ?_)
      refine S.opS rfl rfl (OpV.con0 Tryd.ent24 rfl (fun w hw => num_R (chkS (spanR z f ls left right).1 z f ls left right) w) ?_)
      refine S.q rfl rfl (Qt.move (by conv => lhs; whnf)) ?_
      refine S.q rfl rfl (Qt.dT (Qt.eq rfl rfl) (show chkS (spanR z f ls left right).1 z f ls left right = (spanR z f ls left right).2 from chkS_self ..)) ?_
      refine S.q rfl rfl (Qt.move (by conv => lhs; whnf)) ?_
      refine S.qg rfl rfl rfl (Qt.build (v := hv H9s) rfl (fun _ => by kernel_rfl)) ?_
      refine S.qg rfl rfl rfl (Qt.move (by conv => lhs; whnf)) ?_
      refine S.qg rfl rfl rfl (Qt.move (by conv => lhs; whnf)) ?_
      refine S.qg rfl rfl rfl (Qt.move (by conv => lhs; whnf)) ?_
      refine S.qg rfl rfl rfl (Qt.load rfl (Ld.all (Has.at 3 rfl) Tryd.row77 (Tryd.cells77))) ?_
      refine S.opg rfl rfl rfl (OpV.con0 Tryd.ent75 rfl (fun w hw => schk_R H9s z f hf64 O d ls Bl cl left Br cr right hcl hcr w (Rd.own (Rd.at 2 rfl) w hw) (Rd.ro hl w hw) (Rd.ro hr w hw) (hT.at hw)) ?_)
      refine S.opg rfl rfl rfl (OpV.con0 Tryd.ent24 rfl (fun w hw => num_R (chkS H9s z f ls left right) w) ?_)
      refine S.qg rfl rfl rfl (Qt.move (by conv => lhs; whnf)) ?_
      refine S.qg rfl rfl rfl (Qt.dT (Qt.eq rfl rfl) (show chkS H9s z f ls left right = (spanR z f ls left right).2 by rw [chkS, if_neg (fun k => k h79), if_neg h83, h79])) ?_
      refine S.q rfl rfl (Qt.pick_t rfl (by conv => lhs; whnf)) ?_
      refine S.q rfl rfl (Qt.assign (by conv => lhs; whnf)) ?_
      refine S.nil ?_
      refine TC.ret ?_
      refine finQ.ret (RVs.tmp (by conv => lhs; whnf) RVs.nil) (Sub.nil _) ?_
      exact ⟨rfl, rfl⟩
  · refine S.q rfl rfl (Qt.move (by conv => lhs; whnf)) ?_
    refine S.pass rfl rfl ?_
    refine S.pass rfl rfl ?_
    refine S.pass rfl rfl ?_
    refine S.q rfl rfl (Qt.pick_f rfl (by conv => lhs; whnf)) ?_
    refine S.nil ?_
    refine S.if_f rfl ?_
    refine TC.skip ?_
    refine TC.seq ?_
    refine TC.region ?_
    refine S.q rfl rfl (Qt.load rfl (Ld.hash1 (x := (spanR z f ls left right).1) (Has.at 0 rfl) Tryd.row23 Tryd.cells23)) ?_
    refine S.q rfl rfl (Qt.move (by conv => lhs; whnf)) ?_
    refine S.q rfl rfl (Qt.move (by conv => lhs; whnf)) ?_
    refine S.q rfl rfl (Qt.move (by conv => lhs; whnf)) ?_
    refine S.q rfl rfl (Qt.load rfl (Ld.all (Has.at 3 rfl) Tryd.row77 (Tryd.cells77))) ?_
    refine S.opS rfl rfl (OpV.con0 Tryd.ent75 rfl (fun w hw => schk_R (spanR z f ls left right).1 z f hf64 O d ls Bl cl left Br cr right hcl hcr w (Rd.own (Rd.at 2 rfl) w hw) (Rd.ro hl w hw) (Rd.ro hr w hw) (hT.at hw)) ?_)
    refine S.opS rfl rfl (OpV.con0 Tryd.ent24 rfl (fun w hw => num_R (chkS (spanR z f ls left right).1 z f ls left right) w) ?_)
    refine S.q rfl rfl (Qt.move (by conv => lhs; whnf)) ?_
    refine S.q rfl rfl (Qt.dT (Qt.eq rfl rfl) (show chkS (spanR z f ls left right).1 z f ls left right = (spanR z f ls left right).2 from chkS_self ..)) ?_
    refine S.q rfl rfl (Qt.move (by conv => lhs; whnf)) ?_
    refine S.qg rfl rfl rfl (Qt.build (v := hv H9s) rfl (fun _ => by kernel_rfl)) ?_
    refine S.qg rfl rfl rfl (Qt.move (by conv => lhs; whnf)) ?_
    refine S.qg rfl rfl rfl (Qt.move (by conv => lhs; whnf)) ?_
    refine S.qg rfl rfl rfl (Qt.move (by conv => lhs; whnf)) ?_
    refine S.qg rfl rfl rfl (Qt.load rfl (Ld.all (Has.at 3 rfl) Tryd.row77 (Tryd.cells77))) ?_
    refine S.opg rfl rfl rfl (OpV.con0 Tryd.ent75 rfl (fun w hw => schk_R H9s z f hf64 O d ls Bl cl left Br cr right hcl hcr w (Rd.own (Rd.at 2 rfl) w hw) (Rd.ro hl w hw) (Rd.ro hr w hw) (hT.at hw)) ?_)
    refine S.opg rfl rfl rfl (OpV.con0 Tryd.ent24 rfl (fun w hw => num_R (chkS H9s z f ls left right) w) ?_)
    refine S.qg rfl rfl rfl (Qt.move (by conv => lhs; whnf)) ?_
    refine S.qg rfl rfl rfl (Qt.dT (Qt.eq rfl rfl) (show chkS H9s z f ls left right = (spanR z f ls left right).2 by rw [chkS, if_pos h79])) ?_
    refine S.q rfl rfl (Qt.pick_t rfl (by conv => lhs; whnf)) ?_
    refine S.q rfl rfl (Qt.assign (by conv => lhs; whnf)) ?_
    refine S.nil ?_
    refine TC.ret ?_
    refine finQ.ret (RVs.tmp (by conv => lhs; whnf) RVs.nil) (Sub.nil _) ?_
    exact ⟨rfl, rfl⟩
theorem spanRoots_R (z : Int) (f : Nat) (hf64 : f < 18446744073709551616) (A : Option Addr) (c : Nat) (ls : List H32) (Bl : Option Addr) (cl : Nat) (left : List H32) (Br : Option Addr) (cr : Nat) (right : List H32) (hcl : left.length ≤ cl) (hcr : right.length ≤ cr) (w0 : World) (hR : Ro w0 [] (SlA A (hcs ls))) (hl : Ro w0 [] (SlA Bl (hcs left))) (hr : Ro w0 [] (SlA Br (hcs right))) (hT : Tabs 2 0 w0 []) (hT2 : Tabs 3 1 w0 []) : Calls Tryd.prog 14 #[.int .i64 z, .int .u64 (f : Int), .agg #[.slice A ls.length c, .slice Bl left.length cl, .slice Br right.length cr]] w0 (Post w0 [] fun v L => v = .bool true ∧ L = []) := by
  have hEm : ∀ w, Tabs 2 0 w [] → Calls Tryd.prog 88 #[] w (Ret w (.agg (hcs (emptL emptyH)).toArray)) := fun w h => empties_R w h
  have hE : ∀ h, emptyH (h + 1) = joinH (h + 1) (emptyH h) (emptyH h) := fun _ => rfl
  by_cases g1 : 60 < ls.length
  · exact law14_walkE1 emptyH hEm hE z f A c ls Bl cl left Br cr right g1 w0 hT
  · by_cases g2 : 100 < left.length
    · exact law14_walkE2 emptyH hEm hE z f A c ls Bl cl left Br cr right (by omega) g2 w0 hT
    · by_cases g3 : 100 < right.length
      · exact law14_walkE3 emptyH hEm hE z f A c ls Bl cl left Br cr right (by omega) (by omega) g3 w0 hT
      · exact law14_walk emptyH hEm hE z f A c ls Bl cl left Br cr right hf64 (by omega) (by omega) (by omega) hcl hcr w0 hR hl hr hT hT2

end Go.Proofs.YtlneklemjfefpaaDoor
