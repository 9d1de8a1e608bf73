/-
  Walks: the root that a span comes to. Printed by a program of ours.
-/
import Derived.Test.YtlneklemjfefpaaDoorVB
import Derived.Test.YtlneklemjfefpaaDoorRW
import Derived.Test.YtlneklemjfefpaaDoorTV
namespace Go.Proofs.YtlneklemjfefpaaDoor
open Go.E
set_option linter.unusedVariables false
set_option maxRecDepth 4000
theorem Tryd.ent114 : Enters Tryd.prog 114 := ⟨_, Tryd.func114, by kernel_rfl, rfl⟩
theorem Tryd.ent115 : Enters Tryd.prog 115 := ⟨_, Tryd.func115, by kernel_rfl, rfl⟩
theorem getD_drop0 (l : List H32) (i : Nat) : (l.drop i).getD 0 zeroH = l.getD i zeroH := by simp [List.getD]
theorem lenL_lt {f k h : Nat} {left : List H32} (hl : (sideL f h).length = left.length) (hk : k < h) (o : f / 2 ^ k % 2 = 1) : (sideL f k).length < left.length := by
  obtain ⟨rest, e⟩ := sideL_pre (f := f) (k := k + 1) (h := h) hk
  rw [sideL_1 o] at e
  rw [← hl, e]; simp
theorem lenR_lt {b k h : Nat} {right : List H32} (hl : (sideR b h).length = right.length) (hk : k < h) (o : b / 2 ^ k % 2 = 0) : (sideR b k).length < right.length := by
  obtain ⟨rest, e⟩ := sideR_pre (b := b) (k := k + 1) (h := h) hk
  rw [sideR_1 o] at e
  rw [← hl, e]; simp
set_option maxHeartbeats 400000 in
theorem cloneh2_walk (A : Option Addr) (n c : Nat) (ps : List H32) (hn : ps.length = n) (hx : n ≤ 4096) (w0 : World) (hR : Ro w0 [] (SlA A (hcs ps))) :
    Calls Tryd.prog 100 #[.slice A n c] w0 (Post w0 [] fun v L => ∃ O d, v = .slice O n d ∧ L = [OwnA 23 32 O n d (hcs ps)]) := by
  refine Calls.of (L := []) (n := 8) (rs := [.tmp 2]) Tryd.func100 rfl rfl rfl (Nat.le_of_ble_eq_true rfl) (Sat.nil _) ?_
  refine TC.ownNil 23 32 ?_
  refine TC.seq ?_
  refine TC.region ?_
  refine S.q rfl rfl (Qt.assign (by conv => lhs; whnf)) ?_
  refine S.nil ?_
  refine TC.seq ?_
  refine TC.seq ?_
  refine TC.region ?_
  refine S.q rfl rfl (Qt.move (by conv => lhs; whnf)) ?_
  refine S.q rfl rfl (Qt.eqsl Tryd.underlying44 rfl) ?_
  refine S.nil ?_
  refine TC.ifb rfl (fun hnl => ?_) (fun hnl => ?_)
  · refine TC.seq ?_
    refine TC.region ?_
    refine S.q rfl rfl (Qt.assign (by conv => lhs; whnf)) ?_
    refine S.nil ?_
    refine TC.ret ?_
    refine finQ.ret (RVs.tmp (by conv => lhs; whnf) RVs.nil) (Sub.refl _) ?_
    obtain rfl : A = none := Option.isNone_iff_eq_none.1 hnl
    obtain rfl : ps = [] := hcs_nil_of (SlA.none_nil hR.1)
    obtain rfl : n = 0 := hn.symm
    exact ⟨none, 0, rfl, rfl⟩
  · refine TC.skip ?_
    refine TC.seq ?_
    refine TC.region ?_
    refine S.opS rfl rfl (OpV.slice0 Tryd.underlying44 ⟨_, Tryd.elem23⟩ (fun g5 => ?_))
    refine S.q rfl rfl (Qt.move (by conv => lhs; whnf)) ?_
    refine S.opS rfl rfl (OpV.app0 (bytes := 32) (news := hcs ps) Tryd.underlying44 Tryd.elem23 rfl rfl (Has.ro hR) (by rw [hcs_length, hn]) (hcs_one _) (by simp only [maxLen]; omega) (by omega) (fun O d => ?_))
    refine S.q rfl rfl (Qt.assign (by conv => lhs; whnf)) ?_
    refine S.nil ?_
    refine TC.ret ?_
    refine finQ.ret (RVs.tmp (by conv => lhs; whnf) RVs.nil) (Sub.keep _ (Sub.drop _ (Sub.nil _))) ?_
    exact ⟨O, d, by rw [Nat.zero_add]; rfl, by rw [Nat.zero_add, List.nil_append]⟩
set_option maxHeartbeats 400000 in
theorem right11Z_walk (z : Int) (hz : z < 0 ∨ 32 < z) (f : Nat) (m : Int) (w0 : World) :
    Calls Tryd.prog 49 #[.int .i64 z, .int .u64 (f : Int), .int .i64 m] w0 (Post w0 [] fun v L => v = .bool false ∧ L = []) := by
  refine Calls.of (L := []) (n := 35) (rs := [.tmp 6]) Tryd.func49 rfl rfl rfl (Nat.le_of_ble_eq_true rfl) (Sat.nil _) ?_
  refine TC.seq ?_
  refine TC.region ?_
  refine S.q rfl rfl (Qt.assign (by conv => lhs; whnf)) ?_
  refine S.nil ?_
  refine TC.seq ?_
  refine TC.seq ?_
  refine TC.region ?_
  refine S.q rfl rfl (Qt.move (by conv => lhs; whnf)) ?_
  refine S.dec rfl rfl (Qt.lti rfl rfl) (fun h9 => ?_) (fun h9 => ?_)
  · refine S.q rfl rfl (Qt.move (by conv => lhs; whnf)) ?_
    refine S.pass rfl rfl ?_
    refine S.pass rfl rfl ?_
    refine S.q rfl rfl (Qt.pick_t rfl (by conv => lhs; whnf)) ?_
    refine S.q rfl rfl (Qt.move (by conv => lhs; whnf)) ?_
    refine S.pass rfl rfl ?_
    refine S.pass rfl rfl ?_
    refine S.q rfl rfl (Qt.pick_t rfl (by conv => lhs; whnf)) ?_
    refine S.q rfl rfl (Qt.move (by conv => lhs; whnf)) ?_
    refine S.pass rfl rfl ?_
    refine S.pass rfl rfl ?_
    refine S.q rfl rfl (Qt.pick_t rfl (by conv => lhs; whnf)) ?_
    refine S.nil ?_
    refine S.if_t rfl ?_
    refine TC.seq ?_
    refine TC.region ?_
    refine S.q rfl rfl (Qt.assign (by conv => lhs; whnf)) ?_
    refine S.nil ?_
    refine TC.ret ?_
    refine finQ.ret (RVs.tmp (by conv => lhs; whnf) RVs.nil) (Sub.nil _) ?_
    exact ⟨rfl, rfl⟩
  · refine S.q rfl rfl (Qt.move (by conv => lhs; whnf)) ?_
    refine S.qg rfl rfl rfl (Qt.move (by conv => lhs; whnf)) ?_
    refine S.qg rfl rfl rfl (Qt.dT (Qt.gti rfl rfl) (by omega)) ?_
    refine S.q rfl rfl (Qt.pick_f rfl (by conv => lhs; whnf)) ?_
    refine S.q rfl rfl (Qt.move (by conv => lhs; whnf)) ?_
    refine S.pass rfl rfl ?_
    refine S.pass rfl rfl ?_
    refine S.q rfl rfl (Qt.pick_t rfl (by conv => lhs; whnf)) ?_
    refine S.q rfl rfl (Qt.move (by conv => lhs; whnf)) ?_
    refine S.pass rfl rfl ?_
    refine S.pass rfl rfl ?_
    refine S.q rfl rfl (Qt.pick_t rfl (by conv => lhs; whnf)) ?_
    refine S.nil ?_
    refine S.if_t rfl ?_
    refine TC.seq ?_
    refine TC.region ?_
    refine S.q rfl rfl (Qt.assign (by conv => lhs; whnf)) ?_
    refine S.nil ?_
    refine TC.ret ?_
    refine finQ.ret (RVs.tmp (by conv => lhs; whnf) RVs.nil) (Sub.nil _) ?_
    exact ⟨rfl, rfl⟩
theorem right11Z_R (z : Int) (hz : z < 0 ∨ 32 < z) (f : Nat) (m : Int) (w0 : World) : Calls Tryd.prog 49 #[.int .i64 z, .int .u64 (f : Int), .int .i64 m] w0 (Ret w0 (.bool false)) := Calls.ret (right11Z_walk z hz f m w0)

set_option maxHeartbeats 400000 in
theorem counts_walkY (y : Int) (f : Nat) (z : Int) (hr : ∀ w, Calls Tryd.prog 49 #[.int .i64 y, .int .u64 (f : Int), .int .i64 z] w (Ret w (.bool false))) (w0 : World) :
    Calls Tryd.prog 48 #[.int .i64 y, .int .u64 (f : Int), .int .i64 z] w0 (Post w0 [] fun v L => v = .tuple #[.int .i64 0, .int .i64 0, .iface 58 (.int .i64 1)] ∧ L = []) := by
  refine Calls.of (L := []) (n := 23) (rs := [.cell 6 3, .cell 7 3, .tmp 8]) Tryd.func48 rfl rfl rfl (Nat.le_of_ble_eq_true rfl) (Sat.nil _) ?_
  refine TC.seq ?_
  refine TC.region ?_
  refine S.opS rfl rfl (OpV.alloc Tryd.zero3 (fun b6 => ?_))
  refine S.opS rfl rfl (OpV.alloc Tryd.zero3 (fun b7 => ?_))
  refine S.q rfl rfl (Qt.assign (by conv => lhs; whnf)) ?_
  refine S.nil ?_
  refine TC.seq ?_
  refine TC.seq ?_
  refine TC.region ?_
  refine S.q rfl rfl (Qt.move (by conv => lhs; whnf)) ?_
  refine S.q rfl rfl (Qt.move (by conv => lhs; whnf)) ?_
  refine S.q rfl rfl (Qt.move (by conv => lhs; whnf)) ?_
  refine S.opS rfl rfl (OpV.con0 Tryd.ent49 rfl (fun w hw => hr w) ?_)
  refine S.q rfl rfl (Qt.not_f rfl) ?_
  refine S.nil ?_
  refine S.if_t rfl ?_
  refine TC.seq ?_
  refine TC.region ?_
  refine S.q rfl rfl (Qt.makeInterface Tryd.underlying58 (fun _ h => nomatch h) (by conv => lhs; whnf)) ?_
  refine S.opN rfl (OpV.storeV1 rfl (by conv => lhs; whnf) (by exact Tryd.cells3) (by rfl) (by rfl) ?_)
  refine S.opN rfl (OpV.storeV0 rfl (by conv => lhs; whnf) (by exact Tryd.cells3) (by rfl) (by rfl) ?_)
  refine S.q rfl rfl (Qt.assign (by conv => lhs; whnf)) ?_
  refine S.nil ?_
  refine TC.ret ?_
  refine finQ.ret (RVs.cell rfl (Ld.one (Has.at 1 rfl) Tryd.one3 (rfl)) (RVs.cell rfl (Ld.one (Has.at 0 rfl) Tryd.one3 (rfl)) (RVs.tmp (by conv => lhs; whnf) RVs.nil))) (Sub.nil _) ?_
  exact ⟨rfl, rfl⟩
set_option maxHeartbeats 400000 in
theorem sroot_walk1 (y : Int) (f : Nat) (A : Option Addr) (c : Nat) (ls : List H32) (Bl : Option Addr) (cl : Nat) (left : List H32) (Br : Option Addr) (cr : Nat) (right : List H32) (hf : ∀ w, Calls Tryd.prog 49 #[.int .i64 y, .int .u64 (f : Int), .int .i64 (ls.length : Int)] w (Ret w (.bool false))) (w0 : World) :
    Calls Tryd.prog 73 #[.int .i64 y, .int .u64 (f : Int), .slice A ls.length c, .agg #[.slice Bl left.length cl, .slice Br right.length cr]] w0 (Post w0 [] fun v L => v = .tuple #[hv zeroH, .iface 58 (.int .i64 1)] ∧ L = []) := by
  refine Calls.of (L := []) (n := 106) (rs := [.cell 8 23, .tmp 9]) Tryd.func73 rfl rfl rfl (Nat.le_of_ble_eq_true rfl) (Sat.nil _) ?_
  refine TC.seq ?_
  refine TC.region ?_
  refine S.opS rfl rfl (OpV.box (v := .agg #[.slice Bl left.length cl, .slice Br right.length cr]) rfl (fun b7 => ?_))
  refine S.opS rfl rfl (OpV.alloc Tryd.zero23 (fun b8 => ?_))
  refine S.q rfl rfl (Qt.assign (by conv => lhs; whnf)) ?_
  refine S.nil ?_
  refine TC.seq ?_
  refine TC.region ?_
  refine S.q rfl rfl (Qt.move (by conv => lhs; whnf)) ?_
  refine S.q rfl rfl (Qt.move (by conv => lhs; whnf)) ?_
  refine S.q rfl rfl (Qt.move (by conv => lhs; whnf)) ?_
  refine S.q rfl rfl (Qt.len_slice Tryd.underlying44 rfl) ?_
  refine S.opS rfl rfl (OpV.con0 Tryd.ent48 rfl (fun w hw => Calls.ret (counts_walkY y f (ls.length : Int) hf w)) ?_)
  refine S.q rfl rfl (Qt.move (by conv => lhs; whnf)) ?_
  refine S.q rfl rfl (Qt.extract rfl rfl) ?_
  refine S.q rfl rfl (Qt.extract rfl rfl) ?_
  refine S.q rfl rfl (Qt.extract rfl rfl) ?_
  refine S.q rfl rfl (Qt.assign (by conv => lhs; whnf)) ?_
  refine S.q rfl rfl (Qt.assign (by conv => lhs; whnf)) ?_
  refine S.q rfl rfl (Qt.assign (by conv => lhs; whnf)) ?_
  refine S.nil ?_
  refine TC.seq ?_
  refine TC.block ?_
  refine TC.seq ?_
  refine TC.region ?_
  refine S.q rfl rfl (Qt.move (by conv => lhs; whnf)) ?_
  refine S.q rfl rfl (Qt.nenil_iface Tryd.underlying27 rfl) ?_
  refine S.q rfl rfl (Qt.assign (by conv => lhs; whnf)) ?_
  refine S.nil ?_
  refine S.if_t rfl ?_
  refine TC.seq ?_
  refine TC.region ?_
  refine S.q rfl rfl (Qt.build (v := hv zeroH) rfl (fun _ => by kernel_rfl)) ?_
  refine S.q rfl rfl (Qt.move (by conv => lhs; whnf)) ?_
  refine S.opN rfl (OpV.storeV0 (v := hv (zeroH)) rfl rfl (hv_size Tryd.cells23) (hv_all _) (hv_len _) ?_)
  refine S.q rfl rfl (Qt.assign (by conv => lhs; whnf)) ?_
  refine S.nil ?_
  refine TC.ret ?_
  refine finQ.ret (RVs.cell rfl (Ld.all (Has.at 0 rfl) Tryd.row23 (hv_size Tryd.cells23)) (RVs.tmp (by conv => lhs; whnf) RVs.nil)) (Sub.nil _) ?_
  exact ⟨rfl, rfl⟩
set_option maxHeartbeats 400000 in
theorem sroot_walk5 (h f : Nat) (hh : h ≤ 32) (hf64 : f < 18446744073709551616) (A : Option Addr) (c : Nat) (ls : List H32) (Bl : Option Addr) (cl : Nat) (left : List H32) (Br : Option Addr) (cr : Nat) (right : List H32) (h1 : 1 ≤ ls.length) (h2 : ls.length ≤ 256) (hf : f + ls.length ≤ 2 ^ h) (h3 : ¬ ((sideL f h).length = left.length ∧ (sideR (f + ls.length - 1) h).length = right.length)) (w0 : World) :
    Calls Tryd.prog 73 #[.int .i64 (h : Int), .int .u64 (f : Int), .slice A ls.length c, .agg #[.slice Bl left.length cl, .slice Br right.length cr]] w0 (Post w0 [] fun v L => v = .tuple #[hv zeroH, .iface 58 (.int .i64 5)] ∧ L = []) := by
  refine Calls.of (L := []) (n := 106) (rs := [.cell 8 23, .tmp 9]) Tryd.func73 rfl rfl rfl (Nat.le_of_ble_eq_true rfl) (Sat.nil _) ?_
  refine TC.seq ?_
  refine TC.region ?_
  refine S.opS rfl rfl (OpV.box (v := .agg #[.slice Bl left.length cl, .slice Br right.length cr]) rfl (fun b7 => ?_))
  refine S.opS rfl rfl (OpV.alloc Tryd.zero23 (fun b8 => ?_))
  refine S.q rfl rfl (Qt.assign (by conv => lhs; whnf)) ?_
  refine S.nil ?_
  refine TC.seq ?_
  refine TC.region ?_
  refine S.q rfl rfl (Qt.move (by conv => lhs; whnf)) ?_
  refine S.q rfl rfl (Qt.move (by conv => lhs; whnf)) ?_
  refine S.q rfl rfl (Qt.move (by conv => lhs; whnf)) ?_
  refine S.q rfl rfl (Qt.len_slice Tryd.underlying44 rfl) ?_
  refine S.opS rfl rfl (OpV.con0 Tryd.ent48 rfl (fun w hw => Calls.ret (counts_walk h f ls.length hh hf64 hf h1 h2 w)) ?_)
  refine S.q rfl rfl (Qt.move (by conv => lhs; whnf)) ?_
  refine S.q rfl rfl (Qt.extract rfl rfl) ?_
  refine S.q rfl rfl (Qt.extract rfl rfl) ?_
  refine S.q rfl rfl (Qt.extract rfl rfl) ?_
  refine S.q rfl rfl (Qt.assign (by conv => lhs; whnf)) ?_
  refine S.q rfl rfl (Qt.assign (by conv => lhs; whnf)) ?_
  refine S.q rfl rfl (Qt.assign (by conv => lhs; whnf)) ?_
  refine S.nil ?_
  refine TC.seq ?_
  refine TC.block ?_
  refine TC.seq ?_
  refine TC.region ?_
  refine S.q rfl rfl (Qt.move (by conv => lhs; whnf)) ?_
  refine S.q rfl rfl (Qt.nenil_nil Tryd.underlying27 rfl) ?_
  refine S.q rfl rfl (Qt.assign (by conv => lhs; whnf)) ?_
  refine S.nil ?_
  refine S.if_f rfl ?_
  refine TC.seq ?_
  refine TC.region ?_
  refine S.q rfl rfl (Qt.field Tryd.underlying77 rfl Tryd.cells44 rfl) ?_
  refine S.q rfl rfl (Qt.load rfl (Ld.one (v := .slice Bl left.length cl) (Has.at 1 rfl) Tryd.one44 rfl)) ?_
  refine S.q rfl rfl (Qt.len_slice Tryd.underlying44 rfl) ?_
  refine S.q rfl rfl (Qt.move (by conv => lhs; whnf)) ?_
  refine S.dec rfl rfl (Qt.ne rfl rfl) (fun h38 => ?_) (fun h38 => ?_)
  · refine S.q rfl rfl (Qt.move (by conv => lhs; whnf)) ?_
    refine S.pass rfl rfl ?_
    refine S.pass rfl rfl ?_
    refine S.pass rfl rfl ?_
    refine S.pass rfl rfl ?_
    refine S.pass rfl rfl ?_
    refine S.q rfl rfl (Qt.pick_t rfl (by conv => lhs; whnf)) ?_
    refine S.q rfl rfl (Qt.assign (by conv => lhs; whnf)) ?_
    refine S.nil ?_
    refine S.if_t rfl ?_
    refine TC.seq ?_
    refine TC.region ?_
    refine S.q rfl rfl (Qt.build (v := hv zeroH) rfl (fun _ => by kernel_rfl)) ?_
    refine S.q rfl rfl (Qt.makeInterface Tryd.underlying58 (fun _ h => nomatch h) (by conv => lhs; whnf)) ?_
    refine S.opN rfl (OpV.storeV0 (v := hv (zeroH)) rfl rfl (hv_size Tryd.cells23) (hv_all _) (hv_len _) ?_)
    refine S.q rfl rfl (Qt.assign (by conv => lhs; whnf)) ?_
    refine S.nil ?_
    refine TC.ret ?_
    refine finQ.ret (RVs.cell rfl (Ld.all (Has.at 0 rfl) Tryd.row23 (hv_size Tryd.cells23)) (RVs.tmp (by conv => lhs; whnf) RVs.nil)) (Sub.nil _) ?_
    exact ⟨rfl, rfl⟩
  · refine S.q rfl rfl (Qt.move (by conv => lhs; whnf)) ?_
    refine S.qg rfl rfl rfl (Qt.field Tryd.underlying77 rfl Tryd.cells44 rfl) ?_
    refine S.qg rfl rfl rfl (Qt.load rfl (Ld.one (v := .slice Br right.length cr) (Has.at 1 rfl) Tryd.one44 rfl)) ?_
    refine S.qg rfl rfl rfl (Qt.len_slice Tryd.underlying44 rfl) ?_
    refine S.qg rfl rfl rfl (Qt.move (by conv => lhs; whnf)) ?_
    refine S.qg rfl rfl rfl (Qt.dT (Qt.ne rfl rfl) (fun e => h3 ⟨(Decidable.not_not.1 h38).symm, e.symm⟩)) ?_
    refine S.q rfl rfl (Qt.pick_f rfl (by conv => lhs; whnf)) ?_
    refine S.q rfl rfl (Qt.assign (by conv => lhs; whnf)) ?_
    refine S.nil ?_
    refine S.if_t rfl ?_
    refine TC.seq ?_
    refine TC.region ?_
    refine S.q rfl rfl (Qt.build (v := hv zeroH) rfl (fun _ => by kernel_rfl)) ?_
    refine S.q rfl rfl (Qt.makeInterface Tryd.underlying58 (fun _ h => nomatch h) (by conv => lhs; whnf)) ?_
    refine S.opN rfl (OpV.storeV0 (v := hv (zeroH)) rfl rfl (hv_size Tryd.cells23) (hv_all _) (hv_len _) ?_)
    refine S.q rfl rfl (Qt.assign (by conv => lhs; whnf)) ?_
    refine S.nil ?_
    refine TC.ret ?_
    refine finQ.ret (RVs.cell rfl (Ld.all (Has.at 0 rfl) Tryd.row23 (hv_size Tryd.cells23)) (RVs.tmp (by conv => lhs; whnf) RVs.nil)) (Sub.nil _) ?_
    exact ⟨rfl, rfl⟩
set_option maxHeartbeats 3200000 in
theorem sroot_walk0 (h f : Nat) (hh : h ≤ 32) (hf64 : f < 18446744073709551616) (A : Option Addr) (c : Nat) (ls : List H32) (Bl : Option Addr) (cl : Nat) (left : List H32) (Br : Option Addr) (cr : Nat) (right : List H32) (h1 : 1 ≤ ls.length) (h2 : ls.length ≤ 256) (hf : f + ls.length ≤ 2 ^ h) (hLl : (sideL f h).length = left.length) (hLr : (sideR (f + ls.length - 1) h).length = right.length) (hcl : left.length ≤ cl) (hcr : right.length ≤ cr) (w0 : World) (hR : Ro w0 [] (SlA A (hcs ls))) (hl : Ro w0 [] (SlA Bl (hcs left))) (hr : Ro w0 [] (SlA Br (hcs right))) (hT : Tabs 2 0 w0 []) :
    Calls Tryd.prog 73 #[.int .i64 (h : Int), .int .u64 (f : Int), .slice A ls.length c, .agg #[.slice Bl left.length cl, .slice Br right.length cr]] w0 (Post w0 [] fun v L => v = .tuple #[hv (refN ((sideL f h).zip left) ((sideR (f + ls.length - 1) h).zip right) ls f h 0), .nilIface] ∧ L = []) := by
  refine Calls.of (L := []) (n := 106) (rs := [.cell 8 23, .tmp 9]) Tryd.func73 rfl rfl rfl (Nat.le_of_ble_eq_true rfl) (Sat.nil _) ?_
  have hpw : 2 ^ h ≤ 4294967296 := (show 2 ^ h ≤ 2 ^ 32 from Nat.pow_le_pow_right (by decide) hh)
  have ctx : RowCtx f ls.length h ls left right := ⟨h1, hf, rfl, hLl, hLr⟩
  refine TC.seq ?_
  refine TC.region ?_
  refine S.opS rfl rfl (OpV.box (v := .agg #[.slice Bl left.length cl, .slice Br right.length cr]) rfl (fun b7 => ?_))
  refine S.opS rfl rfl (OpV.alloc Tryd.zero23 (fun b8 => ?_))
  refine S.q rfl rfl (Qt.assign (by conv => lhs; whnf)) ?_
  refine S.nil ?_
  refine TC.seq ?_
  refine TC.region ?_
  refine S.q rfl rfl (Qt.move (by conv => lhs; whnf)) ?_
  refine S.q rfl rfl (Qt.move (by conv => lhs; whnf)) ?_
  refine S.q rfl rfl (Qt.move (by conv => lhs; whnf)) ?_
  refine S.q rfl rfl (Qt.len_slice Tryd.underlying44 rfl) ?_
  refine S.opS rfl rfl (OpV.con0 Tryd.ent48 rfl (fun w hw => Calls.ret (counts_walk h f ls.length hh hf64 hf h1 h2 w)) ?_)
  refine S.q rfl rfl (Qt.move (by conv => lhs; whnf)) ?_
  refine S.q rfl rfl (Qt.extract rfl rfl) ?_
  refine S.q rfl rfl (Qt.extract rfl rfl) ?_
  refine S.q rfl rfl (Qt.extract rfl rfl) ?_
  refine S.q rfl rfl (Qt.assign (by conv => lhs; whnf)) ?_
  refine S.q rfl rfl (Qt.assign (by conv => lhs; whnf)) ?_
  refine S.q rfl rfl (Qt.assign (by conv => lhs; whnf)) ?_
  refine S.nil ?_
  refine TC.seq ?_
  refine TC.block ?_
  refine TC.seq ?_
  refine TC.region ?_
  refine S.q rfl rfl (Qt.move (by conv => lhs; whnf)) ?_
  refine S.q rfl rfl (Qt.nenil_nil Tryd.underlying27 rfl) ?_
  refine S.q rfl rfl (Qt.assign (by conv => lhs; whnf)) ?_
  refine S.nil ?_
  refine S.if_f rfl ?_
  refine TC.seq ?_
  refine TC.region ?_
  refine S.q rfl rfl (Qt.field Tryd.underlying77 rfl Tryd.cells44 rfl) ?_
  refine S.q rfl rfl (Qt.load rfl (Ld.one (v := .slice Bl left.length cl) (Has.at 1 rfl) Tryd.one44 rfl)) ?_
  refine S.q rfl rfl (Qt.len_slice Tryd.underlying44 rfl) ?_
  refine S.q rfl rfl (Qt.move (by conv => lhs; whnf)) ?_
  refine S.q rfl rfl (Qt.dF (Qt.ne rfl rfl) (fun e => e hLl.symm)) ?_
  refine S.q rfl rfl (Qt.move (by conv => lhs; whnf)) ?_
  refine S.qg rfl rfl rfl (Qt.field Tryd.underlying77 rfl Tryd.cells44 rfl) ?_
  refine S.qg rfl rfl rfl (Qt.load rfl (Ld.one (v := .slice Br right.length cr) (Has.at 1 rfl) Tryd.one44 rfl)) ?_
  refine S.qg rfl rfl rfl (Qt.len_slice Tryd.underlying44 rfl) ?_
  refine S.qg rfl rfl rfl (Qt.move (by conv => lhs; whnf)) ?_
  refine S.qg rfl rfl rfl (Qt.dF (Qt.ne rfl rfl) (fun e => e hLr.symm)) ?_
  refine S.q rfl rfl (Qt.pick_f rfl (by conv => lhs; whnf)) ?_
  refine S.q rfl rfl (Qt.assign (by conv => lhs; whnf)) ?_
  refine S.nil ?_
  refine S.if_f rfl ?_
  refine TC.skip ?_
  refine TC.seq ?_
  refine TC.region ?_
  refine S.q rfl rfl (Qt.move (by conv => lhs; whnf)) ?_
  refine S.opS rfl rfl (OpV.con (Pre := []) (R := _) Tryd.ent100 rfl (List.Perm.refl _) (fun w hw => cloneh2_walk A ls.length c ls rfl (by omega) w (Rd.ro hR w hw)) ?_)
  rintro v L' ⟨O, d, rfl, rfl⟩
  refine S.q rfl rfl (Qt.assign (by conv => lhs; whnf)) ?_
  refine S.nil ?_
  refine TC.seq ?_
  refine TC.region ?_
  refine S.q rfl rfl (Qt.move (by conv => lhs; whnf)) ?_
  refine S.q rfl rfl (Qt.move (by conv => lhs; whnf)) ?_
  refine S.q rfl rfl (Qt.move (by conv => lhs; whnf)) ?_
  refine S.q rfl rfl (Qt.len_slice Tryd.underlying44 rfl) ?_
  refine S.q rfl rfl (Qt.convert Tryd.underlying3 Tryd.underlying24 rfl (by simp only [kmax]; omega)) ?_
  refine S.q rfl rfl (Qt.add rfl rfl (by simp only [kmax]; omega)) ?_
  refine S.q rfl rfl (Qt.sub (b := 1) rfl rfl (by omega) (by simp only [kmax]; omega)) ?_
  refine S.q rfl rfl (Qt.assign (by conv => lhs; whnf)) ?_
  refine S.q rfl rfl (Qt.assign (by conv => lhs; whnf)) ?_
  refine S.nil ?_
  refine TC.seq ?_
  refine S.draw ([], []) Tryd.mixed (Sub.nil _) ?_
  refine D.qX (k := 0) rfl (by kernel_rfl) (by kernel_rfl) (by kernel_rfl) rfl rfl (Qt.field Tryd.underlying77 rfl Tryd.cells44 rfl) ?_
  refine D.qX (k := 1) rfl (by kernel_rfl) (by kernel_rfl) (by kernel_rfl) rfl rfl (Qt.load rfl (Ld.one (v := .slice Bl left.length cl) (Has.at 2 rfl) Tryd.one44 rfl)) ?_
  refine D.qX (k := 2) rfl (by kernel_rfl) (by kernel_rfl) (by kernel_rfl) rfl rfl (Qt.field Tryd.underlying77 rfl Tryd.cells44 rfl) ?_
  refine D.qX (k := 3) rfl (by kernel_rfl) (by kernel_rfl) (by kernel_rfl) rfl rfl (Qt.load rfl (Ld.one (v := .slice Br right.length cr) (Has.at 2 rfl) Tryd.one44 rfl)) ?_
  refine D.qX (k := 4) rfl (by kernel_rfl) (by kernel_rfl) (by kernel_rfl) rfl rfl (Qt.assign (by conv => lhs; whnf)) ?_
  refine D.qX (k := 5) rfl (by kernel_rfl) (by kernel_rfl) (by kernel_rfl) rfl rfl (Qt.assign (by conv => lhs; whnf)) ?_
  refine D.done (Sub.nil _) (by kernel_rfl) ?_
  refine TC.seq ?_
  refine TC.seq ?_
  refine TC.region ?_
  refine S.q rfl rfl (Qt.move (by conv => lhs; whnf)) ?_
  refine S.q rfl rfl (Qt.move (by conv => lhs; whnf)) ?_
  refine S.nil ?_
  refine TC.block ?_
  refine TC.loop (γ := Nat × (Option Addr × Nat) × (Option Addr × Nat) × (Option Addr × Nat)) [63, 64, 18, 65, 66, 67, 68, 69, 70, 71, 72, 73, 13, 74, 75, 16, 76, 77, 78, 79, 80, 81, 82, 83, 84, 85, 86, 17, 88, 89, 90, 91, 87, 92, 93, 12, 94, 95, 96, 97, 9, 98, 99, 100, 101, 14, 15, 102, 62] (fun g => [(62, .int .i64 ((g.1 : Nat) : Int)), (13, .slice g.2.1.1 (rowLv f ls.length h ls left right g.1).length g.2.1.2), (14, .int .u64 ((f / 2 ^ g.1 : Nat) : Int)), (15, .int .u64 (((f + ls.length - 1) / 2 ^ g.1 : Nat) : Int)), (16, .slice g.2.2.1.1 (left.drop (sideL f g.1).length).length g.2.2.1.2), (17, .slice g.2.2.2.1 (right.drop (sideR (f + ls.length - 1) g.1).length).length g.2.2.2.2)]) (fun g => [OwnA 23 32 g.2.1.1 (rowLv f ls.length h ls left right g.1).length g.2.1.2 (hcs (rowLv f ls.length h ls left right g.1)), Blk b8 23 (List.replicate 32 (.int .u8 0)), Blk b7 77 [.slice Bl left.length cl, .slice Br right.length cr]]) (fun g => g.1 ≤ h ∧ Less Bl left (sideL f g.1).length g.2.2.1.1 g.2.2.1.2 ∧ Less Br right (sideR (f + ls.length - 1) g.1).length g.2.2.2.1 g.2.2.2.2) (fun g => h - g.1) ((0, (O, d), (Bl, cl), (Br, cr)))
    ⟨Nat.zero_le _, Less.zero hcl, Less.zero hcr⟩ ⟨Out.refl _ _, (List.forall_mem_cons.2 ⟨rfl, (List.forall_mem_cons.2 ⟨(by show Value.slice O ls.length d = Value.slice O (rowLv f ls.length h ls left right 0).length d; rw [ctx.zero]), (List.forall_mem_cons.2 ⟨(by show Value.int .u64 (f : Int) = Value.int .u64 ((f / 2 ^ 0 : Nat) : Int); rw [Nat.pow_zero, Nat.div_one]), (List.forall_mem_cons.2 ⟨(by show Value.int .u64 (((f + ls.length - 1) : Nat) : Int) = Value.int .u64 (((f + ls.length - 1) / 2 ^ 0 : Nat) : Int); rw [Nat.pow_zero, Nat.div_one]), (List.forall_mem_cons.2 ⟨rfl, (List.forall_mem_cons.2 ⟨rfl, (fun _ h => nomatch h)⟩)⟩)⟩)⟩)⟩)⟩)⟩ ((by dsimp only; rw [ctx.zero]; exact Sub.refl _)) ?_
  rintro ⟨k, ⟨O, d⟩, ⟨A1, c1⟩, ⟨A2, c2⟩⟩ u ⟨hk, le1, le2⟩
  dsimp only at hk le1 le2
  obtain ⟨hpos, hlen⟩ := ctx.lenAt k
  refine TC.seq ?_
  refine TC.region ?_
  refine S.dec rfl rfl (Qt.lt rfl rfl) (fun h63 => ?_) (fun h63 => ?_)
  · refine S.nil ?_
    refine TC.seq ?_
    refine S.if_t rfl ?_
    refine TC.skip ?_
    refine TC.seq ?_
    refine TC.block ?_
    refine TC.seq ?_
    refine TC.region ?_
    refine S.q rfl rfl (Qt.move (by conv => lhs; whnf)) ?_
    refine S.q rfl rfl (Qt.assign (by conv => lhs; whnf)) ?_
    refine S.nil ?_
    refine TC.seq ?_
    refine TC.seq ?_
    refine TC.region ?_
    refine S.q rfl rfl (Qt.move (by conv => lhs; whnf)) ?_
    refine S.q rfl rfl (Qt.rem (b := 2) rfl rfl (by omega)) ?_
    refine S.dec rfl rfl (Qt.eq (b := 1) rfl rfl) (fun h67 => ?_) (fun h67 => ?_)
    · refine S.nil ?_
      refine S.if_t rfl ?_
      refine TC.seq ?_
      refine TC.region ?_
      refine S.q rfl rfl (Qt.move (by conv => lhs; whnf)) ?_
      refine S.q rfl rfl (Qt.move (by conv => lhs; whnf)) ?_
      refine S.q rfl rfl (Qt.index (i := 0) Tryd.underlying44 Tryd.cells23 rfl rfl (by show 0 < (left.drop (sideL f k).length).length; rw [List.length_drop]; have := lenL_lt ctx.lenL (show k < h from h63) (show f / 2 ^ k % 2 = 1 from h67); omega) (Has.ro (le1.ro _ _ hl)) (by show 0 * 32 < (hcs (left.drop (sideL f k).length)).length; rw [hcs_length, List.length_drop]; have := lenL_lt ctx.lenL (show k < h from h63) (show f / 2 ^ k % 2 = 1 from h67); omega)) ?_
      refine S.q rfl rfl (Qt.as (Qt.load rfl (Ld.hashS (l := left.drop (sideL f k).length) (Has.ro (le1.ro _ _ hl)) 0 Tryd.row23 Tryd.cells23 (by rw [List.length_drop]; have := lenL_lt ctx.lenL (show k < h from h63) (show f / 2 ^ k % 2 = 1 from h67); omega) rfl)) (by rw [getD_drop0])) ?_
      refine S.opS rfl rfl (OpV.slice1 (bytes := 32) (v := hv (left.getD (sideL f k).length zeroH)) Tryd.underlying44 Tryd.elem23 (by decide) rfl (hv_len _) (fun g72 => ?_))
      refine S.opS rfl rfl (OpV.con (Pre := [OwnA 23 32 O (rowLv f ls.length h ls left right k).length d (hcs (rowLv f ls.length h ls left right k))]) (R := _) Tryd.ent114 rfl (List.perm_middle (l₁ := [_])) (fun w hw => insert_walk O d (rowLv f ls.length h ls left right k) g72 (left.getD (sideL f k).length zeroH) hpos (by omega) w hw.sat.left (Ro.of_rest hw (.head _))) ?_)
      rintro v L' ⟨O1, d1, rfl, rfl⟩
      refine S.q rfl rfl (Qt.assign (by conv => lhs; whnf)) ?_
      refine S.nil ?_
      refine TC.region ?_
      refine S.q rfl rfl (Qt.move (by conv => lhs; whnf)) ?_
      refine S.q rfl rfl (Qt.slice_lo (l := 1) Tryd.underlying44 Tryd.cells23 rfl rfl (by show 1 ≤ (left.drop (sideL f k).length).length; rw [List.length_drop]; have := lenL_lt ctx.lenL (show k < h from h63) (show f / 2 ^ k % 2 = 1 from h67); omega)) ?_
      refine S.q rfl rfl (Qt.assign (by conv => lhs; whnf)) ?_
      refine S.nil ?_
      refine TC.seq ?_
      refine TC.seq ?_
      refine TC.region ?_
      refine S.q rfl rfl (Qt.move (by conv => lhs; whnf)) ?_
      refine S.q rfl rfl (Qt.rem (b := 2) rfl rfl (by omega)) ?_
      refine S.dec rfl rfl (Qt.eq (b := 0) rfl rfl) (fun h78 => ?_) (fun h78 => ?_)
      · refine S.nil ?_
        refine S.if_t rfl ?_
        refine TC.seq ?_
        refine TC.region ?_
        refine S.q rfl rfl (Qt.move (by conv => lhs; whnf)) ?_
        refine S.q rfl rfl (Qt.move (by conv => lhs; whnf)) ?_
        refine S.q rfl rfl (Qt.index (i := 0) Tryd.underlying44 Tryd.cells23 rfl rfl (by show 0 < (right.drop (sideR (f + ls.length - 1) k).length).length; rw [List.length_drop]; have := lenR_lt ctx.lenR (show k < h from h63) (show (f + ls.length - 1) / 2 ^ k % 2 = 0 from h78); omega) (Has.ro (le2.ro _ _ hr)) (by show 0 * 32 < (hcs (right.drop (sideR (f + ls.length - 1) k).length)).length; rw [hcs_length, List.length_drop]; have := lenR_lt ctx.lenR (show k < h from h63) (show (f + ls.length - 1) / 2 ^ k % 2 = 0 from h78); omega)) ?_
        refine S.q rfl rfl (Qt.as (Qt.load rfl (Ld.hashS (l := right.drop (sideR (f + ls.length - 1) k).length) (Has.ro (le2.ro _ _ hr)) 0 Tryd.row23 Tryd.cells23 (by rw [List.length_drop]; have := lenR_lt ctx.lenR (show k < h from h63) (show (f + ls.length - 1) / 2 ^ k % 2 = 0 from h78); omega) rfl)) (by rw [getD_drop0])) ?_
        refine S.opS rfl rfl (OpV.slice1 (bytes := 32) (v := hv (right.getD (sideR (f + ls.length - 1) k).length zeroH)) Tryd.underlying44 Tryd.elem23 (by decide) rfl (hv_len _) (fun g83 => ?_))
        refine S.opS rfl rfl (OpV.app1 (bytes := 32) (news := hvl ((right.getD (sideR (f + ls.length - 1) k).length zeroH))) Tryd.underlying44 Tryd.elem23 rfl rfl (Has.blk (cs := hvl (right.getD (sideR (f + ls.length - 1) k).length zeroH)) (Has.at 0 rfl)) (by rw [hvl_length]) (bytesL_one _) (by first | (simp only [maxLen]; omega) | (show (rowLv f ls.length h ls left right k).length + 1 ≤ maxLen; simp only [maxLen]; omega)) (by first | omega | (show ((rowLv f ls.length h ls left right k).length + 1) * 32 ≤ _; omega)) (fun O2 d2 => ?_))
        refine S.q rfl rfl (Qt.assign (by conv => lhs; whnf)) ?_
        refine S.nil ?_
        refine TC.region ?_
        refine S.q rfl rfl (Qt.move (by conv => lhs; whnf)) ?_
        refine S.q rfl rfl (Qt.slice_lo (l := 1) Tryd.underlying44 Tryd.cells23 rfl rfl (by show 1 ≤ (right.drop (sideR (f + ls.length - 1) k).length).length; rw [List.length_drop]; have := lenR_lt ctx.lenR (show k < h from h63) (show (f + ls.length - 1) / 2 ^ k % 2 = 0 from h78); omega)) ?_
        refine S.q rfl rfl (Qt.assign (by conv => lhs; whnf)) ?_
        refine S.nil ?_
        refine TC.seq ?_
        refine TC.seq ?_
        refine TC.region ?_
        refine S.q rfl rfl (Qt.move (by conv => lhs; whnf)) ?_
        refine S.q rfl rfl (Qt.add (b := 1) rfl rfl (by simp only [kmax]; omega)) ?_
        refine S.q rfl rfl (Qt.move (by conv => lhs; whnf)) ?_
        have hmid : hcs ((left.getD (sideL f k).length zeroH) :: (rowLv f ls.length h ls left right k)) ++ hvl (right.getD (sideR (f + ls.length - 1) k).length zeroH) = hcs (rowMd f ls.length h ls left right k) := by rw [rowMd, if_pos (show f / 2 ^ k % 2 = 1 from h67), if_pos (show (f + ls.length - 1) / 2 ^ k % 2 = 0 from h78)]; simp [hcs]
        have hml : (rowLv f ls.length h ls left right k).length + 1 + 1 = 2 * ((f + ls.length - 1) / 2 ^ (k + 1) + 1 - f / 2 ^ (k + 1)) := by rw [← ctx.midLen (show k < h from h63), rowMd, if_pos (show f / 2 ^ k % 2 = 1 from h67), if_pos (show (f + ls.length - 1) / 2 ^ k % 2 = 0 from h78)]; simp
        refine S.opS rfl rfl (OpV.con (Pre := []) (R := _) Tryd.ent115 rfl (List.Perm.refl _) (fun w hw => (by have cap := own_cap (hw.ok (List.mem_of_getElem? (i := 1) rfl)); have q := joined_walk (k + 1) (by omega) (by omega) O2 ((f + ls.length - 1) / 2 ^ (k + 1) + 1 - f / 2 ^ (k + 1)) d2 (rowMd f ls.length h ls left right k) (ctx.midLen (show k < h from h63)) (by rw [← hml]; exact cap.1) (by have := cap.2.1; simp only [maxLen] at this; omega) (by have := hlen; omega) w (by rw [← hmid]; exact (Rd.own (Rd.at 1 rfl) w hw)) (hT.at hw); rw [← hml] at q; exact q : Calls Tryd.prog 115 #[.int .i64 ((k + 1 : Nat) : Int), .slice O2 ((rowLv f ls.length h ls left right k).length + 1 + 1) d2] w (Post w [] fun v L => ∃ O d, v = .tuple #[.slice O ((f + ls.length - 1) / 2 ^ (k + 1) + 1 - f / 2 ^ (k + 1)) d, .nilIface] ∧ L = [OwnA 23 32 O ((f + ls.length - 1) / 2 ^ (k + 1) + 1 - f / 2 ^ (k + 1)) d (hcs ((List.finRange ((f + ls.length - 1) / 2 ^ (k + 1) + 1 - f / 2 ^ (k + 1))).map (fun i : Fin ((f + ls.length - 1) / 2 ^ (k + 1) + 1 - f / 2 ^ (k + 1)) => pairF (k + 1) (rowMd f ls.length h ls left right k) i.val)))]))) ?_)
        rintro v L' ⟨O3, d3, rfl, rfl⟩
        have hnx : (List.finRange ((f + ls.length - 1) / 2 ^ (k + 1) + 1 - f / 2 ^ (k + 1))).map (fun i : Fin ((f + ls.length - 1) / 2 ^ (k + 1) + 1 - f / 2 ^ (k + 1)) => pairF (k + 1) (rowMd f ls.length h ls left right k) i.val) = (rowLv f ls.length h ls left right (k + 1)) := ctx.next (show k < h from h63) rfl
        have hnl : ((f + ls.length - 1) / 2 ^ (k + 1) + 1 - f / 2 ^ (k + 1)) = (rowLv f ls.length h ls left right (k + 1)).length := by rw [rowLv, rowV_len]
        refine S.q rfl rfl (Qt.move (by conv => lhs; whnf)) ?_
        refine S.q rfl rfl (Qt.extract rfl rfl) ?_
        refine S.q rfl rfl (Qt.extract rfl rfl) ?_
        refine S.q rfl rfl (Qt.assign (by conv => lhs; whnf)) ?_
        refine S.q rfl rfl (Qt.assign (by conv => lhs; whnf)) ?_
        refine S.nil ?_
        refine TC.seq ?_
        refine TC.region ?_
        refine S.q rfl rfl (Qt.move (by conv => lhs; whnf)) ?_
        refine S.q rfl rfl (Qt.nenil_nil Tryd.underlying27 rfl) ?_
        refine S.nil ?_
        refine S.if_f rfl ?_
        refine TC.skip ?_
        refine TC.region ?_
        refine S.q rfl rfl (Qt.move (by conv => lhs; whnf)) ?_
        refine S.q rfl rfl (Qt.as (Qt.quo (b := 2) rfl rfl (by omega) (by have := Nat.div_le_self f (2 ^ k); simp only [kmax]; omega)) (by rw [half_step])) ?_
        refine S.q rfl rfl (Qt.move (by conv => lhs; whnf)) ?_
        refine S.q rfl rfl (Qt.as (Qt.quo (b := 2) rfl rfl (by omega) (by have := Nat.div_le_self (f + ls.length - 1) (2 ^ k); simp only [kmax]; omega)) (by rw [half_step])) ?_
        refine S.q rfl rfl (Qt.assign (by conv => lhs; whnf)) ?_
        refine S.q rfl rfl (Qt.assign (by conv => lhs; whnf)) ?_
        refine S.nil ?_
        refine TC.region ?_
        refine S.q rfl rfl (Qt.add (b := 1) rfl rfl (by simp only [kmax]; omega)) ?_
        refine S.q rfl rfl (Qt.move (by conv => lhs; whnf)) ?_
        refine S.nil ?_
        refine ⟨(k + 1, (O3, d3), ((if c1 = 1 then A1 else A1.map (·.add (1 * 32))), (c1 - 1)), ((if c2 = 1 then A2 else A2.map (·.add (1 * 32))), (c2 - 1))), ?_, ?_, ⟨?_, (List.forall_mem_cons.2 ⟨rfl, (List.forall_mem_cons.2 ⟨(by show Value.slice O3 ((f + ls.length - 1) / 2 ^ (k + 1) + 1 - f / 2 ^ (k + 1)) d3 = Value.slice O3 (rowLv f ls.length h ls left right (k + 1)).length d3; rw [← hnl]), (List.forall_mem_cons.2 ⟨rfl, (List.forall_mem_cons.2 ⟨rfl, (List.forall_mem_cons.2 ⟨(by show Value.slice (if c1 = 1 then A1 else A1.map (·.add (1 * 32))) ((left.drop (sideL f k).length).length - 1) (c1 - 1) = Value.slice (if c1 = 1 then A1 else A1.map (·.add (1 * 32))) (left.drop (sideL f (k + 1)).length).length (c1 - 1); rw [sideL_1 (show f / 2 ^ k % 2 = 1 from h67), len_snoc, List.length_drop, List.length_drop]; congr 1), (List.forall_mem_cons.2 ⟨(by show Value.slice (if c2 = 1 then A2 else A2.map (·.add (1 * 32))) ((right.drop (sideR (f + ls.length - 1) k).length).length - 1) (c2 - 1) = Value.slice (if c2 = 1 then A2 else A2.map (·.add (1 * 32))) (right.drop (sideR (f + ls.length - 1) (k + 1)).length).length (c2 - 1); rw [sideR_1 (show (f + ls.length - 1) / 2 ^ k % 2 = 0 from h78), len_snoc, List.length_drop, List.length_drop]; congr 1), (fun _ h => nomatch h)⟩)⟩)⟩)⟩)⟩)⟩)⟩, (by dsimp only; rw [hnx, hnl]; exact Sub.trans (Sub.keep _ (Sub.keep _ (Sub.keep _ (Sub.drop _ (Sub.drop _ (Sub.drop _ (Sub.nil []))))))) (Sub.keep _ (Sub.trans (Sub.keep _ (Sub.trans (Sub.keep _ (Sub.refl _)) (Sub.of_perm (List.perm_middle (l₁ := [_, _, _]))))) (Sub.of_perm (List.perm_middle (l₁ := [_, _, _]))))))⟩
        · exact ⟨by show _ ≤ _; dsimp only; omega, by rw [sideL_1 (show f / 2 ^ k % 2 = 1 from h67), len_snoc]; exact le1.next (Less.one le1.cap (by (try dsimp only); rw [List.length_drop]; have := lenL_lt ctx.lenL (show k < h from h63) (show f / 2 ^ k % 2 = 1 from h67); omega)), by rw [sideR_1 (show (f + ls.length - 1) / 2 ^ k % 2 = 0 from h78), len_snoc]; exact le2.next (Less.one le2.cap (by (try dsimp only); rw [List.length_drop]; have := lenR_lt ctx.lenR (show k < h from h63) (show (f + ls.length - 1) / 2 ^ k % 2 = 0 from h78); omega))⟩
        · show _ < _; dsimp only; omega
        repeat (first | exact Out.refl _ _ | refine Out.put rfl ?_ | refine Out.puts rfl ?_ | refine Out.scr ?_ | refine Out.scr' rfl ?_)
      · refine S.nil ?_
        refine S.if_f rfl ?_
        refine TC.skip ?_
        refine TC.seq ?_
        refine TC.seq ?_
        refine TC.region ?_
        refine S.q rfl rfl (Qt.move (by conv => lhs; whnf)) ?_
        refine S.q rfl rfl (Qt.add (b := 1) rfl rfl (by simp only [kmax]; omega)) ?_
        refine S.q rfl rfl (Qt.move (by conv => lhs; whnf)) ?_
        have hmid : hcs ((left.getD (sideL f k).length zeroH) :: (rowLv f ls.length h ls left right k)) = hcs (rowMd f ls.length h ls left right k) := by rw [rowMd, if_pos (show f / 2 ^ k % 2 = 1 from h67), if_neg (show ¬ (f + ls.length - 1) / 2 ^ k % 2 = 0 from h78)]; simp [hcs]
        have hml : (rowLv f ls.length h ls left right k).length + 1 = 2 * ((f + ls.length - 1) / 2 ^ (k + 1) + 1 - f / 2 ^ (k + 1)) := by rw [← ctx.midLen (show k < h from h63), rowMd, if_pos (show f / 2 ^ k % 2 = 1 from h67), if_neg (show ¬ (f + ls.length - 1) / 2 ^ k % 2 = 0 from h78)]; simp
        refine S.opS rfl rfl (OpV.con (Pre := []) (R := _) Tryd.ent115 rfl (List.Perm.refl _) (fun w hw => (by have cap := own_cap (hw.ok (List.mem_of_getElem? (i := 0) rfl)); have q := joined_walk (k + 1) (by omega) (by omega) O1 ((f + ls.length - 1) / 2 ^ (k + 1) + 1 - f / 2 ^ (k + 1)) d1 (rowMd f ls.length h ls left right k) (ctx.midLen (show k < h from h63)) (by rw [← hml]; exact cap.1) (by have := cap.2.1; simp only [maxLen] at this; omega) (by have := hlen; omega) w (by rw [← hmid]; exact (Rd.own (Rd.at 0 rfl) w hw)) (hT.at hw); rw [← hml] at q; exact q : Calls Tryd.prog 115 #[.int .i64 ((k + 1 : Nat) : Int), .slice O1 ((rowLv f ls.length h ls left right k).length + 1) d1] w (Post w [] fun v L => ∃ O d, v = .tuple #[.slice O ((f + ls.length - 1) / 2 ^ (k + 1) + 1 - f / 2 ^ (k + 1)) d, .nilIface] ∧ L = [OwnA 23 32 O ((f + ls.length - 1) / 2 ^ (k + 1) + 1 - f / 2 ^ (k + 1)) d (hcs ((List.finRange ((f + ls.length - 1) / 2 ^ (k + 1) + 1 - f / 2 ^ (k + 1))).map (fun i : Fin ((f + ls.length - 1) / 2 ^ (k + 1) + 1 - f / 2 ^ (k + 1)) => pairF (k + 1) (rowMd f ls.length h ls left right k) i.val)))]))) ?_)
        rintro v L' ⟨O3, d3, rfl, rfl⟩
        have hnx : (List.finRange ((f + ls.length - 1) / 2 ^ (k + 1) + 1 - f / 2 ^ (k + 1))).map (fun i : Fin ((f + ls.length - 1) / 2 ^ (k + 1) + 1 - f / 2 ^ (k + 1)) => pairF (k + 1) (rowMd f ls.length h ls left right k) i.val) = (rowLv f ls.length h ls left right (k + 1)) := ctx.next (show k < h from h63) rfl
        have hnl : ((f + ls.length - 1) / 2 ^ (k + 1) + 1 - f / 2 ^ (k + 1)) = (rowLv f ls.length h ls left right (k + 1)).length := by rw [rowLv, rowV_len]
        refine S.q rfl rfl (Qt.move (by conv => lhs; whnf)) ?_
        refine S.q rfl rfl (Qt.extract rfl rfl) ?_
        refine S.q rfl rfl (Qt.extract rfl rfl) ?_
        refine S.q rfl rfl (Qt.assign (by conv => lhs; whnf)) ?_
        refine S.q rfl rfl (Qt.assign (by conv => lhs; whnf)) ?_
        refine S.nil ?_
        refine TC.seq ?_
        refine TC.region ?_
        refine S.q rfl rfl (Qt.move (by conv => lhs; whnf)) ?_
        refine S.q rfl rfl (Qt.nenil_nil Tryd.underlying27 rfl) ?_
        refine S.nil ?_
        refine S.if_f rfl ?_
        refine TC.skip ?_
        refine TC.region ?_
        refine S.q rfl rfl (Qt.move (by conv => lhs; whnf)) ?_
        refine S.q rfl rfl (Qt.as (Qt.quo (b := 2) rfl rfl (by omega) (by have := Nat.div_le_self f (2 ^ k); simp only [kmax]; omega)) (by rw [half_step])) ?_
        refine S.q rfl rfl (Qt.move (by conv => lhs; whnf)) ?_
        refine S.q rfl rfl (Qt.as (Qt.quo (b := 2) rfl rfl (by omega) (by have := Nat.div_le_self (f + ls.length - 1) (2 ^ k); simp only [kmax]; omega)) (by rw [half_step])) ?_
        refine S.q rfl rfl (Qt.assign (by conv => lhs; whnf)) ?_
        refine S.q rfl rfl (Qt.assign (by conv => lhs; whnf)) ?_
        refine S.nil ?_
        refine TC.region ?_
        refine S.q rfl rfl (Qt.add (b := 1) rfl rfl (by simp only [kmax]; omega)) ?_
        refine S.q rfl rfl (Qt.move (by conv => lhs; whnf)) ?_
        refine S.nil ?_
        refine ⟨(k + 1, (O3, d3), ((if c1 = 1 then A1 else A1.map (·.add (1 * 32))), (c1 - 1)), (A2, c2)), ?_, ?_, ⟨?_, (List.forall_mem_cons.2 ⟨rfl, (List.forall_mem_cons.2 ⟨(by show Value.slice O3 ((f + ls.length - 1) / 2 ^ (k + 1) + 1 - f / 2 ^ (k + 1)) d3 = Value.slice O3 (rowLv f ls.length h ls left right (k + 1)).length d3; rw [← hnl]), (List.forall_mem_cons.2 ⟨rfl, (List.forall_mem_cons.2 ⟨rfl, (List.forall_mem_cons.2 ⟨(by show Value.slice (if c1 = 1 then A1 else A1.map (·.add (1 * 32))) ((left.drop (sideL f k).length).length - 1) (c1 - 1) = Value.slice (if c1 = 1 then A1 else A1.map (·.add (1 * 32))) (left.drop (sideL f (k + 1)).length).length (c1 - 1); rw [sideL_1 (show f / 2 ^ k % 2 = 1 from h67), len_snoc, List.length_drop, List.length_drop]; congr 1), (List.forall_mem_cons.2 ⟨(by show Value.slice A2 (right.drop (sideR (f + ls.length - 1) k).length).length c2 = Value.slice A2 (right.drop (sideR (f + ls.length - 1) (k + 1)).length).length c2; rw [sideR_0 (show ¬ (f + ls.length - 1) / 2 ^ k % 2 = 0 from h78)]), (fun _ h => nomatch h)⟩)⟩)⟩)⟩)⟩)⟩)⟩, (by dsimp only; rw [hnx, hnl]; exact Sub.trans (Sub.keep _ (Sub.keep _ (Sub.keep _ (Sub.drop _ (Sub.drop _ (Sub.nil [])))))) (Sub.keep _ (Sub.trans (Sub.keep _ (Sub.trans (Sub.keep _ (Sub.refl _)) (Sub.of_perm (List.perm_middle (l₁ := [_, _]))))) (Sub.of_perm (List.perm_middle (l₁ := [_, _]))))))⟩
        · exact ⟨by show _ ≤ _; dsimp only; omega, by rw [sideL_1 (show f / 2 ^ k % 2 = 1 from h67), len_snoc]; exact le1.next (Less.one le1.cap (by (try dsimp only); rw [List.length_drop]; have := lenL_lt ctx.lenL (show k < h from h63) (show f / 2 ^ k % 2 = 1 from h67); omega)), by rw [sideR_0 (show ¬ (f + ls.length - 1) / 2 ^ k % 2 = 0 from h78)]; exact le2⟩
        · show _ < _; dsimp only; omega
        repeat (first | exact Out.refl _ _ | refine Out.put rfl ?_ | refine Out.puts rfl ?_ | refine Out.scr ?_ | refine Out.scr' rfl ?_)
    · refine S.nil ?_
      refine S.if_f rfl ?_
      refine TC.skip ?_
      refine TC.seq ?_
      refine TC.seq ?_
      refine TC.region ?_
      refine S.q rfl rfl (Qt.move (by conv => lhs; whnf)) ?_
      refine S.q rfl rfl (Qt.rem (b := 2) rfl rfl (by omega)) ?_
      refine S.dec rfl rfl (Qt.eq (b := 0) rfl rfl) (fun h78 => ?_) (fun h78 => ?_)
      · refine S.nil ?_
        refine S.if_t rfl ?_
        refine TC.seq ?_
        refine TC.region ?_
        refine S.q rfl rfl (Qt.move (by conv => lhs; whnf)) ?_
        refine S.q rfl rfl (Qt.move (by conv => lhs; whnf)) ?_
        refine S.q rfl rfl (Qt.index (i := 0) Tryd.underlying44 Tryd.cells23 rfl rfl (by show 0 < (right.drop (sideR (f + ls.length - 1) k).length).length; rw [List.length_drop]; have := lenR_lt ctx.lenR (show k < h from h63) (show (f + ls.length - 1) / 2 ^ k % 2 = 0 from h78); omega) (Has.ro (le2.ro _ _ hr)) (by show 0 * 32 < (hcs (right.drop (sideR (f + ls.length - 1) k).length)).length; rw [hcs_length, List.length_drop]; have := lenR_lt ctx.lenR (show k < h from h63) (show (f + ls.length - 1) / 2 ^ k % 2 = 0 from h78); omega)) ?_
        refine S.q rfl rfl (Qt.as (Qt.load rfl (Ld.hashS (l := right.drop (sideR (f + ls.length - 1) k).length) (Has.ro (le2.ro _ _ hr)) 0 Tryd.row23 Tryd.cells23 (by rw [List.length_drop]; have := lenR_lt ctx.lenR (show k < h from h63) (show (f + ls.length - 1) / 2 ^ k % 2 = 0 from h78); omega) rfl)) (by rw [getD_drop0])) ?_
        refine S.opS rfl rfl (OpV.slice1 (bytes := 32) (v := hv (right.getD (sideR (f + ls.length - 1) k).length zeroH)) Tryd.underlying44 Tryd.elem23 (by decide) rfl (hv_len _) (fun g83 => ?_))
        refine S.opS rfl rfl (OpV.app1 (bytes := 32) (news := hvl ((right.getD (sideR (f + ls.length - 1) k).length zeroH))) Tryd.underlying44 Tryd.elem23 rfl rfl (Has.blk (cs := hvl (right.getD (sideR (f + ls.length - 1) k).length zeroH)) (Has.at 0 rfl)) (by rw [hvl_length]) (bytesL_one _) (by first | (simp only [maxLen]; omega) | (show (rowLv f ls.length h ls left right k).length + 1 ≤ maxLen; simp only [maxLen]; omega)) (by first | omega | (show ((rowLv f ls.length h ls left right k).length + 1) * 32 ≤ _; omega)) (fun O2 d2 => ?_))
        refine S.q rfl rfl (Qt.assign (by conv => lhs; whnf)) ?_
        refine S.nil ?_
        refine TC.region ?_
        refine S.q rfl rfl (Qt.move (by conv => lhs; whnf)) ?_
        refine S.q rfl rfl (Qt.slice_lo (l := 1) Tryd.underlying44 Tryd.cells23 rfl rfl (by show 1 ≤ (right.drop (sideR (f + ls.length - 1) k).length).length; rw [List.length_drop]; have := lenR_lt ctx.lenR (show k < h from h63) (show (f + ls.length - 1) / 2 ^ k % 2 = 0 from h78); omega)) ?_
        refine S.q rfl rfl (Qt.assign (by conv => lhs; whnf)) ?_
        refine S.nil ?_
        refine TC.seq ?_
        refine TC.seq ?_
        refine TC.region ?_
        refine S.q rfl rfl (Qt.move (by conv => lhs; whnf)) ?_
        refine S.q rfl rfl (Qt.add (b := 1) rfl rfl (by simp only [kmax]; omega)) ?_
        refine S.q rfl rfl (Qt.move (by conv => lhs; whnf)) ?_
        have hmid : hcs (rowLv f ls.length h ls left right k) ++ hvl (right.getD (sideR (f + ls.length - 1) k).length zeroH) = hcs (rowMd f ls.length h ls left right k) := by rw [rowMd, if_neg (show ¬ f / 2 ^ k % 2 = 1 from h67), if_pos (show (f + ls.length - 1) / 2 ^ k % 2 = 0 from h78)]; simp [hcs]
        have hml : (rowLv f ls.length h ls left right k).length + 1 = 2 * ((f + ls.length - 1) / 2 ^ (k + 1) + 1 - f / 2 ^ (k + 1)) := by rw [← ctx.midLen (show k < h from h63), rowMd, if_neg (show ¬ f / 2 ^ k % 2 = 1 from h67), if_pos (show (f + ls.length - 1) / 2 ^ k % 2 = 0 from h78)]; simp
        refine S.opS rfl rfl (OpV.con (Pre := []) (R := _) Tryd.ent115 rfl (List.Perm.refl _) (fun w hw => (by have cap := own_cap (hw.ok (List.mem_of_getElem? (i := 1) rfl)); have q := joined_walk (k + 1) (by omega) (by omega) O2 ((f + ls.length - 1) / 2 ^ (k + 1) + 1 - f / 2 ^ (k + 1)) d2 (rowMd f ls.length h ls left right k) (ctx.midLen (show k < h from h63)) (by rw [← hml]; exact cap.1) (by have := cap.2.1; simp only [maxLen] at this; omega) (by have := hlen; omega) w (by rw [← hmid]; exact (Rd.own (Rd.at 1 rfl) w hw)) (hT.at hw); rw [← hml] at q; exact q : Calls Tryd.prog 115 #[.int .i64 ((k + 1 : Nat) : Int), .slice O2 ((rowLv f ls.length h ls left right k).length + 1) d2] w (Post w [] fun v L => ∃ O d, v = .tuple #[.slice O ((f + ls.length - 1) / 2 ^ (k + 1) + 1 - f / 2 ^ (k + 1)) d, .nilIface] ∧ L = [OwnA 23 32 O ((f + ls.length - 1) / 2 ^ (k + 1) + 1 - f / 2 ^ (k + 1)) d (hcs ((List.finRange ((f + ls.length - 1) / 2 ^ (k + 1) + 1 - f / 2 ^ (k + 1))).map (fun i : Fin ((f + ls.length - 1) / 2 ^ (k + 1) + 1 - f / 2 ^ (k + 1)) => pairF (k + 1) (rowMd f ls.length h ls left right k) i.val)))]))) ?_)
        rintro v L' ⟨O3, d3, rfl, rfl⟩
        have hnx : (List.finRange ((f + ls.length - 1) / 2 ^ (k + 1) + 1 - f / 2 ^ (k + 1))).map (fun i : Fin ((f + ls.length - 1) / 2 ^ (k + 1) + 1 - f / 2 ^ (k + 1)) => pairF (k + 1) (rowMd f ls.length h ls left right k) i.val) = (rowLv f ls.length h ls left right (k + 1)) := ctx.next (show k < h from h63) rfl
        have hnl : ((f + ls.length - 1) / 2 ^ (k + 1) + 1 - f / 2 ^ (k + 1)) = (rowLv f ls.length h ls left right (k + 1)).length := by rw [rowLv, rowV_len]
        refine S.q rfl rfl (Qt.move (by conv => lhs; whnf)) ?_
        refine S.q rfl rfl (Qt.extract rfl rfl) ?_
        refine S.q rfl rfl (Qt.extract rfl rfl) ?_
        refine S.q rfl rfl (Qt.assign (by conv => lhs; whnf)) ?_
        refine S.q rfl rfl (Qt.assign (by conv => lhs; whnf)) ?_
        refine S.nil ?_
        refine TC.seq ?_
        refine TC.region ?_
        refine S.q rfl rfl (Qt.move (by conv => lhs; whnf)) ?_
        refine S.q rfl rfl (Qt.nenil_nil Tryd.underlying27 rfl) ?_
        refine S.nil ?_
        refine S.if_f rfl ?_
        refine TC.skip ?_
        refine TC.region ?_
        refine S.q rfl rfl (Qt.move (by conv => lhs; whnf)) ?_
        refine S.q rfl rfl (Qt.as (Qt.quo (b := 2) rfl rfl (by omega) (by have := Nat.div_le_self f (2 ^ k); simp only [kmax]; omega)) (by rw [half_step])) ?_
        refine S.q rfl rfl (Qt.move (by conv => lhs; whnf)) ?_
        refine S.q rfl rfl (Qt.as (Qt.quo (b := 2) rfl rfl (by omega) (by have := Nat.div_le_self (f + ls.length - 1) (2 ^ k); simp only [kmax]; omega)) (by rw [half_step])) ?_
        refine S.q rfl rfl (Qt.assign (by conv => lhs; whnf)) ?_
        refine S.q rfl rfl (Qt.assign (by conv => lhs; whnf)) ?_
        refine S.nil ?_
        refine TC.region ?_
        refine S.q rfl rfl (Qt.add (b := 1) rfl rfl (by simp only [kmax]; omega)) ?_
        refine S.q rfl rfl (Qt.move (by conv => lhs; whnf)) ?_
        refine S.nil ?_
        refine ⟨(k + 1, (O3, d3), (A1, c1), ((if c2 = 1 then A2 else A2.map (·.add (1 * 32))), (c2 - 1))), ?_, ?_, ⟨?_, (List.forall_mem_cons.2 ⟨rfl, (List.forall_mem_cons.2 ⟨(by show Value.slice O3 ((f + ls.length - 1) / 2 ^ (k + 1) + 1 - f / 2 ^ (k + 1)) d3 = Value.slice O3 (rowLv f ls.length h ls left right (k + 1)).length d3; rw [← hnl]), (List.forall_mem_cons.2 ⟨rfl, (List.forall_mem_cons.2 ⟨rfl, (List.forall_mem_cons.2 ⟨(by show Value.slice A1 (left.drop (sideL f k).length).length c1 = Value.slice A1 (left.drop (sideL f (k + 1)).length).length c1; rw [sideL_0 (show ¬ f / 2 ^ k % 2 = 1 from h67)]), (List.forall_mem_cons.2 ⟨(by show Value.slice (if c2 = 1 then A2 else A2.map (·.add (1 * 32))) ((right.drop (sideR (f + ls.length - 1) k).length).length - 1) (c2 - 1) = Value.slice (if c2 = 1 then A2 else A2.map (·.add (1 * 32))) (right.drop (sideR (f + ls.length - 1) (k + 1)).length).length (c2 - 1); rw [sideR_1 (show (f + ls.length - 1) / 2 ^ k % 2 = 0 from h78), len_snoc, List.length_drop, List.length_drop]; congr 1), (fun _ h => nomatch h)⟩)⟩)⟩)⟩)⟩)⟩)⟩, (by dsimp only; rw [hnx, hnl]; exact Sub.trans (Sub.keep _ (Sub.keep _ (Sub.keep _ (Sub.drop _ (Sub.drop _ (Sub.nil [])))))) (Sub.keep _ (Sub.trans (Sub.keep _ (Sub.trans (Sub.keep _ (Sub.refl _)) (Sub.of_perm (List.perm_middle (l₁ := [_, _]))))) (Sub.of_perm (List.perm_middle (l₁ := [_, _]))))))⟩
        · exact ⟨by show _ ≤ _; dsimp only; omega, by rw [sideL_0 (show ¬ f / 2 ^ k % 2 = 1 from h67)]; exact le1, by rw [sideR_1 (show (f + ls.length - 1) / 2 ^ k % 2 = 0 from h78), len_snoc]; exact le2.next (Less.one le2.cap (by (try dsimp only); rw [List.length_drop]; have := lenR_lt ctx.lenR (show k < h from h63) (show (f + ls.length - 1) / 2 ^ k % 2 = 0 from h78); omega))⟩
        · show _ < _; dsimp only; omega
        repeat (first | exact Out.refl _ _ | refine Out.put rfl ?_ | refine Out.puts rfl ?_ | refine Out.scr ?_ | refine Out.scr' rfl ?_)
      · refine S.nil ?_
        refine S.if_f rfl ?_
        refine TC.skip ?_
        refine TC.seq ?_
        refine TC.seq ?_
        refine TC.region ?_
        refine S.q rfl rfl (Qt.move (by conv => lhs; whnf)) ?_
        refine S.q rfl rfl (Qt.add (b := 1) rfl rfl (by simp only [kmax]; omega)) ?_
        refine S.q rfl rfl (Qt.move (by conv => lhs; whnf)) ?_
        have hmid : hcs (rowLv f ls.length h ls left right k) = hcs (rowMd f ls.length h ls left right k) := by rw [rowMd, if_neg (show ¬ f / 2 ^ k % 2 = 1 from h67), if_neg (show ¬ (f + ls.length - 1) / 2 ^ k % 2 = 0 from h78)]; simp [hcs]
        have hml : (rowLv f ls.length h ls left right k).length = 2 * ((f + ls.length - 1) / 2 ^ (k + 1) + 1 - f / 2 ^ (k + 1)) := by rw [← ctx.midLen (show k < h from h63), rowMd, if_neg (show ¬ f / 2 ^ k % 2 = 1 from h67), if_neg (show ¬ (f + ls.length - 1) / 2 ^ k % 2 = 0 from h78)]; simp
        refine S.opS rfl rfl (OpV.con (Pre := []) (R := _) Tryd.ent115 rfl (List.Perm.refl _) (fun w hw => (by have cap := own_cap (hw.ok (List.mem_of_getElem? (i := 0) rfl)); have q := joined_walk (k + 1) (by omega) (by omega) O ((f + ls.length - 1) / 2 ^ (k + 1) + 1 - f / 2 ^ (k + 1)) d (rowMd f ls.length h ls left right k) (ctx.midLen (show k < h from h63)) (by rw [← hml]; exact cap.1) (by have := cap.2.1; simp only [maxLen] at this; omega) (by have := hlen; omega) w (by rw [← hmid]; exact (Rd.own (Rd.at 0 rfl) w hw)) (hT.at hw); rw [← hml] at q; exact q : Calls Tryd.prog 115 #[.int .i64 ((k + 1 : Nat) : Int), .slice O ((rowLv f ls.length h ls left right k).length) d] w (Post w [] fun v L => ∃ O d, v = .tuple #[.slice O ((f + ls.length - 1) / 2 ^ (k + 1) + 1 - f / 2 ^ (k + 1)) d, .nilIface] ∧ L = [OwnA 23 32 O ((f + ls.length - 1) / 2 ^ (k + 1) + 1 - f / 2 ^ (k + 1)) d (hcs ((List.finRange ((f + ls.length - 1) / 2 ^ (k + 1) + 1 - f / 2 ^ (k + 1))).map (fun i : Fin ((f + ls.length - 1) / 2 ^ (k + 1) + 1 - f / 2 ^ (k + 1)) => pairF (k + 1) (rowMd f ls.length h ls left right k) i.val)))]))) ?_)
        rintro v L' ⟨O3, d3, rfl, rfl⟩
        have hnx : (List.finRange ((f + ls.length - 1) / 2 ^ (k + 1) + 1 - f / 2 ^ (k + 1))).map (fun i : Fin ((f + ls.length - 1) / 2 ^ (k + 1) + 1 - f / 2 ^ (k + 1)) => pairF (k + 1) (rowMd f ls.length h ls left right k) i.val) = (rowLv f ls.length h ls left right (k + 1)) := ctx.next (show k < h from h63) rfl
        have hnl : ((f + ls.length - 1) / 2 ^ (k + 1) + 1 - f / 2 ^ (k + 1)) = (rowLv f ls.length h ls left right (k + 1)).length := by rw [rowLv, rowV_len]
        refine S.q rfl rfl (Qt.move (by conv => lhs; whnf)) ?_
        refine S.q rfl rfl (Qt.extract rfl rfl) ?_
        refine S.q rfl rfl (Qt.extract rfl rfl) ?_
        refine S.q rfl rfl (Qt.assign (by conv => lhs; whnf)) ?_
        refine S.q rfl rfl (Qt.assign (by conv => lhs; whnf)) ?_
        refine S.nil ?_
        refine TC.seq ?_
        refine TC.region ?_
        refine S.q rfl rfl (Qt.move (by conv => lhs; whnf)) ?_
        refine S.q rfl rfl (Qt.nenil_nil Tryd.underlying27 rfl) ?_
        refine S.nil ?_
        refine S.if_f rfl ?_
        refine TC.skip ?_
        refine TC.region ?_
        refine S.q rfl rfl (Qt.move (by conv => lhs; whnf)) ?_
        refine S.q rfl rfl (Qt.as (Qt.quo (b := 2) rfl rfl (by omega) (by have := Nat.div_le_self f (2 ^ k); simp only [kmax]; omega)) (by rw [half_step])) ?_
        refine S.q rfl rfl (Qt.move (by conv => lhs; whnf)) ?_
        refine S.q rfl rfl (Qt.as (Qt.quo (b := 2) rfl rfl (by omega) (by have := Nat.div_le_self (f + ls.length - 1) (2 ^ k); simp only [kmax]; omega)) (by rw [half_step])) ?_
        refine S.q rfl rfl (Qt.assign (by conv => lhs; whnf)) ?_
        refine S.q rfl rfl (Qt.assign (by conv => lhs; whnf)) ?_
        refine S.nil ?_
        refine TC.region ?_
        refine S.q rfl rfl (Qt.add (b := 1) rfl rfl (by simp only [kmax]; omega)) ?_
        refine S.q rfl rfl (Qt.move (by conv => lhs; whnf)) ?_
        refine S.nil ?_
        refine ⟨(k + 1, (O3, d3), (A1, c1), (A2, c2)), ?_, ?_, ⟨?_, (List.forall_mem_cons.2 ⟨rfl, (List.forall_mem_cons.2 ⟨(by show Value.slice O3 ((f + ls.length - 1) / 2 ^ (k + 1) + 1 - f / 2 ^ (k + 1)) d3 = Value.slice O3 (rowLv f ls.length h ls left right (k + 1)).length d3; rw [← hnl]), (List.forall_mem_cons.2 ⟨rfl, (List.forall_mem_cons.2 ⟨rfl, (List.forall_mem_cons.2 ⟨(by show Value.slice A1 (left.drop (sideL f k).length).length c1 = Value.slice A1 (left.drop (sideL f (k + 1)).length).length c1; rw [sideL_0 (show ¬ f / 2 ^ k % 2 = 1 from h67)]), (List.forall_mem_cons.2 ⟨(by show Value.slice A2 (right.drop (sideR (f + ls.length - 1) k).length).length c2 = Value.slice A2 (right.drop (sideR (f + ls.length - 1) (k + 1)).length).length c2; rw [sideR_0 (show ¬ (f + ls.length - 1) / 2 ^ k % 2 = 0 from h78)]), (fun _ h => nomatch h)⟩)⟩)⟩)⟩)⟩)⟩)⟩, (by dsimp only; rw [hnx, hnl]; exact Sub.trans (Sub.keep _ (Sub.keep _ (Sub.keep _ (Sub.drop _ (Sub.nil []))))) (Sub.keep _ (Sub.trans (Sub.keep _ (Sub.trans (Sub.keep _ (Sub.refl _)) (Sub.of_perm (List.perm_middle (l₁ := [_]))))) (Sub.of_perm (List.perm_middle (l₁ := [_]))))))⟩
        · exact ⟨by show _ ≤ _; dsimp only; omega, by rw [sideL_0 (show ¬ f / 2 ^ k % 2 = 1 from h67)]; exact le1, by rw [sideR_0 (show ¬ (f + ls.length - 1) / 2 ^ k % 2 = 0 from h78)]; exact le2⟩
        · show _ < _; dsimp only; omega
        repeat (first | exact Out.refl _ _ | refine Out.put rfl ?_ | refine Out.puts rfl ?_ | refine Out.scr ?_ | refine Out.scr' rfl ?_)
  · refine S.nil ?_
    refine TC.seq ?_
    refine S.if_f rfl ?_
    refine TC.exit ?_
    refine TC.seq ?_
    refine TC.region ?_
    have hke : k = h := by omega
    refine S.q rfl rfl (Qt.move (by conv => lhs; whnf)) ?_
    refine S.q rfl rfl (Qt.index (i := 0) Tryd.underlying44 Tryd.cells23 rfl rfl (hpos) (Has.own (Has.at 0 rfl)) (by show 0 * 32 < (hcs (rowLv f ls.length h ls left right k)).length; rw [hcs_length]; omega)) ?_
    refine S.q rfl rfl (Qt.as (Qt.load rfl (Ld.hashS (l := (rowLv f ls.length h ls left right k)) (Has.own (Has.at 0 rfl)) 0 Tryd.row23 Tryd.cells23 hpos rfl)) (by rw [hke, ctx.last])) ?_
    refine S.opN rfl (OpV.storeV1 (v := hv ((refN ((sideL f h).zip left) ((sideR (f + ls.length - 1) h).zip right) ls f h 0))) rfl rfl (hv_size Tryd.cells23) (hv_all _) (hv_len _) ?_)
    refine S.q rfl rfl (Qt.assign (by conv => lhs; whnf)) ?_
    refine S.nil ?_
    refine TC.ret ?_
    refine finQ.ret (RVs.cell rfl (Ld.all (Has.at 1 rfl) Tryd.row23 (hv_size Tryd.cells23)) (RVs.tmp (by conv => lhs; whnf) RVs.nil)) (Sub.nil _) ?_
    exact ⟨rfl, rfl⟩
end Go.Proofs.YtlneklemjfefpaaDoor
