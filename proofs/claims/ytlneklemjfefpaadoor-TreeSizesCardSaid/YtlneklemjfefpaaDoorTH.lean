/-
  Walks: the two trees side by side. Printed by a program of ours.
-/
import Derived.Test.YtlneklemjfefpaaDoorTG
namespace Go.Proofs.YtlneklemjfefpaaDoor
open Go.E
set_option linter.unusedVariables false
set_option maxRecDepth 4000

theorem rhas_T (height l p : Nat) (hh : height ≤ 32) (ho : okAt height (l, p)) (A : Option Addr) (n c : Nat) (O : Option Addr) (d : Nat) (w0 : World) : Calls Tryd.prog 34 #[.agg #[.int .i64 (height : Int), .slice A n c, .slice O 33 d], .int .i64 (l : Int), .int .u64 (p : Int)] w0 (Ret w0 (.bool true)) := by
  have h := rhas_R height l p hh (by have := okAt_lt hh ho; omega) A n c O d w0
  rwa [decide_eq_true ho] at h
theorem rhas_F (height l p : Nat) (hh : height ≤ 32) (hp : p < 18446744073709551616) (ho : ¬ okAt height (l, p)) (A : Option Addr) (n c : Nat) (O : Option Addr) (d : Nat) (w0 : World) : Calls Tryd.prog 34 #[.agg #[.int .i64 (height : Int), .slice A n c, .slice O 33 d], .int .i64 (l : Int), .int .u64 (p : Int)] w0 (Ret w0 (.bool false)) := by
  have h := rhas_R height l p hh hp A n c O d w0
  rwa [decide_eq_false ho] at h
theorem actL_bool (a : Go.E.Act) : (vl (.agg (actL a).toArray))[33]? = some (.bool a.d) := by
  rw [vl_agg, actL, show 33 = 32 + 1 from rfl, List.getElem?_cons_succ, List.getElem?_append_right (by rw [hvl_length]; decide), hvl_length]; rfl

set_option maxHeartbeats 400000 in
theorem is_walk (k n : Nat) (w0 : World) :
    Calls Tryd.prog 35 #[errv 58 k, .int .i64 (n : Int)] w0 (Post w0 [] fun v L => v = .bool (decide (k = n)) ∧ L = []) := by
  refine Calls.of (L := []) (n := 9) (rs := [.tmp 4]) Tryd.func35 rfl rfl rfl (Nat.le_of_ble_eq_true rfl) (Sat.nil _) ?_
  refine TC.seq ?_
  refine TC.region ?_
  refine S.q rfl rfl (Qt.assign (by conv => lhs; whnf)) ?_
  refine S.nil ?_
  refine TC.seq ?_
  refine TC.region ?_
  refine S.q rfl rfl (Qt.move (by conv => lhs; whnf)) ?_
  refine S.opS rfl rfl (OpV.con0 Tryd.ent24 rfl (fun w hw => num_R k w) ?_)
  refine S.q rfl rfl (Qt.move (by conv => lhs; whnf)) ?_
  refine S.q rfl rfl (Qt.eq rfl rfl) ?_
  refine S.q rfl rfl (Qt.assign (by conv => lhs; whnf)) ?_
  refine S.nil ?_
  refine TC.ret ?_
  refine finQ.ret (RVs.tmp (by conv => lhs; whnf) RVs.nil) (Sub.nil _) ?_
  exact ⟨rfl, rfl⟩
theorem is_R (k n : Nat) (w0 : World) : Calls Tryd.prog 35 #[errv 58 k, .int .i64 (n : Int)] w0 (Ret w0 (.bool (decide (k = n)))) := Calls.ret (is_walk k n w0)
theorem is1 (w : World) : Calls Tryd.prog 35 #[.iface 58 (.int .i64 1), .int .i64 1] w (Ret w (.bool true)) := is_R 1 1 w

set_option maxHeartbeats 400000 in
theorem drop_walk (E : Nat → H32) (tb mb height : Nat) (ms : Tm) (i : Nat) (hh : height ≤ 32) (hi : i < 2 ^ height) (w0 : World) (hL : Sat w0 [Blk tb 150 (treeCs E height mb), MapA mb encAt hv (ms)]) (hT : Tabs 2 0 w0 (fps [Blk tb 150 (treeCs E height mb), MapA mb encAt hv (ms)])) :
    Calls Tryd.prog 78 #[.pointer (some ⟨tb, 0, none⟩), .int .u64 (i : Int)] w0 (Post w0 (fps [Blk tb 150 (treeCs E height mb), MapA mb encAt hv (ms)]) fun v L => v = .nilIface ∧ L = [Blk tb 150 (treeCs E height mb), MapA mb encAt hv (setK E ms i (E 0) height)]) := by
  refine Calls.of (L := [Blk tb 150 (treeCs E height mb), MapA mb encAt hv (ms)]) (n := 16) (rs := [.tmp 4]) Tryd.func78 rfl rfl rfl (Nat.le_of_ble_eq_true rfl) (hL) ?_
  refine TC.seq ?_
  refine TC.region ?_
  refine S.q rfl rfl (Qt.assign (by conv => lhs; whnf)) ?_
  refine S.nil ?_
  refine TC.seq ?_
  refine TC.seq ?_
  refine TC.region ?_
  refine S.q rfl rfl (Qt.move (by conv => lhs; whnf)) ?_
  refine S.q rfl rfl (Qt.eqp_some Tryd.underlying35 rfl) ?_
  refine S.nil ?_
  refine S.if_f rfl ?_
  refine TC.skip ?_
  refine TC.seq ?_
  refine TC.region ?_
  refine S.q rfl rfl (Qt.move (by conv => lhs; whnf)) ?_
  refine S.q rfl rfl (Qt.move (by conv => lhs; whnf)) ?_
  refine S.q rfl rfl (Qt.move (by conv => lhs; whnf)) ?_
  refine S.q rfl rfl (Qt.nilCheck rfl) ?_
  refine S.q rfl rfl (Qt.field Tryd.underlying150 rfl Tryd.cells142 rfl) ?_
  refine S.q rfl rfl (Qt.indexB (i := 0) Tryd.underlying142 Tryd.cells23 rfl rfl (by omega)) ?_
  refine S.q rfl rfl (Qt.load rfl (Ld.treeE (Has.at 0 rfl) 0 Tryd.row23 Tryd.cells23 (by omega) rfl)) ?_
  refine S.opS rfl rfl (OpV.con (Pre := [Blk tb 150 (treeCs E height mb), MapA mb encAt hv (ms)]) (R := _) Tryd.ent27 rfl (List.Perm.refl _) (fun w hw => set_walk E tb mb height ms i (E 0) hh hi w hw.sat.left (hT.of_go hw (fun b hb => .inl hb))) ?_)
  rintro v L' ⟨rfl, rfl⟩
  refine S.q rfl rfl (Qt.assign (by conv => lhs; whnf)) ?_
  refine S.nil ?_
  refine TC.ret ?_
  refine finQ.ret (RVs.tmp (by conv => lhs; whnf) RVs.nil) (Sub.refl _) ?_
  exact ⟨rfl, rfl⟩
set_option maxHeartbeats 400000 in
theorem drop_walkF (E : Nat → H32) (tb mb height : Nat) (i : Nat) (hh : height ≤ 32) (hp : i < 18446744073709551616) (hi : ¬ i < 2 ^ height) (w0 : World) (hB : Ro w0 [] (Blk tb 150 (treeCs E height mb))) :
    Calls Tryd.prog 78 #[.pointer (some ⟨tb, 0, none⟩), .int .u64 (i : Int)] w0 (Post w0 [] fun v L => v = .iface 58 (.int .i64 1) ∧ L = []) := by
  refine Calls.of (L := []) (n := 16) (rs := [.tmp 4]) Tryd.func78 rfl rfl rfl (Nat.le_of_ble_eq_true rfl) (Sat.nil _) ?_
  refine TC.seq ?_
  refine TC.region ?_
  refine S.q rfl rfl (Qt.assign (by conv => lhs; whnf)) ?_
  refine S.nil ?_
  refine TC.seq ?_
  refine TC.seq ?_
  refine TC.region ?_
  refine S.q rfl rfl (Qt.move (by conv => lhs; whnf)) ?_
  refine S.q rfl rfl (Qt.eqp_some Tryd.underlying35 rfl) ?_
  refine S.nil ?_
  refine S.if_f rfl ?_
  refine TC.skip ?_
  refine TC.seq ?_
  refine TC.region ?_
  refine S.q rfl rfl (Qt.move (by conv => lhs; whnf)) ?_
  refine S.q rfl rfl (Qt.move (by conv => lhs; whnf)) ?_
  refine S.q rfl rfl (Qt.move (by conv => lhs; whnf)) ?_
  refine S.q rfl rfl (Qt.nilCheck rfl) ?_
  refine S.q rfl rfl (Qt.field Tryd.underlying150 rfl Tryd.cells142 rfl) ?_
  refine S.q rfl rfl (Qt.indexB (i := 0) Tryd.underlying142 Tryd.cells23 rfl rfl (by omega)) ?_
  refine S.q rfl rfl (Qt.load rfl (Ld.treeE (Has.ro hB) 0 Tryd.row23 Tryd.cells23 (by omega) rfl)) ?_
  refine S.opS rfl rfl (OpV.con0 Tryd.ent27 rfl (fun w hw => setF_R E tb mb height i (E 0) hh hp hi w (Rd.ro hB w hw)) ?_)
  refine S.q rfl rfl (Qt.assign (by conv => lhs; whnf)) ?_
  refine S.nil ?_
  refine TC.ret ?_
  refine finQ.ret (RVs.tmp (by conv => lhs; whnf) RVs.nil) (Sub.nil _) ?_
  exact ⟨rfl, rfl⟩
theorem dropF_R (E : Nat → H32) (tb mb height : Nat) (i : Nat) (hh : height ≤ 32) (hp : i < 18446744073709551616) (hi : ¬ i < 2 ^ height) (w0 : World) (hB : Ro w0 [] (Blk tb 150 (treeCs E height mb))) : Calls Tryd.prog 78 #[.pointer (some ⟨tb, 0, none⟩), .int .u64 (i : Int)] w0 (Ret w0 (.iface 58 (.int .i64 1))) := Calls.ret (drop_walkF E tb mb height i hh hp hi w0 hB)

set_option maxHeartbeats 400000 in
theorem both_walkL (E : Nat → H32) (z : Int) (A : Option Addr) (c : Nat) (xs : List Go.E.Act) (hxs : 25 < xs.length) (w0 : World) :
    Calls Tryd.prog 32 #[.int .i64 z, .slice A xs.length c] w0 (Post w0 [] fun v L => v = .tuple #[.pointer none, .agg #[.int .i64 0, .slice none 0 0, .slice none 0 0], .bool true, .bool false] ∧ L = []) := by
  refine Calls.of (L := []) (n := 82) (rs := [.tmp 4, .cell 5 52, .tmp 6, .tmp 7]) Tryd.func32 rfl rfl rfl (Nat.le_of_ble_eq_true rfl) (Sat.nil _) ?_
  refine TC.seq ?_
  refine TC.region ?_
  refine S.q rfl rfl (Qt.assign (by conv => lhs; whnf)) ?_
  refine S.opS rfl rfl (OpV.alloc Tryd.zero52 (fun b5 => ?_))
  refine S.q rfl rfl (Qt.assign (by conv => lhs; whnf)) ?_
  refine S.q rfl rfl (Qt.assign (by conv => lhs; whnf)) ?_
  refine S.nil ?_
  refine TC.seq ?_
  refine TC.seq ?_
  refine TC.region ?_
  refine S.q rfl rfl (Qt.move (by conv => lhs; whnf)) ?_
  refine S.q rfl rfl (Qt.len_slice Tryd.underlying34 rfl) ?_
  refine S.q rfl rfl (Qt.dT (Qt.gt (b := 25) rfl rfl) (by omega)) ?_
  refine S.nil ?_
  refine S.if_t rfl ?_
  refine TC.seq ?_
  refine TC.region ?_
  refine S.q rfl rfl (Qt.build (v := .agg #[.int .i64 0, .slice none 0 0, .slice none 0 0]) rfl (fun _ => by kernel_rfl)) ?_
  refine S.q rfl rfl (Qt.assign (by conv => lhs; whnf)) ?_
  refine S.opN rfl (OpV.storeV0 rfl (by conv => lhs; whnf) (by exact Tryd.cells52) (by rfl) (by rfl) ?_)
  refine S.q rfl rfl (Qt.assign (by conv => lhs; whnf)) ?_
  refine S.q rfl rfl (Qt.assign (by conv => lhs; whnf)) ?_
  refine S.nil ?_
  refine TC.ret ?_
  refine finQ.ret (RVs.tmp (by conv => lhs; whnf) (RVs.cell rfl (Ld.all (Has.at 0 rfl) Tryd.row52 (Tryd.cells52)) (RVs.tmp (by conv => lhs; whnf) (RVs.tmp (by conv => lhs; whnf) RVs.nil)))) (Sub.nil _) ?_
  exact ⟨rfl, rfl⟩
theorem bothL_R (E : Nat → H32) (z : Int) (A : Option Addr) (c : Nat) (xs : List Go.E.Act) (hxs : 25 < xs.length) (w0 : World) : Calls Tryd.prog 32 #[.int .i64 z, .slice A xs.length c] w0 (Ret w0 (.tuple #[.pointer none, .agg #[.int .i64 0, .slice none 0 0, .slice none 0 0], .bool true, .bool false])) := Calls.ret (both_walkL E z A c xs hxs w0)

set_option maxHeartbeats 400000 in
theorem both_walkZ (E : Nat → H32) (z : Int) (A : Option Addr) (c : Nat) (xs : List Go.E.Act) (hxs : xs.length ≤ 25) (hz : z < 0 ∨ 32 < z) (w0 : World) :
    Calls Tryd.prog 32 #[.int .i64 z, .slice A xs.length c] w0 (Post w0 [] fun v L => v = .tuple #[.pointer none, .agg #[.int .i64 0, .slice none 0 0, .slice none 0 0], .bool true, .bool false] ∧ L = []) := by
  refine Calls.of (L := []) (n := 82) (rs := [.tmp 4, .cell 5 52, .tmp 6, .tmp 7]) Tryd.func32 rfl rfl rfl (Nat.le_of_ble_eq_true rfl) (Sat.nil _) ?_
  refine TC.seq ?_
  refine TC.region ?_
  refine S.q rfl rfl (Qt.assign (by conv => lhs; whnf)) ?_
  refine S.opS rfl rfl (OpV.alloc Tryd.zero52 (fun b5 => ?_))
  refine S.q rfl rfl (Qt.assign (by conv => lhs; whnf)) ?_
  refine S.q rfl rfl (Qt.assign (by conv => lhs; whnf)) ?_
  refine S.nil ?_
  refine TC.seq ?_
  refine TC.seq ?_
  refine TC.region ?_
  refine S.q rfl rfl (Qt.move (by conv => lhs; whnf)) ?_
  refine S.q rfl rfl (Qt.len_slice Tryd.underlying34 rfl) ?_
  refine S.q rfl rfl (Qt.dF (Qt.gt (b := 25) rfl rfl) (by omega)) ?_
  refine S.nil ?_
  refine S.if_f rfl ?_
  refine TC.skip ?_
  refine TC.seq ?_
  refine TC.region ?_
  refine S.q rfl rfl (Qt.move (by conv => lhs; whnf)) ?_
  refine S.opS rfl rfl (OpV.con0 Tryd.ent26 rfl (fun w hw => newF_R z hz w) ?_)
  refine S.q rfl rfl (Qt.move (by conv => lhs; whnf)) ?_
  refine S.q rfl rfl (Qt.extract rfl rfl) ?_
  refine S.q rfl rfl (Qt.extract rfl rfl) ?_
  refine S.q rfl rfl (Qt.assign (by conv => lhs; whnf)) ?_
  refine S.q rfl rfl (Qt.assign (by conv => lhs; whnf)) ?_
  refine S.nil ?_
  refine TC.seq ?_
  refine TC.seq ?_
  refine TC.region ?_
  refine S.q rfl rfl (Qt.move (by conv => lhs; whnf)) ?_
  refine S.dec rfl rfl (Qt.lti rfl rfl) (fun h25 => ?_) (fun h25 => ?_)
  · refine S.q rfl rfl (Qt.move (by conv => lhs; whnf)) ?_
    refine S.pass rfl rfl ?_
    refine S.pass rfl rfl ?_
    refine S.q rfl rfl (Qt.pick_t rfl (by conv => lhs; whnf)) ?_
    refine S.nil ?_
    refine S.if_t rfl ?_
    refine TC.seq ?_
    refine TC.region ?_
    refine S.q rfl rfl (Qt.build (v := .agg #[.int .i64 0, .slice none 0 0, .slice none 0 0]) rfl (fun _ => by kernel_rfl)) ?_
    refine S.q rfl rfl (Qt.move (by conv => lhs; whnf)) ?_
    refine S.opS rfl rfl (OpV.con0 Tryd.ent35 rfl (fun w hw => is1 w) ?_)
    refine S.q rfl rfl (Qt.move (by conv => lhs; whnf)) ?_
    refine S.qg rfl rfl rfl (Qt.move (by conv => lhs; whnf)) ?_
    refine S.qg rfl rfl rfl (Qt.eqp_none Tryd.underlying35 rfl) ?_
    refine S.q rfl rfl (Qt.pick_t rfl (by conv => lhs; whnf)) ?_
    refine S.q rfl rfl (Qt.assign (by conv => lhs; whnf)) ?_
    refine S.opN rfl (OpV.storeV0 rfl (by conv => lhs; whnf) (by exact Tryd.cells52) (by rfl) (by rfl) ?_)
    refine S.q rfl rfl (Qt.assign (by conv => lhs; whnf)) ?_
    refine S.q rfl rfl (Qt.assign (by conv => lhs; whnf)) ?_
    refine S.nil ?_
    refine TC.ret ?_
    refine finQ.ret (RVs.tmp (by conv => lhs; whnf) (RVs.cell rfl (Ld.all (Has.at 0 rfl) Tryd.row52 (Tryd.cells52)) (RVs.tmp (by conv => lhs; whnf) (RVs.tmp (by conv => lhs; whnf) RVs.nil)))) (Sub.nil _) ?_
    exact ⟨rfl, rfl⟩
  · refine S.q rfl rfl (Qt.move (by conv => lhs; whnf)) ?_
    refine S.qg rfl rfl rfl (Qt.move (by conv => lhs; whnf)) ?_
    refine S.qg rfl rfl rfl (Qt.dT (Qt.gti rfl rfl) (by omega)) ?_
    refine S.q rfl rfl (Qt.pick_f rfl (by conv => lhs; whnf)) ?_
    refine S.nil ?_
    refine S.if_t rfl ?_
    refine TC.seq ?_
    refine TC.region ?_
    refine S.q rfl rfl (Qt.build (v := .agg #[.int .i64 0, .slice none 0 0, .slice none 0 0]) rfl (fun _ => by kernel_rfl)) ?_
    refine S.q rfl rfl (Qt.move (by conv => lhs; whnf)) ?_
    refine S.opS rfl rfl (OpV.con0 Tryd.ent35 rfl (fun w hw => is1 w) ?_)
    refine S.q rfl rfl (Qt.move (by conv => lhs; whnf)) ?_
    refine S.qg rfl rfl rfl (Qt.move (by conv => lhs; whnf)) ?_
    refine S.qg rfl rfl rfl (Qt.eqp_none Tryd.underlying35 rfl) ?_
    refine S.q rfl rfl (Qt.pick_t rfl (by conv => lhs; whnf)) ?_
    refine S.q rfl rfl (Qt.assign (by conv => lhs; whnf)) ?_
    refine S.opN rfl (OpV.storeV0 rfl (by conv => lhs; whnf) (by exact Tryd.cells52) (by rfl) (by rfl) ?_)
    refine S.q rfl rfl (Qt.assign (by conv => lhs; whnf)) ?_
    refine S.q rfl rfl (Qt.assign (by conv => lhs; whnf)) ?_
    refine S.nil ?_
    refine TC.ret ?_
    refine finQ.ret (RVs.tmp (by conv => lhs; whnf) (RVs.cell rfl (Ld.all (Has.at 0 rfl) Tryd.row52 (Tryd.cells52)) (RVs.tmp (by conv => lhs; whnf) (RVs.tmp (by conv => lhs; whnf) RVs.nil)))) (Sub.nil _) ?_
    exact ⟨rfl, rfl⟩
theorem bothZ_R (E : Nat → H32) (z : Int) (A : Option Addr) (c : Nat) (xs : List Go.E.Act) (hxs : xs.length ≤ 25) (hz : z < 0 ∨ 32 < z) (w0 : World) : Calls Tryd.prog 32 #[.int .i64 z, .slice A xs.length c] w0 (Ret w0 (.tuple #[.pointer none, .agg #[.int .i64 0, .slice none 0 0, .slice none 0 0], .bool true, .bool false])) := Calls.ret (both_walkZ E z A c xs hxs hz w0)

end Go.Proofs.YtlneklemjfefpaaDoor
