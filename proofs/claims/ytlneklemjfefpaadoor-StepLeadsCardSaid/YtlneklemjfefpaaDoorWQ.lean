/-
  Walks: the law of a tree's steps. Printed by a program of ours.
-/
import Derived.Test.YtlneklemjfefpaaDoorX1
import Derived.Test.YtlneklemjfefpaaDoorW3
import Derived.Test.YtlneklemjfefpaaDoorU2
import Derived.Test.YtlneklemjfefpaaDoorU1
import Derived.Test.YtlneklemjfefpaaDoorT4
import Derived.Test.YtlneklemjfefpaaDoorLY
import Derived.Test.YtlneklemjfefpaaDoorX2
namespace Go.Proofs.YtlneklemjfefpaaDoor
open Go.E
set_option linter.unusedVariables false
set_option maxRecDepth 4000
theorem writeR_tree {E : Nat → H32} {h : Nat} {g g2 : Nat → H32} {ms ms2 : Tm} {xs : List Nat} {k : Nat} (hh : h ≤ 32) (ht : TreeOk E h g ms) (ht2 : TreeOk E h g2 ms2) (hi : idxOk h xs) (hn : NewOk xs g g2 k) (hk : xs.length ≤ k) :
    writeR (getT E ms (h, 0)) (h : Int) xs (xs.map fun x => getT E ms (0, x)) ((spots h xs 0).map fun a => getT E ms a) ((List.range xs.length).map LF) = (getT E ms2 (h, 0), 0) := by
  rw [writeR, if_neg (fun q => q (chkR_0 (chk_tree hh ht hi))), ← hn.all hk, root_tree hh ht hi fun i _ h2 => (hn.off i h2).symm, ht2.get _ (okRoot _)]
theorem Tryd.build23 (k : Nat) (w : World) : (Instr.build 23 #[(0, .int .u8 (((UInt8.ofNat k).toNat : Nat) : Int)), (1, .int .u8 1)]).run Tryd.prog w = .ok (hv (LF k)) w := by kernel_rfl
set_option maxHeartbeats 1600000 in
theorem law20_walkE1 (E : Nat → H32) (hEm : ∀ w, Tabs 2 0 w [] → Calls Tryd.prog 88 #[] w (Ret w (.agg (hcs (emptL E)).toArray))) (hne : E 0 ≠ E 1) (n : Nat) (hn64 : n < 18446744073709551616) (A : Option Addr) (c : Nat) (xs : List Go.E.Act) (B : Option Addr) (d : Nat) (js : List Go.E.Act) (b : Nat) (hx : 20 < xs.length) (w0 : World)  (hT : Tabs 2 0 w0 []) :
    Calls Tryd.prog 20 #[.int .u64 (n : Int), .agg #[.slice A xs.length c, .slice B js.length d], .int .u64 (b : Int)] w0 (Post w0 [] fun v L => v = .bool true ∧ L = []) := by
  refine Calls.of (L := []) (n := 193) (rs := [.tmp 6]) Tryd.func20 rfl rfl rfl (Nat.le_of_ble_eq_true rfl) (Sat.nil _) ?_
  refine TC.seq ?_
  refine TC.region ?_
  refine S.opS rfl rfl (OpV.box (v := .agg #[.slice A xs.length c, .slice B js.length d]) rfl (fun b4 => ?_))
  refine S.q rfl rfl (Qt.assign (by conv => lhs; whnf)) ?_
  refine S.nil ?_
  refine TC.seq ?_
  refine TC.seq ?_
  refine TC.region ?_
  refine S.opS rfl rfl (OpV.con0 Tryd.ent21 rfl (fun w hw => Calls.ret (alive12_walk E hEm hne w (hT.at hw))) ?_)
  refine S.q rfl rfl (Qt.not_t rfl) ?_
  refine S.nil ?_
  refine S.if_f rfl ?_
  refine TC.skip ?_
  refine TC.seq ?_
  refine TC.seq ?_
  refine TC.region ?_
  refine S.q rfl rfl (Qt.indexB (i := 0) Tryd.underlying140 Tryd.cells34 rfl rfl (by omega)) ?_
  refine S.q rfl rfl (Qt.load rfl (Ld.one (v := .slice A xs.length c) (Has.at 0 rfl) Tryd.one34 rfl)) ?_
  refine S.q rfl rfl (Qt.len_slice Tryd.underlying34 rfl) ?_
  refine S.q rfl rfl (Qt.dT (Qt.gt (b := 20) rfl rfl) (by omega)) ?_
  refine S.q rfl rfl (Qt.move (by conv => lhs; whnf)) ?_
  refine S.pass rfl rfl ?_
  refine S.pass rfl rfl ?_
  refine S.pass rfl rfl ?_
  refine S.pass rfl rfl ?_
  refine S.q rfl rfl (Qt.pick_t rfl (by conv => lhs; whnf)) ?_
  refine S.nil ?_
  refine S.if_t rfl ?_
  refine TC.seq ?_
  refine TC.region ?_
  refine S.q rfl rfl (Qt.assign (by conv => lhs; whnf)) ?_
  refine S.nil ?_
  refine TC.ret ?_
  refine finQ.ret (RVs.tmp (by conv => lhs; whnf) RVs.nil) (Sub.nil _) ?_
  exact ⟨rfl, rfl⟩
set_option maxHeartbeats 1600000 in
theorem law20_walkE2 (E : Nat → H32) (hEm : ∀ w, Tabs 2 0 w [] → Calls Tryd.prog 88 #[] w (Ret w (.agg (hcs (emptL E)).toArray))) (hne : E 0 ≠ E 1) (n : Nat) (hn64 : n < 18446744073709551616) (A : Option Addr) (c : Nat) (xs : List Go.E.Act) (B : Option Addr) (d : Nat) (js : List Go.E.Act) (b : Nat) (hx : xs.length ≤ 20) (hj : 20 < js.length) (w0 : World)  (hT : Tabs 2 0 w0 []) :
    Calls Tryd.prog 20 #[.int .u64 (n : Int), .agg #[.slice A xs.length c, .slice B js.length d], .int .u64 (b : Int)] w0 (Post w0 [] fun v L => v = .bool true ∧ L = []) := by
  refine Calls.of (L := []) (n := 193) (rs := [.tmp 6]) Tryd.func20 rfl rfl rfl (Nat.le_of_ble_eq_true rfl) (Sat.nil _) ?_
  refine TC.seq ?_
  refine TC.region ?_
  refine S.opS rfl rfl (OpV.box (v := .agg #[.slice A xs.length c, .slice B js.length d]) rfl (fun b4 => ?_))
  refine S.q rfl rfl (Qt.assign (by conv => lhs; whnf)) ?_
  refine S.nil ?_
  refine TC.seq ?_
  refine TC.seq ?_
  refine TC.region ?_
  refine S.opS rfl rfl (OpV.con0 Tryd.ent21 rfl (fun w hw => Calls.ret (alive12_walk E hEm hne w (hT.at hw))) ?_)
  refine S.q rfl rfl (Qt.not_t rfl) ?_
  refine S.nil ?_
  refine S.if_f rfl ?_
  refine TC.skip ?_
  refine TC.seq ?_
  refine TC.seq ?_
  refine TC.region ?_
  refine S.q rfl rfl (Qt.indexB (i := 0) Tryd.underlying140 Tryd.cells34 rfl rfl (by omega)) ?_
  refine S.q rfl rfl (Qt.load rfl (Ld.one (v := .slice A xs.length c) (Has.at 0 rfl) Tryd.one34 rfl)) ?_
  refine S.q rfl rfl (Qt.len_slice Tryd.underlying34 rfl) ?_
  refine S.q rfl rfl (Qt.dF (Qt.gt (b := 20) rfl rfl) (by omega)) ?_
  refine S.q rfl rfl (Qt.move (by conv => lhs; whnf)) ?_
  refine S.qg rfl rfl rfl (Qt.indexB (i := 1) Tryd.underlying140 Tryd.cells34 rfl rfl (by omega)) ?_
  refine S.qg rfl rfl rfl (Qt.load rfl (Ld.one (v := .slice B js.length d) (Has.at 0 rfl) Tryd.one34 rfl)) ?_
  refine S.qg rfl rfl rfl (Qt.len_slice Tryd.underlying34 rfl) ?_
  refine S.qg rfl rfl rfl (Qt.dT (Qt.gt (b := 20) rfl rfl) (by omega)) ?_
  refine S.q rfl rfl (Qt.pick_f rfl (by conv => lhs; whnf)) ?_
  refine S.nil ?_
  refine S.if_t rfl ?_
  refine TC.seq ?_
  refine TC.region ?_
  refine S.q rfl rfl (Qt.assign (by conv => lhs; whnf)) ?_
  refine S.nil ?_
  refine TC.ret ?_
  refine finQ.ret (RVs.tmp (by conv => lhs; whnf) RVs.nil) (Sub.nil _) ?_
  exact ⟨rfl, rfl⟩
set_option maxHeartbeats 1600000 in
theorem law20_walkF (E : Nat → H32) (hEm : ∀ w, Tabs 2 0 w [] → Calls Tryd.prog 88 #[] w (Ret w (.agg (hcs (emptL E)).toArray))) (hne : E 0 ≠ E 1) (n : Nat) (hn64 : n < 18446744073709551616) (A : Option Addr) (c : Nat) (xs : List Go.E.Act) (B : Option Addr) (d : Nat) (js : List Go.E.Act) (b : Nat) (hx : xs.length ≤ 20) (hj : js.length ≤ 20) (hn : ¬ okN n) (w0 : World)  (hT : Tabs 2 0 w0 []) :
    Calls Tryd.prog 20 #[.int .u64 (n : Int), .agg #[.slice A xs.length c, .slice B js.length d], .int .u64 (b : Int)] w0 (Post w0 [] fun v L => v = .bool true ∧ L = []) := by
  refine Calls.of (L := []) (n := 193) (rs := [.tmp 6]) Tryd.func20 rfl rfl rfl (Nat.le_of_ble_eq_true rfl) (Sat.nil _) ?_
  refine TC.seq ?_
  refine TC.region ?_
  refine S.opS rfl rfl (OpV.box (v := .agg #[.slice A xs.length c, .slice B js.length d]) rfl (fun b4 => ?_))
  refine S.q rfl rfl (Qt.assign (by conv => lhs; whnf)) ?_
  refine S.nil ?_
  refine TC.seq ?_
  refine TC.seq ?_
  refine TC.region ?_
  refine S.opS rfl rfl (OpV.con0 Tryd.ent21 rfl (fun w hw => Calls.ret (alive12_walk E hEm hne w (hT.at hw))) ?_)
  refine S.q rfl rfl (Qt.not_t rfl) ?_
  refine S.nil ?_
  refine S.if_f rfl ?_
  refine TC.skip ?_
  refine TC.seq ?_
  refine TC.seq ?_
  refine TC.region ?_
  refine S.q rfl rfl (Qt.indexB (i := 0) Tryd.underlying140 Tryd.cells34 rfl rfl (by omega)) ?_
  refine S.q rfl rfl (Qt.load rfl (Ld.one (v := .slice A xs.length c) (Has.at 0 rfl) Tryd.one34 rfl)) ?_
  refine S.q rfl rfl (Qt.len_slice Tryd.underlying34 rfl) ?_
  refine S.q rfl rfl (Qt.dF (Qt.gt (b := 20) rfl rfl) (by omega)) ?_
  refine S.q rfl rfl (Qt.move (by conv => lhs; whnf)) ?_
  refine S.qg rfl rfl rfl (Qt.indexB (i := 1) Tryd.underlying140 Tryd.cells34 rfl rfl (by omega)) ?_
  refine S.qg rfl rfl rfl (Qt.load rfl (Ld.one (v := .slice B js.length d) (Has.at 0 rfl) Tryd.one34 rfl)) ?_
  refine S.qg rfl rfl rfl (Qt.len_slice Tryd.underlying34 rfl) ?_
  refine S.qg rfl rfl rfl (Qt.dF (Qt.gt (b := 20) rfl rfl) (by omega)) ?_
  refine S.q rfl rfl (Qt.pick_f rfl (by conv => lhs; whnf)) ?_
  refine S.nil ?_
  refine S.if_f rfl ?_
  refine TC.skip ?_
  refine TC.seq ?_
  refine TC.region ?_
  refine S.q rfl rfl (Qt.move (by conv => lhs; whnf)) ?_
  refine S.opS rfl rfl (OpV.con0 Tryd.ent80 rfl (fun w hw => Calls.ret (height_walkF n hn w)) ?_)
  refine S.q rfl rfl (Qt.move (by conv => lhs; whnf)) ?_
  refine S.q rfl rfl (Qt.extract rfl rfl) ?_
  refine S.q rfl rfl (Qt.extract rfl rfl) ?_
  refine S.q rfl rfl (Qt.assign (by conv => lhs; whnf)) ?_
  refine S.q rfl rfl (Qt.assign (by conv => lhs; whnf)) ?_
  refine S.nil ?_
  refine TC.seq ?_
  refine TC.seq ?_
  refine TC.region ?_
  refine S.q rfl rfl (Qt.move (by conv => lhs; whnf)) ?_
  refine S.q rfl rfl (Qt.nenil_iface Tryd.underlying27 rfl) ?_
  refine S.nil ?_
  refine S.if_t rfl ?_
  refine TC.seq ?_
  refine TC.region ?_
  refine S.q rfl rfl (Qt.move (by conv => lhs; whnf)) ?_
  refine S.q rfl rfl (Qt.dT (Qt.eqi rfl rfl) (rfl)) ?_
  refine S.q rfl rfl (Qt.assign (by conv => lhs; whnf)) ?_
  refine S.nil ?_
  refine TC.ret ?_
  refine finQ.ret (RVs.tmp (by conv => lhs; whnf) RVs.nil) (Sub.nil _) ?_
  exact ⟨rfl, rfl⟩
set_option maxHeartbeats 6400000 in
theorem law20_walk (E : Nat → H32) (hEm : ∀ w, Tabs 2 0 w [] → Calls Tryd.prog 88 #[] w (Ret w (.agg (hcs (emptL E)).toArray))) (hE : ∀ h, E (h + 1) = joinH (h + 1) (E h) (E h)) (hne : E 0 ≠ E 1) (n : Nat) (hn : okN n) (A : Option Addr) (c : Nat) (xs : List Go.E.Act) (hx : xs.length ≤ 20) (B : Option Addr) (d : Nat) (js : List Go.E.Act) (hj : js.length ≤ 20) (b : Nat) (hb64 : b < 18446744073709551616) (w0 : World) (hR : Ro w0 [] (SlA A (xs.flatMap actL))) (hJ : Ro w0 [] (SlA B (js.flatMap actL))) (hT : Tabs 2 0 w0 []) :
    Calls Tryd.prog 20 #[.int .u64 (n : Int), .agg #[.slice A xs.length c, .slice B js.length d], .int .u64 (b : Int)] w0 (Post w0 [] fun v L => v = .bool true ∧ L = []) := by
  refine Calls.of (L := []) (n := 193) (rs := [.tmp 6]) Tryd.func20 rfl rfl rfl (Nat.le_of_ble_eq_true rfl) (Sat.nil _) ?_
  have hh := hgt_le hn
  have hnl := hgt_lt hn
  have hn1 := hn.1
  have hn2 := hn.2
  refine TC.seq ?_
  refine TC.region ?_
  refine S.opS rfl rfl (OpV.box (v := .agg #[.slice A xs.length c, .slice B js.length d]) rfl (fun b4 => ?_))
  refine S.q rfl rfl (Qt.assign (by conv => lhs; whnf)) ?_
  refine S.nil ?_
  refine TC.seq ?_
  refine TC.seq ?_
  refine TC.region ?_
  refine S.opS rfl rfl (OpV.con0 Tryd.ent21 rfl (fun w hw => Calls.ret (alive12_walk E hEm hne w (hT.at hw))) ?_)
  refine S.q rfl rfl (Qt.not_t rfl) ?_
  refine S.nil ?_
  refine S.if_f rfl ?_
  refine TC.skip ?_
  refine TC.seq ?_
  refine TC.seq ?_
  refine TC.region ?_
  refine S.q rfl rfl (Qt.indexB (i := 0) Tryd.underlying140 Tryd.cells34 rfl rfl (by omega)) ?_
  refine S.q rfl rfl (Qt.load rfl (Ld.one (v := .slice A xs.length c) (Has.at 0 rfl) Tryd.one34 rfl)) ?_
  refine S.q rfl rfl (Qt.len_slice Tryd.underlying34 rfl) ?_
  refine S.q rfl rfl (Qt.dF (Qt.gt (b := 20) rfl rfl) (by omega)) ?_
  refine S.q rfl rfl (Qt.move (by conv => lhs; whnf)) ?_
  refine S.qg rfl rfl rfl (Qt.indexB (i := 1) Tryd.underlying140 Tryd.cells34 rfl rfl (by omega)) ?_
  refine S.qg rfl rfl rfl (Qt.load rfl (Ld.one (v := .slice B js.length d) (Has.at 0 rfl) Tryd.one34 rfl)) ?_
  refine S.qg rfl rfl rfl (Qt.len_slice Tryd.underlying34 rfl) ?_
  refine S.qg rfl rfl rfl (Qt.dF (Qt.gt (b := 20) rfl rfl) (by omega)) ?_
  refine S.q rfl rfl (Qt.pick_f rfl (by conv => lhs; whnf)) ?_
  refine S.nil ?_
  refine S.if_f rfl ?_
  refine TC.skip ?_
  refine TC.seq ?_
  refine TC.region ?_
  refine S.q rfl rfl (Qt.move (by conv => lhs; whnf)) ?_
  refine S.opS rfl rfl (OpV.con0 Tryd.ent80 rfl (fun w hw => Calls.ret (height_walkT n hn w)) ?_)
  refine S.q rfl rfl (Qt.move (by conv => lhs; whnf)) ?_
  refine S.q rfl rfl (Qt.extract rfl rfl) ?_
  refine S.q rfl rfl (Qt.extract rfl rfl) ?_
  refine S.q rfl rfl (Qt.assign (by conv => lhs; whnf)) ?_
  refine S.q rfl rfl (Qt.assign (by conv => lhs; whnf)) ?_
  refine S.nil ?_
  refine TC.seq ?_
  refine TC.seq ?_
  refine TC.region ?_
  refine S.q rfl rfl (Qt.move (by conv => lhs; whnf)) ?_
  refine S.q rfl rfl (Qt.nenil_nil Tryd.underlying27 rfl) ?_
  refine S.nil ?_
  refine S.if_f rfl ?_
  refine TC.skip ?_
  refine TC.seq ?_
  refine TC.region ?_
  refine S.q rfl rfl (Qt.move (by conv => lhs; whnf)) ?_
  refine S.opS rfl rfl (OpV.con (Pre := []) (R := _) Tryd.ent26 rfl (List.Perm.refl _) (fun w hw => new_walk E hEm (hgt n) hh w (hT.at hw)) ?_)
  rintro v L' ⟨tb, mb, rfl, rfl⟩
  refine S.q rfl rfl (Qt.move (by conv => lhs; whnf)) ?_
  refine S.q rfl rfl (Qt.extract rfl rfl) ?_
  refine S.q rfl rfl (Qt.extract rfl rfl) ?_
  refine S.q rfl rfl (Qt.assign (by conv => lhs; whnf)) ?_
  refine S.q rfl rfl (Qt.assign (by conv => lhs; whnf)) ?_
  refine S.nil ?_
  refine TC.seq ?_
  refine TC.seq ?_
  refine TC.region ?_
  refine S.q rfl rfl (Qt.move (by conv => lhs; whnf)) ?_
  refine S.q rfl rfl (Qt.nenil_nil Tryd.underlying27 rfl) ?_
  refine S.nil ?_
  refine S.if_f rfl ?_
  refine TC.skip ?_
  refine TC.seq ?_
  refine TC.seq ?_
  refine TC.region ?_
  refine S.q rfl rfl (Qt.indexB (i := 0) Tryd.underlying140 Tryd.cells34 rfl rfl (by omega)) ?_
  refine S.q rfl rfl (Qt.load rfl (Ld.one (v := .slice A xs.length c) (Has.at 2 rfl) Tryd.one34 rfl)) ?_
  refine S.q rfl rfl (Qt.len_slice Tryd.underlying34 rfl) ?_
  refine S.q rfl rfl (Qt.move (by conv => lhs; whnf)) ?_
  refine S.nil ?_
  refine TC.block ?_
  refine TC.loop (γ := Nat × Tm) [59, 60, 61, 11, 62, 63, 64, 65, 66, 67, 68, 69, 70, 71, 72, 58] (fun g => [(58, .int .i64 ((g.1 : Nat) : Int))]) (fun g => [Blk tb 150 (treeCs E (hgt n) mb), MapA mb encAt hv (g.2), Blk b4 140 (vl (.agg #[.slice A xs.length c, .slice B js.length d]))]) (fun g => g.1 ≤ xs.length ∧ ∃ g2, TreeOk E (hgt n) g2 g.2 ∧ (∀ p, n ≤ p → g2 p = E 0) ∧ InS E xs g.1 g2) (fun g => xs.length - g.1) ((0, []))
    ⟨Nat.zero_le _, _, TreeOk.empty hE _, fun _ _ => rfl, InS.zero E xs⟩ ⟨Out.refl _ _, (List.forall_mem_cons.2 ⟨rfl, (fun _ h => nomatch h)⟩)⟩ (Sub.refl _) ?_
  rintro ⟨k, ms⟩ u ⟨hk, g, ht, hz, hin⟩
  dsimp only at hk ht hin
  refine TC.seq ?_
  refine TC.region ?_
  refine S.dec rfl rfl (Qt.lt rfl rfl) (fun h59 => ?_) (fun h59 => ?_)
  · refine S.nil ?_
    refine TC.seq ?_
    refine S.if_t rfl ?_
    refine TC.skip ?_
    refine TC.seq ?_
    refine TC.block ?_
    refine TC.seq ?_
    refine TC.region ?_
    refine S.q rfl rfl (Qt.index Tryd.underlying34 Tryd.cells40 rfl rfl (by omega) (Has.ro hR) (by rw [acts_len]; omega)) ?_
    refine S.q rfl rfl (Qt.load rfl (Ld.slr (Has.ro hR) Tryd.row40 (by rw [actL_length]; exact Tryd.cells40) (by rw [actL_length]; decide) (acts_at h59))) ?_
    refine S.opS rfl rfl (OpV.alloc Tryd.zero40 (fun b11 => ?_))
    refine S.opN rfl (OpV.storeV0 (v := .agg (actL (xs.getD k act0)).toArray) rfl rfl (by rw [actL_vl]; exact Tryd.cells40) (actL_one _) (by rw [actL_vl]; rfl) ?_)
    refine S.nil ?_
    refine TC.seq ?_
    refine TC.region ?_
    refine S.q rfl rfl (Qt.field Tryd.underlying40 rfl Tryd.cells24 rfl) ?_
    refine S.q rfl rfl (Qt.load rfl (Ld.one (Has.at 0 rfl) Tryd.one24 (rfl))) ?_
    refine S.q rfl rfl (Qt.move (by conv => lhs; whnf)) ?_
    refine S.dec rfl rfl (Qt.lt rfl rfl) (fun h65 => ?_) (fun h65 => ?_)
    · refine S.nil ?_
      refine S.if_t rfl ?_
      refine TC.region ?_
      have hs : (xs.getD k act0).i < 2 ^ hgt n := by omega
      refine S.q rfl rfl (Qt.move (by conv => lhs; whnf)) ?_
      refine S.q rfl rfl (Qt.field Tryd.underlying40 rfl Tryd.cells24 rfl) ?_
      refine S.q rfl rfl (Qt.load rfl (Ld.one (Has.at 0 rfl) Tryd.one24 (rfl))) ?_
      refine S.q rfl rfl (Qt.field Tryd.underlying40 rfl Tryd.cells23 rfl) ?_
      refine S.q rfl rfl (Qt.load rfl (Ld.row (vs := hvl (xs.getD k act0).h) (Has.at 0 rfl) Tryd.row23 (by rw [hvl_length]; exact Tryd.cells23) (actL_hash _))) ?_
      refine S.opS rfl rfl (OpV.con (Pre := [Blk tb 150 (treeCs E (hgt n) mb), MapA mb encAt hv (ms)]) (R := _) Tryd.ent27 rfl ((List.perm_middle (l₁ := [_])).trans (List.Perm.cons _ (List.perm_middle (l₁ := [_])))) (fun w hw => set_walk E tb mb (hgt n) ms (xs.getD k act0).i (xs.getD k act0).h hh hs w hw.sat.left (hT.pre hw)) ?_)
      rintro v L' ⟨rfl, rfl⟩
      refine S.nil ?_
      refine TC.region ?_
      refine S.q rfl rfl (Qt.add (b := 1) rfl rfl (by simp only [kmax]; omega)) ?_
      refine S.q rfl rfl (Qt.move (by conv => lhs; whnf)) ?_
      refine S.nil ?_
      refine ⟨(k + 1, setK E ms (xs.getD k act0).i (xs.getD k act0).h (hgt n)), ?_, ?_, ⟨?_, (List.forall_mem_cons.2 ⟨rfl, (fun _ h => nomatch h)⟩)⟩, Sub.trans (Sub.keep _ (Sub.keep _ (Sub.keep _ (Sub.drop _ (Sub.nil []))))) (Sub.keep _ (Sub.keep _ (Sub.trans (Sub.keep _ (Sub.refl _)) (Sub.of_perm (List.perm_middle (l₁ := [_]))))))⟩
      · exact ⟨by show _ ≤ _; dsimp only; omega, _, ht.set hs _, fun p hp => by unfold updF; rw [if_neg (by omega)]; exact hz p hp, hin.set h59 _⟩
      · show _ < _; dsimp only; omega
      repeat (first | exact Out.refl _ _ | refine Out.put rfl ?_ | refine Out.puts rfl ?_ | refine Out.scr ?_ | refine Out.scr' rfl ?_)
    · refine S.nil ?_
      refine S.if_f rfl ?_
      refine TC.skip ?_
      refine TC.region ?_
      refine S.q rfl rfl (Qt.add (b := 1) rfl rfl (by simp only [kmax]; omega)) ?_
      refine S.q rfl rfl (Qt.move (by conv => lhs; whnf)) ?_
      refine S.nil ?_
      refine ⟨(k + 1, ms), ?_, ?_, ⟨?_, (List.forall_mem_cons.2 ⟨rfl, (fun _ h => nomatch h)⟩)⟩, Sub.trans (Sub.keep _ (Sub.keep _ (Sub.keep _ (Sub.drop _ (Sub.nil []))))) (Sub.trans (Sub.keep _ (Sub.trans (Sub.keep _ (Sub.trans (Sub.keep _ (Sub.refl _)) (Sub.of_perm (List.perm_middle (l₁ := [_]))))) (Sub.of_perm (List.perm_middle (l₁ := [_]))))) (Sub.of_perm (List.perm_middle (l₁ := [_]))))⟩
      · exact ⟨by show _ ≤ _; dsimp only; omega, g, ht, hz, hin.skip h59⟩
      · show _ < _; dsimp only; omega
      repeat (first | exact Out.refl _ _ | refine Out.put rfl ?_ | refine Out.puts rfl ?_ | refine Out.scr ?_ | refine Out.scr' rfl ?_)
  · refine S.nil ?_
    refine TC.seq ?_
    refine S.if_f rfl ?_
    refine TC.exit ?_
    refine TC.seq ?_
    refine TC.region ?_
    refine S.q rfl rfl (Qt.assign (by conv => lhs; whnf)) ?_
    refine S.nil ?_
    refine TC.seq ?_
    refine TC.seq ?_
    refine TC.region ?_
    refine S.q rfl rfl (Qt.indexB (i := 1) Tryd.underlying140 Tryd.cells34 rfl rfl (by omega)) ?_
    refine S.q rfl rfl (Qt.load rfl (Ld.one (v := .slice B js.length d) (Has.at 2 rfl) Tryd.one34 rfl)) ?_
    refine S.q rfl rfl (Qt.len_slice Tryd.underlying34 rfl) ?_
    refine S.q rfl rfl (Qt.move (by conv => lhs; whnf)) ?_
    refine S.nil ?_
    refine TC.block ?_
    refine TC.ownNil 24 1 ?_
    refine TC.loop (γ := Nat × List Nat × Option Addr × Nat) [77, 78, 79, 14, 80, 81, 82, 83, 84, 85, 86, 87, 88, 12, 89, 76] (fun g0 => [(76, .int .i64 ((g0.1 : Nat) : Int)), (12, .slice g0.2.2.1 g0.2.1.length g0.2.2.2)]) (fun g0 => [OwnA 24 1 g0.2.2.1 (g0.2.1).length g0.2.2.2 (u64s (g0.2.1)), Blk tb 150 (treeCs E (hgt n) mb), MapA mb encAt hv (ms), Blk b4 140 (vl (.agg #[.slice A xs.length c, .slice B js.length d]))]) (fun g0 => g0.1 ≤ js.length ∧ g0.2.1.length ≤ g0.1 ∧ ∀ x ∈ g0.2.1, x < n) (fun g0 => js.length - g0.1) ((0, [], none, 0))
      ⟨Nat.zero_le _, Nat.zero_le _, fun x hx => by cases hx⟩ ⟨Out.refl _ _, (List.forall_mem_cons.2 ⟨rfl, (List.forall_mem_cons.2 ⟨rfl, (fun _ h => nomatch h)⟩)⟩)⟩ (Sub.refl _) ?_
    rintro ⟨k, is, O, q⟩ u ⟨hk2, hlis, hil⟩
    dsimp only at hk2 hlis hil
    show TC _ _ _ (puts [(76, .int .i64 (k : Int)), (12, .slice O is.length q)] (scr _ u _)) [OwnA 24 1 O (is).length q (u64s (is)), Blk tb 150 (treeCs E (hgt n) mb), MapA mb encAt hv (ms), Blk b4 140 (vl (.agg #[.slice A xs.length c, .slice B js.length d]))]
    refine TC.seq ?_
    refine TC.region ?_
    refine S.dec rfl rfl (Qt.lt rfl rfl) (fun h77 => ?_) (fun h77 => ?_)
    · refine S.nil ?_
      refine TC.seq ?_
      refine S.if_t rfl ?_
      refine TC.skip ?_
      refine TC.seq ?_
      refine TC.block ?_
      refine TC.seq ?_
      refine TC.region ?_
      refine S.q rfl rfl (Qt.index Tryd.underlying34 Tryd.cells40 rfl rfl (by omega) (Has.ro hJ) (by rw [acts_len]; omega)) ?_
      refine S.q rfl rfl (Qt.load rfl (Ld.slr (Has.ro hJ) Tryd.row40 (by rw [actL_length]; exact Tryd.cells40) (by rw [actL_length]; decide) (acts_at h77))) ?_
      refine S.opS rfl rfl (OpV.alloc Tryd.zero40 (fun b14 => ?_))
      refine S.opN rfl (OpV.storeV0 (v := .agg (actL (js.getD k act0)).toArray) rfl rfl (by rw [actL_vl]; exact Tryd.cells40) (actL_one _) (by rw [actL_vl]; rfl) ?_)
      refine S.nil ?_
      refine TC.seq ?_
      refine TC.region ?_
      refine S.q rfl rfl (Qt.field Tryd.underlying40 rfl Tryd.cells24 rfl) ?_
      refine S.q rfl rfl (Qt.load rfl (Ld.one (Has.at 0 rfl) Tryd.one24 (rfl))) ?_
      refine S.q rfl rfl (Qt.move (by conv => lhs; whnf)) ?_
      refine S.dec rfl rfl (Qt.lt rfl rfl) (fun h83 => ?_) (fun h83 => ?_)
      · refine S.nil ?_
        refine S.if_t rfl ?_
        refine TC.region ?_
        refine S.q rfl rfl (Qt.move (by conv => lhs; whnf)) ?_
        refine S.q rfl rfl (Qt.field Tryd.underlying40 rfl Tryd.cells24 rfl) ?_
        refine S.q rfl rfl (Qt.load rfl (Ld.one (Has.at 0 rfl) Tryd.one24 (rfl))) ?_
        refine S.opS rfl rfl (OpV.slice1 (bytes := 8) (v := .int .u64 (((js.getD k act0).i : Nat) : Int)) Tryd.underlying71 Tryd.elem24 (by decide) rfl rfl (fun g87 => ?_))
        refine S.opS rfl rfl (OpV.app2 (bytes := 8) (news := [.int .u64 (((js.getD k act0).i : Nat) : Int)]) Tryd.underlying71 Tryd.elem24 rfl rfl (Has.blk (Has.at 0 rfl)) rfl (by intro u hu; rw [List.mem_singleton.1 hu]; rfl) (by simp only [maxLen]; omega) (by omega) (fun O' q' => ?_))
        refine S.q rfl rfl (Qt.assign (by conv => lhs; whnf)) ?_
        refine S.nil ?_
        refine TC.region ?_
        refine S.q rfl rfl (Qt.add (b := 1) rfl rfl (by simp only [kmax]; omega)) ?_
        refine S.q rfl rfl (Qt.move (by conv => lhs; whnf)) ?_
        refine S.nil ?_
        refine ⟨(k + 1, is ++ [(js.getD k act0).i], O', q'), ?_, ?_, ⟨?_, (List.forall_mem_cons.2 ⟨rfl, (List.forall_mem_cons.2 ⟨(by show Value.slice O' (is.length + 1) q' = Value.slice O' (is ++ [(js.getD k act0).i]).length q'; rw [len_snoc]), (fun _ h => nomatch h)⟩)⟩)⟩, (by dsimp only; rw [len_snoc, u64s_snoc]; exact Sub.trans (Sub.keep _ (Sub.keep _ (Sub.keep _ (Sub.keep _ (Sub.drop _ (Sub.drop _ (Sub.nil []))))))) (Sub.trans (Sub.keep _ (Sub.trans (Sub.keep _ (Sub.trans (Sub.keep _ (Sub.trans (Sub.keep _ (Sub.refl _)) (Sub.of_perm (List.perm_middle (l₁ := [_, _]))))) (Sub.of_perm (List.perm_middle (l₁ := [_, _]))))) (Sub.of_perm (List.perm_middle (l₁ := [_, _]))))) (Sub.of_perm (List.perm_middle (l₁ := [_, _])))))⟩
        · exact ⟨by show _ ≤ _; dsimp only; omega, by show _ ≤ _; dsimp only; rw [len_snoc]; omega, fun y hy => (List.mem_append.1 hy).elim (hil y) (fun e => by rw [List.mem_singleton.1 e]; exact h83)⟩
        · show _ < _; dsimp only; omega
        repeat (first | exact Out.refl _ _ | refine Out.put rfl ?_ | refine Out.puts rfl ?_ | refine Out.scr ?_ | refine Out.scr' rfl ?_)
      · refine S.nil ?_
        refine S.if_f rfl ?_
        refine TC.skip ?_
        refine TC.region ?_
        refine S.q rfl rfl (Qt.add (b := 1) rfl rfl (by simp only [kmax]; omega)) ?_
        refine S.q rfl rfl (Qt.move (by conv => lhs; whnf)) ?_
        refine S.nil ?_
        refine ⟨(k + 1, is, O, q), ?_, ?_, ⟨?_, (List.forall_mem_cons.2 ⟨rfl, (List.forall_mem_cons.2 ⟨rfl, (fun _ h => nomatch h)⟩)⟩)⟩, Sub.trans (Sub.keep _ (Sub.keep _ (Sub.keep _ (Sub.keep _ (Sub.drop _ (Sub.nil [])))))) (Sub.trans (Sub.keep _ (Sub.trans (Sub.keep _ (Sub.trans (Sub.keep _ (Sub.trans (Sub.keep _ (Sub.refl _)) (Sub.of_perm (List.perm_middle (l₁ := [_]))))) (Sub.of_perm (List.perm_middle (l₁ := [_]))))) (Sub.of_perm (List.perm_middle (l₁ := [_]))))) (Sub.of_perm (List.perm_middle (l₁ := [_]))))⟩
        · exact ⟨by show _ ≤ _; dsimp only; omega, by show _ ≤ _; dsimp only; omega, hil⟩
        · show _ < _; dsimp only; omega
        repeat (first | exact Out.refl _ _ | refine Out.put rfl ?_ | refine Out.puts rfl ?_ | refine Out.scr ?_ | refine Out.scr' rfl ?_)
    · refine S.nil ?_
      refine TC.seq ?_
      refine S.if_f rfl ?_
      refine TC.exit ?_
      refine TC.seq ?_
      refine TC.region ?_
      refine S.q rfl rfl (Qt.move (by conv => lhs; whnf)) ?_
      refine S.opS rfl rfl (OpV.con (Pre := []) (R := _) (⟨_, Tryd.func86, by kernel_rfl, rfl⟩ : Enters Tryd.prog 86) rfl (List.Perm.refl _) (fun w hw => psort_walk O is.length q is rfl (by omega) w (Rd.own (Rd.at 0 rfl) w hw)) ?_)
      rintro v L' ⟨O1, d1, rfl, rfl⟩
      refine S.q rfl rfl (Qt.assign (by conv => lhs; whnf)) ?_
      refine S.nil ?_
      refine TC.seq ?_
      refine TC.region ?_
      refine S.q rfl rfl (Qt.move (by conv => lhs; whnf)) ?_
      refine S.opS rfl rfl (OpV.con0 Tryd.ent28 rfl (fun w hw => root_R E tb mb (hgt n) ms hh w (Rd.at 2 rfl w hw) (Rd.at 3 rfl w hw)) ?_)
      refine S.opS rfl rfl (OpV.alloc Tryd.zero23 (fun b15 => ?_))
      refine S.opN rfl (OpV.storeV0 (v := hv (_)) rfl rfl (hv_size Tryd.cells23) (hv_all _) (hv_len _) ?_)
      refine S.nil ?_
      refine TC.cutseq (γ := Tm) [94, 95, 96, 98, 99, 100, 97, 101, 102, 16, 17, 103, 104, 6, 18, 105, 106, 107, 108, 109, 110, 111, 19, 20, 112, 113, 114, 21, 115, 116, 117, 118, 119, 120, 121, 122, 123, 124, 126, 127, 128, 129, 130, 125, 131, 132, 133, 134, 135, 136, 137, 138, 139, 140] (fun g0 => []) (fun g0 => [Blk tb 150 (treeCs E (hgt n) mb), MapA mb encAt hv (g0), Blk b15 23 (vl (hv (getT E g0 (hgt n, 0))))]) (fun g0 => ∃ g3, TreeOk E (hgt n) g3 g0 ∧ (∀ p, n ≤ p → g3 p = E 0) ∧ (lv0 (keysOf g0)).length < 4294967296) ?_ ?_
      · refine TC.seq ?_
        refine TC.region ?_
        refine S.q rfl rfl (Qt.move (by conv => lhs; whnf)) ?_
        refine S.q rfl rfl (Qt.len_slice Tryd.underlying71 rfl) ?_
        refine S.dec rfl rfl (Qt.gt (b := 0) rfl rfl) (fun h96 => ?_) (fun h96 => ?_)
        · refine S.nil ?_
          refine S.if_t rfl ?_
          refine TC.seq ?_
          refine TC.region ?_
          have hdl := dd_len is
          have hlowd : ∀ x ∈ (dd (srt is)), x < 18446744073709551616 := fun x hx => Nat.lt_of_lt_of_le (hil x (dd_mem.1 hx)) (by omega)
          have hi : idxOk (hgt n) (dd (srt is)) := idxOk_of h96 (by omega) (dd_rise is) (fun x hx => Nat.lt_of_lt_of_le (hil x (dd_mem.1 hx)) hnl)
          refine S.q rfl rfl (Qt.move (by conv => lhs; whnf)) ?_
          refine S.q rfl rfl (Qt.move (by conv => lhs; whnf)) ?_
          refine S.opS rfl rfl (OpV.con (Pre := []) (R := _) Tryd.ent70 rfl (List.Perm.refl _) (fun w hw => mkw_walk E tb mb (hgt n) ms hh O1 d1 (dd (srt is)) (own_cap (hw.ok (List.mem_of_getElem? (i := 1) rfl))).1 hi w (Rd.at 3 rfl w hw) (Rd.at 4 rfl w hw) hlowd (Rd.own (Rd.at 1 rfl) w hw)) ?_)
          rintro v L' ⟨I, i, A1, a1, B1, b1, rfl, rfl⟩
          refine S.q rfl rfl (Qt.move (by conv => lhs; whnf)) ?_
          refine S.q rfl rfl (Qt.extract rfl rfl) ?_
          refine S.q rfl rfl (Qt.extract rfl rfl) ?_
          refine S.opS rfl rfl (OpV.alloc Tryd.zero88 (fun b16 => ?_))
          refine S.opN rfl (OpV.storeV0 (v := .agg #[.slice I (dd (srt is)).length i, .slice A1 (dd (srt is)).length a1, .slice B1 (spots (hgt n) (dd (srt is)) 0).length b1]) rfl rfl (by exact Tryd.cells88) (by rfl) (by rfl) ?_)
          refine S.q rfl rfl (Qt.assign (by conv => lhs; whnf)) ?_
          refine S.nil ?_
          refine TC.seq ?_
          refine TC.seq ?_
          refine TC.region ?_
          refine S.q rfl rfl (Qt.move (by conv => lhs; whnf)) ?_
          refine S.q rfl rfl (Qt.nenil_nil Tryd.underlying27 rfl) ?_
          refine S.nil ?_
          refine S.if_f rfl ?_
          refine TC.skip ?_
          refine TC.seq ?_
          refine TC.region ?_
          refine S.q rfl rfl (Qt.assign (by conv => lhs; whnf)) ?_
          refine S.nil ?_
          refine TC.seq ?_
          refine TC.seq ?_
          refine TC.region ?_
          refine S.q rfl rfl (Qt.move (by conv => lhs; whnf)) ?_
          refine S.q rfl rfl (Qt.len_slice Tryd.underlying71 rfl) ?_
          refine S.q rfl rfl (Qt.move (by conv => lhs; whnf)) ?_
          refine S.nil ?_
          refine TC.block ?_
          refine TC.ownNil 23 32 ?_
          refine TC.loop (γ := Nat × Tm × Option Addr × Nat) [108, 109, 110, 111, 19, 20, 112, 113, 114, 21, 115, 116, 117, 118, 18, 119, 120, 121, 122, 123, 6, 124, 107] (fun g0 => [(107, .int .i64 ((g0.1 : Nat) : Int)), (18, .slice g0.2.2.1 g0.1 g0.2.2.2)]) (fun g0 => [OwnA 23 32 g0.2.2.1 g0.1 g0.2.2.2 (hcs ((List.range g0.1).map LF)), Blk tb 150 (treeCs E (hgt n) mb), MapA mb encAt hv (g0.2.1), Blk b15 23 (vl (hv (getT E ms (hgt n, 0)))), Blk b16 88 (vl (.agg #[.slice I (dd (srt is)).length i, .slice A1 (dd (srt is)).length a1, .slice B1 (spots (hgt n) (dd (srt is)) 0).length b1])), OwnA 24 1 O1 ((dd (srt is))).length d1 (u64s ((dd (srt is)))), OwnA 24 1 I ((dd (srt is))).length i (u64s ((dd (srt is)))), OwnA 23 32 A1 (dd (srt is)).length a1 (hcs ((dd (srt is)).map (fun x => getT E ms (0, x)))), OwnA 23 32 B1 (spots (hgt n) (dd (srt is)) 0).length b1 (hcs ((spots (hgt n) (dd (srt is)) 0).map (fun a => getT E ms a)))]) (fun g0 => g0.1 ≤ (dd (srt is)).length ∧ ∃ g2, TreeOk E (hgt n) g2 g0.2.1 ∧ (∀ p, n ≤ p → g2 p = E 0) ∧ NewOk (dd (srt is)) g g2 g0.1) (fun g0 => (dd (srt is)).length - g0.1) ((0, ms, none, 0))
            ⟨Nat.zero_le _, g, ht, hz, NewOk.zero _ _⟩ ⟨Out.refl _ _, (List.forall_mem_cons.2 ⟨rfl, (List.forall_mem_cons.2 ⟨rfl, (fun _ h => nomatch h)⟩)⟩)⟩ (Sub.trans (Sub.keep _ (Sub.keep _ (Sub.keep _ (Sub.keep _ (Sub.keep _ (Sub.keep _ (Sub.keep _ (Sub.keep _ (Sub.keep _ (Sub.drop _ (Sub.drop _ (Sub.nil [])))))))))))) (Sub.keep _ (Sub.trans (Sub.keep _ (Sub.trans (Sub.keep _ (Sub.trans (Sub.keep _ (Sub.keep _ (Sub.trans (Sub.keep _ (Sub.refl _)) (Sub.of_perm (List.perm_middle (l₁ := [_, _, _])))))) (Sub.of_perm (List.perm_middle (l₁ := [_, _, _, _]))))) (Sub.of_perm (List.perm_middle (l₁ := [_, _, _, _, _, _, _]))))) (Sub.of_perm (List.perm_middle (l₁ := [_, _, _, _, _, _, _])))))) ?_
          rintro ⟨k, ms2, Ov, qv⟩ u ⟨hk3, g2, ht2, hz2, hnew⟩
          dsimp only at hk3 ht2 hnew
          show TC _ _ _ (puts [(107, .int .i64 (k : Int)), (18, .slice Ov k qv)] (scr _ u _)) _
          refine TC.seq ?_
          refine TC.region ?_
          refine S.dec rfl rfl (Qt.lt rfl rfl) (fun h108 => ?_) (fun h108 => ?_)
          · refine S.nil ?_
            refine TC.seq ?_
            refine S.if_t rfl ?_
            refine TC.skip ?_
            refine TC.seq ?_
            refine TC.block ?_
            refine TC.seq ?_
            refine TC.region ?_
            refine S.q rfl rfl (Qt.move (by conv => lhs; whnf)) ?_
            refine S.q rfl rfl (Qt.index Tryd.underlying71 Tryd.cells24 rfl rfl (by omega) (Has.own (Has.at 5 rfl)) (by rw [u64s_len]; omega)) ?_
            refine S.q rfl rfl (Qt.load rfl (Ld.sl (v := .int .u64 (((dd (srt is)).getD k 0 : Nat) : Int)) (Has.own (Has.at 5 rfl)) Tryd.one24 (u64s_get1 h108))) ?_
            refine S.q rfl rfl (Qt.assign (by conv => lhs; whnf)) ?_
            refine S.q rfl rfl (Qt.assign (by conv => lhs; whnf)) ?_
            refine S.nil ?_
            refine TC.seq ?_
            refine TC.region ?_
            refine S.q rfl rfl (Qt.move (by conv => lhs; whnf)) ?_
            refine S.q rfl rfl (Qt.toByte Tryd.underlying3 Tryd.underlying5 rfl) ?_
            refine S.q rfl rfl (Qt.build2 (a := .int .u8 (((UInt8.ofNat k).toNat : Nat) : Int)) (b := .int .u8 1) rfl rfl (Tryd.build23 k)) ?_
            refine S.opS rfl rfl (OpV.alloc Tryd.zero23 (fun b21 => ?_))
            refine S.opN rfl (OpV.storeV0 (v := hv (LF k)) rfl rfl (hv_size Tryd.cells23) (hv_all _) (hv_len _) ?_)
            refine S.nil ?_
            refine TC.seq ?_
            refine TC.region ?_
            refine S.q rfl rfl (Qt.move (by conv => lhs; whnf)) ?_
            refine S.q rfl rfl (Qt.load rfl (Ld.hash1 (x := LF k) (Has.at 0 rfl) Tryd.row23 Tryd.cells23)) ?_
            refine S.opS rfl rfl (OpV.slice1 (bytes := 32) (v := hv (LF k)) Tryd.underlying44 Tryd.elem23 (by decide) rfl (hv_len _) (fun g117 => ?_))
            refine S.opS rfl rfl (OpV.app2 (bytes := 32) (news := hvl (LF k)) Tryd.underlying44 Tryd.elem23 rfl rfl (Has.blk (cs := hvl (LF k)) (Has.at 0 rfl)) (by rw [hvl_length]) (bytesL_one _) (by simp only [maxLen]; omega) (by omega) (fun O' q' => ?_))
            refine S.q rfl rfl (Qt.assign (by conv => lhs; whnf)) ?_
            refine S.nil ?_
            refine TC.seq ?_
            refine TC.region ?_
            refine S.q rfl rfl (Qt.move (by conv => lhs; whnf)) ?_
            refine S.q rfl rfl (Qt.move (by conv => lhs; whnf)) ?_
            refine S.q rfl rfl (Qt.load rfl (Ld.hash1 (x := LF k) (Has.at 1 rfl) Tryd.row23 Tryd.cells23)) ?_
            refine S.opS rfl rfl (OpV.con (Pre := [Blk tb 150 (treeCs E (hgt n) mb), MapA mb encAt hv (ms2)]) (R := _) Tryd.ent27 rfl ((List.perm_middle (l₁ := [_, _, _])).trans (List.Perm.cons _ (List.perm_middle (l₁ := [_, _, _])))) (fun w hw => set_walk E tb mb (hgt n) ms2 ((dd (srt is)).getD k 0) (LF k) hh (hi.low _ (getD_mem 0 h108)) w hw.sat.left (hT.pre hw)) ?_)
            rintro v L' ⟨rfl, rfl⟩
            refine S.q rfl rfl (Qt.nenil_nil Tryd.underlying27 rfl) ?_
            refine S.nil ?_
            refine S.if_f rfl ?_
            refine TC.skip ?_
            refine TC.region ?_
            refine S.q rfl rfl (Qt.add (b := 1) rfl rfl (by simp only [kmax]; omega)) ?_
            refine S.q rfl rfl (Qt.move (by conv => lhs; whnf)) ?_
            refine S.nil ?_
            refine ⟨(k + 1, setK E ms2 ((dd (srt is)).getD k 0) (LF k) (hgt n), O', q'), ?_, ?_, ⟨?_, (List.forall_mem_cons.2 ⟨rfl, (List.forall_mem_cons.2 ⟨rfl, (fun _ h => nomatch h)⟩)⟩)⟩, (by dsimp only; rw [← LF_snoc]; exact Sub.trans (Sub.keep _ (Sub.keep _ (Sub.keep _ (Sub.keep _ (Sub.keep _ (Sub.keep _ (Sub.keep _ (Sub.keep _ (Sub.keep _ (Sub.drop _ (Sub.drop _ (Sub.nil [])))))))))))) (Sub.trans (Sub.keep _ (Sub.keep _ (Sub.keep _ (Sub.trans (Sub.keep _ (Sub.trans (Sub.keep _ (Sub.trans (Sub.keep _ (Sub.trans (Sub.keep _ (Sub.trans (Sub.keep _ (Sub.trans (Sub.keep _ (Sub.refl _)) (Sub.of_perm (List.perm_middle (l₁ := [_, _]))))) (Sub.of_perm (List.perm_middle (l₁ := [_, _]))))) (Sub.of_perm (List.perm_middle (l₁ := [_, _]))))) (Sub.of_perm (List.perm_middle (l₁ := [_, _]))))) (Sub.of_perm (List.perm_middle (l₁ := [_, _]))))) (Sub.of_perm (List.perm_middle (l₁ := [_, _]))))))) (Sub.of_perm (List.perm_middle (l₁ := [_, _, _, _])))))⟩
            · exact ⟨by show _ ≤ _; dsimp only; omega, _, ht2.set (hi.low _ (getD_mem 0 h108)) _, fun p hp => by unfold updF; rw [if_neg (by have := hil _ (dd_mem.1 (getD_mem (ls := dd (srt is)) 0 h108)); omega)]; exact hz2 p hp, hnew.step (dd_rise is) h108⟩
            · show _ < _; dsimp only; omega
            repeat (first | exact Out.refl _ _ | refine Out.put rfl ?_ | refine Out.puts rfl ?_ | refine Out.scr ?_ | refine Out.scr' rfl ?_)
          · refine S.nil ?_
            refine TC.seq ?_
            refine S.if_f rfl ?_
            refine TC.exit ?_
            refine TC.seq ?_
            refine TC.region ?_
            obtain rfl : k = (dd (srt is)).length := by omega
            refine S.q rfl rfl (Qt.load rfl (Ld.all (vs := vl (.agg #[.slice I (dd (srt is)).length i, .slice A1 (dd (srt is)).length a1, .slice B1 (spots (hgt n) (dd (srt is)) 0).length b1])) (Has.at 4 rfl) Tryd.row88 Tryd.cells88)) ?_
            refine S.q rfl rfl (Qt.load rfl (Ld.hash1 (x := getT E ms (hgt n, 0)) (Has.at 3 rfl) Tryd.row23 Tryd.cells23)) ?_
            refine S.q rfl rfl (Qt.move (by conv => lhs; whnf)) ?_
            refine S.q rfl rfl (Qt.move (by conv => lhs; whnf)) ?_
            refine S.opS rfl rfl (OpV.con0 Tryd.ent54 rfl (fun w hw => (by have q := afterW_R (getT E ms (hgt n, 0)) (hgt n : Int) I i (dd (srt is)) (own_cap (hw.ok (List.mem_of_getElem? (i := 6) rfl))).1 A1 a1 ((dd (srt is)).map (fun x => getT E ms (0, x))) B1 b1 ((spots (hgt n) (dd (srt is)) 0).map (fun a => getT E ms a)) Ov qv ((List.range (dd (srt is)).length).map LF) (by rw [List.length_map]; exact (own_cap (hw.ok (List.mem_of_getElem? (i := 7) rfl))).1) (by rw [List.length_map]; exact (own_cap (hw.ok (List.mem_of_getElem? (i := 8) rfl))).1) (by rw [List.length_map, List.length_range]; exact (own_cap (hw.ok (List.mem_of_getElem? (i := 0) rfl))).1) w hlowd (Rd.own (Rd.at 6 rfl) w hw) (Rd.own (Rd.at 7 rfl) w hw) (Rd.own (Rd.at 8 rfl) w hw) (Rd.own (Rd.at 0 rfl) w hw) (hT.at hw); rw [writeR_tree hh ht ht2 hi hnew (Nat.le_refl _)] at q; simp only [List.length_map, List.length_range] at q; exact q : Calls Tryd.prog 54 #[.agg #[.slice I (dd (srt is)).length i, .slice A1 (dd (srt is)).length a1, .slice B1 (spots (hgt n) (dd (srt is)) 0).length b1], hv (getT E ms (hgt n, 0)), .int .i64 (hgt n : Int), .slice Ov (dd (srt is)).length qv] w (Ret w (.tuple #[hv (getT E ms2 (hgt n, 0)), .nilIface])))) ?_)
            refine S.q rfl rfl (Qt.move (by conv => lhs; whnf)) ?_
            refine S.q rfl rfl (Qt.extract rfl rfl) ?_
            refine S.q rfl rfl (Qt.extract rfl rfl) ?_
            refine S.opN rfl (OpV.storeV3 (v := hv (_)) rfl rfl (hv_size Tryd.cells23) (hv_all _) (by rw [hv_len, hv_len]) ?_)
            refine S.q rfl rfl (Qt.assign (by conv => lhs; whnf)) ?_
            refine S.nil ?_
            refine TC.seq ?_
            refine S.draw ([], []) Tryd.mixed (Sub.nil _) ?_
            refine D.qX (k := 0) rfl (by kernel_rfl) (by kernel_rfl) (by kernel_rfl) rfl rfl (Qt.move (by conv => lhs; whnf)) ?_
            refine D.qX (k := 1) rfl (by kernel_rfl) (by kernel_rfl) (by kernel_rfl) rfl rfl (Qt.nenil_nil Tryd.underlying27 rfl) ?_
            refine D.qX (k := 2) rfl (by kernel_rfl) (by kernel_rfl) (by kernel_rfl) rfl rfl (Qt.move (by conv => lhs; whnf)) ?_
            refine D.qgX (k := 3) rfl (by kernel_rfl) (by kernel_rfl) (by kernel_rfl) rfl rfl rfl (Qt.load rfl (Ld.hash1 (x := getT E ms2 (hgt n, 0)) (Has.at 3 rfl) Tryd.row23 Tryd.cells23)) ?_
            refine D.qgX (k := 4) rfl (by kernel_rfl) (by kernel_rfl) (by kernel_rfl) rfl rfl rfl (Qt.move (by conv => lhs; whnf)) ?_
            refine D.cgX (k := 5) rfl (by kernel_rfl) (by kernel_rfl) (by kernel_rfl) rfl rfl rfl (CalU.con0 Tryd.ent28 rfl (fun w hw => root_R E tb mb (hgt n) ms2 hh w (Rd.at 1 rfl w hw) (Rd.at 2 rfl w hw))) ?_
            refine D.qgX (k := 6) rfl (by kernel_rfl) (by kernel_rfl) (by kernel_rfl) rfl rfl rfl (Qt.dF (Qt.neH (a := getT E ms2 (hgt n, 0)) (b := getT E ms2 (hgt n, 0)) Tryd.guard23 Tryd.underlying23 Tryd.underlying5 Tryd.cells5 rfl rfl) (fun h => h rfl)) ?_
            refine D.qX (k := 7) rfl (by kernel_rfl) (by kernel_rfl) (by kernel_rfl) rfl rfl (Qt.pick_f rfl (by conv => lhs; whnf)) ?_
            refine D.done (Sub.nil _) (by kernel_rfl) ?_
            refine S.if_f rfl ?_
            refine TC.skip ?_
            refine ⟨ms2, ?_, ⟨?_, (fun _ h => nomatch h)⟩, Sub.trans (Sub.keep _ (Sub.keep _ (Sub.keep _ (Sub.drop _ (Sub.drop _ (Sub.drop _ (Sub.drop _ (Sub.drop _ (Sub.drop _ (Sub.nil [])))))))))) (Sub.trans (Sub.keep _ (Sub.trans (Sub.keep _ (Sub.trans (Sub.keep _ (Sub.refl _)) (Sub.of_perm (List.perm_middle (l₁ := [_]))))) (Sub.of_perm (List.perm_middle (l₁ := [_]))))) (Sub.of_perm (List.perm_middle (l₁ := [_]))))⟩
            · exact ⟨g2, ht2, hz2, cnt_lv ht2 (is := xs.map (·.i) ++ (dd (srt is))) (fun p hp => by by_cases hm : p ∈ (dd (srt is)); exact List.mem_append.2 (.inr hm); exact List.mem_append.2 (.inl (by rw [hnew.off p hm] at hp; have q := hin p hp; rw [take_all xs (by omega)] at q; exact q))) (by rw [List.length_append, List.length_map]; omega)⟩
            repeat (first | exact Out.refl _ _ | refine Out.put rfl ?_ | refine Out.puts rfl ?_ | refine Out.scr ?_ | refine Out.scr' rfl ?_)
        · refine S.nil ?_
          refine S.if_f rfl ?_
          refine TC.skip ?_
          refine ⟨ms, ?_, ⟨?_, (fun _ h => nomatch h)⟩, Sub.trans (Sub.keep _ (Sub.keep _ (Sub.keep _ (Sub.drop _ (Sub.drop _ (Sub.drop _ (Sub.nil []))))))) (Sub.trans (Sub.keep _ (Sub.trans (Sub.keep _ (Sub.refl _)) (Sub.of_perm (List.perm_middle (l₁ := [_, _, _]))))) (Sub.of_perm (List.perm_middle (l₁ := [_, _, _]))))⟩
          · exact ⟨g, ht, hz, cnt_lv ht (is := xs.map (·.i)) (fun p hp => by have q := hin p hp; rw [take_all xs (by omega)] at q; exact q) (by rw [List.length_map]; omega)⟩
          repeat (first | exact Out.refl _ _ | refine Out.put rfl ?_ | refine Out.puts rfl ?_ | refine Out.scr ?_ | refine Out.scr' rfl ?_)
      · rintro ms3 u ⟨g3, ht3, hz3, hn3⟩
        refine TC.seq ?_
        refine TC.region ?_
        refine S.q rfl rfl (Qt.move (by conv => lhs; whnf)) ?_
        refine S.q rfl rfl (Qt.move (by conv => lhs; whnf)) ?_
        by_cases hb : okN b
        · refine S.opS rfl rfl (OpV.con (Pre := []) (R := _) Tryd.ent82 rfl (List.Perm.refl _) (fun w hw => resize82_walk E hEm hE tb mb (hgt n) ms3 g3 ht3 hn3 b hb w (Rd.at 0 rfl w hw) (Rd.at 1 rfl w hw) (hT.at hw)) ?_)
          rintro v L' ⟨tb3, m3, ms4, rfl, rfl, ht4⟩
          refine S.q rfl rfl (Qt.move (by conv => lhs; whnf)) ?_
          refine S.q rfl rfl (Qt.extract rfl rfl) ?_
          refine S.q rfl rfl (Qt.extract rfl rfl) ?_
          refine S.q rfl rfl (Qt.assign (by conv => lhs; whnf)) ?_
          refine S.q rfl rfl (Qt.assign (by conv => lhs; whnf)) ?_
          refine S.nil ?_
          refine TC.seq ?_
          refine TC.seq ?_
          refine TC.region ?_
          refine S.q rfl rfl (Qt.move (by conv => lhs; whnf)) ?_
          refine S.q rfl rfl (Qt.nenil_nil Tryd.underlying27 rfl) ?_
          refine S.nil ?_
          refine S.if_f rfl ?_
          refine TC.skip ?_
          refine TC.seq ?_
          refine TC.seq ?_
          refine TC.region ?_
          refine S.q rfl rfl (Qt.move (by conv => lhs; whnf)) ?_
          refine S.q rfl rfl (Qt.move (by conv => lhs; whnf)) ?_
          refine S.dec rfl rfl (Qt.ge rfl rfl) (fun h153 => ?_) (fun h153 => ?_)
          · refine S.nil ?_
            refine S.if_t rfl ?_
            refine TC.seq ?_
            refine TC.region ?_
            refine S.q rfl rfl (Qt.load rfl (Ld.hash1 (x := getT E ms3 (hgt n, 0)) (Has.at 4 rfl) Tryd.row23 Tryd.cells23)) ?_
            refine S.q rfl rfl (Qt.move (by conv => lhs; whnf)) ?_
            refine S.q rfl rfl (Qt.move (by conv => lhs; whnf)) ?_
            refine S.opS rfl rfl (OpV.con0 Tryd.ent22 rfl (fun w hw => (by have q := grow_R E hEm (getT E ms3 (hgt n, 0)) n b w (hT.at hw); rw [(grow_ok (E := E) (root := zeroH) ⟨hn, hb, h153⟩).2] at q; exact q : Calls Tryd.prog 22 #[hv (getT E ms3 (hgt n, 0)), .int .u64 (n : Int), .int .u64 (b : Int)] w (Ret w (.tuple #[hv (growR E (getT E ms3 (hgt n, 0)) n b), .nilIface])))) ?_)
            refine S.q rfl rfl (Qt.move (by conv => lhs; whnf)) ?_
            refine S.q rfl rfl (Qt.extract rfl rfl) ?_
            refine S.q rfl rfl (Qt.extract rfl rfl) ?_
            refine S.opS rfl rfl (OpV.alloc Tryd.zero23 (fun b23 => ?_))
            refine S.opN rfl (OpV.storeV0 (v := hv (_)) rfl rfl (hv_size Tryd.cells23) (hv_all _) (hv_len _) ?_)
            refine S.q rfl rfl (Qt.assign (by conv => lhs; whnf)) ?_
            refine S.nil ?_
            refine TC.seq ?_
            refine S.draw ([], []) Tryd.mixed (Sub.nil _) ?_
            refine D.qX (k := 0) rfl (by kernel_rfl) (by kernel_rfl) (by kernel_rfl) rfl rfl (Qt.move (by conv => lhs; whnf)) ?_
            refine D.qX (k := 1) rfl (by kernel_rfl) (by kernel_rfl) (by kernel_rfl) rfl rfl (Qt.eqnil_nil Tryd.underlying27 rfl) ?_
            refine D.qX (k := 2) rfl (by kernel_rfl) (by kernel_rfl) (by kernel_rfl) rfl rfl (Qt.move (by conv => lhs; whnf)) ?_
            refine D.qgX (k := 3) rfl (by kernel_rfl) (by kernel_rfl) (by kernel_rfl) rfl rfl rfl (Qt.load rfl (Ld.hash1 (x := growR E (getT E ms3 (hgt n, 0)) n b) (Has.at 0 rfl) Tryd.row23 Tryd.cells23)) ?_
            refine D.qgX (k := 4) rfl (by kernel_rfl) (by kernel_rfl) (by kernel_rfl) rfl rfl rfl (Qt.move (by conv => lhs; whnf)) ?_
            refine D.cgX (k := 5) rfl (by kernel_rfl) (by kernel_rfl) (by kernel_rfl) rfl rfl rfl (CalU.con0 Tryd.ent28 rfl (fun w hw => root_R E tb3 m3 (hgt b) ms4 (hgt_le hb) w (Rd.at 1 rfl w hw) (Rd.at 2 rfl w hw))) ?_
            refine D.qgX (k := 6) rfl (by kernel_rfl) (by kernel_rfl) (by kernel_rfl) rfl rfl rfl (Qt.dT (Qt.eqH (a := growR E (getT E ms3 (hgt n, 0)) n b) (b := getT E ms4 (hgt b, 0)) Tryd.guard23 Tryd.underlying23 Tryd.underlying5 Tryd.cells5 rfl rfl) ((grow_tree hE ht3 hn hb h153 hz3).trans (ht4.get _ (okRoot _)).symm)) ?_
            refine D.qX (k := 7) rfl (by kernel_rfl) (by kernel_rfl) (by kernel_rfl) rfl rfl (Qt.pick_t rfl (by conv => lhs; whnf)) ?_
            refine D.qX (k := 8) rfl (by kernel_rfl) (by kernel_rfl) (by kernel_rfl) rfl rfl (Qt.assign (by conv => lhs; whnf)) ?_
            refine D.done (Sub.nil _) (by kernel_rfl) ?_
            refine TC.ret ?_
            refine finQ.ret (RVs.tmp (by conv => lhs; whnf) RVs.nil) (Sub.nil _) ?_
            exact ⟨rfl, rfl⟩
          · refine S.nil ?_
            refine S.if_f rfl ?_
            refine TC.skip ?_
            refine TC.seq ?_
            refine TC.region ?_
            refine S.q rfl rfl (Qt.move (by conv => lhs; whnf)) ?_
            refine S.q rfl rfl (Qt.move (by conv => lhs; whnf)) ?_
            refine S.opS rfl rfl (OpV.con (Pre := []) (R := _) Tryd.ent72 rfl (List.Perm.refl _) (fun w hw => mkc_walk E tb mb (hgt n) ms3 hh b hb.1 (by have := hgt_lt hn; have := hb.1; omega) w (Rd.at 2 rfl w hw) (Rd.at 3 rfl w hw)) ?_)
            rintro v L' ⟨P, q, rfl, rfl⟩
            refine S.q rfl rfl (Qt.move (by conv => lhs; whnf)) ?_
            refine S.q rfl rfl (Qt.extract rfl rfl) ?_
            refine S.q rfl rfl (Qt.extract rfl rfl) ?_
            refine S.opS rfl rfl (OpV.alloc Tryd.zero64 (fun b25 => ?_))
            refine S.opN rfl (OpV.storeV0 (v := .agg (hvl (getT E ms3 (0, b - 1)) ++ [Value.slice P (hgt n) q]).toArray) rfl rfl (by rw [vl_agg, cut_size]; exact Tryd.cells64) (by rw [vl_agg, List.all_append, hvl_one]; rfl) (by rw [vl_agg, cut_size]; rfl) ?_)
            refine S.q rfl rfl (Qt.assign (by conv => lhs; whnf)) ?_
            refine S.nil ?_
            refine TC.seq ?_
            refine TC.seq ?_
            refine TC.region ?_
            refine S.q rfl rfl (Qt.move (by conv => lhs; whnf)) ?_
            refine S.q rfl rfl (Qt.nenil_nil Tryd.underlying27 rfl) ?_
            refine S.nil ?_
            refine S.if_f rfl ?_
            refine TC.skip ?_
            refine TC.seq ?_
            refine TC.region ?_
            refine S.q rfl rfl (Qt.load rfl (Ld.all (vs := vl (.agg (hvl (getT E ms3 (0, b - 1)) ++ [Value.slice P (hgt n) q]).toArray)) (Has.at 0 rfl) Tryd.row64 (by rw [vl_agg, cut_size]; exact Tryd.cells64))) ?_
            refine S.q rfl rfl (Qt.load rfl (Ld.hash1 (x := getT E ms3 (hgt n, 0)) (Has.at 6 rfl) Tryd.row23 Tryd.cells23)) ?_
            refine S.q rfl rfl (Qt.move (by conv => lhs; whnf)) ?_
            refine S.q rfl rfl (Qt.move (by conv => lhs; whnf)) ?_
            refine S.opS rfl rfl (OpV.con0 Tryd.ent41 rfl (fun w hw => (by have q0 := after_R E hEm (getT E ms3 (hgt n, 0)) (getT E ms3 (0, b - 1)) n b P q (pathT E ms3 (hgt n) (b - 1)) (by rw [pathT_length]; exact (own_cap (hw.ok (List.mem_of_getElem? (i := 1) rfl))).1) w (Rd.own (Rd.at 1 rfl) w hw) (hT.at hw); rw [cut_tree hE ht3 hn hb (by omega), pathT_length] at q0; exact q0 : Calls Tryd.prog 41 #[.agg (hvl (getT E ms3 (0, b - 1)) ++ [Value.slice P (hgt n) q]).toArray, hv (getT E ms3 (hgt n, 0)), .int .u64 (n : Int), .int .u64 (b : Int)] w (Ret w (.tuple #[hv (nodeH (cutF E g3 (lvT ms3) b) (hgt b) 0), .nilIface])))) ?_)
            refine S.q rfl rfl (Qt.move (by conv => lhs; whnf)) ?_
            refine S.q rfl rfl (Qt.extract rfl rfl) ?_
            refine S.q rfl rfl (Qt.extract rfl rfl) ?_
            refine S.opS rfl rfl (OpV.alloc Tryd.zero23 (fun b26 => ?_))
            refine S.opN rfl (OpV.storeV0 (v := hv (_)) rfl rfl (hv_size Tryd.cells23) (hv_all _) (hv_len _) ?_)
            refine S.q rfl rfl (Qt.assign (by conv => lhs; whnf)) ?_
            refine S.nil ?_
            refine TC.seq ?_
            refine S.draw ([], []) Tryd.mixed (Sub.nil _) ?_
            refine D.qX (k := 0) rfl (by kernel_rfl) (by kernel_rfl) (by kernel_rfl) rfl rfl (Qt.move (by conv => lhs; whnf)) ?_
            refine D.qX (k := 1) rfl (by kernel_rfl) (by kernel_rfl) (by kernel_rfl) rfl rfl (Qt.eqnil_nil Tryd.underlying27 rfl) ?_
            refine D.qX (k := 2) rfl (by kernel_rfl) (by kernel_rfl) (by kernel_rfl) rfl rfl (Qt.move (by conv => lhs; whnf)) ?_
            refine D.qgX (k := 3) rfl (by kernel_rfl) (by kernel_rfl) (by kernel_rfl) rfl rfl rfl (Qt.load rfl (Ld.hash1 (x := nodeH (cutF E g3 (lvT ms3) b) (hgt b) 0) (Has.at 0 rfl) Tryd.row23 Tryd.cells23)) ?_
            refine D.qgX (k := 4) rfl (by kernel_rfl) (by kernel_rfl) (by kernel_rfl) rfl rfl rfl (Qt.move (by conv => lhs; whnf)) ?_
            refine D.cgX (k := 5) rfl (by kernel_rfl) (by kernel_rfl) (by kernel_rfl) rfl rfl rfl (CalU.con0 Tryd.ent28 rfl (fun w hw => root_R E tb3 m3 (hgt b) ms4 (hgt_le hb) w (Rd.at 3 rfl w hw) (Rd.at 4 rfl w hw))) ?_
            refine D.qgX (k := 6) rfl (by kernel_rfl) (by kernel_rfl) (by kernel_rfl) rfl rfl rfl (Qt.dT (Qt.eqH (a := nodeH (cutF E g3 (lvT ms3) b) (hgt b) 0) (b := getT E ms4 (hgt b, 0)) Tryd.guard23 Tryd.underlying23 Tryd.underlying5 Tryd.cells5 rfl rfl) (ht4.get _ (okRoot _)).symm) ?_
            refine D.qX (k := 7) rfl (by kernel_rfl) (by kernel_rfl) (by kernel_rfl) rfl rfl (Qt.pick_t rfl (by conv => lhs; whnf)) ?_
            refine D.qX (k := 8) rfl (by kernel_rfl) (by kernel_rfl) (by kernel_rfl) rfl rfl (Qt.assign (by conv => lhs; whnf)) ?_
            refine D.done (Sub.nil _) (by kernel_rfl) ?_
            refine TC.ret ?_
            refine finQ.ret (RVs.tmp (by conv => lhs; whnf) RVs.nil) (Sub.nil _) ?_
            exact ⟨rfl, rfl⟩
        · refine S.opS rfl rfl (OpV.con0 Tryd.ent82 rfl (fun w hw => Calls.ret (resize82_walkF E tb mb (hgt n) ms3 b hb w)) ?_)
          refine S.q rfl rfl (Qt.move (by conv => lhs; whnf)) ?_
          refine S.q rfl rfl (Qt.extract rfl rfl) ?_
          refine S.q rfl rfl (Qt.extract rfl rfl) ?_
          refine S.q rfl rfl (Qt.assign (by conv => lhs; whnf)) ?_
          refine S.q rfl rfl (Qt.assign (by conv => lhs; whnf)) ?_
          refine S.nil ?_
          refine TC.seq ?_
          refine TC.seq ?_
          refine TC.region ?_
          refine S.q rfl rfl (Qt.move (by conv => lhs; whnf)) ?_
          refine S.q rfl rfl (Qt.nenil_iface Tryd.underlying27 rfl) ?_
          refine S.nil ?_
          refine S.if_t rfl ?_
          refine TC.seq ?_
          refine TC.region ?_
          refine S.q rfl rfl (Qt.move (by conv => lhs; whnf)) ?_
          refine S.q rfl rfl (Qt.eqp_none Tryd.underlying35 rfl) ?_
          refine S.q rfl rfl (Qt.assign (by conv => lhs; whnf)) ?_
          refine S.nil ?_
          refine TC.ret ?_
          refine finQ.ret (RVs.tmp (by conv => lhs; whnf) RVs.nil) (Sub.nil _) ?_
          exact ⟨rfl, rfl⟩
theorem stepLeads_R (n : Nat) (hn64 : n < 18446744073709551616) (A : Option Addr) (c : Nat) (xs : List Go.E.Act) (B : Option Addr) (d : Nat) (js : List Go.E.Act) (b : Nat) (hb64 : b < 18446744073709551616) (w0 : World) (hR : Ro w0 [] (SlA A (xs.flatMap actL))) (hJ : Ro w0 [] (SlA B (js.flatMap actL))) (hT : Tabs 2 0 w0 []) : Calls Tryd.prog 20 #[.int .u64 (n : Int), .agg #[.slice A xs.length c, .slice B js.length d], .int .u64 (b : Int)] w0 (Post w0 [] fun v L => v = .bool true ∧ L = []) := by
  have hEm : ∀ w, Tabs 2 0 w [] → Calls Tryd.prog 88 #[] w (Ret w (.agg (hcs (emptL emptyH)).toArray)) := fun w h => empties_R w h
  by_cases hx : 20 < xs.length
  · exact law20_walkE1 emptyH hEm emptyH_ne n hn64 A c xs B d js b hx w0 hT
  · by_cases hj : 20 < js.length
    · exact law20_walkE2 emptyH hEm emptyH_ne n hn64 A c xs B d js b (by omega) hj w0 hT
    · by_cases hn : okN n
      · exact law20_walk emptyH hEm (fun _ => rfl) emptyH_ne n hn A c xs (by omega) B d js (by omega) b hb64 w0 hR hJ hT
      · exact law20_walkF emptyH hEm emptyH_ne n hn64 A c xs B d js b (by omega) (by omega) hn w0 hT

end Go.Proofs.YtlneklemjfefpaaDoor
