/-
  Walks: the law of a tree's own proofs. Printed by a program of ours.
-/
import Derived.Test.YtlneklemjfefpaaDoorWJ
import Derived.Test.YtlneklemjfefpaaDoorUG
import Derived.Test.YtlneklemjfefpaaDoorUD
import Derived.Test.YtlneklemjfefpaaDoorP3
namespace Go.Proofs.YtlneklemjfefpaaDoor
open Go.E
set_option linter.unusedVariables false
set_option maxRecDepth 4000
theorem Tryd.ent86 : Enters Tryd.prog 86 := ⟨_, Tryd.func86, by kernel_rfl, rfl⟩
theorem Tryd.ent87 : Enters Tryd.prog 87 := ⟨_, Tryd.func87, by kernel_rfl, rfl⟩

set_option maxHeartbeats 1600000 in
theorem law19_walkE1 (E : Nat → H32) (hEm : ∀ w, Tabs 2 0 w [] → Calls Tryd.prog 88 #[] w (Ret w (.agg (hcs (emptL E)).toArray))) (hE : ∀ h, E (h + 1) = joinH (h + 1) (E h) (E h)) (y : Int) (A : Option Addr) (c : Nat) (zs : List Go.E.Act) (B : Option Addr) (d : Nat) (js : List Nat) (hj : 40 < js.length) (w0 : World) (hT : Tabs 2 0 w0 []) :
    Calls Tryd.prog 19 #[.int .i64 y, .slice A zs.length c, .slice B js.length d] w0 (Post w0 [] fun v L => v = .bool true ∧ L = []) := by
  refine Calls.of (L := []) (n := 110) (rs := [.tmp 6]) Tryd.func19 rfl rfl rfl (Nat.le_of_ble_eq_true rfl) (Sat.nil _) ?_
  refine TC.seq ?_
  refine TC.region ?_
  refine S.q rfl rfl (Qt.assign (by conv => lhs; whnf)) ?_
  refine S.nil ?_
  refine TC.seq ?_
  refine TC.seq ?_
  refine TC.region ?_
  refine S.opS rfl rfl (OpV.con0 Tryd.ent56 rfl (fun w hw => Calls.ret (alive10_walk E hEm hE w (hT.at hw))) ?_)
  refine S.q rfl rfl (Qt.not_t rfl) ?_
  refine S.nil ?_
  refine S.if_f rfl ?_
  refine TC.skip ?_
  refine TC.seq ?_
  refine TC.seq ?_
  refine TC.region ?_
  refine S.q rfl rfl (Qt.move (by conv => lhs; whnf)) ?_
  refine S.q rfl rfl (Qt.len_slice Tryd.underlying71 rfl) ?_
  refine S.q rfl rfl (Qt.dT (Qt.gt (b := 40) rfl rfl) (by omega)) ?_
  refine S.q rfl rfl (Qt.move (by conv => lhs; whnf)) ?_
  refine S.pass rfl rfl ?_
  refine S.pass rfl rfl ?_
  refine S.pass rfl rfl ?_
  refine S.q rfl rfl (Qt.pick_t rfl (by conv => lhs; whnf)) ?_
  refine S.nil ?_
  refine S.if_t rfl ?_
  refine TC.seq ?_
  refine TC.region ?_
  refine S.q rfl rfl (Qt.assign (by conv => lhs; whnf)) ?_
  refine S.nil ?_
  refine TC.ret ?_
  refine finQ.ret (RVs.tmp (by conv => lhs; whnf) RVs.nil) (Sub.nil _) ?_
  exact ⟨rfl, rfl⟩
set_option maxHeartbeats 1600000 in
theorem law19_walkE2 (E : Nat → H32) (hEm : ∀ w, Tabs 2 0 w [] → Calls Tryd.prog 88 #[] w (Ret w (.agg (hcs (emptL E)).toArray))) (hE : ∀ h, E (h + 1) = joinH (h + 1) (E h) (E h)) (y : Int) (A : Option Addr) (c : Nat) (zs : List Go.E.Act) (B : Option Addr) (d : Nat) (js : List Nat) (hj : js.length ≤ 40) (hz : 25 < zs.length) (w0 : World) (hT : Tabs 2 0 w0 []) :
    Calls Tryd.prog 19 #[.int .i64 y, .slice A zs.length c, .slice B js.length d] w0 (Post w0 [] fun v L => v = .bool true ∧ L = []) := by
  refine Calls.of (L := []) (n := 110) (rs := [.tmp 6]) Tryd.func19 rfl rfl rfl (Nat.le_of_ble_eq_true rfl) (Sat.nil _) ?_
  refine TC.seq ?_
  refine TC.region ?_
  refine S.q rfl rfl (Qt.assign (by conv => lhs; whnf)) ?_
  refine S.nil ?_
  refine TC.seq ?_
  refine TC.seq ?_
  refine TC.region ?_
  refine S.opS rfl rfl (OpV.con0 Tryd.ent56 rfl (fun w hw => Calls.ret (alive10_walk E hEm hE w (hT.at hw))) ?_)
  refine S.q rfl rfl (Qt.not_t rfl) ?_
  refine S.nil ?_
  refine S.if_f rfl ?_
  refine TC.skip ?_
  refine TC.seq ?_
  refine TC.seq ?_
  refine TC.region ?_
  refine S.q rfl rfl (Qt.move (by conv => lhs; whnf)) ?_
  refine S.q rfl rfl (Qt.len_slice Tryd.underlying71 rfl) ?_
  refine S.q rfl rfl (Qt.dF (Qt.gt (b := 40) rfl rfl) (by omega)) ?_
  refine S.q rfl rfl (Qt.move (by conv => lhs; whnf)) ?_
  refine S.qg rfl rfl rfl (Qt.move (by conv => lhs; whnf)) ?_
  refine S.qg rfl rfl rfl (Qt.len_slice Tryd.underlying34 rfl) ?_
  refine S.qg rfl rfl rfl (Qt.dT (Qt.gt (b := 25) rfl rfl) (by omega)) ?_
  refine S.q rfl rfl (Qt.pick_f rfl (by conv => lhs; whnf)) ?_
  refine S.nil ?_
  refine S.if_t rfl ?_
  refine TC.seq ?_
  refine TC.region ?_
  refine S.q rfl rfl (Qt.assign (by conv => lhs; whnf)) ?_
  refine S.nil ?_
  refine TC.ret ?_
  refine finQ.ret (RVs.tmp (by conv => lhs; whnf) RVs.nil) (Sub.nil _) ?_
  exact ⟨rfl, rfl⟩
set_option maxHeartbeats 1600000 in
theorem law19_walkZ (E : Nat → H32) (hEm : ∀ w, Tabs 2 0 w [] → Calls Tryd.prog 88 #[] w (Ret w (.agg (hcs (emptL E)).toArray))) (hE : ∀ h, E (h + 1) = joinH (h + 1) (E h) (E h)) (y : Int) (A : Option Addr) (c : Nat) (zs : List Go.E.Act) (B : Option Addr) (d : Nat) (js : List Nat) (hj : js.length ≤ 40) (hz : zs.length ≤ 25) (hy : y < 0 ∨ 32 < y) (w0 : World) (hT : Tabs 2 0 w0 []) :
    Calls Tryd.prog 19 #[.int .i64 y, .slice A zs.length c, .slice B js.length d] w0 (Post w0 [] fun v L => v = .bool true ∧ L = []) := by
  refine Calls.of (L := []) (n := 110) (rs := [.tmp 6]) Tryd.func19 rfl rfl rfl (Nat.le_of_ble_eq_true rfl) (Sat.nil _) ?_
  refine TC.seq ?_
  refine TC.region ?_
  refine S.q rfl rfl (Qt.assign (by conv => lhs; whnf)) ?_
  refine S.nil ?_
  refine TC.seq ?_
  refine TC.seq ?_
  refine TC.region ?_
  refine S.opS rfl rfl (OpV.con0 Tryd.ent56 rfl (fun w hw => Calls.ret (alive10_walk E hEm hE w (hT.at hw))) ?_)
  refine S.q rfl rfl (Qt.not_t rfl) ?_
  refine S.nil ?_
  refine S.if_f rfl ?_
  refine TC.skip ?_
  refine TC.seq ?_
  refine TC.seq ?_
  refine TC.region ?_
  refine S.q rfl rfl (Qt.move (by conv => lhs; whnf)) ?_
  refine S.q rfl rfl (Qt.len_slice Tryd.underlying71 rfl) ?_
  refine S.q rfl rfl (Qt.dF (Qt.gt (b := 40) rfl rfl) (by omega)) ?_
  refine S.q rfl rfl (Qt.move (by conv => lhs; whnf)) ?_
  refine S.qg rfl rfl rfl (Qt.move (by conv => lhs; whnf)) ?_
  refine S.qg rfl rfl rfl (Qt.len_slice Tryd.underlying34 rfl) ?_
  refine S.qg rfl rfl rfl (Qt.dF (Qt.gt (b := 25) rfl rfl) (by omega)) ?_
  refine S.q rfl rfl (Qt.pick_f rfl (by conv => lhs; whnf)) ?_
  refine S.nil ?_
  refine S.if_f rfl ?_
  refine TC.skip ?_
  refine TC.seq ?_
  refine TC.region ?_
  refine S.q rfl rfl (Qt.move (by conv => lhs; whnf)) ?_
  refine S.opS rfl rfl (OpV.con0 Tryd.ent26 rfl (fun w hw => newF_R y hy w) ?_)
  refine S.q rfl rfl (Qt.move (by conv => lhs; whnf)) ?_
  refine S.q rfl rfl (Qt.extract rfl rfl) ?_
  refine S.q rfl rfl (Qt.extract rfl rfl) ?_
  refine S.q rfl rfl (Qt.assign (by conv => lhs; whnf)) ?_
  refine S.q rfl rfl (Qt.assign (by conv => lhs; whnf)) ?_
  refine S.nil ?_
  refine TC.seq ?_
  refine TC.seq ?_
  refine TC.region ?_
  refine S.q rfl rfl (Qt.move (by conv => lhs; whnf)) ?_
  refine S.q rfl rfl (Qt.nenil_iface Tryd.underlying27 rfl) ?_
  refine S.nil ?_
  refine S.if_t rfl ?_
  refine TC.seq ?_
  refine TC.region ?_
  refine S.q rfl rfl (Qt.move (by conv => lhs; whnf)) ?_
  refine S.q rfl rfl (Qt.eqp_none Tryd.underlying35 rfl) ?_
  refine S.q rfl rfl (Qt.assign (by conv => lhs; whnf)) ?_
  refine S.nil ?_
  refine TC.ret ?_
  refine finQ.ret (RVs.tmp (by conv => lhs; whnf) RVs.nil) (Sub.nil _) ?_
  exact ⟨rfl, rfl⟩
set_option maxHeartbeats 1600000 in
theorem law19_walk (E : Nat → H32) (hEm : ∀ w, Tabs 2 0 w [] → Calls Tryd.prog 88 #[] w (Ret w (.agg (hcs (emptL E)).toArray))) (hE : ∀ h, E (h + 1) = joinH (h + 1) (E h) (E h)) (height : Nat) (hh : height ≤ 32) (A : Option Addr) (c : Nat) (zs : List Go.E.Act) (hz : zs.length ≤ 25) (B : Option Addr) (d : Nat) (js : List Nat) (hj : js.length ≤ 40) (hlow : ∀ x ∈ js, x < 18446744073709551616) (w0 : World) (hR : Ro w0 [] (SlA A (zs.flatMap actL))) (hJ : Ro w0 [] (SlA B (u64s js))) (hT : Tabs 2 0 w0 []) :
    Calls Tryd.prog 19 #[.int .i64 (height : Int), .slice A zs.length c, .slice B js.length d] w0 (Post w0 [] fun v L => v = .bool true ∧ L = []) := by
  refine Calls.of (L := []) (n := 110) (rs := [.tmp 6]) Tryd.func19 rfl rfl rfl (Nat.le_of_ble_eq_true rfl) (Sat.nil _) ?_
  have hdl := dd_len js
  have hlowd : ∀ x ∈ (dd (srt js)), x < 18446744073709551616 := fun x hx => hlow x (dd_mem.1 hx)
  refine TC.seq ?_
  refine TC.region ?_
  refine S.q rfl rfl (Qt.assign (by conv => lhs; whnf)) ?_
  refine S.nil ?_
  refine TC.seq ?_
  refine TC.seq ?_
  refine TC.region ?_
  refine S.opS rfl rfl (OpV.con0 Tryd.ent56 rfl (fun w hw => Calls.ret (alive10_walk E hEm hE w (hT.at hw))) ?_)
  refine S.q rfl rfl (Qt.not_t rfl) ?_
  refine S.nil ?_
  refine S.if_f rfl ?_
  refine TC.skip ?_
  refine TC.seq ?_
  refine TC.seq ?_
  refine TC.region ?_
  refine S.q rfl rfl (Qt.move (by conv => lhs; whnf)) ?_
  refine S.q rfl rfl (Qt.len_slice Tryd.underlying71 rfl) ?_
  refine S.q rfl rfl (Qt.dF (Qt.gt (b := 40) rfl rfl) (by omega)) ?_
  refine S.q rfl rfl (Qt.move (by conv => lhs; whnf)) ?_
  refine S.qg rfl rfl rfl (Qt.move (by conv => lhs; whnf)) ?_
  refine S.qg rfl rfl rfl (Qt.len_slice Tryd.underlying34 rfl) ?_
  refine S.qg rfl rfl rfl (Qt.dF (Qt.gt (b := 25) rfl rfl) (by omega)) ?_
  refine S.q rfl rfl (Qt.pick_f rfl (by conv => lhs; whnf)) ?_
  refine S.nil ?_
  refine S.if_f rfl ?_
  refine TC.skip ?_
  refine TC.seq ?_
  refine TC.region ?_
  refine S.q rfl rfl (Qt.move (by conv => lhs; whnf)) ?_
  refine S.opS rfl rfl (OpV.con (Pre := []) (R := _) Tryd.ent26 rfl (List.Perm.refl _) (fun w hw => new_walk E hEm height hh w (hT.at hw)) ?_)
  rintro v L' ⟨tb, mb, rfl, rfl⟩
  refine S.q rfl rfl (Qt.move (by conv => lhs; whnf)) ?_
  refine S.q rfl rfl (Qt.extract rfl rfl) ?_
  refine S.q rfl rfl (Qt.extract rfl rfl) ?_
  refine S.q rfl rfl (Qt.assign (by conv => lhs; whnf)) ?_
  refine S.q rfl rfl (Qt.assign (by conv => lhs; whnf)) ?_
  refine S.nil ?_
  refine TC.seq ?_
  refine TC.seq ?_
  refine TC.region ?_
  refine S.q rfl rfl (Qt.move (by conv => lhs; whnf)) ?_
  refine S.q rfl rfl (Qt.nenil_nil Tryd.underlying27 rfl) ?_
  refine S.nil ?_
  refine S.if_f rfl ?_
  refine TC.skip ?_
  refine TC.seq ?_
  refine TC.seq ?_
  refine TC.region ?_
  refine S.q rfl rfl (Qt.move (by conv => lhs; whnf)) ?_
  refine S.q rfl rfl (Qt.len_slice Tryd.underlying34 rfl) ?_
  refine S.q rfl rfl (Qt.move (by conv => lhs; whnf)) ?_
  refine S.nil ?_
  refine TC.block ?_
  refine TC.loop (γ := Nat × Tm) [38, 39, 40, 10, 41, 42, 43, 44, 45, 46, 47, 37] (fun g => [(37, .int .i64 ((g.1 : Nat) : Int))]) (fun g => [Blk tb 150 (treeCs E height mb), MapA mb encAt hv (g.2)]) (fun g => g.1 ≤ zs.length ∧ ∃ g2, TreeOk E height g2 g.2) (fun g => zs.length - g.1) ((0, []))
    ⟨Nat.zero_le _, _, TreeOk.empty hE height⟩ ⟨Out.refl _ _, (List.forall_mem_cons.2 ⟨rfl, (fun _ h => nomatch h)⟩)⟩ (Sub.refl _) ?_
  rintro ⟨k, ms⟩ u ⟨hk, g2, ht⟩
  dsimp only at hk ht
  refine TC.seq ?_
  refine TC.region ?_
  refine S.dec rfl rfl (Qt.lt rfl rfl) (fun h38 => ?_) (fun h38 => ?_)
  · refine S.nil ?_
    refine TC.seq ?_
    refine S.if_t rfl ?_
    refine TC.skip ?_
    refine TC.seq ?_
    refine TC.block ?_
    refine TC.seq ?_
    refine TC.region ?_
    refine S.q rfl rfl (Qt.index Tryd.underlying34 Tryd.cells40 rfl rfl (by omega) (Has.ro hR) (by rw [acts_len]; omega)) ?_
    refine S.q rfl rfl (Qt.load rfl (Ld.slr (Has.ro hR) Tryd.row40 (by rw [actL_length]; exact Tryd.cells40) (by rw [actL_length]; decide) (acts_at h38))) ?_
    refine S.opS rfl rfl (OpV.alloc Tryd.zero40 (fun b10 => ?_))
    refine S.opN rfl (OpV.storeV0 (v := .agg (actL (zs.getD k act0)).toArray) rfl rfl (by rw [actL_vl]; exact Tryd.cells40) (actL_one _) (by rw [actL_vl]; rfl) ?_)
    refine S.nil ?_
    refine TC.region ?_
    refine S.q rfl rfl (Qt.move (by conv => lhs; whnf)) ?_
    refine S.q rfl rfl (Qt.field Tryd.underlying40 rfl Tryd.cells24 rfl) ?_
    refine S.q rfl rfl (Qt.load rfl (Ld.one (Has.at 0 rfl) Tryd.one24 (rfl))) ?_
    refine S.q rfl rfl (Qt.field Tryd.underlying40 rfl Tryd.cells23 rfl) ?_
    refine S.q rfl rfl (Qt.load rfl (Ld.row (vs := hvl (zs.getD k act0).h) (Has.at 0 rfl) Tryd.row23 (by rw [hvl_length]; exact Tryd.cells23) (actL_hash _))) ?_
    by_cases hs : (zs.getD k act0).i < 2 ^ height
    · refine S.opS rfl rfl (OpV.con (Pre := [Blk tb 150 (treeCs E height mb), MapA mb encAt hv (ms)]) (R := _) Tryd.ent27 rfl ((List.perm_middle (l₁ := [_])).trans (List.Perm.cons _ (List.perm_middle (l₁ := [_])))) (fun w hw => set_walk E tb mb height ms _ _ hh hs w hw.sat.left (hT.pre hw)) ?_)
      rintro v L' ⟨rfl, rfl⟩
      refine S.nil ?_
      refine TC.region ?_
      refine S.q rfl rfl (Qt.add (b := 1) rfl rfl (by simp only [kmax]; omega)) ?_
      refine S.q rfl rfl (Qt.move (by conv => lhs; whnf)) ?_
      refine S.nil ?_
      refine ⟨(k + 1, setK E ms (zs.getD k act0).i (zs.getD k act0).h height), ?_, ?_, ⟨?_, (List.forall_mem_cons.2 ⟨rfl, (fun _ h => nomatch h)⟩)⟩, Sub.keep _ (Sub.keep _ (Sub.drop _ (Sub.nil [])))⟩
      · exact ⟨by show _ ≤ _; dsimp only; omega, _, ht.set hs _⟩
      · show _ < _; dsimp only; omega
      repeat (first | exact Out.refl _ _ | refine Out.put rfl ?_ | refine Out.puts rfl ?_ | refine Out.scr ?_ | refine Out.scr' rfl ?_)
    · refine S.opS rfl rfl (OpV.con0 Tryd.ent27 rfl (fun w hw => setF_R E tb mb height _ _ hh (zs.getD k act0).lt hs w (Rd.at 1 rfl w hw)) ?_)
      refine S.nil ?_
      refine TC.region ?_
      refine S.q rfl rfl (Qt.add (b := 1) rfl rfl (by simp only [kmax]; omega)) ?_
      refine S.q rfl rfl (Qt.move (by conv => lhs; whnf)) ?_
      refine S.nil ?_
      refine ⟨(k + 1, ms), ?_, ?_, ⟨?_, (List.forall_mem_cons.2 ⟨rfl, (fun _ h => nomatch h)⟩)⟩, Sub.trans (Sub.keep _ (Sub.keep _ (Sub.drop _ (Sub.nil [])))) (Sub.trans (Sub.keep _ (Sub.trans (Sub.keep _ (Sub.refl _)) (Sub.of_perm (List.perm_middle (l₁ := [_]))))) (Sub.of_perm (List.perm_middle (l₁ := [_]))))⟩
      · exact ⟨by show _ ≤ _; dsimp only; omega, g2, ht⟩
      · show _ < _; dsimp only; omega
      repeat (first | exact Out.refl _ _ | refine Out.put rfl ?_ | refine Out.puts rfl ?_ | refine Out.scr ?_ | refine Out.scr' rfl ?_)
  · refine S.nil ?_
    refine TC.seq ?_
    refine S.if_f rfl ?_
    refine TC.exit ?_
    refine TC.seq ?_
    refine TC.region ?_
    refine S.q rfl rfl (Qt.move (by conv => lhs; whnf)) ?_
    refine S.opS rfl rfl (OpV.con (Pre := []) (R := _) Tryd.ent86 rfl (List.Perm.refl _) (fun w hw => psort_walk B js.length d js rfl (by omega) w (Rd.ro hJ w hw)) ?_)
    rintro v L' ⟨O1, d1, rfl, rfl⟩
    refine S.q rfl rfl (Qt.assign (by conv => lhs; whnf)) ?_
    refine S.nil ?_
    refine TC.seq ?_
    refine TC.seq ?_
    refine TC.region ?_
    refine S.q rfl rfl (Qt.move (by conv => lhs; whnf)) ?_
    refine S.q rfl rfl (Qt.move (by conv => lhs; whnf)) ?_
    refine S.opS rfl rfl (OpV.con (Pre := []) (R := _) Tryd.ent87 rfl (List.Perm.refl _) (fun w hw => rsort_walk B d js (by omega) w (Rd.ro hJ w hw)) ?_)
    rintro v L' ⟨O4, d4, rfl, rfl⟩
    refine S.opS rfl rfl (OpV.con0 Tryd.ent71 rfl (fun w hw => wide_R O1 d1 O4 d4 (dd (srt js)) (by omega) w (Rd.own (Rd.at 1 rfl) w hw) (Rd.own (Rd.at 0 rfl) w hw)) ?_)
    refine S.q rfl rfl (Qt.not_t rfl) ?_
    refine S.nil ?_
    refine S.if_f rfl ?_
    refine TC.skip ?_
    refine TC.seq ?_
    refine TC.region ?_
    refine S.q rfl rfl (Qt.move (by conv => lhs; whnf)) ?_
    refine S.q rfl rfl (Qt.move (by conv => lhs; whnf)) ?_
    by_cases hi : idxOk height (dd (srt js))
    · refine S.opS rfl rfl (OpV.con (Pre := []) (R := _) Tryd.ent63 rfl (List.Perm.refl _) (fun w hw => make10_walk E tb mb height ms hh O1 d1 (dd (srt js)) (own_cap (hw.ok (List.mem_of_getElem? (i := 1) rfl))).1 hi w (Rd.at 2 rfl w hw) (Rd.at 3 rfl w hw) hlowd (Rd.own (Rd.at 1 rfl) w hw)) ?_)
      rintro v L' ⟨O2, d2, rfl, rfl⟩
      refine S.q rfl rfl (Qt.move (by conv => lhs; whnf)) ?_
      refine S.q rfl rfl (Qt.extract rfl rfl) ?_
      refine S.q rfl rfl (Qt.extract rfl rfl) ?_
      refine S.q rfl rfl (Qt.assign (by conv => lhs; whnf)) ?_
      refine S.q rfl rfl (Qt.assign (by conv => lhs; whnf)) ?_
      refine S.nil ?_
      refine TC.seq ?_
      refine TC.region ?_
      refine S.q rfl rfl (Qt.move (by conv => lhs; whnf)) ?_
      refine S.q rfl rfl (Qt.move (by conv => lhs; whnf)) ?_
      refine S.opS rfl rfl (OpV.con (Pre := []) (R := _) Tryd.ent64 rfl (List.Perm.refl _) (fun w hw => leaves10_walk E tb mb height ms hh O1 d1 (dd (srt js)) hi w (Rd.at 3 rfl w hw) (Rd.at 4 rfl w hw) hlowd (Rd.own (Rd.at 2 rfl) w hw)) ?_)
      rintro v L' ⟨O3, d3, rfl, rfl⟩
      refine S.q rfl rfl (Qt.move (by conv => lhs; whnf)) ?_
      refine S.q rfl rfl (Qt.extract rfl rfl) ?_
      refine S.q rfl rfl (Qt.extract rfl rfl) ?_
      refine S.q rfl rfl (Qt.assign (by conv => lhs; whnf)) ?_
      refine S.q rfl rfl (Qt.assign (by conv => lhs; whnf)) ?_
      refine S.nil ?_
      refine TC.seq ?_
      refine TC.seq ?_
      refine TC.region ?_
      refine S.q rfl rfl (Qt.move (by conv => lhs; whnf)) ?_
      refine S.q rfl rfl (Qt.nenil_nil Tryd.underlying27 rfl) ?_
      refine S.q rfl rfl (Qt.move (by conv => lhs; whnf)) ?_
      refine S.qg rfl rfl rfl (Qt.move (by conv => lhs; whnf)) ?_
      refine S.qg rfl rfl rfl (Qt.nenil_nil Tryd.underlying27 rfl) ?_
      refine S.q rfl rfl (Qt.pick_f rfl (by conv => lhs; whnf)) ?_
      refine S.nil ?_
      refine S.if_f rfl ?_
      refine TC.skip ?_
      refine TC.seq ?_
      refine TC.region ?_
      refine S.q rfl rfl (Qt.move (by conv => lhs; whnf)) ?_
      refine S.q rfl rfl (Qt.move (by conv => lhs; whnf)) ?_
      refine S.q rfl rfl (Qt.move (by conv => lhs; whnf)) ?_
      refine S.q rfl rfl (Qt.move (by conv => lhs; whnf)) ?_
      refine S.opS rfl rfl (OpV.con0 Tryd.ent57 rfl (fun w hw => (by have q := root10_R (height : Int) O1 d1 (dd (srt js)) (own_cap (hw.ok (List.mem_of_getElem? (i := 3) rfl))).1 O3 d3 ((dd (srt js)).map (fun x => getT E ms (0, x))) O2 d2 ((spots height (dd (srt js)) 0).map (fun a => getT E ms a)) (by rw [List.length_map]; exact (own_cap (hw.ok (List.mem_of_getElem? (i := 0) rfl))).1) (by rw [List.length_map]; exact (own_cap (hw.ok (List.mem_of_getElem? (i := 1) rfl))).1) w hlowd (Rd.own (Rd.at 3 rfl) w hw) (Rd.own (Rd.at 0 rfl) w hw) (Rd.own (Rd.at 1 rfl) w hw) (hT.at hw); rw [chk_tree hh ht hi] at q; simp only [List.length_map] at q; exact q : Calls Tryd.prog 57 #[.int .i64 (height : Int), .slice O1 (dd (srt js)).length d1, .slice O3 (dd (srt js)).length d3, .slice O2 (spots height (dd (srt js)) 0).length d2] w (Ret w (.tuple #[hv (getT E ms (height, 0)), .nilIface])))) ?_)
      refine S.q rfl rfl (Qt.move (by conv => lhs; whnf)) ?_
      refine S.q rfl rfl (Qt.extract rfl rfl) ?_
      refine S.q rfl rfl (Qt.extract rfl rfl) ?_
      refine S.opS rfl rfl (OpV.alloc Tryd.zero23 (fun b15 => ?_))
      refine S.opN rfl (OpV.storeV0 (v := hv (_)) rfl rfl (hv_size Tryd.cells23) (hv_all _) (hv_len _) ?_)
      refine S.q rfl rfl (Qt.assign (by conv => lhs; whnf)) ?_
      refine S.nil ?_
      refine TC.seq ?_
      refine S.draw ([], []) Tryd.mixed (Sub.nil _) ?_
      refine D.qX (k := 0) rfl (by kernel_rfl) (by kernel_rfl) (by kernel_rfl) rfl rfl (Qt.move (by conv => lhs; whnf)) ?_
      refine D.qX (k := 1) rfl (by kernel_rfl) (by kernel_rfl) (by kernel_rfl) rfl rfl (Qt.eqnil_nil Tryd.underlying27 rfl) ?_
      refine D.qX (k := 2) rfl (by kernel_rfl) (by kernel_rfl) (by kernel_rfl) rfl rfl (Qt.move (by conv => lhs; whnf)) ?_
      refine D.qgX (k := 3) rfl (by kernel_rfl) (by kernel_rfl) (by kernel_rfl) rfl rfl rfl (Qt.load rfl (Ld.hash1 (x := getT E ms (height, 0)) (Has.at 0 rfl) Tryd.row23 Tryd.cells23)) ?_
      refine D.qgX (k := 4) rfl (by kernel_rfl) (by kernel_rfl) (by kernel_rfl) rfl rfl rfl (Qt.move (by conv => lhs; whnf)) ?_
      refine D.cgX (k := 5) rfl (by kernel_rfl) (by kernel_rfl) (by kernel_rfl) rfl rfl rfl (CalU.con0 Tryd.ent28 rfl (fun w hw => root_R E tb mb height ms hh w (Rd.at 5 rfl w hw) (Rd.at 6 rfl w hw))) ?_
      refine D.qgX (k := 6) rfl (by kernel_rfl) (by kernel_rfl) (by kernel_rfl) rfl rfl rfl (Qt.dT (Qt.eqH (a := getT E ms (height, 0)) (b := getT E ms (height, 0)) Tryd.guard23 Tryd.underlying23 Tryd.underlying5 Tryd.cells5 rfl rfl) rfl) ?_
      refine D.qX (k := 7) rfl (by kernel_rfl) (by kernel_rfl) (by kernel_rfl) rfl rfl (Qt.pick_t rfl (by conv => lhs; whnf)) ?_
      refine D.qX (k := 8) rfl (by kernel_rfl) (by kernel_rfl) (by kernel_rfl) rfl rfl (Qt.move (by conv => lhs; whnf)) ?_
      refine D.qgX (k := 9) rfl (by kernel_rfl) (by kernel_rfl) (by kernel_rfl) rfl rfl rfl (Qt.load rfl (Ld.hash1 (x := getT E ms (height, 0)) (Has.at 0 rfl) Tryd.row23 Tryd.cells23)) ?_
      refine D.qgX (k := 10) rfl (by kernel_rfl) (by kernel_rfl) (by kernel_rfl) rfl rfl rfl (Qt.move (by conv => lhs; whnf)) ?_
      refine D.qgX (k := 11) rfl (by kernel_rfl) (by kernel_rfl) (by kernel_rfl) rfl rfl rfl (Qt.move (by conv => lhs; whnf)) ?_
      refine D.qgX (k := 12) rfl (by kernel_rfl) (by kernel_rfl) (by kernel_rfl) rfl rfl rfl (Qt.move (by conv => lhs; whnf)) ?_
      refine D.qgX (k := 13) rfl (by kernel_rfl) (by kernel_rfl) (by kernel_rfl) rfl rfl rfl (Qt.move (by conv => lhs; whnf)) ?_
      refine D.cgX (k := 14) rfl (by kernel_rfl) (by kernel_rfl) (by kernel_rfl) rfl rfl rfl (CalU.con0 Tryd.ent60 rfl (fun w hw => (by have q := check10_R (getT E ms (height, 0)) (height : Int) O1 d1 (dd (srt js)) (own_cap (hw.ok (List.mem_of_getElem? (i := 4) rfl))).1 O3 d3 ((dd (srt js)).map (fun x => getT E ms (0, x))) O2 d2 ((spots height (dd (srt js)) 0).map (fun a => getT E ms a)) (by rw [List.length_map]; exact (own_cap (hw.ok (List.mem_of_getElem? (i := 1) rfl))).1) (by rw [List.length_map]; exact (own_cap (hw.ok (List.mem_of_getElem? (i := 2) rfl))).1) w hlowd (Rd.own (Rd.at 4 rfl) w hw) (Rd.own (Rd.at 1 rfl) w hw) (Rd.own (Rd.at 2 rfl) w hw) (hT.at hw); rw [chkR_0 (chk_tree hh ht hi)] at q; simp only [List.length_map] at q; exact q : Calls Tryd.prog 60 #[hv (getT E ms (height, 0)), .int .i64 (height : Int), .slice O1 (dd (srt js)).length d1, .slice O3 (dd (srt js)).length d3, .slice O2 (spots height (dd (srt js)) 0).length d2] w (Ret w .nilIface)))) ?_
      refine D.qgX (k := 15) rfl (by kernel_rfl) (by kernel_rfl) (by kernel_rfl) rfl rfl rfl (Qt.eqnil_nil Tryd.underlying27 rfl) ?_
      refine D.qX (k := 16) rfl (by kernel_rfl) (by kernel_rfl) (by kernel_rfl) rfl rfl (Qt.pick_t rfl (by conv => lhs; whnf)) ?_
      refine D.qX (k := 17) rfl (by kernel_rfl) (by kernel_rfl) (by kernel_rfl) rfl rfl (Qt.assign (by conv => lhs; whnf)) ?_
      refine D.done (Sub.nil _) (by kernel_rfl) ?_
      refine TC.ret ?_
      refine finQ.ret (RVs.tmp (by conv => lhs; whnf) RVs.nil) (Sub.nil _) ?_
      exact ⟨rfl, rfl⟩
    · refine S.opS rfl rfl (OpV.con0 Tryd.ent63 rfl (fun w hw => Calls.ret (make10_walkF E tb mb height ms hh O1 d1 (dd (srt js)) hi w (Rd.at 2 rfl w hw) hlowd (Rd.own (Rd.at 1 rfl) w hw))) ?_)
      refine S.q rfl rfl (Qt.move (by conv => lhs; whnf)) ?_
      refine S.q rfl rfl (Qt.extract rfl rfl) ?_
      refine S.q rfl rfl (Qt.extract rfl rfl) ?_
      refine S.q rfl rfl (Qt.assign (by conv => lhs; whnf)) ?_
      refine S.q rfl rfl (Qt.assign (by conv => lhs; whnf)) ?_
      refine S.nil ?_
      refine TC.seq ?_
      refine TC.region ?_
      refine S.q rfl rfl (Qt.move (by conv => lhs; whnf)) ?_
      refine S.q rfl rfl (Qt.move (by conv => lhs; whnf)) ?_
      refine S.opS rfl rfl (OpV.con0 Tryd.ent64 rfl (fun w hw => Calls.ret (leaves10_walkF E tb mb height ms hh O1 d1 (dd (srt js)) hi w (Rd.at 2 rfl w hw) hlowd (Rd.own (Rd.at 1 rfl) w hw))) ?_)
      refine S.q rfl rfl (Qt.move (by conv => lhs; whnf)) ?_
      refine S.q rfl rfl (Qt.extract rfl rfl) ?_
      refine S.q rfl rfl (Qt.extract rfl rfl) ?_
      refine S.q rfl rfl (Qt.assign (by conv => lhs; whnf)) ?_
      refine S.q rfl rfl (Qt.assign (by conv => lhs; whnf)) ?_
      refine S.nil ?_
      refine TC.seq ?_
      refine TC.seq ?_
      refine TC.region ?_
      refine S.q rfl rfl (Qt.move (by conv => lhs; whnf)) ?_
      refine S.q rfl rfl (Qt.nenil_iface Tryd.underlying27 rfl) ?_
      refine S.q rfl rfl (Qt.move (by conv => lhs; whnf)) ?_
      refine S.pass rfl rfl ?_
      refine S.pass rfl rfl ?_
      refine S.q rfl rfl (Qt.pick_t rfl (by conv => lhs; whnf)) ?_
      refine S.nil ?_
      refine S.if_t rfl ?_
      refine TC.seq ?_
      refine TC.region ?_
      refine S.q rfl rfl (Qt.move (by conv => lhs; whnf)) ?_
      refine S.q rfl rfl (Qt.nenil_iface Tryd.underlying27 rfl) ?_
      refine S.q rfl rfl (Qt.move (by conv => lhs; whnf)) ?_
      refine S.qg rfl rfl rfl (Qt.move (by conv => lhs; whnf)) ?_
      refine S.qg rfl rfl rfl (Qt.nenil_iface Tryd.underlying27 rfl) ?_
      refine S.q rfl rfl (Qt.pick_t rfl (by conv => lhs; whnf)) ?_
      refine S.q rfl rfl (Qt.move (by conv => lhs; whnf)) ?_
      refine S.qg rfl rfl rfl (Qt.move (by conv => lhs; whnf)) ?_
      refine S.qg rfl rfl rfl (Qt.move (by conv => lhs; whnf)) ?_
      refine S.opg rfl rfl rfl (OpV.con0 Tryd.ent67 rfl (fun w hw => right10_F height hh O1 d1 (dd (srt js)) hi w hlowd (Rd.own (Rd.at 1 rfl) w hw)) ?_)
      refine S.qg rfl rfl rfl (Qt.not_f rfl) ?_
      refine S.q rfl rfl (Qt.pick_t rfl (by conv => lhs; whnf)) ?_
      refine S.q rfl rfl (Qt.assign (by conv => lhs; whnf)) ?_
      refine S.nil ?_
      refine TC.ret ?_
      refine finQ.ret (RVs.tmp (by conv => lhs; whnf) RVs.nil) (Sub.nil _) ?_
      exact ⟨rfl, rfl⟩
theorem proofBack_R (y : Int) (A : Option Addr) (c : Nat) (zs : List Go.E.Act) (B : Option Addr) (d : Nat) (js : List Nat) (hlow : ∀ x ∈ js, x < 18446744073709551616) (w0 : World) (hR : Ro w0 [] (SlA A (zs.flatMap actL))) (hJ : Ro w0 [] (SlA B (u64s js))) (hT : Tabs 2 0 w0 []) : Calls Tryd.prog 19 #[.int .i64 y, .slice A zs.length c, .slice B js.length d] w0 (Post w0 [] fun v L => v = .bool true ∧ L = []) := by
  have hEm : ∀ w, Tabs 2 0 w [] → Calls Tryd.prog 88 #[] w (Ret w (.agg (hcs (emptL emptyH)).toArray)) := fun w h => empties_R w h
  have hE : ∀ h, emptyH (h + 1) = joinH (h + 1) (emptyH h) (emptyH h) := fun _ => rfl
  by_cases hj : 40 < js.length
  · exact law19_walkE1 emptyH hEm hE y A c zs B d js hj w0 hT
  · by_cases hz : 25 < zs.length
    · exact law19_walkE2 emptyH hEm hE y A c zs B d js (by omega) hz w0 hT
    · by_cases hy : y < 0 ∨ 32 < y
      · exact law19_walkZ emptyH hEm hE y A c zs B d js (by omega) (by omega) hy w0 hT
      · obtain ⟨height, rfl⟩ : ∃ n : Nat, y = (n : Int) := ⟨y.toNat, by omega⟩
        exact law19_walk emptyH hEm hE height (by omega) A c zs (by omega) B d js (by omega) hlow w0 hR hJ hT

end Go.Proofs.YtlneklemjfefpaaDoor
