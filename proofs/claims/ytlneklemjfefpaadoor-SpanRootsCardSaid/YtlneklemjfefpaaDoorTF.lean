/-
  Walks: the ways up of a tree. Printed by a program of ours.
-/
import Derived.Test.YtlneklemjfefpaaDoorFX
namespace Go.Proofs.YtlneklemjfefpaaDoor
open Go.E
set_option linter.unusedVariables false
set_option maxRecDepth 4000

def H5 : H32 := ⟨[5, 0, 0, 0, 0, 0, 0, 0, 0, 0, 0, 0, 0, 0, 0, 0, 0, 0, 0, 0, 0, 0, 0, 0, 0, 0, 0, 0, 0, 0, 0, 0], rfl⟩
theorem Tryd.keyU : KeyLaw Tryd.prog 24 encU := Go.E.keyU Tryd.underlying24
set_option maxHeartbeats 400000 in
theorem alive09_walk (E : Nat → H32) (hEm : ∀ w, Tabs 2 0 w [] → Calls Tryd.prog 88 #[] w (Ret w (.agg (hcs (emptL E)).toArray))) (w0 : World) (hT : Tabs 2 0 w0 []) :
    Calls Tryd.prog 25 #[] w0 (Post w0 [] fun v L => v = .bool true ∧ L = []) := by
  refine Calls.of (L := []) (n := 25) (rs := [.tmp 0]) Tryd.func25 rfl rfl rfl (Nat.le_of_ble_eq_true rfl) (Sat.nil _) ?_
  refine TC.seq ?_
  refine TC.region ?_
  refine S.q rfl rfl (Qt.assign (by conv => lhs; whnf)) ?_
  refine S.nil ?_
  refine TC.seq ?_
  refine TC.region ?_
  refine S.opS rfl rfl (OpV.con (Pre := []) (R := _) Tryd.ent26 rfl (List.Perm.refl _) (fun w hw => new_walk E hEm 0 (by decide) w (hT.at hw)) ?_)
  rintro v L' ⟨tb, mb, rfl, rfl⟩
  refine S.q rfl rfl (Qt.move (by conv => lhs; whnf)) ?_
  refine S.q rfl rfl (Qt.extract rfl rfl) ?_
  refine S.q rfl rfl (Qt.extract rfl rfl) ?_
  refine S.q rfl rfl (Qt.assign (by conv => lhs; whnf)) ?_
  refine S.q rfl rfl (Qt.assign (by conv => lhs; whnf)) ?_
  refine S.nil ?_
  refine TC.seq ?_
  refine TC.region ?_
  refine S.q rfl rfl (Qt.move (by conv => lhs; whnf)) ?_
  refine S.q rfl rfl (Qt.eqnil_nil Tryd.underlying27 rfl) ?_
  refine S.q rfl rfl (Qt.move (by conv => lhs; whnf)) ?_
  refine S.qg rfl rfl rfl (Qt.move (by conv => lhs; whnf)) ?_
  refine S.qg rfl rfl rfl (Qt.nep_some Tryd.underlying35 rfl) ?_
  refine S.q rfl rfl (Qt.pick_t rfl (by conv => lhs; whnf)) ?_
  refine S.q rfl rfl (Qt.move (by conv => lhs; whnf)) ?_
  refine S.qg rfl rfl rfl (Qt.move (by conv => lhs; whnf)) ?_
  refine S.qg rfl rfl rfl (Qt.build (v := hv H5) rfl (fun _ => by kernel_rfl)) ?_
  refine S.opg rfl rfl rfl (OpV.con (Pre := [Blk tb 150 (treeCs E 0 mb), MapA mb encAt hv ([])]) (R := _) Tryd.ent27 rfl (List.Perm.refl _) (fun w hw => set_walk E tb mb 0 [] 0 H5 (by decide) (by decide) w hw.sat.left (hT.pre hw)) ?_)
  rintro v L' ⟨rfl, rfl⟩
  refine S.qg rfl rfl rfl (Qt.eqnil_nil Tryd.underlying27 rfl) ?_
  refine S.q rfl rfl (Qt.pick_t rfl (by conv => lhs; whnf)) ?_
  refine S.q rfl rfl (Qt.move (by conv => lhs; whnf)) ?_
  refine S.qg rfl rfl rfl (Qt.move (by conv => lhs; whnf)) ?_
  refine S.opg rfl rfl rfl (OpV.con0 Tryd.ent28 rfl (fun w hw => root_R E tb mb 0 (setK E [] 0 H5 0) (by decide) w (Rd.at 0 rfl w hw) (Rd.at 1 rfl w hw)) ?_)
  refine S.qg rfl rfl rfl (Qt.build (v := hv H5) rfl (fun _ => by kernel_rfl)) ?_
  refine S.qg rfl rfl rfl (Qt.dT (Qt.eqH (a := getT E (setK E [] 0 H5 0) (0, 0)) (b := H5) Tryd.guard23 Tryd.underlying23 Tryd.underlying5 Tryd.cells5 rfl rfl) (by rw [setK, getT_put (ms := []) List.nodup_nil]; simp)) ?_
  refine S.q rfl rfl (Qt.pick_t rfl (by conv => lhs; whnf)) ?_
  refine S.q rfl rfl (Qt.assign (by conv => lhs; whnf)) ?_
  refine S.nil ?_
  refine TC.ret ?_
  refine finQ.ret (RVs.tmp (by conv => lhs; whnf) RVs.nil) (Sub.nil _) ?_
  exact ⟨rfl, rfl⟩
set_option maxHeartbeats 1600000 in
theorem law4_walk (E : Nat → H32) (hEm : ∀ w, Tabs 2 0 w [] → Calls Tryd.prog 88 #[] w (Ret w (.agg (hcs (emptL E)).toArray))) (hE : ∀ h, E (h + 1) = joinH (h + 1) (E h) (E h)) (height i : Nat) (hh : height ≤ 32) (A : Option Addr) (c : Nat) (xs : List Go.E.Act) (hxs : xs.length ≤ 25) (hi64 : i < 18446744073709551616) (hi : i < 2 ^ height) (w0 : World) (hR : Ro w0 [] (SlA A (xs.flatMap actL))) (hT : Tabs 2 0 w0 []) :
    Calls Tryd.prog 4 #[.int .i64 (height : Int), .slice A xs.length c, .int .u64 (i : Int)] w0 (Post w0 [] fun v L => v = .bool true ∧ L = []) := by
  refine Calls.of (L := []) (n := 166) (rs := [.tmp 6]) Tryd.func4 rfl rfl rfl (Nat.le_of_ble_eq_true rfl) (Sat.nil _) ?_
  refine TC.seq ?_
  refine TC.region ?_
  refine S.q rfl rfl (Qt.assign (by conv => lhs; whnf)) ?_
  refine S.nil ?_
  refine TC.seq ?_
  refine TC.seq ?_
  refine TC.region ?_
  refine S.opS rfl rfl (OpV.con0 Tryd.ent25 rfl (fun w hw => Calls.ret (alive09_walk E hEm w (hT.at hw))) ?_)
  refine S.q rfl rfl (Qt.not_t rfl) ?_
  refine S.nil ?_
  refine S.if_f rfl ?_
  refine TC.skip ?_
  refine TC.seq ?_
  refine TC.seq ?_
  refine TC.region ?_
  refine S.q rfl rfl (Qt.move (by conv => lhs; whnf)) ?_
  refine S.q rfl rfl (Qt.len_slice Tryd.underlying34 rfl) ?_
  refine S.q rfl rfl (Qt.dF (Qt.gt (b := 25) rfl rfl) (by omega)) ?_
  refine S.nil ?_
  refine S.if_f rfl ?_
  refine TC.skip ?_
  refine TC.seq ?_
  refine TC.region ?_
  refine S.q rfl rfl (Qt.move (by conv => lhs; whnf)) ?_
  refine S.opS rfl rfl (OpV.con (Pre := []) (R := _) Tryd.ent26 rfl (List.Perm.refl _) (fun w hw => new_walk E hEm height hh w (hT.at hw)) ?_)
  rintro v L' ⟨tb, mb, rfl, rfl⟩
  refine S.q rfl rfl (Qt.move (by conv => lhs; whnf)) ?_
  refine S.q rfl rfl (Qt.extract rfl rfl) ?_
  refine S.q rfl rfl (Qt.extract rfl rfl) ?_
  refine S.q rfl rfl (Qt.assign (by conv => lhs; whnf)) ?_
  refine S.q rfl rfl (Qt.assign (by conv => lhs; whnf)) ?_
  refine S.nil ?_
  refine TC.seq ?_
  refine TC.region ?_
  refine S.q rfl rfl (Qt.move (by conv => lhs; whnf)) ?_
  refine S.opS rfl rfl (OpV.con (Pre := []) (R := _) Tryd.ent26 rfl (List.Perm.refl _) (fun w hw => new_walk E hEm height hh w (hT.at hw)) ?_)
  rintro v L' ⟨ub, nb, rfl, rfl⟩
  refine S.q rfl rfl (Qt.move (by conv => lhs; whnf)) ?_
  refine S.q rfl rfl (Qt.extract rfl rfl) ?_
  refine S.q rfl rfl (Qt.extract rfl rfl) ?_
  refine S.q rfl rfl (Qt.assign (by conv => lhs; whnf)) ?_
  refine S.q rfl rfl (Qt.assign (by conv => lhs; whnf)) ?_
  refine S.nil ?_
  refine TC.seq ?_
  refine TC.seq ?_
  refine TC.region ?_
  refine S.q rfl rfl (Qt.move (by conv => lhs; whnf)) ?_
  refine S.q rfl rfl (Qt.nenil_nil Tryd.underlying27 rfl) ?_
  refine S.q rfl rfl (Qt.move (by conv => lhs; whnf)) ?_
  refine S.qg rfl rfl rfl (Qt.move (by conv => lhs; whnf)) ?_
  refine S.qg rfl rfl rfl (Qt.nenil_nil Tryd.underlying27 rfl) ?_
  refine S.q rfl rfl (Qt.pick_f rfl (by conv => lhs; whnf)) ?_
  refine S.nil ?_
  refine S.if_f rfl ?_
  refine TC.skip ?_
  refine TC.seq ?_
  refine TC.region ?_
  refine S.opS rfl rfl (OpV.makeMap (enc := encU) (encv := hv) (fun kb => ?_))
  refine S.q rfl rfl (Qt.assign (by conv => lhs; whnf)) ?_
  refine S.nil ?_
  refine TC.seq ?_
  refine TC.seq ?_
  refine TC.region ?_
  refine S.q rfl rfl (Qt.move (by conv => lhs; whnf)) ?_
  refine S.q rfl rfl (Qt.len_slice Tryd.underlying34 rfl) ?_
  refine S.q rfl rfl (Qt.move (by conv => lhs; whnf)) ?_
  refine S.nil ?_
  refine TC.block ?_
  refine TC.loop (γ := Nat × Tm × Ms) [56, 57, 58, 13, 59, 60, 61, 62, 63, 64, 65, 66, 67, 68, 69, 70, 71, 55] (fun g => [(55, .int .i64 ((g.1 : Nat) : Int))]) (fun g => [MapA kb encU hv (g.2.2), Blk ub 150 (treeCs E height nb), MapA nb encAt hv ([]), Blk tb 150 (treeCs E height mb), MapA mb encAt hv (g.2.1)]) (fun g => g.1 ≤ xs.length ∧ ∃ f, TreeOk E height f g.2.1 ∧ LastOk E height xs g.1 f g.2.2) (fun g => xs.length - g.1) ((0, [], []))
    ⟨Nat.zero_le _, _, TreeOk.empty hE height, LastOk.zero⟩ ⟨Out.refl _ _, (List.forall_mem_cons.2 ⟨rfl, (fun _ h => nomatch h)⟩)⟩ (Sub.refl _) ?_
  rintro ⟨k, ms, last⟩ u ⟨hk, f, hf, hl⟩
  dsimp only at hk hf hl
  refine TC.seq ?_
  refine TC.region ?_
  refine S.dec rfl rfl (Qt.lt rfl rfl) (fun h56 => ?_) (fun h56 => ?_)
  · refine S.nil ?_
    refine TC.seq ?_
    refine S.if_t rfl ?_
    refine TC.skip ?_
    refine TC.seq ?_
    refine TC.block ?_
    refine TC.seq ?_
    refine TC.region ?_
    refine S.q rfl rfl (Qt.index Tryd.underlying34 Tryd.cells40 rfl rfl (by omega) (Has.ro hR) (by rw [acts_len]; omega)) ?_
    refine S.q rfl rfl (Qt.load rfl (Ld.slr (Has.ro hR) Tryd.row40 (by rw [actL_length]; exact Tryd.cells40) (by rw [actL_length]; decide) (acts_at h56))) ?_
    refine S.opS rfl rfl (OpV.alloc Tryd.zero40 (fun b13 => ?_))
    refine S.opN rfl (OpV.storeV0 (v := .agg (actL (xs.getD k act0)).toArray) rfl rfl (by rw [actL_vl]; exact Tryd.cells40) (actL_one _) (by rw [actL_vl]; rfl) ?_)
    refine S.nil ?_
    refine TC.seq ?_
    refine TC.region ?_
    refine S.q rfl rfl (Qt.move (by conv => lhs; whnf)) ?_
    refine S.q rfl rfl (Qt.field Tryd.underlying40 rfl Tryd.cells24 rfl) ?_
    refine S.q rfl rfl (Qt.load rfl (Ld.one (Has.at 0 rfl) Tryd.one24 (rfl))) ?_
    refine S.q rfl rfl (Qt.field Tryd.underlying40 rfl Tryd.cells23 rfl) ?_
    refine S.q rfl rfl (Qt.load rfl (Ld.row (vs := hvl (xs.getD k act0).h) (Has.at 0 rfl) Tryd.row23 (by rw [hvl_length]; exact Tryd.cells23) (actL_hash _))) ?_
    by_cases hs : (xs.getD k act0).i < 2 ^ height
    · refine S.opS rfl rfl (OpV.con (Pre := [Blk tb 150 (treeCs E height mb), MapA mb encAt hv (ms)]) (R := _) Tryd.ent27 rfl ((List.perm_middle (l₁ := [_, _, _, _])).trans (List.Perm.cons _ (List.perm_middle (l₁ := [_, _, _, _])))) (fun w hw => set_walk E tb mb height ms _ _ hh hs w hw.sat.left (hT.pre hw)) ?_)
      rintro v L' ⟨rfl, rfl⟩
      refine S.q rfl rfl (Qt.eqnil_nil Tryd.underlying27 rfl) ?_
      refine S.nil ?_
      refine S.if_t rfl ?_
      refine TC.region ?_
      refine S.q rfl rfl (Qt.move (by conv => lhs; whnf)) ?_
      refine S.q rfl rfl (Qt.field Tryd.underlying40 rfl Tryd.cells24 rfl) ?_
      refine S.q rfl rfl (Qt.load rfl (Ld.one (Has.at 2 rfl) Tryd.one24 (rfl))) ?_
      refine S.q rfl rfl (Qt.field Tryd.underlying40 rfl Tryd.cells23 rfl) ?_
      refine S.q rfl rfl (Qt.load rfl (Ld.row (vs := hvl (xs.getD k act0).h) (Has.at 2 rfl) Tryd.row23 (by rw [hvl_length]; exact Tryd.cells23) (actL_hash _))) ?_
      refine S.opN rfl (OpV.mapUpd3 (k := (xs.getD k act0).i) (a := (xs.getD k act0).h) Tryd.underlying38 Tryd.keyU rfl rfl rfl ?_)
      refine S.nil ?_
      refine TC.region ?_
      refine S.q rfl rfl (Qt.add (b := 1) rfl rfl (by simp only [kmax]; omega)) ?_
      refine S.q rfl rfl (Qt.move (by conv => lhs; whnf)) ?_
      refine S.nil ?_
      refine ⟨(k + 1, setK E ms (xs.getD k act0).i (xs.getD k act0).h height, updR (xs.getD k act0).i (xs.getD k act0).h last), ?_, ?_, ⟨?_, (List.forall_mem_cons.2 ⟨rfl, (fun _ h => nomatch h)⟩)⟩, Sub.trans (Sub.keep _ (Sub.keep _ (Sub.keep _ (Sub.keep _ (Sub.keep _ (Sub.drop _ (Sub.nil []))))))) (Sub.trans (Sub.keep _ (Sub.trans (Sub.keep _ (Sub.trans (Sub.keep _ (Sub.refl _)) (Sub.of_perm (List.perm_middle (l₁ := [_, _, _]))))) (Sub.of_perm (List.perm_middle (l₁ := [_, _, _]))))) (Sub.of_perm (List.perm_middle (l₁ := [_, _, _]))))⟩
      · exact ⟨by show _ ≤ _; dsimp only; omega, _, hf.set hs _, hl.step h56 hs⟩
      · show _ < _; dsimp only; omega
      repeat (first | exact Out.refl _ _ | refine Out.put rfl ?_ | refine Out.puts rfl ?_ | refine Out.scr ?_ | refine Out.scr' rfl ?_)
    · refine S.opS rfl rfl (OpV.con0 Tryd.ent27 rfl (fun w hw => setF_R E tb mb height _ _ hh (xs.getD k act0).lt hs w (Rd.at 4 rfl w hw)) ?_)
      refine S.q rfl rfl (Qt.eqnil_iface Tryd.underlying27 rfl) ?_
      refine S.nil ?_
      refine S.if_f rfl ?_
      refine TC.skip ?_
      refine TC.region ?_
      refine S.q rfl rfl (Qt.add (b := 1) rfl rfl (by simp only [kmax]; omega)) ?_
      refine S.q rfl rfl (Qt.move (by conv => lhs; whnf)) ?_
      refine S.nil ?_
      refine ⟨(k + 1, ms, last), ?_, ?_, ⟨?_, (List.forall_mem_cons.2 ⟨rfl, (fun _ h => nomatch h)⟩)⟩, Sub.trans (Sub.keep _ (Sub.keep _ (Sub.keep _ (Sub.keep _ (Sub.keep _ (Sub.drop _ (Sub.nil []))))))) (Sub.trans (Sub.keep _ (Sub.trans (Sub.keep _ (Sub.trans (Sub.keep _ (Sub.trans (Sub.keep _ (Sub.trans (Sub.keep _ (Sub.refl _)) (Sub.of_perm (List.perm_middle (l₁ := [_]))))) (Sub.of_perm (List.perm_middle (l₁ := [_]))))) (Sub.of_perm (List.perm_middle (l₁ := [_]))))) (Sub.of_perm (List.perm_middle (l₁ := [_]))))) (Sub.of_perm (List.perm_middle (l₁ := [_]))))⟩
      · exact ⟨by show _ ≤ _; dsimp only; omega, f, hf, hl.skip h56⟩
      · show _ < _; dsimp only; omega
      repeat (first | exact Out.refl _ _ | refine Out.put rfl ?_ | refine Out.puts rfl ?_ | refine Out.scr ?_ | refine Out.scr' rfl ?_)
  · refine S.nil ?_
    refine TC.seq ?_
    refine S.if_f rfl ?_
    refine TC.exit ?_
    refine TC.seq ?_
    refine TC.seq ?_
    refine TC.region ?_
    refine S.q rfl rfl (Qt.move (by conv => lhs; whnf)) ?_
    refine S.q rfl rfl (Qt.len_slice Tryd.underlying34 rfl) ?_
    refine S.q rfl rfl (Qt.subi rfl rfl (IntWalk.i64_in _ (by omega))) ?_
    refine S.q rfl rfl (Qt.assign (by conv => lhs; whnf)) ?_
    refine S.nil ?_
    refine TC.block ?_
    refine TC.loop (γ := Nat × Tm) [75, 76, 80, 81, 82, 83, 84, 85, 86, 79, 87, 88, 15, 16, 89, 90, 91, 92, 93, 94, 95, 96, 97, 98, 6, 77, 78, 14] (fun g => [(14, .int .i64 ((g.1 : Int) - 1))]) (fun g => [MapA kb encU hv (last), Blk ub 150 (treeCs E height nb), MapA nb encAt hv (g.2), Blk tb 150 (treeCs E height mb), MapA mb encAt hv (ms)]) (fun g => g.1 ≤ xs.length ∧ ∃ fU, TreeOk E height fU g.2 ∧ BackOk E xs g.1 last fU) (fun g => g.1) ((xs.length, []))
      ⟨Nat.le_refl _, _, TreeOk.empty hE height, BackOk.zero⟩ ⟨Out.refl _ _, (List.forall_mem_cons.2 ⟨rfl, (fun _ h => nomatch h)⟩)⟩ (Sub.refl _) ?_
    rintro ⟨c2, us⟩ u ⟨hc, fU, hu, hb⟩
    dsimp only at hc hu hb
    refine TC.seq ?_
    refine TC.seq ?_
    refine TC.region ?_
    refine S.q rfl rfl (Qt.move (by conv => lhs; whnf)) ?_
    refine S.dec rfl rfl (Qt.gei rfl rfl) (fun h76 => ?_) (fun h76 => ?_)
    · refine S.nil ?_
      refine S.if_t rfl ?_
      refine TC.skip ?_
      refine TC.seq ?_
      refine TC.block ?_
      refine TC.seq ?_
      refine TC.region ?_
      refine S.q rfl rfl (Qt.move (by conv => lhs; whnf)) ?_
      refine S.q rfl rfl (Qt.move (by conv => lhs; whnf)) ?_
      refine S.q rfl rfl (Qt.as (Qt.move rfl) (congrArg (Value.int .i64) (show ((c2 : Int) - 1) = ((c2 - 1 : Nat) : Int) by omega))) ?_
      refine S.q rfl rfl (Qt.index Tryd.underlying34 Tryd.cells40 rfl rfl (by omega) (Has.ro hR) (by rw [acts_len]; omega)) ?_
      refine S.q rfl rfl (Qt.fieldS Tryd.underlying40 rfl Tryd.cells24 rfl (Has.ro hR) (by rw [acts_len]; omega)) ?_
      refine S.q rfl rfl (Qt.load rfl (Ld.sl (v := .int .u64 ((xs.getD (c2 - 1) act0).i : Int)) (Has.ro hR) Tryd.one24 (acts_at (show c2 - 1 < xs.length by omega) 0 _ rfl))) ?_
      rcases hlk : Go.E.look (xs.getD (c2 - 1) act0).i last with _ | h
      · refine S.q rfl rfl (Qt.as (v' := .tuple #[hv zeroH, .bool false]) (Qt.lookup_ok (k := (xs.getD (c2 - 1) act0).i) Tryd.underlying38 Tryd.keyU Tryd.zv23 rfl rfl (Has.at 0 rfl)) (by rw [hlk]; rfl)) ?_
        refine S.q rfl rfl (Qt.move (by conv => lhs; whnf)) ?_
        refine S.q rfl rfl (Qt.extract rfl rfl) ?_
        refine S.q rfl rfl (Qt.extract rfl rfl) ?_
        refine S.opS rfl rfl (OpV.alloc Tryd.zero23 (fun b15 => ?_))
        refine S.opN rfl (OpV.storeV0 (v := hv (_)) rfl rfl (hv_size Tryd.cells23) (hv_all _) (hv_len _) ?_)
        refine S.q rfl rfl (Qt.assign (by conv => lhs; whnf)) ?_
        refine S.nil ?_
        refine TC.seq ?_
        refine TC.region ?_
        refine S.q rfl rfl (Qt.move (by conv => lhs; whnf)) ?_
        refine S.nil ?_
        refine S.if_f rfl ?_
        refine TC.skip ?_
        refine TC.region ?_
        refine S.q rfl rfl (Qt.move (by conv => lhs; whnf)) ?_
        refine S.q rfl rfl (Qt.subi rfl rfl (IntWalk.i64_in _ (by omega))) ?_
        refine S.q rfl rfl (Qt.assign (by conv => lhs; whnf)) ?_
        refine S.nil ?_
        refine ⟨(c2 - 1, us), ?_, ?_, ⟨?_, (List.forall_mem_cons.2 ⟨(by show Value.int .i64 ((c2 : Int) - 1 - 1) = Value.int .i64 (((c2 - 1 : Nat) : Int) - 1); congr 1; omega), (fun _ h => nomatch h)⟩)⟩, Sub.trans (Sub.keep _ (Sub.keep _ (Sub.keep _ (Sub.keep _ (Sub.keep _ (Sub.drop _ (Sub.nil []))))))) (Sub.trans (Sub.keep _ (Sub.trans (Sub.keep _ (Sub.trans (Sub.keep _ (Sub.trans (Sub.keep _ (Sub.trans (Sub.keep _ (Sub.refl _)) (Sub.of_perm (List.perm_middle (l₁ := [_]))))) (Sub.of_perm (List.perm_middle (l₁ := [_]))))) (Sub.of_perm (List.perm_middle (l₁ := [_]))))) (Sub.of_perm (List.perm_middle (l₁ := [_]))))) (Sub.of_perm (List.perm_middle (l₁ := [_]))))⟩
        · exact ⟨by show _ ≤ _; dsimp only; omega, fU, hu, hb.skip (by omega) hc hlk⟩
        · show _ < _; dsimp only; omega
        repeat (first | exact Out.refl _ _ | refine Out.put rfl ?_ | refine Out.puts rfl ?_ | refine Out.scr ?_ | refine Out.scr' rfl ?_)
      · refine S.q rfl rfl (Qt.as (v' := .tuple #[hv h, .bool true]) (Qt.lookup_ok (k := (xs.getD (c2 - 1) act0).i) Tryd.underlying38 Tryd.keyU Tryd.zv23 rfl rfl (Has.at 0 rfl)) (by rw [hlk]; rfl)) ?_
        refine S.q rfl rfl (Qt.move (by conv => lhs; whnf)) ?_
        refine S.q rfl rfl (Qt.extract rfl rfl) ?_
        refine S.q rfl rfl (Qt.extract rfl rfl) ?_
        refine S.opS rfl rfl (OpV.alloc Tryd.zero23 (fun b15 => ?_))
        refine S.opN rfl (OpV.storeV0 (v := hv (_)) rfl rfl (hv_size Tryd.cells23) (hv_all _) (hv_len _) ?_)
        refine S.q rfl rfl (Qt.assign (by conv => lhs; whnf)) ?_
        refine S.nil ?_
        refine TC.seq ?_
        refine TC.region ?_
        refine S.q rfl rfl (Qt.move (by conv => lhs; whnf)) ?_
        refine S.nil ?_
        refine S.if_t rfl ?_
        refine TC.seq ?_
        refine S.draw ([7], []) Tryd.mixed (Sub.nil _) ?_
        refine D.qX (k := 0) rfl (by kernel_rfl) (by kernel_rfl) (by kernel_rfl) rfl rfl (Qt.move (by conv => lhs; whnf)) ?_
        refine D.qX (k := 1) rfl (by kernel_rfl) (by kernel_rfl) (by kernel_rfl) rfl rfl (Qt.move (by conv => lhs; whnf)) ?_
        refine D.qX (k := 2) rfl (by kernel_rfl) (by kernel_rfl) (by kernel_rfl) rfl rfl (Qt.as (Qt.move rfl) (congrArg (Value.int .i64) (show ((c2 : Int) - 1) = ((c2 - 1 : Nat) : Int) by omega))) ?_
        refine D.qX (k := 3) rfl (by kernel_rfl) (by kernel_rfl) (by kernel_rfl) rfl rfl (Qt.index Tryd.underlying34 Tryd.cells40 rfl rfl (by omega) (Has.ro hR) (by rw [acts_len]; omega)) ?_
        refine D.qX (k := 4) rfl (by kernel_rfl) (by kernel_rfl) (by kernel_rfl) rfl rfl (Qt.fieldS Tryd.underlying40 rfl Tryd.cells24 rfl (Has.ro hR) (by rw [acts_len]; omega)) ?_
        refine D.qX (k := 5) rfl (by kernel_rfl) (by kernel_rfl) (by kernel_rfl) rfl rfl (Qt.load rfl (Ld.sl (v := .int .u64 ((xs.getD (c2 - 1) act0).i : Int)) (Has.ro hR) Tryd.one24 (acts_at (show c2 - 1 < xs.length by omega) 0 _ rfl))) ?_
        refine D.qX (k := 6) rfl (by kernel_rfl) (by kernel_rfl) (by kernel_rfl) rfl rfl (Qt.load rfl (Ld.hash1 (x := h) (Has.at 0 rfl) Tryd.row23 Tryd.cells23)) ?_
        refine D.opS (k := 7) (Sub.nil _) rfl (by kernel_rfl) (by kernel_rfl) rfl rfl (OpV.con (Pre := [Blk ub 150 (treeCs E height nb), MapA nb encAt hv (us)]) (R := _) Tryd.ent27 rfl ((List.perm_middle (l₁ := [_, _])).trans (List.Perm.cons _ (List.perm_middle (l₁ := [_, _])))) (fun w hw => set_walk E ub nb height us _ _ hh (hl.key _ _ hlk).1 w hw.sat.left (hT.pre hw)) ?_)
        rintro v L' ⟨rfl, rfl⟩
        refine ⟨Sub.nil _, ?_⟩
        refine D.qX (k := 8) rfl (by kernel_rfl) (by kernel_rfl) (by kernel_rfl) rfl rfl (Qt.nenil_nil Tryd.underlying27 rfl) ?_
        refine D.done (Sub.nil _) (by kernel_rfl) ?_
        refine S.if_f rfl ?_
        refine TC.skip ?_
        refine TC.region ?_
        refine S.q rfl rfl (Qt.move (by conv => lhs; whnf)) ?_
        refine S.q rfl rfl (Qt.subi rfl rfl (IntWalk.i64_in _ (by omega))) ?_
        refine S.q rfl rfl (Qt.assign (by conv => lhs; whnf)) ?_
        refine S.nil ?_
        refine ⟨(c2 - 1, setK E us (xs.getD (c2 - 1) act0).i h height), ?_, ?_, ⟨?_, (List.forall_mem_cons.2 ⟨(by show Value.int .i64 ((c2 : Int) - 1 - 1) = Value.int .i64 (((c2 - 1 : Nat) : Int) - 1); congr 1; omega), (fun _ h => nomatch h)⟩)⟩, Sub.trans (Sub.keep _ (Sub.keep _ (Sub.keep _ (Sub.keep _ (Sub.keep _ (Sub.drop _ (Sub.nil []))))))) (Sub.trans (Sub.keep _ (Sub.keep _ (Sub.keep _ (Sub.trans (Sub.keep _ (Sub.trans (Sub.keep _ (Sub.refl _)) (Sub.of_perm (List.perm_middle (l₁ := [_]))))) (Sub.of_perm (List.perm_middle (l₁ := [_]))))))) (Sub.of_perm (List.perm_middle (l₁ := [_, _, _]))))⟩
        · exact ⟨by show _ ≤ _; dsimp only; omega, _, hu.set (hl.key _ _ hlk).1 _, hb.step (by omega) hc hlk⟩
        · show _ < _; dsimp only; omega
        repeat (first | exact Out.refl _ _ | refine Out.put rfl ?_ | refine Out.puts rfl ?_ | refine Out.scr ?_ | refine Out.scr' rfl ?_)
    · refine S.nil ?_
      refine S.if_f rfl ?_
      refine TC.exit ?_
      refine TC.seq ?_
      refine TC.seq ?_
      refine TC.region ?_
      obtain rfl : c2 = 0 := by omega
      obtain rfl := (hb.done hl).symm
      refine S.q rfl rfl (Qt.move (by conv => lhs; whnf)) ?_
      refine S.opS rfl rfl (OpV.con0 Tryd.ent28 rfl (fun w hw => root_R E tb mb height ms hh w (Rd.at 3 rfl w hw) (Rd.at 4 rfl w hw)) ?_)
      refine S.q rfl rfl (Qt.move (by conv => lhs; whnf)) ?_
      refine S.opS rfl rfl (OpV.con0 Tryd.ent28 rfl (fun w hw => root_R E ub nb height us hh w (Rd.at 1 rfl w hw) (Rd.at 2 rfl w hw)) ?_)
      refine S.q rfl rfl (Qt.dF (Qt.neH (a := getT E ms (height, 0)) (b := getT E us (height, 0)) Tryd.guard23 Tryd.underlying23 Tryd.underlying5 Tryd.cells5 rfl rfl) (fun h => h (by rw [hf.get _ (okRoot height), hu.get _ (okRoot height)]))) ?_
      refine S.nil ?_
      refine S.if_f rfl ?_
      refine TC.skip ?_
      refine TC.seq ?_
      refine TC.region ?_
      have hleaf : getT E ms (0, i) = nodeH f 0 (i / 2 ^ 0) := by rw [hf.get _ (ok0 hi), Nat.pow_zero, Nat.div_one]
      have hpath := pathT_ok hf hi
      refine S.q rfl rfl (Qt.move (by conv => lhs; whnf)) ?_
      refine S.q rfl rfl (Qt.move (by conv => lhs; whnf)) ?_
      refine S.opS rfl rfl (OpV.con (Pre := []) (R := _) Tryd.ent29 rfl (List.Perm.refl _) (fun w hw => path_walk E tb mb height ms i hh hi w (Rd.at 3 rfl w hw) (Rd.at 4 rfl w hw)) ?_)
      rintro v L' ⟨O, d, rfl, rfl⟩
      refine S.q rfl rfl (Qt.move (by conv => lhs; whnf)) ?_
      refine S.q rfl rfl (Qt.extract rfl rfl) ?_
      refine S.q rfl rfl (Qt.extract rfl rfl) ?_
      refine S.q rfl rfl (Qt.assign (by conv => lhs; whnf)) ?_
      refine S.q rfl rfl (Qt.assign (by conv => lhs; whnf)) ?_
      refine S.nil ?_
      refine TC.seq ?_
      refine TC.region ?_
      refine S.q rfl rfl (Qt.move (by conv => lhs; whnf)) ?_
      refine S.q rfl rfl (Qt.move (by conv => lhs; whnf)) ?_
      refine S.opS rfl rfl (OpV.con0 Tryd.ent30 rfl (fun w hw => (by have h := leaf_R E tb mb height ms i hh hi w (Rd.at 4 rfl w hw) (Rd.at 5 rfl w hw); rw [hleaf] at h; exact h : Calls Tryd.prog 30 #[.pointer (some ⟨tb, 0, none⟩), .int .u64 (i : Int)] w (Ret w (.tuple #[hv (nodeH f 0 (i / 2 ^ 0)), .nilIface])))) ?_)
      refine S.q rfl rfl (Qt.move (by conv => lhs; whnf)) ?_
      refine S.q rfl rfl (Qt.extract rfl rfl) ?_
      refine S.q rfl rfl (Qt.extract rfl rfl) ?_
      refine S.opS rfl rfl (OpV.alloc Tryd.zero23 (fun b18 => ?_))
      refine S.opN rfl (OpV.storeV0 (v := hv (_)) rfl rfl (hv_size Tryd.cells23) (hv_all _) (hv_len _) ?_)
      refine S.q rfl rfl (Qt.assign (by conv => lhs; whnf)) ?_
      refine S.nil ?_
      refine TC.seq ?_
      refine TC.seq ?_
      refine TC.region ?_
      refine S.q rfl rfl (Qt.move (by conv => lhs; whnf)) ?_
      refine S.q rfl rfl (Qt.nenil_nil Tryd.underlying27 rfl) ?_
      refine S.q rfl rfl (Qt.move (by conv => lhs; whnf)) ?_
      refine S.qg rfl rfl rfl (Qt.move (by conv => lhs; whnf)) ?_
      refine S.qg rfl rfl rfl (Qt.nenil_nil Tryd.underlying27 rfl) ?_
      refine S.q rfl rfl (Qt.pick_f rfl (by conv => lhs; whnf)) ?_
      refine S.nil ?_
      refine S.if_f rfl ?_
      refine TC.skip ?_
      refine TC.seq ?_
      refine TC.seq ?_
      refine TC.region ?_
      refine S.q rfl rfl (Qt.move (by conv => lhs; whnf)) ?_
      refine S.q rfl rfl (Qt.len_slice Tryd.underlying44 rfl) ?_
      refine S.q rfl rfl (Qt.move (by conv => lhs; whnf)) ?_
      refine S.nil ?_
      refine TC.block ?_
      refine TC.loop (γ := Nat) [131, 132, 133, 134, 20, 19, 135, 136, 21, 22, 137, 138, 139, 140, 141, 142, 143, 145, 146, 147, 148, 149, 144, 150, 151, 23, 24, 152, 153, 6, 154, 155, 130] (fun k => [(130, .int .i64 (k : Int))]) (fun k => [Blk b18 23 (hvl (nodeH f k (i / 2 ^ k))), OwnA 23 32 O height d (hcs (pathT E ms height i)), MapA kb encU hv (last), Blk ub 150 (treeCs E height nb), MapA nb encAt hv (us), Blk tb 150 (treeCs E height mb), MapA mb encAt hv (ms)]) (fun k => k ≤ height) (fun k => height - k) (0)
        (Nat.zero_le _) ⟨Out.refl _ _, (List.forall_mem_cons.2 ⟨rfl, (fun _ h => nomatch h)⟩)⟩ (Sub.refl _) ?_
      rintro k u hk3
      refine TC.seq ?_
      refine TC.region ?_
      refine S.dec rfl rfl (Qt.lt rfl rfl) (fun h131 => ?_) (fun h131 => ?_)
      · refine S.nil ?_
        refine TC.seq ?_
        refine S.if_t rfl ?_
        refine TC.skip ?_
        refine TC.seq ?_
        refine TC.block ?_
        refine TC.seq ?_
        refine TC.region ?_
        refine S.q rfl rfl (Qt.move (by conv => lhs; whnf)) ?_
        refine S.q rfl rfl (Qt.index Tryd.underlying44 Tryd.cells23 rfl rfl (by omega) (Has.own (Has.at 1 rfl)) (by rw [hcs_length, pathT_length]; omega)) ?_
        refine S.q rfl rfl (Qt.as (Qt.load rfl (Ld.hashS (Has.own (Has.at 1 rfl)) k Tryd.row23 Tryd.cells23 (by rw [pathT_length]; omega) rfl)) (by rw [hpath, pathH_get f h131])) ?_
        refine S.opS rfl rfl (OpV.alloc Tryd.zero23 (fun b20 => ?_))
        refine S.q rfl rfl (Qt.assign (by conv => lhs; whnf)) ?_
        refine S.opN rfl (OpV.storeV0 (v := hv (nodeH f k ((i / 2 ^ k) ^^^ 1))) rfl rfl (hv_size Tryd.cells23) (hv_all _) (hv_len _) ?_)
        refine S.nil ?_
        refine TC.seq ?_
        refine S.draw ([4, 5], [2, 3]) Tryd.mixed (Sub.refl _) ?_
        refine D.qX (k := 0) rfl (by kernel_rfl) (by kernel_rfl) (by kernel_rfl) rfl rfl (Qt.load rfl (Ld.hash1 (x := nodeH f k (i / 2 ^ k)) (Has.at 1 rfl) Tryd.row23 Tryd.cells23)) ?_
        refine D.q (k := 1) rfl (by kernel_rfl) (by kernel_rfl) rfl rfl (Qt.load rfl (Ld.hash1 (x := nodeH f k ((i / 2 ^ k) ^^^ 1)) (Has.at 0 rfl) Tryd.row23 Tryd.cells23)) ?_
        refine D.two (k1 := 2) (k2 := 3) (Sub.refl _) rfl rfl (by kernel_rfl) (by kernel_rfl) (by kernel_rfl) (by kernel_rfl) (by kernel_rfl) (by kernel_rfl) rfl rfl rfl Tryd.zero23 Tryd.zero23 (fun b21 b22 => ?_)
        refine D.opN (k := 4) (Sub.drop _ (Sub.drop _ (Sub.keep _ (Sub.keep _ (Sub.keep _ (Sub.keep _ (Sub.keep _ (Sub.keep _ (Sub.keep _ (Sub.keep _ (Sub.nil []))))))))))) rfl (by kernel_rfl) (by kernel_rfl) rfl (OpV.storeV1 (v := hv (nodeH f k (i / 2 ^ k))) rfl rfl (hv_size Tryd.cells23) (hv_all _) (hv_len _) ⟨Sub.drop _ (Sub.drop _ (Sub.keep _ (Sub.keep _ (Sub.keep _ (Sub.keep _ (Sub.keep _ (Sub.keep _ (Sub.keep _ (Sub.keep _ (Sub.nil [])))))))))), ?_⟩)
        refine D.opN (k := 5) (Sub.drop _ (Sub.drop _ (Sub.keep _ (Sub.keep _ (Sub.keep _ (Sub.keep _ (Sub.keep _ (Sub.keep _ (Sub.keep _ (Sub.keep _ (Sub.nil []))))))))))) rfl (by kernel_rfl) (by kernel_rfl) rfl (OpV.storeV0 (v := hv (nodeH f k ((i / 2 ^ k) ^^^ 1))) rfl rfl (hv_size Tryd.cells23) (hv_all _) (hv_len _) ⟨Sub.drop _ (Sub.drop _ (Sub.keep _ (Sub.keep _ (Sub.keep _ (Sub.keep _ (Sub.keep _ (Sub.keep _ (Sub.keep _ (Sub.keep _ (Sub.nil [])))))))))), ?_⟩)
        refine D.done (Sub.drop _ (Sub.drop _ (Sub.keep _ (Sub.keep _ (Sub.keep _ (Sub.keep _ (Sub.keep _ (Sub.keep _ (Sub.keep _ (Sub.keep _ (Sub.nil []))))))))))) (by kernel_rfl) ?_
        refine TC.seq ?_
        refine TC.seq ?_
        refine TC.region ?_
        refine S.q rfl rfl (Qt.move (by conv => lhs; whnf)) ?_
        refine S.q rfl rfl (Qt.move (by conv => lhs; whnf)) ?_
        refine S.q rfl rfl (Qt.shrN rfl rfl (by have := Nat.div_le_self i (2 ^ k); simp only [kmax]; omega)) ?_
        refine S.q rfl rfl (Qt.rem (b := 2) rfl rfl (by omega)) ?_
        refine S.dec rfl rfl (Qt.eq (b := 1) rfl rfl) (fun h141 => ?_) (fun h141 => ?_)
        · refine S.nil ?_
          refine S.if_t rfl ?_
          refine S.draw ([2, 3], []) Tryd.mixed (Sub.drop _ (Sub.drop _ (Sub.keep _ (Sub.keep _ (Sub.keep _ (Sub.keep _ (Sub.keep _ (Sub.keep _ (Sub.keep _ (Sub.keep _ (Sub.nil []))))))))))) ?_
          refine D.qX (k := 0) rfl (by kernel_rfl) (by kernel_rfl) (by kernel_rfl) rfl rfl (Qt.load rfl (Ld.hash1 (x := nodeH f k ((i / 2 ^ k) ^^^ 1)) (Has.at 2 rfl) Tryd.row23 Tryd.cells23)) ?_
          refine D.q (k := 1) rfl (by kernel_rfl) (by kernel_rfl) rfl rfl (Qt.load rfl (Ld.hash1 (x := nodeH f k (i / 2 ^ k)) (Has.at 1 rfl) Tryd.row23 Tryd.cells23)) ?_
          refine D.opN (k := 2) (Sub.drop _ (Sub.drop _ (Sub.keep _ (Sub.keep _ (Sub.keep _ (Sub.keep _ (Sub.keep _ (Sub.keep _ (Sub.keep _ (Sub.keep _ (Sub.nil []))))))))))) rfl (by kernel_rfl) (by kernel_rfl) rfl (OpV.storeV1 (v := hv (nodeH f k ((i / 2 ^ k) ^^^ 1))) rfl rfl (hv_size Tryd.cells23) (hv_all _) (by rw [hv_len, hv_len]) ⟨Sub.drop _ (Sub.drop _ (Sub.keep _ (Sub.keep _ (Sub.keep _ (Sub.keep _ (Sub.keep _ (Sub.keep _ (Sub.keep _ (Sub.keep _ (Sub.nil [])))))))))), ?_⟩)
          refine D.opN (k := 3) (Sub.drop _ (Sub.drop _ (Sub.keep _ (Sub.keep _ (Sub.keep _ (Sub.keep _ (Sub.keep _ (Sub.keep _ (Sub.keep _ (Sub.keep _ (Sub.nil []))))))))))) rfl (by kernel_rfl) (by kernel_rfl) rfl (OpV.storeV0 (v := hv (nodeH f k (i / 2 ^ k))) rfl rfl (hv_size Tryd.cells23) (hv_all _) (by rw [hv_len, hv_len]) ⟨Sub.drop _ (Sub.drop _ (Sub.keep _ (Sub.keep _ (Sub.keep _ (Sub.keep _ (Sub.keep _ (Sub.keep _ (Sub.keep _ (Sub.keep _ (Sub.nil [])))))))))), ?_⟩)
          refine D.done (Sub.drop _ (Sub.drop _ (Sub.keep _ (Sub.keep _ (Sub.keep _ (Sub.keep _ (Sub.keep _ (Sub.keep _ (Sub.keep _ (Sub.keep _ (Sub.nil []))))))))))) (by kernel_rfl) ?_
          refine TC.seq ?_
          refine TC.region ?_
          refine S.q rfl rfl (Qt.move (by conv => lhs; whnf)) ?_
          refine S.q rfl rfl (Qt.add (b := 1) rfl rfl (by simp only [kmax]; omega)) ?_
          refine S.q rfl rfl (Qt.load rfl (Ld.hash1 (x := nodeH f k ((i / 2 ^ k) ^^^ 1)) (Has.at 1 rfl) Tryd.row23 Tryd.cells23)) ?_
          refine S.q rfl rfl (Qt.load rfl (Ld.hash1 (x := nodeH f k (i / 2 ^ k)) (Has.at 0 rfl) Tryd.row23 Tryd.cells23)) ?_
          refine S.opS rfl rfl (OpV.con0 Tryd.ent31 rfl (fun w hw => (by rw [node_odd f h141]; exact join_R (k + 1) (by omega) (by omega) _ _ w (hT.at hw) : Calls Tryd.prog 31 #[.int .i64 ((k + 1 : Nat) : Int), hv (nodeH f k ((i / 2 ^ k) ^^^ 1)), hv (nodeH f k (i / 2 ^ k))] w (Ret w (.tuple #[hv (nodeH f (k + 1) (i / 2 ^ (k + 1))), .nilIface])))) ?_)
          refine S.q rfl rfl (Qt.move (by conv => lhs; whnf)) ?_
          refine S.q rfl rfl (Qt.extract rfl rfl) ?_
          refine S.q rfl rfl (Qt.extract rfl rfl) ?_
          refine S.opS rfl rfl (OpV.alloc Tryd.zero23 (fun b23 => ?_))
          refine S.opN rfl (OpV.storeV0 (v := hv (nodeH f (k + 1) (i / 2 ^ (k + 1)))) rfl rfl (hv_size Tryd.cells23) (hv_all _) (hv_len _) ?_)
          refine S.q rfl rfl (Qt.assign (by conv => lhs; whnf)) ?_
          refine S.nil ?_
          refine TC.seq ?_
          refine TC.seq ?_
          refine TC.region ?_
          refine S.q rfl rfl (Qt.move (by conv => lhs; whnf)) ?_
          refine S.q rfl rfl (Qt.nenil_nil Tryd.underlying27 rfl) ?_
          refine S.nil ?_
          refine S.if_f rfl ?_
          refine TC.skip ?_
          refine TC.region ?_
          refine S.q rfl rfl (Qt.load rfl (Ld.hash1 (x := nodeH f (k + 1) (i / 2 ^ (k + 1))) (Has.at 0 rfl) Tryd.row23 Tryd.cells23)) ?_
          refine S.opN rfl (OpV.storeV4 (v := hv (nodeH f (k + 1) (i / 2 ^ (k + 1)))) rfl rfl (hv_size Tryd.cells23) (hv_all _) (by rw [hv_len, hvl_length]) ?_)
          refine S.nil ?_
          refine TC.region ?_
          refine S.q rfl rfl (Qt.add (b := 1) rfl rfl (by simp only [kmax]; omega)) ?_
          refine S.q rfl rfl (Qt.move (by conv => lhs; whnf)) ?_
          refine S.nil ?_
          refine ⟨k + 1, ?_, ?_, ⟨?_, (List.forall_mem_cons.2 ⟨rfl, (fun _ h => nomatch h)⟩)⟩, Sub.trans (Sub.keep _ (Sub.keep _ (Sub.keep _ (Sub.keep _ (Sub.keep _ (Sub.keep _ (Sub.keep _ (Sub.drop _ (Sub.drop _ (Sub.drop _ (Sub.drop _ (Sub.nil [])))))))))))) (Sub.trans (Sub.keep _ (Sub.trans (Sub.keep _ (Sub.trans (Sub.keep _ (Sub.trans (Sub.keep _ (Sub.trans (Sub.keep _ (Sub.trans (Sub.keep _ (Sub.trans (Sub.keep _ (Sub.refl _)) (Sub.of_perm (List.perm_middle (l₁ := [_, _, _, _]))))) (Sub.of_perm (List.perm_middle (l₁ := [_, _, _, _]))))) (Sub.of_perm (List.perm_middle (l₁ := [_, _, _, _]))))) (Sub.of_perm (List.perm_middle (l₁ := [_, _, _, _]))))) (Sub.of_perm (List.perm_middle (l₁ := [_, _, _, _]))))) (Sub.of_perm (List.perm_middle (l₁ := [_, _, _, _]))))) (Sub.of_perm (List.perm_middle (l₁ := [_, _, _, _]))))⟩
          · show _ ≤ _; omega
          · show _ < _; dsimp only; omega
          repeat (first | exact Out.refl _ _ | refine Out.put rfl ?_ | refine Out.puts rfl ?_ | refine Out.scr ?_ | refine Out.scr' rfl ?_)
        · refine S.nil ?_
          refine S.if_f rfl ?_
          refine TC.skip ?_
          refine TC.seq ?_
          refine TC.region ?_
          refine S.q rfl rfl (Qt.move (by conv => lhs; whnf)) ?_
          refine S.q rfl rfl (Qt.add (b := 1) rfl rfl (by simp only [kmax]; omega)) ?_
          refine S.q rfl rfl (Qt.load rfl (Ld.hash1 (x := nodeH f k (i / 2 ^ k)) (Has.at 1 rfl) Tryd.row23 Tryd.cells23)) ?_
          refine S.q rfl rfl (Qt.load rfl (Ld.hash1 (x := nodeH f k ((i / 2 ^ k) ^^^ 1)) (Has.at 0 rfl) Tryd.row23 Tryd.cells23)) ?_
          refine S.opS rfl rfl (OpV.con0 Tryd.ent31 rfl (fun w hw => (by rw [node_even f h141]; exact join_R (k + 1) (by omega) (by omega) _ _ w (hT.at hw) : Calls Tryd.prog 31 #[.int .i64 ((k + 1 : Nat) : Int), hv (nodeH f k (i / 2 ^ k)), hv (nodeH f k ((i / 2 ^ k) ^^^ 1))] w (Ret w (.tuple #[hv (nodeH f (k + 1) (i / 2 ^ (k + 1))), .nilIface])))) ?_)
          refine S.q rfl rfl (Qt.move (by conv => lhs; whnf)) ?_
          refine S.q rfl rfl (Qt.extract rfl rfl) ?_
          refine S.q rfl rfl (Qt.extract rfl rfl) ?_
          refine S.opS rfl rfl (OpV.alloc Tryd.zero23 (fun b23 => ?_))
          refine S.opN rfl (OpV.storeV0 (v := hv (nodeH f (k + 1) (i / 2 ^ (k + 1)))) rfl rfl (hv_size Tryd.cells23) (hv_all _) (hv_len _) ?_)
          refine S.q rfl rfl (Qt.assign (by conv => lhs; whnf)) ?_
          refine S.nil ?_
          refine TC.seq ?_
          refine TC.seq ?_
          refine TC.region ?_
          refine S.q rfl rfl (Qt.move (by conv => lhs; whnf)) ?_
          refine S.q rfl rfl (Qt.nenil_nil Tryd.underlying27 rfl) ?_
          refine S.nil ?_
          refine S.if_f rfl ?_
          refine TC.skip ?_
          refine TC.region ?_
          refine S.q rfl rfl (Qt.load rfl (Ld.hash1 (x := nodeH f (k + 1) (i / 2 ^ (k + 1))) (Has.at 0 rfl) Tryd.row23 Tryd.cells23)) ?_
          refine S.opN rfl (OpV.storeV4 (v := hv (nodeH f (k + 1) (i / 2 ^ (k + 1)))) rfl rfl (hv_size Tryd.cells23) (hv_all _) (by rw [hv_len, hvl_length]) ?_)
          refine S.nil ?_
          refine TC.region ?_
          refine S.q rfl rfl (Qt.add (b := 1) rfl rfl (by simp only [kmax]; omega)) ?_
          refine S.q rfl rfl (Qt.move (by conv => lhs; whnf)) ?_
          refine S.nil ?_
          refine ⟨k + 1, ?_, ?_, ⟨?_, (List.forall_mem_cons.2 ⟨rfl, (fun _ h => nomatch h)⟩)⟩, Sub.trans (Sub.keep _ (Sub.keep _ (Sub.keep _ (Sub.keep _ (Sub.keep _ (Sub.keep _ (Sub.keep _ (Sub.drop _ (Sub.drop _ (Sub.drop _ (Sub.drop _ (Sub.nil [])))))))))))) (Sub.trans (Sub.keep _ (Sub.trans (Sub.keep _ (Sub.trans (Sub.keep _ (Sub.trans (Sub.keep _ (Sub.trans (Sub.keep _ (Sub.trans (Sub.keep _ (Sub.trans (Sub.keep _ (Sub.refl _)) (Sub.of_perm (List.perm_middle (l₁ := [_, _, _, _]))))) (Sub.of_perm (List.perm_middle (l₁ := [_, _, _, _]))))) (Sub.of_perm (List.perm_middle (l₁ := [_, _, _, _]))))) (Sub.of_perm (List.perm_middle (l₁ := [_, _, _, _]))))) (Sub.of_perm (List.perm_middle (l₁ := [_, _, _, _]))))) (Sub.of_perm (List.perm_middle (l₁ := [_, _, _, _]))))) (Sub.of_perm (List.perm_middle (l₁ := [_, _, _, _]))))⟩
          · show _ ≤ _; omega
          · show _ < _; dsimp only; omega
          repeat (first | exact Out.refl _ _ | refine Out.put rfl ?_ | refine Out.puts rfl ?_ | refine Out.scr ?_ | refine Out.scr' rfl ?_)
      · refine S.nil ?_
        refine TC.seq ?_
        refine S.if_f rfl ?_
        refine TC.exit ?_
        refine TC.seq ?_
        refine S.draw ([], []) Tryd.mixed (Sub.nil _) ?_
        obtain rfl : height = k := by omega
        refine D.qX (k := 0) rfl (by kernel_rfl) (by kernel_rfl) (by kernel_rfl) rfl rfl (Qt.move (by conv => lhs; whnf)) ?_
        refine D.qX (k := 1) rfl (by kernel_rfl) (by kernel_rfl) (by kernel_rfl) rfl rfl (Qt.len_slice Tryd.underlying44 rfl) ?_
        refine D.qX (k := 2) rfl (by kernel_rfl) (by kernel_rfl) (by kernel_rfl) rfl rfl (Qt.move (by conv => lhs; whnf)) ?_
        refine D.qX (k := 3) rfl (by kernel_rfl) (by kernel_rfl) (by kernel_rfl) rfl rfl (Qt.dT (Qt.eq rfl rfl) (rfl)) ?_
        refine D.qX (k := 4) rfl (by kernel_rfl) (by kernel_rfl) (by kernel_rfl) rfl rfl (Qt.move (by conv => lhs; whnf)) ?_
        refine D.qgX (k := 5) rfl (by kernel_rfl) (by kernel_rfl) (by kernel_rfl) rfl rfl rfl (Qt.load rfl (Ld.hash1 (x := nodeH f (height) (i / 2 ^ (height))) (Has.at 0 rfl) Tryd.row23 Tryd.cells23)) ?_
        refine D.qgX (k := 6) rfl (by kernel_rfl) (by kernel_rfl) (by kernel_rfl) rfl rfl rfl (Qt.move (by conv => lhs; whnf)) ?_
        refine D.cgX (k := 7) rfl (by kernel_rfl) (by kernel_rfl) (by kernel_rfl) rfl rfl rfl (CalU.con0 Tryd.ent28 rfl (fun w hw => root_R E tb mb height ms hh w (Rd.at 5 rfl w hw) (Rd.at 6 rfl w hw))) ?_
        refine D.qgX (k := 8) rfl (by kernel_rfl) (by kernel_rfl) (by kernel_rfl) rfl rfl rfl (Qt.dT (Qt.eqH (a := nodeH f height (i / 2 ^ height)) (b := getT E ms (height, 0)) Tryd.guard23 Tryd.underlying23 Tryd.underlying5 Tryd.cells5 rfl rfl) (by rw [hf.get _ (okRoot height), Nat.div_eq_of_lt hi])) ?_
        refine D.qX (k := 9) rfl (by kernel_rfl) (by kernel_rfl) (by kernel_rfl) rfl rfl (Qt.pick_t rfl (by conv => lhs; whnf)) ?_
        refine D.qX (k := 10) rfl (by kernel_rfl) (by kernel_rfl) (by kernel_rfl) rfl rfl (Qt.assign (by conv => lhs; whnf)) ?_
        refine D.done (Sub.nil _) (by kernel_rfl) ?_
        refine TC.ret ?_
        refine finQ.ret (RVs.tmp (by conv => lhs; whnf) RVs.nil) (Sub.nil _) ?_
        exact ⟨rfl, rfl⟩
set_option maxHeartbeats 1600000 in
theorem law4_walkF (E : Nat → H32) (hEm : ∀ w, Tabs 2 0 w [] → Calls Tryd.prog 88 #[] w (Ret w (.agg (hcs (emptL E)).toArray))) (hE : ∀ h, E (h + 1) = joinH (h + 1) (E h) (E h)) (height i : Nat) (hh : height ≤ 32) (A : Option Addr) (c : Nat) (xs : List Go.E.Act) (hxs : xs.length ≤ 25) (hi64 : i < 18446744073709551616) (hi : ¬ i < 2 ^ height) (w0 : World) (hR : Ro w0 [] (SlA A (xs.flatMap actL))) (hT : Tabs 2 0 w0 []) :
    Calls Tryd.prog 4 #[.int .i64 (height : Int), .slice A xs.length c, .int .u64 (i : Int)] w0 (Post w0 [] fun v L => v = .bool true ∧ L = []) := by
  refine Calls.of (L := []) (n := 166) (rs := [.tmp 6]) Tryd.func4 rfl rfl rfl (Nat.le_of_ble_eq_true rfl) (Sat.nil _) ?_
  refine TC.seq ?_
  refine TC.region ?_
  refine S.q rfl rfl (Qt.assign (by conv => lhs; whnf)) ?_
  refine S.nil ?_
  refine TC.seq ?_
  refine TC.seq ?_
  refine TC.region ?_
  refine S.opS rfl rfl (OpV.con0 Tryd.ent25 rfl (fun w hw => Calls.ret (alive09_walk E hEm w (hT.at hw))) ?_)
  refine S.q rfl rfl (Qt.not_t rfl) ?_
  refine S.nil ?_
  refine S.if_f rfl ?_
  refine TC.skip ?_
  refine TC.seq ?_
  refine TC.seq ?_
  refine TC.region ?_
  refine S.q rfl rfl (Qt.move (by conv => lhs; whnf)) ?_
  refine S.q rfl rfl (Qt.len_slice Tryd.underlying34 rfl) ?_
  refine S.q rfl rfl (Qt.dF (Qt.gt (b := 25) rfl rfl) (by omega)) ?_
  refine S.nil ?_
  refine S.if_f rfl ?_
  refine TC.skip ?_
  refine TC.seq ?_
  refine TC.region ?_
  refine S.q rfl rfl (Qt.move (by conv => lhs; whnf)) ?_
  refine S.opS rfl rfl (OpV.con (Pre := []) (R := _) Tryd.ent26 rfl (List.Perm.refl _) (fun w hw => new_walk E hEm height hh w (hT.at hw)) ?_)
  rintro v L' ⟨tb, mb, rfl, rfl⟩
  refine S.q rfl rfl (Qt.move (by conv => lhs; whnf)) ?_
  refine S.q rfl rfl (Qt.extract rfl rfl) ?_
  refine S.q rfl rfl (Qt.extract rfl rfl) ?_
  refine S.q rfl rfl (Qt.assign (by conv => lhs; whnf)) ?_
  refine S.q rfl rfl (Qt.assign (by conv => lhs; whnf)) ?_
  refine S.nil ?_
  refine TC.seq ?_
  refine TC.region ?_
  refine S.q rfl rfl (Qt.move (by conv => lhs; whnf)) ?_
  refine S.opS rfl rfl (OpV.con (Pre := []) (R := _) Tryd.ent26 rfl (List.Perm.refl _) (fun w hw => new_walk E hEm height hh w (hT.at hw)) ?_)
  rintro v L' ⟨ub, nb, rfl, rfl⟩
  refine S.q rfl rfl (Qt.move (by conv => lhs; whnf)) ?_
  refine S.q rfl rfl (Qt.extract rfl rfl) ?_
  refine S.q rfl rfl (Qt.extract rfl rfl) ?_
  refine S.q rfl rfl (Qt.assign (by conv => lhs; whnf)) ?_
  refine S.q rfl rfl (Qt.assign (by conv => lhs; whnf)) ?_
  refine S.nil ?_
  refine TC.seq ?_
  refine TC.seq ?_
  refine TC.region ?_
  refine S.q rfl rfl (Qt.move (by conv => lhs; whnf)) ?_
  refine S.q rfl rfl (Qt.nenil_nil Tryd.underlying27 rfl) ?_
  refine S.q rfl rfl (Qt.move (by conv => lhs; whnf)) ?_
  refine S.qg rfl rfl rfl (Qt.move (by conv => lhs; whnf)) ?_
  refine S.qg rfl rfl rfl (Qt.nenil_nil Tryd.underlying27 rfl) ?_
  refine S.q rfl rfl (Qt.pick_f rfl (by conv => lhs; whnf)) ?_
  refine S.nil ?_
  refine S.if_f rfl ?_
  refine TC.skip ?_
  refine TC.seq ?_
  refine TC.region ?_
  refine S.opS rfl rfl (OpV.makeMap (enc := encU) (encv := hv) (fun kb => ?_))
  refine S.q rfl rfl (Qt.assign (by conv => lhs; whnf)) ?_
  refine S.nil ?_
  refine TC.seq ?_
  refine TC.seq ?_
  refine TC.region ?_
  refine S.q rfl rfl (Qt.move (by conv => lhs; whnf)) ?_
  refine S.q rfl rfl (Qt.len_slice Tryd.underlying34 rfl) ?_
  refine S.q rfl rfl (Qt.move (by conv => lhs; whnf)) ?_
  refine S.nil ?_
  refine TC.block ?_
  refine TC.loop (γ := Nat × Tm × Ms) [56, 57, 58, 13, 59, 60, 61, 62, 63, 64, 65, 66, 67, 68, 69, 70, 71, 55] (fun g => [(55, .int .i64 ((g.1 : Nat) : Int))]) (fun g => [MapA kb encU hv (g.2.2), Blk ub 150 (treeCs E height nb), MapA nb encAt hv ([]), Blk tb 150 (treeCs E height mb), MapA mb encAt hv (g.2.1)]) (fun g => g.1 ≤ xs.length ∧ ∃ f, TreeOk E height f g.2.1 ∧ LastOk E height xs g.1 f g.2.2) (fun g => xs.length - g.1) ((0, [], []))
    ⟨Nat.zero_le _, _, TreeOk.empty hE height, LastOk.zero⟩ ⟨Out.refl _ _, (List.forall_mem_cons.2 ⟨rfl, (fun _ h => nomatch h)⟩)⟩ (Sub.refl _) ?_
  rintro ⟨k, ms, last⟩ u ⟨hk, f, hf, hl⟩
  dsimp only at hk hf hl
  refine TC.seq ?_
  refine TC.region ?_
  refine S.dec rfl rfl (Qt.lt rfl rfl) (fun h56 => ?_) (fun h56 => ?_)
  · refine S.nil ?_
    refine TC.seq ?_
    refine S.if_t rfl ?_
    refine TC.skip ?_
    refine TC.seq ?_
    refine TC.block ?_
    refine TC.seq ?_
    refine TC.region ?_
    refine S.q rfl rfl (Qt.index Tryd.underlying34 Tryd.cells40 rfl rfl (by omega) (Has.ro hR) (by rw [acts_len]; omega)) ?_
    refine S.q rfl rfl (Qt.load rfl (Ld.slr (Has.ro hR) Tryd.row40 (by rw [actL_length]; exact Tryd.cells40) (by rw [actL_length]; decide) (acts_at h56))) ?_
    refine S.opS rfl rfl (OpV.alloc Tryd.zero40 (fun b13 => ?_))
    refine S.opN rfl (OpV.storeV0 (v := .agg (actL (xs.getD k act0)).toArray) rfl rfl (by rw [actL_vl]; exact Tryd.cells40) (actL_one _) (by rw [actL_vl]; rfl) ?_)
    refine S.nil ?_
    refine TC.seq ?_
    refine TC.region ?_
    refine S.q rfl rfl (Qt.move (by conv => lhs; whnf)) ?_
    refine S.q rfl rfl (Qt.field Tryd.underlying40 rfl Tryd.cells24 rfl) ?_
    refine S.q rfl rfl (Qt.load rfl (Ld.one (Has.at 0 rfl) Tryd.one24 (rfl))) ?_
    refine S.q rfl rfl (Qt.field Tryd.underlying40 rfl Tryd.cells23 rfl) ?_
    refine S.q rfl rfl (Qt.load rfl (Ld.row (vs := hvl (xs.getD k act0).h) (Has.at 0 rfl) Tryd.row23 (by rw [hvl_length]; exact Tryd.cells23) (actL_hash _))) ?_
    by_cases hs : (xs.getD k act0).i < 2 ^ height
    · refine S.opS rfl rfl (OpV.con (Pre := [Blk tb 150 (treeCs E height mb), MapA mb encAt hv (ms)]) (R := _) Tryd.ent27 rfl ((List.perm_middle (l₁ := [_, _, _, _])).trans (List.Perm.cons _ (List.perm_middle (l₁ := [_, _, _, _])))) (fun w hw => set_walk E tb mb height ms _ _ hh hs w hw.sat.left (hT.pre hw)) ?_)
      rintro v L' ⟨rfl, rfl⟩
      refine S.q rfl rfl (Qt.eqnil_nil Tryd.underlying27 rfl) ?_
      refine S.nil ?_
      refine S.if_t rfl ?_
      refine TC.region ?_
      refine S.q rfl rfl (Qt.move (by conv => lhs; whnf)) ?_
      refine S.q rfl rfl (Qt.field Tryd.underlying40 rfl Tryd.cells24 rfl) ?_
      refine S.q rfl rfl (Qt.load rfl (Ld.one (Has.at 2 rfl) Tryd.one24 (rfl))) ?_
      refine S.q rfl rfl (Qt.field Tryd.underlying40 rfl Tryd.cells23 rfl) ?_
      refine S.q rfl rfl (Qt.load rfl (Ld.row (vs := hvl (xs.getD k act0).h) (Has.at 2 rfl) Tryd.row23 (by rw [hvl_length]; exact Tryd.cells23) (actL_hash _))) ?_
      refine S.opN rfl (OpV.mapUpd3 (k := (xs.getD k act0).i) (a := (xs.getD k act0).h) Tryd.underlying38 Tryd.keyU rfl rfl rfl ?_)
      refine S.nil ?_
      refine TC.region ?_
      refine S.q rfl rfl (Qt.add (b := 1) rfl rfl (by simp only [kmax]; omega)) ?_
      refine S.q rfl rfl (Qt.move (by conv => lhs; whnf)) ?_
      refine S.nil ?_
      refine ⟨(k + 1, setK E ms (xs.getD k act0).i (xs.getD k act0).h height, updR (xs.getD k act0).i (xs.getD k act0).h last), ?_, ?_, ⟨?_, (List.forall_mem_cons.2 ⟨rfl, (fun _ h => nomatch h)⟩)⟩, Sub.trans (Sub.keep _ (Sub.keep _ (Sub.keep _ (Sub.keep _ (Sub.keep _ (Sub.drop _ (Sub.nil []))))))) (Sub.trans (Sub.keep _ (Sub.trans (Sub.keep _ (Sub.trans (Sub.keep _ (Sub.refl _)) (Sub.of_perm (List.perm_middle (l₁ := [_, _, _]))))) (Sub.of_perm (List.perm_middle (l₁ := [_, _, _]))))) (Sub.of_perm (List.perm_middle (l₁ := [_, _, _]))))⟩
      · exact ⟨by show _ ≤ _; dsimp only; omega, _, hf.set hs _, hl.step h56 hs⟩
      · show _ < _; dsimp only; omega
      repeat (first | exact Out.refl _ _ | refine Out.put rfl ?_ | refine Out.puts rfl ?_ | refine Out.scr ?_ | refine Out.scr' rfl ?_)
    · refine S.opS rfl rfl (OpV.con0 Tryd.ent27 rfl (fun w hw => setF_R E tb mb height _ _ hh (xs.getD k act0).lt hs w (Rd.at 4 rfl w hw)) ?_)
      refine S.q rfl rfl (Qt.eqnil_iface Tryd.underlying27 rfl) ?_
      refine S.nil ?_
      refine S.if_f rfl ?_
      refine TC.skip ?_
      refine TC.region ?_
      refine S.q rfl rfl (Qt.add (b := 1) rfl rfl (by simp only [kmax]; omega)) ?_
      refine S.q rfl rfl (Qt.move (by conv => lhs; whnf)) ?_
      refine S.nil ?_
      refine ⟨(k + 1, ms, last), ?_, ?_, ⟨?_, (List.forall_mem_cons.2 ⟨rfl, (fun _ h => nomatch h)⟩)⟩, Sub.trans (Sub.keep _ (Sub.keep _ (Sub.keep _ (Sub.keep _ (Sub.keep _ (Sub.drop _ (Sub.nil []))))))) (Sub.trans (Sub.keep _ (Sub.trans (Sub.keep _ (Sub.trans (Sub.keep _ (Sub.trans (Sub.keep _ (Sub.trans (Sub.keep _ (Sub.refl _)) (Sub.of_perm (List.perm_middle (l₁ := [_]))))) (Sub.of_perm (List.perm_middle (l₁ := [_]))))) (Sub.of_perm (List.perm_middle (l₁ := [_]))))) (Sub.of_perm (List.perm_middle (l₁ := [_]))))) (Sub.of_perm (List.perm_middle (l₁ := [_]))))⟩
      · exact ⟨by show _ ≤ _; dsimp only; omega, f, hf, hl.skip h56⟩
      · show _ < _; dsimp only; omega
      repeat (first | exact Out.refl _ _ | refine Out.put rfl ?_ | refine Out.puts rfl ?_ | refine Out.scr ?_ | refine Out.scr' rfl ?_)
  · refine S.nil ?_
    refine TC.seq ?_
    refine S.if_f rfl ?_
    refine TC.exit ?_
    refine TC.seq ?_
    refine TC.seq ?_
    refine TC.region ?_
    refine S.q rfl rfl (Qt.move (by conv => lhs; whnf)) ?_
    refine S.q rfl rfl (Qt.len_slice Tryd.underlying34 rfl) ?_
    refine S.q rfl rfl (Qt.subi rfl rfl (IntWalk.i64_in _ (by omega))) ?_
    refine S.q rfl rfl (Qt.assign (by conv => lhs; whnf)) ?_
    refine S.nil ?_
    refine TC.block ?_
    refine TC.loop (γ := Nat × Tm) [75, 76, 80, 81, 82, 83, 84, 85, 86, 79, 87, 88, 15, 16, 89, 90, 91, 92, 93, 94, 95, 96, 97, 98, 6, 77, 78, 14] (fun g => [(14, .int .i64 ((g.1 : Int) - 1))]) (fun g => [MapA kb encU hv (last), Blk ub 150 (treeCs E height nb), MapA nb encAt hv (g.2), Blk tb 150 (treeCs E height mb), MapA mb encAt hv (ms)]) (fun g => g.1 ≤ xs.length ∧ ∃ fU, TreeOk E height fU g.2 ∧ BackOk E xs g.1 last fU) (fun g => g.1) ((xs.length, []))
      ⟨Nat.le_refl _, _, TreeOk.empty hE height, BackOk.zero⟩ ⟨Out.refl _ _, (List.forall_mem_cons.2 ⟨rfl, (fun _ h => nomatch h)⟩)⟩ (Sub.refl _) ?_
    rintro ⟨c2, us⟩ u ⟨hc, fU, hu, hb⟩
    dsimp only at hc hu hb
    refine TC.seq ?_
    refine TC.seq ?_
    refine TC.region ?_
    refine S.q rfl rfl (Qt.move (by conv => lhs; whnf)) ?_
    refine S.dec rfl rfl (Qt.gei rfl rfl) (fun h76 => ?_) (fun h76 => ?_)
    · refine S.nil ?_
      refine S.if_t rfl ?_
      refine TC.skip ?_
      refine TC.seq ?_
      refine TC.block ?_
      refine TC.seq ?_
      refine TC.region ?_
      refine S.q rfl rfl (Qt.move (by conv => lhs; whnf)) ?_
      refine S.q rfl rfl (Qt.move (by conv => lhs; whnf)) ?_
      refine S.q rfl rfl (Qt.as (Qt.move rfl) (congrArg (Value.int .i64) (show ((c2 : Int) - 1) = ((c2 - 1 : Nat) : Int) by omega))) ?_
      refine S.q rfl rfl (Qt.index Tryd.underlying34 Tryd.cells40 rfl rfl (by omega) (Has.ro hR) (by rw [acts_len]; omega)) ?_
      refine S.q rfl rfl (Qt.fieldS Tryd.underlying40 rfl Tryd.cells24 rfl (Has.ro hR) (by rw [acts_len]; omega)) ?_
      refine S.q rfl rfl (Qt.load rfl (Ld.sl (v := .int .u64 ((xs.getD (c2 - 1) act0).i : Int)) (Has.ro hR) Tryd.one24 (acts_at (show c2 - 1 < xs.length by omega) 0 _ rfl))) ?_
      rcases hlk : Go.E.look (xs.getD (c2 - 1) act0).i last with _ | h
      · refine S.q rfl rfl (Qt.as (v' := .tuple #[hv zeroH, .bool false]) (Qt.lookup_ok (k := (xs.getD (c2 - 1) act0).i) Tryd.underlying38 Tryd.keyU Tryd.zv23 rfl rfl (Has.at 0 rfl)) (by rw [hlk]; rfl)) ?_
        refine S.q rfl rfl (Qt.move (by conv => lhs; whnf)) ?_
        refine S.q rfl rfl (Qt.extract rfl rfl) ?_
        refine S.q rfl rfl (Qt.extract rfl rfl) ?_
        refine S.opS rfl rfl (OpV.alloc Tryd.zero23 (fun b15 => ?_))
        refine S.opN rfl (OpV.storeV0 (v := hv (_)) rfl rfl (hv_size Tryd.cells23) (hv_all _) (hv_len _) ?_)
        refine S.q rfl rfl (Qt.assign (by conv => lhs; whnf)) ?_
        refine S.nil ?_
        refine TC.seq ?_
        refine TC.region ?_
        refine S.q rfl rfl (Qt.move (by conv => lhs; whnf)) ?_
        refine S.nil ?_
        refine S.if_f rfl ?_
        refine TC.skip ?_
        refine TC.region ?_
        refine S.q rfl rfl (Qt.move (by conv => lhs; whnf)) ?_
        refine S.q rfl rfl (Qt.subi rfl rfl (IntWalk.i64_in _ (by omega))) ?_
        refine S.q rfl rfl (Qt.assign (by conv => lhs; whnf)) ?_
        refine S.nil ?_
        refine ⟨(c2 - 1, us), ?_, ?_, ⟨?_, (List.forall_mem_cons.2 ⟨(by show Value.int .i64 ((c2 : Int) - 1 - 1) = Value.int .i64 (((c2 - 1 : Nat) : Int) - 1); congr 1; omega), (fun _ h => nomatch h)⟩)⟩, Sub.trans (Sub.keep _ (Sub.keep _ (Sub.keep _ (Sub.keep _ (Sub.keep _ (Sub.drop _ (Sub.nil []))))))) (Sub.trans (Sub.keep _ (Sub.trans (Sub.keep _ (Sub.trans (Sub.keep _ (Sub.trans (Sub.keep _ (Sub.trans (Sub.keep _ (Sub.refl _)) (Sub.of_perm (List.perm_middle (l₁ := [_]))))) (Sub.of_perm (List.perm_middle (l₁ := [_]))))) (Sub.of_perm (List.perm_middle (l₁ := [_]))))) (Sub.of_perm (List.perm_middle (l₁ := [_]))))) (Sub.of_perm (List.perm_middle (l₁ := [_]))))⟩
        · exact ⟨by show _ ≤ _; dsimp only; omega, fU, hu, hb.skip (by omega) hc hlk⟩
        · show _ < _; dsimp only; omega
        repeat (first | exact Out.refl _ _ | refine Out.put rfl ?_ | refine Out.puts rfl ?_ | refine Out.scr ?_ | refine Out.scr' rfl ?_)
      · refine S.q rfl rfl (Qt.as (v' := .tuple #[hv h, .bool true]) (Qt.lookup_ok (k := (xs.getD (c2 - 1) act0).i) Tryd.underlying38 Tryd.keyU Tryd.zv23 rfl rfl (Has.at 0 rfl)) (by rw [hlk]; rfl)) ?_
        refine S.q rfl rfl (Qt.move (by conv => lhs; whnf)) ?_
        refine S.q rfl rfl (Qt.extract rfl rfl) ?_
        refine S.q rfl rfl (Qt.extract rfl rfl) ?_
        refine S.opS rfl rfl (OpV.alloc Tryd.zero23 (fun b15 => ?_))
        refine S.opN rfl (OpV.storeV0 (v := hv (_)) rfl rfl (hv_size Tryd.cells23) (hv_all _) (hv_len _) ?_)
        refine S.q rfl rfl (Qt.assign (by conv => lhs; whnf)) ?_
        refine S.nil ?_
        refine TC.seq ?_
        refine TC.region ?_
        refine S.q rfl rfl (Qt.move (by conv => lhs; whnf)) ?_
        refine S.nil ?_
        refine S.if_t rfl ?_
        refine TC.seq ?_
        refine S.draw ([7], []) Tryd.mixed (Sub.nil _) ?_
        refine D.qX (k := 0) rfl (by kernel_rfl) (by kernel_rfl) (by kernel_rfl) rfl rfl (Qt.move (by conv => lhs; whnf)) ?_
        refine D.qX (k := 1) rfl (by kernel_rfl) (by kernel_rfl) (by kernel_rfl) rfl rfl (Qt.move (by conv => lhs; whnf)) ?_
        refine D.qX (k := 2) rfl (by kernel_rfl) (by kernel_rfl) (by kernel_rfl) rfl rfl (Qt.as (Qt.move rfl) (congrArg (Value.int .i64) (show ((c2 : Int) - 1) = ((c2 - 1 : Nat) : Int) by omega))) ?_
        refine D.qX (k := 3) rfl (by kernel_rfl) (by kernel_rfl) (by kernel_rfl) rfl rfl (Qt.index Tryd.underlying34 Tryd.cells40 rfl rfl (by omega) (Has.ro hR) (by rw [acts_len]; omega)) ?_
        refine D.qX (k := 4) rfl (by kernel_rfl) (by kernel_rfl) (by kernel_rfl) rfl rfl (Qt.fieldS Tryd.underlying40 rfl Tryd.cells24 rfl (Has.ro hR) (by rw [acts_len]; omega)) ?_
        refine D.qX (k := 5) rfl (by kernel_rfl) (by kernel_rfl) (by kernel_rfl) rfl rfl (Qt.load rfl (Ld.sl (v := .int .u64 ((xs.getD (c2 - 1) act0).i : Int)) (Has.ro hR) Tryd.one24 (acts_at (show c2 - 1 < xs.length by omega) 0 _ rfl))) ?_
        refine D.qX (k := 6) rfl (by kernel_rfl) (by kernel_rfl) (by kernel_rfl) rfl rfl (Qt.load rfl (Ld.hash1 (x := h) (Has.at 0 rfl) Tryd.row23 Tryd.cells23)) ?_
        refine D.opS (k := 7) (Sub.nil _) rfl (by kernel_rfl) (by kernel_rfl) rfl rfl (OpV.con (Pre := [Blk ub 150 (treeCs E height nb), MapA nb encAt hv (us)]) (R := _) Tryd.ent27 rfl ((List.perm_middle (l₁ := [_, _])).trans (List.Perm.cons _ (List.perm_middle (l₁ := [_, _])))) (fun w hw => set_walk E ub nb height us _ _ hh (hl.key _ _ hlk).1 w hw.sat.left (hT.pre hw)) ?_)
        rintro v L' ⟨rfl, rfl⟩
        refine ⟨Sub.nil _, ?_⟩
        refine D.qX (k := 8) rfl (by kernel_rfl) (by kernel_rfl) (by kernel_rfl) rfl rfl (Qt.nenil_nil Tryd.underlying27 rfl) ?_
        refine D.done (Sub.nil _) (by kernel_rfl) ?_
        refine S.if_f rfl ?_
        refine TC.skip ?_
        refine TC.region ?_
        refine S.q rfl rfl (Qt.move (by conv => lhs; whnf)) ?_
        refine S.q rfl rfl (Qt.subi rfl rfl (IntWalk.i64_in _ (by omega))) ?_
        refine S.q rfl rfl (Qt.assign (by conv => lhs; whnf)) ?_
        refine S.nil ?_
        refine ⟨(c2 - 1, setK E us (xs.getD (c2 - 1) act0).i h height), ?_, ?_, ⟨?_, (List.forall_mem_cons.2 ⟨(by show Value.int .i64 ((c2 : Int) - 1 - 1) = Value.int .i64 (((c2 - 1 : Nat) : Int) - 1); congr 1; omega), (fun _ h => nomatch h)⟩)⟩, Sub.trans (Sub.keep _ (Sub.keep _ (Sub.keep _ (Sub.keep _ (Sub.keep _ (Sub.drop _ (Sub.nil []))))))) (Sub.trans (Sub.keep _ (Sub.keep _ (Sub.keep _ (Sub.trans (Sub.keep _ (Sub.trans (Sub.keep _ (Sub.refl _)) (Sub.of_perm (List.perm_middle (l₁ := [_]))))) (Sub.of_perm (List.perm_middle (l₁ := [_]))))))) (Sub.of_perm (List.perm_middle (l₁ := [_, _, _]))))⟩
        · exact ⟨by show _ ≤ _; dsimp only; omega, _, hu.set (hl.key _ _ hlk).1 _, hb.step (by omega) hc hlk⟩
        · show _ < _; dsimp only; omega
        repeat (first | exact Out.refl _ _ | refine Out.put rfl ?_ | refine Out.puts rfl ?_ | refine Out.scr ?_ | refine Out.scr' rfl ?_)
    · refine S.nil ?_
      refine S.if_f rfl ?_
      refine TC.exit ?_
      refine TC.seq ?_
      refine TC.seq ?_
      refine TC.region ?_
      obtain rfl : c2 = 0 := by omega
      obtain rfl := (hb.done hl).symm
      refine S.q rfl rfl (Qt.move (by conv => lhs; whnf)) ?_
      refine S.opS rfl rfl (OpV.con0 Tryd.ent28 rfl (fun w hw => root_R E tb mb height ms hh w (Rd.at 3 rfl w hw) (Rd.at 4 rfl w hw)) ?_)
      refine S.q rfl rfl (Qt.move (by conv => lhs; whnf)) ?_
      refine S.opS rfl rfl (OpV.con0 Tryd.ent28 rfl (fun w hw => root_R E ub nb height us hh w (Rd.at 1 rfl w hw) (Rd.at 2 rfl w hw)) ?_)
      refine S.q rfl rfl (Qt.dF (Qt.neH (a := getT E ms (height, 0)) (b := getT E us (height, 0)) Tryd.guard23 Tryd.underlying23 Tryd.underlying5 Tryd.cells5 rfl rfl) (fun h => h (by rw [hf.get _ (okRoot height), hu.get _ (okRoot height)]))) ?_
      refine S.nil ?_
      refine S.if_f rfl ?_
      refine TC.skip ?_
      refine TC.seq ?_
      refine TC.region ?_
      refine S.q rfl rfl (Qt.move (by conv => lhs; whnf)) ?_
      refine S.q rfl rfl (Qt.move (by conv => lhs; whnf)) ?_
      refine S.opS rfl rfl (OpV.con0 Tryd.ent29 rfl (fun w hw => pathF_R E tb mb height i hh hi64 hi w (Rd.at 3 rfl w hw)) ?_)
      refine S.q rfl rfl (Qt.move (by conv => lhs; whnf)) ?_
      refine S.q rfl rfl (Qt.extract rfl rfl) ?_
      refine S.q rfl rfl (Qt.extract rfl rfl) ?_
      refine S.q rfl rfl (Qt.assign (by conv => lhs; whnf)) ?_
      refine S.q rfl rfl (Qt.assign (by conv => lhs; whnf)) ?_
      refine S.nil ?_
      refine TC.seq ?_
      refine TC.region ?_
      refine S.q rfl rfl (Qt.move (by conv => lhs; whnf)) ?_
      refine S.q rfl rfl (Qt.move (by conv => lhs; whnf)) ?_
      refine S.opS rfl rfl (OpV.con0 Tryd.ent30 rfl (fun w hw => leafF_R E tb mb height i hh hi64 hi w (Rd.at 3 rfl w hw)) ?_)
      refine S.q rfl rfl (Qt.move (by conv => lhs; whnf)) ?_
      refine S.q rfl rfl (Qt.extract rfl rfl) ?_
      refine S.q rfl rfl (Qt.extract rfl rfl) ?_
      refine S.opS rfl rfl (OpV.alloc Tryd.zero23 (fun b18 => ?_))
      refine S.opN rfl (OpV.storeV0 (v := hv (_)) rfl rfl (hv_size Tryd.cells23) (hv_all _) (hv_len _) ?_)
      refine S.q rfl rfl (Qt.assign (by conv => lhs; whnf)) ?_
      refine S.nil ?_
      refine TC.seq ?_
      refine TC.seq ?_
      refine TC.region ?_
      refine S.q rfl rfl (Qt.move (by conv => lhs; whnf)) ?_
      refine S.q rfl rfl (Qt.nenil_iface Tryd.underlying27 rfl) ?_
      refine S.q rfl rfl (Qt.move (by conv => lhs; whnf)) ?_
      refine S.pass rfl rfl ?_
      refine S.pass rfl rfl ?_
      refine S.q rfl rfl (Qt.pick_t rfl (by conv => lhs; whnf)) ?_
      refine S.nil ?_
      refine S.if_t rfl ?_
      refine TC.seq ?_
      refine TC.region ?_
      refine S.q rfl rfl (Qt.move (by conv => lhs; whnf)) ?_
      refine S.q rfl rfl (Qt.nenil_iface Tryd.underlying27 rfl) ?_
      refine S.q rfl rfl (Qt.move (by conv => lhs; whnf)) ?_
      refine S.qg rfl rfl rfl (Qt.move (by conv => lhs; whnf)) ?_
      refine S.qg rfl rfl rfl (Qt.nenil_iface Tryd.underlying27 rfl) ?_
      refine S.q rfl rfl (Qt.pick_t rfl (by conv => lhs; whnf)) ?_
      refine S.q rfl rfl (Qt.assign (by conv => lhs; whnf)) ?_
      refine S.nil ?_
      refine TC.ret ?_
      refine finQ.ret (RVs.tmp (by conv => lhs; whnf) RVs.nil) (Sub.nil _) ?_
      exact ⟨rfl, rfl⟩
set_option maxHeartbeats 400000 in
theorem law4_walkL (E : Nat → H32) (hEm : ∀ w, Tabs 2 0 w [] → Calls Tryd.prog 88 #[] w (Ret w (.agg (hcs (emptL E)).toArray))) (z : Int) (i : Nat) (A : Option Addr) (c : Nat) (xs : List Go.E.Act) (hxs : 25 < xs.length) (w0 : World) (hT : Tabs 2 0 w0 []) :
    Calls Tryd.prog 4 #[.int .i64 z, .slice A xs.length c, .int .u64 (i : Int)] w0 (Post w0 [] fun v L => v = .bool true ∧ L = []) := by
  refine Calls.of (L := []) (n := 166) (rs := [.tmp 6]) Tryd.func4 rfl rfl rfl (Nat.le_of_ble_eq_true rfl) (Sat.nil _) ?_
  refine TC.seq ?_
  refine TC.region ?_
  refine S.q rfl rfl (Qt.assign (by conv => lhs; whnf)) ?_
  refine S.nil ?_
  refine TC.seq ?_
  refine TC.seq ?_
  refine TC.region ?_
  refine S.opS rfl rfl (OpV.con0 Tryd.ent25 rfl (fun w hw => Calls.ret (alive09_walk E hEm w (hT.at hw))) ?_)
  refine S.q rfl rfl (Qt.not_t rfl) ?_
  refine S.nil ?_
  refine S.if_f rfl ?_
  refine TC.skip ?_
  refine TC.seq ?_
  refine TC.seq ?_
  refine TC.region ?_
  refine S.q rfl rfl (Qt.move (by conv => lhs; whnf)) ?_
  refine S.q rfl rfl (Qt.len_slice Tryd.underlying34 rfl) ?_
  refine S.q rfl rfl (Qt.dT (Qt.gt (b := 25) rfl rfl) (by omega)) ?_
  refine S.nil ?_
  refine S.if_t rfl ?_
  refine TC.seq ?_
  refine TC.region ?_
  refine S.q rfl rfl (Qt.assign (by conv => lhs; whnf)) ?_
  refine S.nil ?_
  refine TC.ret ?_
  refine finQ.ret (RVs.tmp (by conv => lhs; whnf) RVs.nil) (Sub.nil _) ?_
  exact ⟨rfl, rfl⟩
set_option maxHeartbeats 400000 in
theorem law4_walkZ (E : Nat → H32) (hEm : ∀ w, Tabs 2 0 w [] → Calls Tryd.prog 88 #[] w (Ret w (.agg (hcs (emptL E)).toArray))) (z : Int) (i : Nat) (A : Option Addr) (c : Nat) (xs : List Go.E.Act) (hxs : xs.length ≤ 25) (hz : z < 0 ∨ 32 < z) (w0 : World) (hT : Tabs 2 0 w0 []) :
    Calls Tryd.prog 4 #[.int .i64 z, .slice A xs.length c, .int .u64 (i : Int)] w0 (Post w0 [] fun v L => v = .bool true ∧ L = []) := by
  refine Calls.of (L := []) (n := 166) (rs := [.tmp 6]) Tryd.func4 rfl rfl rfl (Nat.le_of_ble_eq_true rfl) (Sat.nil _) ?_
  refine TC.seq ?_
  refine TC.region ?_
  refine S.q rfl rfl (Qt.assign (by conv => lhs; whnf)) ?_
  refine S.nil ?_
  refine TC.seq ?_
  refine TC.seq ?_
  refine TC.region ?_
  refine S.opS rfl rfl (OpV.con0 Tryd.ent25 rfl (fun w hw => Calls.ret (alive09_walk E hEm w (hT.at hw))) ?_)
  refine S.q rfl rfl (Qt.not_t rfl) ?_
  refine S.nil ?_
  refine S.if_f rfl ?_
  refine TC.skip ?_
  refine TC.seq ?_
  refine TC.seq ?_
  refine TC.region ?_
  refine S.q rfl rfl (Qt.move (by conv => lhs; whnf)) ?_
  refine S.q rfl rfl (Qt.len_slice Tryd.underlying34 rfl) ?_
  refine S.q rfl rfl (Qt.dF (Qt.gt (b := 25) rfl rfl) (by omega)) ?_
  refine S.nil ?_
  refine S.if_f rfl ?_
  refine TC.skip ?_
  refine TC.seq ?_
  refine TC.region ?_
  refine S.q rfl rfl (Qt.move (by conv => lhs; whnf)) ?_
  refine S.opS rfl rfl (OpV.con0 Tryd.ent26 rfl (fun w hw => newF_R z hz w) ?_)
  refine S.q rfl rfl (Qt.move (by conv => lhs; whnf)) ?_
  refine S.q rfl rfl (Qt.extract rfl rfl) ?_
  refine S.q rfl rfl (Qt.extract rfl rfl) ?_
  refine S.q rfl rfl (Qt.assign (by conv => lhs; whnf)) ?_
  refine S.q rfl rfl (Qt.assign (by conv => lhs; whnf)) ?_
  refine S.nil ?_
  refine TC.seq ?_
  refine TC.region ?_
  refine S.q rfl rfl (Qt.move (by conv => lhs; whnf)) ?_
  refine S.opS rfl rfl (OpV.con0 Tryd.ent26 rfl (fun w hw => newF_R z hz w) ?_)
  refine S.q rfl rfl (Qt.move (by conv => lhs; whnf)) ?_
  refine S.q rfl rfl (Qt.extract rfl rfl) ?_
  refine S.q rfl rfl (Qt.extract rfl rfl) ?_
  refine S.q rfl rfl (Qt.assign (by conv => lhs; whnf)) ?_
  refine S.q rfl rfl (Qt.assign (by conv => lhs; whnf)) ?_
  refine S.nil ?_
  refine TC.seq ?_
  refine TC.seq ?_
  refine TC.region ?_
  refine S.q rfl rfl (Qt.move (by conv => lhs; whnf)) ?_
  refine S.q rfl rfl (Qt.nenil_iface Tryd.underlying27 rfl) ?_
  refine S.q rfl rfl (Qt.move (by conv => lhs; whnf)) ?_
  refine S.pass rfl rfl ?_
  refine S.pass rfl rfl ?_
  refine S.q rfl rfl (Qt.pick_t rfl (by conv => lhs; whnf)) ?_
  refine S.nil ?_
  refine S.if_t rfl ?_
  refine TC.seq ?_
  refine TC.region ?_
  refine S.q rfl rfl (Qt.move (by conv => lhs; whnf)) ?_
  refine S.q rfl rfl (Qt.eqp_none Tryd.underlying35 rfl) ?_
  refine S.q rfl rfl (Qt.move (by conv => lhs; whnf)) ?_
  refine S.qg rfl rfl rfl (Qt.move (by conv => lhs; whnf)) ?_
  refine S.qg rfl rfl rfl (Qt.eqp_none Tryd.underlying35 rfl) ?_
  refine S.q rfl rfl (Qt.pick_t rfl (by conv => lhs; whnf)) ?_
  refine S.q rfl rfl (Qt.assign (by conv => lhs; whnf)) ?_
  refine S.nil ?_
  refine TC.ret ?_
  refine finQ.ret (RVs.tmp (by conv => lhs; whnf) RVs.nil) (Sub.nil _) ?_
  exact ⟨rfl, rfl⟩
theorem treePaths_R (z : Int) (i : Nat) (A : Option Addr) (c : Nat) (xs : List Go.E.Act) (hi64 : i < 18446744073709551616) (w0 : World) (hR : Ro w0 [] (SlA A (xs.flatMap actL))) (hT : Tabs 2 0 w0 []) :
    Calls Tryd.prog 4 #[.int .i64 z, .slice A xs.length c, .int .u64 (i : Int)] w0 (Post w0 [] fun v L => v = .bool true ∧ L = []) := by
  have hEm : ∀ w, Tabs 2 0 w [] → Calls Tryd.prog 88 #[] w (Ret w (.agg (hcs (emptL emptyH)).toArray)) := fun w h => empties_R w h
  by_cases hx : xs.length ≤ 25
  · by_cases hz : z < 0 ∨ 32 < z
    · exact law4_walkZ emptyH hEm z i A c xs hx hz w0 hT
    · obtain ⟨n, rfl⟩ : ∃ n : Nat, z = (n : Int) := ⟨z.toNat, by omega⟩
      by_cases hi : i < 2 ^ n
      · exact law4_walk emptyH hEm (fun _ => rfl) n i (by omega) A c xs hx hi64 hi w0 hR hT
      · exact law4_walkF emptyH hEm (fun _ => rfl) n i (by omega) A c xs hx hi64 hi w0 hR hT
  · exact law4_walkL emptyH hEm z i A c xs (by omega) w0 hT

end Go.Proofs.YtlneklemjfefpaaDoor
