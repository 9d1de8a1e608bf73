/-
  Walks: a tree for another number of blocks. Printed by a program of ours.
-/
import Derived.Test.YtlneklemjfefpaaDoorWM
import Derived.Test.YtlneklemjfefpaaDoorP3
import Derived.Test.YtlneklemjfefpaaDoorTD
namespace Go.Proofs.YtlneklemjfefpaaDoor
open Go.E
set_option linter.unusedVariables false
set_option maxRecDepth 4000


set_option maxHeartbeats 400000 in
theorem resize82_walkF (E : Nat → H32) (tb mb height : Nat) (ms : Tm) (b : Nat) (hb : ¬ okN b) (w0 : World) :
    Calls Tryd.prog 82 #[.pointer (some ⟨tb, 0, none⟩), .int .u64 (b : Int)] w0 (Post w0 [] fun v L => v = .tuple #[.pointer none, .iface 58 (.int .i64 1)] ∧ L = []) := by
  refine Calls.of (L := []) (n := 46) (rs := [.cell 4 35, .cell 5 27]) Tryd.func82 rfl rfl rfl (Nat.le_of_ble_eq_true rfl) (Sat.nil _) ?_
  refine TC.seq ?_
  refine TC.region ?_
  refine S.opS rfl rfl (OpV.box (v := .int .u64 (b : Int)) rfl (fun b3 => ?_))
  refine S.opS rfl rfl (OpV.alloc Tryd.zero35 (fun b4 => ?_))
  refine S.opS rfl rfl (OpV.alloc Tryd.zero27 (fun b5 => ?_))
  refine S.nil ?_
  refine TC.seq ?_
  refine TC.seq ?_
  refine TC.region ?_
  refine S.q rfl rfl (Qt.move (by conv => lhs; whnf)) ?_
  refine S.q rfl rfl (Qt.eqp_some Tryd.underlying35 rfl) ?_
  refine S.nil ?_
  refine S.if_f rfl ?_
  refine TC.skip ?_
  refine TC.seq ?_
  refine TC.region ?_
  refine S.q rfl rfl (Qt.load rfl (Ld.one (Has.at 2 rfl) Tryd.one24 rfl)) ?_
  refine S.opS rfl rfl (OpV.con0 Tryd.ent80 rfl (fun w hw => Calls.ret (height_walkF b hb w)) ?_)
  refine S.q rfl rfl (Qt.move (by conv => lhs; whnf)) ?_
  refine S.q rfl rfl (Qt.extract rfl rfl) ?_
  refine S.q rfl rfl (Qt.extract rfl rfl) ?_
  refine S.q rfl rfl (Qt.assign (by conv => lhs; whnf)) ?_
  refine S.q rfl rfl (Qt.assign (by conv => lhs; whnf)) ?_
  refine S.nil ?_
  refine TC.seq ?_
  refine TC.seq ?_
  refine TC.region ?_
  refine S.q rfl rfl (Qt.move (by conv => lhs; whnf)) ?_
  refine S.q rfl rfl (Qt.nenil_iface Tryd.underlying27 rfl) ?_
  refine S.nil ?_
  refine S.if_t rfl ?_
  refine TC.seq ?_
  refine TC.region ?_
  refine S.q rfl rfl (Qt.move (by conv => lhs; whnf)) ?_
  refine S.opN rfl (OpV.storeV1 rfl (by conv => lhs; whnf) (by exact Tryd.cells35) (by rfl) (by rfl) ?_)
  refine S.opN rfl (OpV.storeV0 rfl (by conv => lhs; whnf) (by exact Tryd.cells27) (by rfl) (by rfl) ?_)
  refine S.nil ?_
  refine TC.ret ?_
  refine finQ.ret (RVs.cell rfl (Ld.one (Has.at 1 rfl) Tryd.one35 (rfl)) (RVs.cell rfl (Ld.one (Has.at 0 rfl) Tryd.one27 (rfl)) RVs.nil)) (Sub.nil _) ?_
  exact ⟨rfl, rfl⟩
set_option maxHeartbeats 1600000 in
theorem resize82_walk (E : Nat → H32) (hEm : ∀ w, Tabs 2 0 w [] → Calls Tryd.prog 88 #[] w (Ret w (.agg (hcs (emptL E)).toArray))) (hE : ∀ h, E (h + 1) = joinH (h + 1) (E h) (E h)) (tb mb height : Nat) (ms : Tm) (g : Nat → H32) (ht : TreeOk E height g ms) (hn : (lv0 (keysOf ms)).length < 4294967296) (b : Nat) (hb : okN b) (w0 : World) (hB : Ro w0 [] (Blk tb 150 (treeCs E height mb))) (hM : Ro w0 [] (MapA mb encAt hv (ms))) (hT : Tabs 2 0 w0 []) :
    Calls Tryd.prog 82 #[.pointer (some ⟨tb, 0, none⟩), .int .u64 (b : Int)] w0 (Post w0 [] fun v L => ∃ tb2 m2 ms2, v = .tuple #[.pointer (some ⟨tb2, 0, none⟩), .nilIface] ∧ L = [Blk tb2 150 (treeCs E (hgt b) m2), MapA m2 encAt hv (ms2)] ∧ TreeOk E (hgt b) (cutF E g (lvT ms) b) ms2) := by
  refine Calls.of (L := []) (n := 46) (rs := [.cell 4 35, .cell 5 27]) Tryd.func82 rfl rfl rfl (Nat.le_of_ble_eq_true rfl) (Sat.nil _) ?_
  have hh2 := hgt_le hb
  have hbl := hgt_lt hb
  refine TC.seq ?_
  refine TC.region ?_
  refine S.opS rfl rfl (OpV.box (v := .int .u64 (b : Int)) rfl (fun b3 => ?_))
  refine S.opS rfl rfl (OpV.alloc Tryd.zero35 (fun b4 => ?_))
  refine S.opS rfl rfl (OpV.alloc Tryd.zero27 (fun b5 => ?_))
  refine S.nil ?_
  refine TC.seq ?_
  refine TC.seq ?_
  refine TC.region ?_
  refine S.q rfl rfl (Qt.move (by conv => lhs; whnf)) ?_
  refine S.q rfl rfl (Qt.eqp_some Tryd.underlying35 rfl) ?_
  refine S.nil ?_
  refine S.if_f rfl ?_
  refine TC.skip ?_
  refine TC.seq ?_
  refine TC.region ?_
  refine S.q rfl rfl (Qt.load rfl (Ld.one (Has.at 2 rfl) Tryd.one24 rfl)) ?_
  refine S.opS rfl rfl (OpV.con0 Tryd.ent80 rfl (fun w hw => Calls.ret (height_walkT b hb w)) ?_)
  refine S.q rfl rfl (Qt.move (by conv => lhs; whnf)) ?_
  refine S.q rfl rfl (Qt.extract rfl rfl) ?_
  refine S.q rfl rfl (Qt.extract rfl rfl) ?_
  refine S.q rfl rfl (Qt.assign (by conv => lhs; whnf)) ?_
  refine S.q rfl rfl (Qt.assign (by conv => lhs; whnf)) ?_
  refine S.nil ?_
  refine TC.seq ?_
  refine TC.seq ?_
  refine TC.region ?_
  refine S.q rfl rfl (Qt.move (by conv => lhs; whnf)) ?_
  refine S.q rfl rfl (Qt.nenil_nil Tryd.underlying27 rfl) ?_
  refine S.nil ?_
  refine S.if_f rfl ?_
  refine TC.skip ?_
  refine TC.seq ?_
  refine TC.region ?_
  refine S.q rfl rfl (Qt.move (by conv => lhs; whnf)) ?_
  refine S.opS rfl rfl (OpV.con (Pre := []) (R := _) Tryd.ent26 rfl (List.Perm.refl _) (fun w hw => new_walk E hEm (hgt b) hh2 w (hT.at hw)) ?_)
  rintro v L' ⟨tb2, m2, rfl, rfl⟩
  refine S.q rfl rfl (Qt.move (by conv => lhs; whnf)) ?_
  refine S.q rfl rfl (Qt.extract rfl rfl) ?_
  refine S.q rfl rfl (Qt.extract rfl rfl) ?_
  refine S.opS rfl rfl (OpV.alloc Tryd.zero35 (fun b8 => ?_))
  refine S.opN rfl (OpV.storeV0 rfl (by conv => lhs; whnf) (by exact Tryd.cells35) (by rfl) (by rfl) ?_)
  refine S.q rfl rfl (Qt.assign (by conv => lhs; whnf)) ?_
  refine S.nil ?_
  refine TC.seq ?_
  refine TC.seq ?_
  refine TC.region ?_
  refine S.q rfl rfl (Qt.move (by conv => lhs; whnf)) ?_
  refine S.q rfl rfl (Qt.nenil_nil Tryd.underlying27 rfl) ?_
  refine S.nil ?_
  refine S.if_f rfl ?_
  refine TC.skip ?_
  refine TC.seq ?_
  refine TC.seq ?_
  refine TC.region ?_
  refine S.q rfl rfl (Qt.move (by conv => lhs; whnf)) ?_
  refine S.opS rfl rfl (OpV.con (Pre := []) (R := _) Tryd.ent84 rfl (List.Perm.refl _) (fun w hw => all84_walk tb w) ?_)
  rintro v L' ⟨bF, rfl, rfl⟩
  refine S.nil ?_
  refine TC.block ?_
  refine TC.rangeFunc2 (α := Fin (lvT ms).length) (fun i : Fin (lvT ms).length => [Value.int .u64 (((lvT ms).getD i.val 0 : Nat) : Int), hv (getT E ms (0, (lvT ms).getD i.val 0))]) (fun ys => ys = List.finRange (lvT ms).length) (fun _ => True) (fun ys : List (Fin (lvT ms).length) => ∃ j, j ≤ (lvT ms).length ∧ ys = (List.finRange (lvT ms).length).take j) (fun pre L' => ∃ ms2, L' = [Blk tb2 150 (treeCs E (hgt b) m2), MapA m2 encAt hv (ms2)] ∧ TreeOk E (hgt b) (takeF E g ((lvT ms).take pre.length)) ms2 ∧ ∀ y ∈ (lvT ms).take pre.length, y < b) (fun c ys L' => c = .exit 0 ∧ ∃ ms2 k, L' = [Blk tb2 150 (treeCs E (hgt b) m2), MapA m2 encAt hv (ms2)] ∧ (TreeOk E (hgt b) (takeF E g ((lvT ms).take k)) ms2 ∧ ∀ y ∈ (lvT ms).take k, y < b) ∧ k < (lvT ms).length ∧ b ≤ (lvT ms).getD k 0) (L0 := [Blk tb2 150 (treeCs E (hgt b) m2), MapA m2 encAt hv ([])]) (R := [Blk bF 35 [.pointer (some ⟨tb, 0, none⟩)], Blk b8 35 [.pointer (some ⟨tb2, 0, none⟩)], Blk b5 27 [.nilIface], Blk b4 35 [.pointer none], Blk b3 24 [.int .u64 (b : Int)]]) rfl rfl Tryd.ent121 rfl (fun _ => rfl) ((List.perm_middle (l₁ := [_, _])).trans (List.Perm.cons _ (List.perm_middle (l₁ := [_, _])))) ⟨[], rfl, by rw [List.length_nil, List.take_zero, takeF_nil]; exact TreeOk.empty hE _, (fun y hy => by simp at hy)⟩ (fun w L' hw => all_gen E tb mb height ms hn (lvT ms) rfl (lvT ms).length rfl bF w L' hw.sat.left (Ro.of_pre hw hB) (Ro.of_pre hw hM) (Ro.of_rest hw (.head _))) ?_ ?_ ?_
  · rintro w' l Dd Rr Rb pre x L' ⟨j, hj, hpj⟩ ⟨ms2, rfl, ht2, hlt⟩ hst
    obtain ⟨hxv, hpl⟩ := fin_pre hpj
    have hb3 := Ro.of_rest (A := Blk b3 24 [.int .u64 (b : Int)]) hst (.tail _ (.tail _ (.tail _ (.tail _ (.head _)))))
    have hb8 := Ro.of_rest (A := Blk b8 35 [.pointer (some ⟨tb2, 0, none⟩)]) hst (.tail _ (.head _))
    have hT1 := hT.pre hst
    have hgx : getT E ms (0, ((lvT ms).getD x.val 0)) = g ((lvT ms).getD x.val 0) := ht.leafv (ht.lv.1 (getD_mem 0 x.isLt)).1
    refine TC.seq ?_
    refine TC.region ?_
    refine S.q rfl rfl (Qt.assign (by conv => lhs; whnf)) ?_
    refine S.nil ?_
    refine TC.region ?_
    refine S.opS rfl rfl (OpV.alloc Tryd.zero23 (fun b10 => ?_))
    refine S.opN rfl (OpV.storeV0 (v := hv (_)) rfl rfl (hv_size Tryd.cells23) (hv_all _) (hv_len _) ?_)
    refine S.nil ?_
    refine ⟨_, Sub.trans (Sub.keep _ (Sub.refl _)) (Sub.of_perm (List.perm_middle (l₁ := [_]))), ?_⟩
    refine TC.block ?_
    refine TC.seq ?_
    refine TC.seq ?_
    refine TC.region ?_
    refine S.q rfl rfl (Qt.move (by conv => lhs; whnf)) ?_
    refine S.q rfl rfl (Qt.load rfl (Ld.one (v := .int .u64 (b : Int)) (Has.ro hb3) Tryd.one24 rfl)) ?_
    refine S.dec rfl rfl (Qt.ge rfl rfl) (fun h37 => ?_) (fun h37 => ?_)
    · refine S.nil ?_
      refine S.if_t rfl ?_
      refine TC.exit ?_
      exact ⟨_, Sub.trans (Sub.keep _ (Sub.keep _ (Sub.keep _ (Sub.keep _ (Sub.drop _ (Sub.nil [])))))) (Sub.keep _ (Sub.trans (Sub.keep _ (Sub.trans (Sub.keep _ (Sub.trans (Sub.keep _ (Sub.refl _)) (Sub.of_perm (List.perm_middle (l₁ := [_]))))) (Sub.of_perm (List.perm_middle (l₁ := [_]))))) (Sub.of_perm (List.perm_middle (l₁ := [_]))))), rfl, ms2, pre.length, rfl, ⟨ht2, hlt⟩, hpl, by rw [← hxv]; exact h37⟩
    · refine S.nil ?_
      refine S.if_f rfl ?_
      refine TC.skip ?_
      refine TC.seq ?_
      refine TC.region ?_
      have hs : ((lvT ms).getD x.val 0) < 2 ^ hgt b := by omega
      refine S.q rfl rfl (Qt.load rfl (Ld.one (v := .pointer (some ⟨tb2, 0, none⟩)) (Has.ro hb8) Tryd.one35 rfl)) ?_
      refine S.q rfl rfl (Qt.move (by conv => lhs; whnf)) ?_
      refine S.q rfl rfl (Qt.load rfl (Ld.hash1 (x := getT E ms (0, ((lvT ms).getD x.val 0))) (Has.at 1 rfl) Tryd.row23 Tryd.cells23)) ?_
      refine S.opS rfl rfl (OpV.con (Pre := [Blk tb2 150 (treeCs E (hgt b) m2), MapA m2 encAt hv (ms2)]) (R := _) Tryd.ent27 rfl ((List.perm_middle (l₁ := [_, _, _])).trans (List.Perm.cons _ (List.perm_middle (l₁ := [_, _, _])))) (fun w hw => set_walk E tb2 m2 (hgt b) ms2 ((lvT ms).getD x.val 0) (getT E ms (0, ((lvT ms).getD x.val 0))) hh2 hs w hw.sat.left (hT1.pre hw)) ?_)
      rintro v L' ⟨rfl, rfl⟩
      refine S.q rfl rfl (Qt.assign (by conv => lhs; whnf)) ?_
      refine S.nil ?_
      refine TC.seq ?_
      refine TC.region ?_
      refine S.q rfl rfl (Qt.move (by conv => lhs; whnf)) ?_
      refine S.q rfl rfl (Qt.nenil_nil Tryd.underlying27 rfl) ?_
      refine S.nil ?_
      refine S.if_f rfl ?_
      refine TC.skip ?_
      refine ⟨_, Sub.trans (Sub.keep _ (Sub.keep _ (Sub.keep _ (Sub.keep _ (Sub.drop _ (Sub.nil [])))))) (Sub.trans (Sub.keep _ (Sub.trans (Sub.keep _ (Sub.refl _)) (Sub.of_perm (List.perm_middle (l₁ := [_, _, _]))))) (Sub.of_perm (List.perm_middle (l₁ := [_, _])))), _, rfl, ?_⟩
      rw [hgx, len_snoc, take_oneN hpl, ← takeF_snoc, ← hxv]
      rw [← hxv] at ht2 hlt
      exact ⟨ht2.set hs _, fun y hy => (List.mem_append.1 hy).elim (hlt y) (fun e => by rw [List.mem_singleton.1 e]; omega)⟩
  · rintro Dd ys L' rfl ⟨ms2, rfl, ht2, hlt⟩
    rw [List.length_finRange, List.take_length] at ht2 hlt
    refine TC.seq ?_
    refine TC.region ?_
    refine S.q rfl rfl (Qt.load rfl (Ld.one (v := .pointer (some ⟨tb2, 0, none⟩)) (Has.at 4 rfl) Tryd.one35 rfl)) ?_
    refine S.opN rfl (OpV.storeV6 rfl (by conv => lhs; whnf) (by exact Tryd.cells35) (by rfl) (by rfl) ?_)
    refine S.opN rfl (OpV.storeV5 rfl (by conv => lhs; whnf) (by exact Tryd.cells27) (by rfl) (by rfl) ?_)
    refine S.nil ?_
    refine TC.ret ?_
    refine finQ.retM rfl (Sub.refl _) (RVs.cell rfl (Ld.one (Has.at 5 rfl) Tryd.one35 (rfl)) (RVs.cell rfl (Ld.one (Has.at 4 rfl) Tryd.one27 (rfl)) RVs.nil)) (Sub.keep _ (Sub.keep _ (Sub.drop _ (Sub.drop _ (Sub.drop _ (Sub.drop _ (Sub.drop _ (Sub.nil [])))))))) ?_
    refine ⟨tb2, m2, ms2, rfl, rfl, ?_⟩
    rw [← takeF_all E g hlt]
    exact ht2
  · rintro Dd c ys L' - ⟨rfl, ms2, k, rfl, ⟨ht2, hlt⟩, hk, hbk⟩
    refine TC.exit ?_
    refine TC.seq ?_
    refine TC.region ?_
    refine S.q rfl rfl (Qt.load rfl (Ld.one (v := .pointer (some ⟨tb2, 0, none⟩)) (Has.at 4 rfl) Tryd.one35 rfl)) ?_
    refine S.opN rfl (OpV.storeV6 rfl (by conv => lhs; whnf) (by exact Tryd.cells35) (by rfl) (by rfl) ?_)
    refine S.opN rfl (OpV.storeV5 rfl (by conv => lhs; whnf) (by exact Tryd.cells27) (by rfl) (by rfl) ?_)
    refine S.nil ?_
    refine TC.ret ?_
    refine finQ.retM rfl (Sub.refl _) (RVs.cell rfl (Ld.one (Has.at 5 rfl) Tryd.one35 (rfl)) (RVs.cell rfl (Ld.one (Has.at 4 rfl) Tryd.one27 (rfl)) RVs.nil)) (Sub.keep _ (Sub.keep _ (Sub.drop _ (Sub.drop _ (Sub.drop _ (Sub.drop _ (Sub.drop _ (Sub.nil [])))))))) ?_
    refine ⟨tb2, m2, ms2, rfl, rfl, ?_⟩
    rw [← takeF_cut E g (lvT_rise ht.nodup) hk rfl hlt hbk]
    exact ht2
end Go.Proofs.YtlneklemjfefpaaDoor
