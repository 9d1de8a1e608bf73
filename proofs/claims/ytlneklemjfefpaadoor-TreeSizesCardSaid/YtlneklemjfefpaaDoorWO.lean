/-
  Walks: the document's tree put exactly; the laws of a tree's leaves and of its sizes. Printed by a program of ours.
-/
import Derived.Test.YtlneklemjfefpaaDoorWN
import Derived.Test.YtlneklemjfefpaaDoorLX
import Derived.Test.YtlneklemjfefpaaDoorOB
namespace Go.Proofs.YtlneklemjfefpaaDoor
open Go.E
set_option linter.unusedVariables false
set_option maxRecDepth 4000


set_option maxHeartbeats 1600000 in
theorem rset2_walk (E : Nat → H32) (height : Nat) (ls : Ls) (A : Option Addr) (c : Nat) (O : Option Addr) (d i : Nat) (h : H32) (hi : i < 18446744073709551616) (w0 : World) (hlen : ls.length ≤ 4095) (hlow : ∀ x ∈ ls, x.1 < 18446744073709551616) (hL : Ro w0 [] (SlA A (ls.flatMap leafL))) (hO : Ro w0 [] (SlA O (hcs (emptL E)))) (hs : ls.Pairwise (fun a b => a.1 < b.1)) :
    Calls Tryd.prog 98 #[.agg #[.int .i64 (height : Int), .slice A ls.length c, .slice O 33 d], .int .u64 (i : Int), hv h] w0 (Post w0 [] fun v L => ∃ ls2 A2 c2, v = .agg #[.int .i64 (height : Int), .slice A2 ls2.length c2, .slice O 33 d] ∧ L = [OwnA 163 33 A2 (ls2).length c2 ((ls2).flatMap leafL)] ∧ LsSet E ls i h ls2 ∧ ls2 = setL E ls i h) := by
  refine Calls.of (L := []) (n := 77) (rs := [.cell 6 52]) Tryd.func98 rfl rfl rfl (Nat.le_of_ble_eq_true rfl) (Sat.nil _) ?_
  refine TC.ownNil 163 33 ?_
  refine TC.seq ?_
  refine TC.region ?_
  refine S.opS rfl rfl (OpV.box (v := .agg #[.int .i64 (height : Int), .slice A ls.length c, .slice O 33 d]) rfl (fun b3 => ?_))
  refine S.opS rfl rfl (OpV.box (v := hv h) rfl (fun b5 => ?_))
  refine S.opS rfl rfl (OpV.alloc Tryd.zero52 (fun b6 => ?_))
  refine S.nil ?_
  refine TC.seq ?_
  refine TC.region ?_
  refine S.q rfl rfl (Qt.field Tryd.underlying52 rfl Tryd.cells3 rfl) ?_
  refine S.q rfl rfl (Qt.load rfl (Ld.one (Has.at 2 rfl) Tryd.one3 (rfl))) ?_
  refine S.q rfl rfl (Qt.field Tryd.underlying52 rfl Tryd.cells44 rfl) ?_
  refine S.q rfl rfl (Qt.load rfl (Ld.one (Has.at 2 rfl) Tryd.one44 (rfl))) ?_
  refine S.q rfl rfl (Qt.build2 (a := .int .i64 (height : Int)) (b := .slice O 33 d) rfl rfl (Tryd.buildTree height O d)) ?_
  refine S.opS rfl rfl (OpV.alloc Tryd.zero52 (fun b7 => ?_))
  refine S.opN rfl (OpV.storeV0 rfl (by conv => lhs; whnf) (by exact Tryd.cells52) (by rfl) (by rfl) ?_)
  refine S.nil ?_
  refine TC.seq ?_
  refine S.draw ([], []) Tryd.mixed (Sub.nil _) ?_
  refine D.qX (k := 0) rfl (by kernel_rfl) (by kernel_rfl) (by kernel_rfl) rfl rfl (Qt.load rfl (Ld.hash1 (x := h) (Has.at 2 rfl) Tryd.row23 Tryd.cells23)) ?_
  refine D.qX (k := 1) rfl (by kernel_rfl) (by kernel_rfl) (by kernel_rfl) rfl rfl (Qt.field Tryd.underlying52 rfl Tryd.cells44 rfl) ?_
  refine D.qX (k := 2) rfl (by kernel_rfl) (by kernel_rfl) (by kernel_rfl) rfl rfl (Qt.load rfl (Ld.one (Has.at 3 rfl) Tryd.one44 (rfl))) ?_
  refine D.qX (k := 3) rfl (by kernel_rfl) (by kernel_rfl) (by kernel_rfl) rfl rfl (Qt.index (i := 0) Tryd.underlying44 Tryd.cells23 rfl rfl (by omega) (Has.ro hO) (by rw [hcs_length, emptL_length]; omega)) ?_
  refine D.qX (k := 4) rfl (by kernel_rfl) (by kernel_rfl) (by kernel_rfl) rfl rfl (Qt.as (Qt.load rfl (Ld.hashS (Has.ro hO) (0) Tryd.row23 Tryd.cells23 (by rw [emptL_length]; omega) rfl)) (by rw [emptL_get E (by omega)])) ?_
  refine D.qX (k := 5) rfl (by kernel_rfl) (by kernel_rfl) (by kernel_rfl) rfl rfl (Qt.eqH (a := h) (b := E 0) Tryd.guard23 Tryd.underlying23 Tryd.underlying5 Tryd.cells5 rfl rfl) ?_
  refine D.qX (k := 6) rfl (by kernel_rfl) (by kernel_rfl) (by kernel_rfl) rfl rfl (Qt.assign (by conv => lhs; whnf)) ?_
  refine D.done (Sub.nil _) (by kernel_rfl) ?_
  refine TC.seq ?_
  refine TC.seq ?_
  refine TC.region ?_
  refine S.q rfl rfl (Qt.assign (by conv => lhs; whnf)) ?_
  refine S.nil ?_
  refine TC.block ?_
  refine TC.loop (γ := Nat × Ls × Bool × Option Addr × Nat) [21, 22, 23, 24, 25, 28, 29, 30, 31, 32, 33, 34, 35, 36, 37, 38, 39, 40, 41, 42, 43, 44, 45, 46, 47, 8, 48, 49, 50, 51, 52, 53, 54, 55, 56, 57, 58, 59, 60, 61, 62, 63, 64, 65, 26, 27, 9] (fun g => [(9, .int .i64 ((g.1 : Nat) : Int)), (8, .bool g.2.2.1)]) (fun g => [OwnA 163 33 g.2.2.2.1 (g.2.1).length g.2.2.2.2 ((g.2.1).flatMap leafL), Blk b7 52 [.int .i64 (height : Int), .slice g.2.2.2.1 g.2.1.length g.2.2.2.2, .slice O 33 d], Blk b6 52 [.int .i64 0, .slice none 0 0, .slice none 0 0], Blk b5 23 (hvl h), Blk b3 52 (vl (.agg #[.int .i64 (height : Int), .slice A ls.length c, .slice O 33 d]))]) (fun g => g.1 ≤ ls.length ∧ PutOk i h (decide (h = E 0)) ls g.1 g.2.2.1 g.2.1 ∧ PutS i h (decide (h = E 0)) ls g.1 g.2.2.1 g.2.1) (fun g => ls.length - g.1) ((0, [], decide (h = E 0), none, 0))
    ⟨Nat.zero_le _, PutOk.zero .., PutS.zero ..⟩ ⟨Out.refl _ _, (List.forall_mem_cons.2 ⟨rfl, (List.forall_mem_cons.2 ⟨rfl, (fun _ h => nomatch h)⟩)⟩)⟩ (Sub.trans (Sub.keep _ (Sub.refl _)) (Sub.of_perm (List.perm_middle (l₁ := [_, _, _, _])))) ?_
  rintro ⟨k, out, dn, A1, c1⟩ u ⟨hk, hp, hq⟩
  dsimp only at hk hp hq
  have hol : out.length ≤ k + 1 := by have := hp.len; split at this <;> omega
  refine TC.seq ?_
  refine TC.seq ?_
  refine TC.region ?_
  refine S.q rfl rfl (Qt.move (by conv => lhs; whnf)) ?_
  refine S.q rfl rfl (Qt.field Tryd.underlying52 rfl Tryd.cells50 rfl) ?_
  refine S.q rfl rfl (Qt.load rfl (Ld.one (Has.at 4 rfl) Tryd.one50 (rfl))) ?_
  refine S.q rfl rfl (Qt.len_slice Tryd.underlying50 rfl) ?_
  refine S.dec rfl rfl (Qt.lt rfl rfl) (fun h25 => ?_) (fun h25 => ?_)
  · refine S.nil ?_
    refine S.if_t rfl ?_
    refine TC.skip ?_
    refine TC.seq ?_
    refine TC.block ?_
    refine TC.seq ?_
    refine TC.seq ?_
    refine TC.region ?_
    cases dn
    · refine S.q rfl rfl (Qt.move rfl) ?_
      refine S.q rfl rfl (Qt.not_f rfl) ?_
      refine S.q rfl rfl (Qt.move (by conv => lhs; whnf)) ?_
      refine S.qg rfl rfl rfl (Qt.field Tryd.underlying52 rfl Tryd.cells50 rfl) ?_
      refine S.qg rfl rfl rfl (Qt.load rfl (Ld.one (Has.at 4 rfl) Tryd.one50 (rfl))) ?_
      refine S.qg rfl rfl rfl (Qt.move (by conv => lhs; whnf)) ?_
      refine S.qg rfl rfl rfl (Qt.index Tryd.underlying50 Tryd.cells163 rfl rfl (by omega) (Has.ro hL) (by rw [leafL_len]; omega)) ?_
      refine S.qg rfl rfl rfl (Qt.fieldS Tryd.underlying163 rfl Tryd.cells24 rfl (Has.ro hL) (by rw [leafL_len]; omega)) ?_
      refine S.qg rfl rfl rfl (Qt.load rfl (Ld.sl (v := .int .u64 ((ls.getD k leaf0).1 : Int)) (Has.ro hL) Tryd.one24 (leaf_at (by omega) 0 _ rfl))) ?_
      refine S.qg rfl rfl rfl (Qt.move (by conv => lhs; whnf)) ?_
      refine S.decg rfl rfl rfl (Qt.ge rfl rfl) (fun h38 => ?_) (fun h38 => ?_)
      · refine S.q rfl rfl (Qt.pick_t rfl (by conv => lhs; whnf)) ?_
        refine S.nil ?_
        refine S.if_t rfl ?_
        refine TC.seq ?_
        refine TC.region ?_
        refine S.q rfl rfl (Qt.field Tryd.underlying52 rfl Tryd.cells50 rfl) ?_
        refine S.q rfl rfl (Qt.load rfl (Ld.one (Has.at 1 rfl) Tryd.one50 (rfl))) ?_
        refine S.q rfl rfl (Qt.move (by conv => lhs; whnf)) ?_
        refine S.q rfl rfl (Qt.load rfl (Ld.hash1 (x := h) (Has.at 3 rfl) Tryd.row23 Tryd.cells23)) ?_
        refine S.q rfl rfl (Qt.as (Qt.buildS (vs := [.int .u64 (i : Int), hv h]) (pls := #[(0, 1), (1, 32)]) Tryd.underlying163 (fun w => by kernel_rfl) Tryd.zero163 rfl ⟨rfl, (by show some (1, 32) = some (1, _); rw [hv_len]), trivial⟩ (by rw [List.flatMap_cons, List.flatMap_singleton]; show 33 = ([Value.int .u64 (i : Int)] ++ vl (hv h)).length; rw [List.length_append, hv_len]; rfl)) (show _ = Value.agg (leafL (i, h)).toArray by rw [List.flatMap_cons, List.flatMap_singleton, vl_hv]; rfl)) ?_
        refine S.opS rfl rfl (OpV.slice1 (bytes := 40) (v := .agg (leafL ((i, h))).toArray) Tryd.underlying50 Tryd.elem163 (by decide) rfl (leafL_vl _) (fun g45 => ?_))
        refine S.opS rfl rfl (OpV.app1 (bytes := 40) (news := leafL ((i, h))) Tryd.underlying50 Tryd.elem163 rfl rfl (Has.blk (cs := leafL ((i, h))) (Has.at 0 rfl)) (by rw [leafL_length]) (leafL_one _) (by simp only [maxLen]; omega) (by (try dsimp only); omega) (fun O1 d1 => ?_))
        refine S.q rfl rfl (Qt.field Tryd.underlying52 rfl Tryd.cells50 rfl) ?_
        refine S.opN rfl (OpV.storeC2 rfl (by conv => lhs; whnf) Tryd.cells50 rfl rfl (Nat.le_of_ble_eq_true rfl) ?_)
        refine S.nil ?_
        refine TC.region ?_
        refine S.q rfl rfl (Qt.assign (by conv => lhs; whnf)) ?_
        refine S.nil ?_
        refine TC.seq ?_
        refine TC.region ?_
        refine S.q rfl rfl (Qt.field Tryd.underlying52 rfl Tryd.cells50 rfl) ?_
        refine S.q rfl rfl (Qt.load rfl (Ld.one (Has.at 5 rfl) Tryd.one50 (rfl))) ?_
        refine S.q rfl rfl (Qt.move (by conv => lhs; whnf)) ?_
        refine S.q rfl rfl (Qt.index Tryd.underlying50 Tryd.cells163 rfl rfl (by omega) (Has.ro hL) (by rw [leafL_len]; omega)) ?_
        refine S.q rfl rfl (Qt.fieldS Tryd.underlying163 rfl Tryd.cells24 rfl (Has.ro hL) (by rw [leafL_len]; omega)) ?_
        refine S.q rfl rfl (Qt.load rfl (Ld.sl (v := .int .u64 ((ls.getD k leaf0).1 : Int)) (Has.ro hL) Tryd.one24 (leaf_at (by omega) 0 _ rfl))) ?_
        refine S.q rfl rfl (Qt.move (by conv => lhs; whnf)) ?_
        refine S.dec rfl rfl (Qt.ne rfl rfl) (fun h55 => ?_) (fun h55 => ?_)
        · refine S.nil ?_
          refine S.if_t rfl ?_
          refine S.draw ([8, 10], [7]) Tryd.mixed (Sub.nil _) ?_
          refine D.qX (k := 0) rfl (by kernel_rfl) (by kernel_rfl) (by kernel_rfl) rfl rfl (Qt.field Tryd.underlying52 rfl Tryd.cells50 rfl) ?_
          refine D.qX (k := 1) rfl (by kernel_rfl) (by kernel_rfl) (by kernel_rfl) rfl rfl (Qt.load rfl (Ld.one (Has.at 2 rfl) Tryd.one50 (rfl))) ?_
          refine D.qX (k := 2) rfl (by kernel_rfl) (by kernel_rfl) (by kernel_rfl) rfl rfl (Qt.field Tryd.underlying52 rfl Tryd.cells50 rfl) ?_
          refine D.qX (k := 3) rfl (by kernel_rfl) (by kernel_rfl) (by kernel_rfl) rfl rfl (Qt.load rfl (Ld.one (Has.at 5 rfl) Tryd.one50 (rfl))) ?_
          refine D.qX (k := 4) rfl (by kernel_rfl) (by kernel_rfl) (by kernel_rfl) rfl rfl (Qt.move (by conv => lhs; whnf)) ?_
          refine D.qX (k := 5) rfl (by kernel_rfl) (by kernel_rfl) (by kernel_rfl) rfl rfl (Qt.index Tryd.underlying50 Tryd.cells163 rfl rfl (by omega) (Has.ro hL) (by rw [leafL_len]; omega)) ?_
          refine D.qX (k := 6) rfl (by kernel_rfl) (by kernel_rfl) (by kernel_rfl) rfl rfl (Qt.load rfl (Ld.slr (vs := leafL (ls.getD k leaf0)) (Has.ro hL) Tryd.row163 (by rw [leafL_length]; exact Tryd.cells163) (by rw [leafL_length]; decide) (leaf_at (by omega)))) ?_
          refine D.nS (k := 7) (Sub.nil _) rfl (by kernel_rfl) (by kernel_rfl) rfl rfl (OpV.slice1 (bytes := 40) (v := .agg (leafL (ls.getD k leaf0)).toArray) Tryd.underlying50 Tryd.elem163 (by decide) rfl (leafL_vl _) (fun g63 => ⟨Sub.drop _ (Sub.keep _ (Sub.keep _ (Sub.keep _ (Sub.keep _ (Sub.keep _ (Sub.keep _ (Sub.nil []))))))), ?_⟩))
          refine D.opS (k := 8) (Sub.nil _) rfl (by kernel_rfl) (by kernel_rfl) rfl rfl (OpV.app2 (bytes := 40) (news := leafL (ls.getD k leaf0)) Tryd.underlying50 Tryd.elem163 rfl rfl (Has.blk (cs := leafL (ls.getD k leaf0)) (Has.at 0 rfl)) (by rw [leafL_length]) (leafL_one _) (by simp only [maxLen]; omega) (by (try dsimp only); omega) (fun O2 d2 => ⟨Sub.nil _, ?_⟩))
          refine D.qX (k := 9) rfl (by kernel_rfl) (by kernel_rfl) (by kernel_rfl) rfl rfl (Qt.field Tryd.underlying52 rfl Tryd.cells50 rfl) ?_
          refine D.opN (k := 10) (Sub.nil _) rfl (by kernel_rfl) (by kernel_rfl) rfl (OpV.storeC3 rfl (by conv => lhs; whnf) Tryd.cells50 rfl rfl (Nat.le_of_ble_eq_true rfl) ⟨Sub.nil _, ?_⟩)
          refine D.done (Sub.nil _) (by kernel_rfl) ?_
          refine TC.region ?_
          refine S.q rfl rfl (Qt.move (by conv => lhs; whnf)) ?_
          refine S.q rfl rfl (Qt.add (b := 1) rfl rfl (by simp only [kmax]; omega)) ?_
          refine S.q rfl rfl (Qt.assign (by conv => lhs; whnf)) ?_
          refine S.nil ?_
          refine ⟨(k + 1, out ++ [(i, h)] ++ [ls.getD k leaf0], true, O2, d2), ?_, ?_, ⟨?_, (List.forall_mem_cons.2 ⟨rfl, (List.forall_mem_cons.2 ⟨rfl, (fun _ h => nomatch h)⟩)⟩)⟩, (by dsimp only; simp only [len_snoc, flat_snoc]; exact Sub.trans (Sub.keep _ (Sub.keep _ (Sub.keep _ (Sub.keep _ (Sub.keep _ (Sub.drop _ (Sub.drop _ (Sub.nil [])))))))) (Sub.trans (Sub.keep _ (Sub.trans (Sub.keep _ (Sub.trans (Sub.keep _ (Sub.trans (Sub.keep _ (Sub.trans (Sub.keep _ (Sub.refl _)) (Sub.of_perm (List.perm_middle (l₁ := [_, _]))))) (Sub.of_perm (List.perm_middle (l₁ := [_, _]))))) (Sub.of_perm (List.perm_middle (l₁ := [_, _]))))) (Sub.of_perm (List.perm_middle (l₁ := [_, _]))))) (Sub.of_perm (List.perm_middle (l₁ := [_, _])))))⟩
          · exact ⟨by show _ ≤ _; dsimp only; omega, (hp.ins hi).keep h25 h55 (hlow _ (getD_mem (k := k) leaf0 h25)), (hq.ins hp.mono hs h25 h38).keep (hp.ins hi).mono hs h25 h55 (fun e => by cases e)⟩
          · show _ < _; dsimp only; omega
          repeat (first | exact Out.refl _ _ | refine Out.put rfl ?_ | refine Out.puts rfl ?_ | refine Out.scr ?_ | refine Out.scr' rfl ?_)
        · refine S.nil ?_
          refine S.if_f rfl ?_
          refine TC.skip ?_
          refine TC.region ?_
          refine S.q rfl rfl (Qt.move (by conv => lhs; whnf)) ?_
          refine S.q rfl rfl (Qt.add (b := 1) rfl rfl (by simp only [kmax]; omega)) ?_
          refine S.q rfl rfl (Qt.assign (by conv => lhs; whnf)) ?_
          refine S.nil ?_
          refine ⟨(k + 1, out ++ [(i, h)], true, O1, d1), ?_, ?_, ⟨?_, (List.forall_mem_cons.2 ⟨rfl, (List.forall_mem_cons.2 ⟨rfl, (fun _ h => nomatch h)⟩)⟩)⟩, (by dsimp only; simp only [len_snoc, flat_snoc]; exact Sub.trans (Sub.keep _ (Sub.keep _ (Sub.keep _ (Sub.keep _ (Sub.keep _ (Sub.drop _ (Sub.nil []))))))) (Sub.trans (Sub.keep _ (Sub.trans (Sub.keep _ (Sub.trans (Sub.keep _ (Sub.trans (Sub.keep _ (Sub.trans (Sub.keep _ (Sub.refl _)) (Sub.of_perm (List.perm_middle (l₁ := [_]))))) (Sub.of_perm (List.perm_middle (l₁ := [_]))))) (Sub.of_perm (List.perm_middle (l₁ := [_]))))) (Sub.of_perm (List.perm_middle (l₁ := [_]))))) (Sub.of_perm (List.perm_middle (l₁ := [_])))))⟩
          · exact ⟨by show _ ≤ _; dsimp only; omega, (hp.ins hi).drop h25 (Decidable.not_not.1 h55), (hq.ins hp.mono hs h25 h38).drop h25 (Decidable.not_not.1 h55) (fun e => by cases e)⟩
          · show _ < _; dsimp only; omega
          repeat (first | exact Out.refl _ _ | refine Out.put rfl ?_ | refine Out.puts rfl ?_ | refine Out.scr ?_ | refine Out.scr' rfl ?_)
      · refine S.q rfl rfl (Qt.pick_t rfl (by conv => lhs; whnf)) ?_
        refine S.nil ?_
        refine S.if_f rfl ?_
        refine TC.skip ?_
        refine TC.seq ?_
        refine TC.region ?_
        refine S.q rfl rfl (Qt.field Tryd.underlying52 rfl Tryd.cells50 rfl) ?_
        refine S.q rfl rfl (Qt.load rfl (Ld.one (Has.at 4 rfl) Tryd.one50 (rfl))) ?_
        refine S.q rfl rfl (Qt.move (by conv => lhs; whnf)) ?_
        refine S.q rfl rfl (Qt.index Tryd.underlying50 Tryd.cells163 rfl rfl (by omega) (Has.ro hL) (by rw [leafL_len]; omega)) ?_
        refine S.q rfl rfl (Qt.fieldS Tryd.underlying163 rfl Tryd.cells24 rfl (Has.ro hL) (by rw [leafL_len]; omega)) ?_
        refine S.q rfl rfl (Qt.load rfl (Ld.sl (v := .int .u64 ((ls.getD k leaf0).1 : Int)) (Has.ro hL) Tryd.one24 (leaf_at (by omega) 0 _ rfl))) ?_
        refine S.q rfl rfl (Qt.move (by conv => lhs; whnf)) ?_
        refine S.dec rfl rfl (Qt.ne rfl rfl) (fun h55 => ?_) (fun h55 => ?_)
        · refine S.nil ?_
          refine S.if_t rfl ?_
          refine S.draw ([8, 10], [7]) Tryd.mixed (Sub.nil _) ?_
          refine D.qX (k := 0) rfl (by kernel_rfl) (by kernel_rfl) (by kernel_rfl) rfl rfl (Qt.field Tryd.underlying52 rfl Tryd.cells50 rfl) ?_
          refine D.qX (k := 1) rfl (by kernel_rfl) (by kernel_rfl) (by kernel_rfl) rfl rfl (Qt.load rfl (Ld.one (Has.at 1 rfl) Tryd.one50 (rfl))) ?_
          refine D.qX (k := 2) rfl (by kernel_rfl) (by kernel_rfl) (by kernel_rfl) rfl rfl (Qt.field Tryd.underlying52 rfl Tryd.cells50 rfl) ?_
          refine D.qX (k := 3) rfl (by kernel_rfl) (by kernel_rfl) (by kernel_rfl) rfl rfl (Qt.load rfl (Ld.one (Has.at 4 rfl) Tryd.one50 (rfl))) ?_
          refine D.qX (k := 4) rfl (by kernel_rfl) (by kernel_rfl) (by kernel_rfl) rfl rfl (Qt.move (by conv => lhs; whnf)) ?_
          refine D.qX (k := 5) rfl (by kernel_rfl) (by kernel_rfl) (by kernel_rfl) rfl rfl (Qt.index Tryd.underlying50 Tryd.cells163 rfl rfl (by omega) (Has.ro hL) (by rw [leafL_len]; omega)) ?_
          refine D.qX (k := 6) rfl (by kernel_rfl) (by kernel_rfl) (by kernel_rfl) rfl rfl (Qt.load rfl (Ld.slr (vs := leafL (ls.getD k leaf0)) (Has.ro hL) Tryd.row163 (by rw [leafL_length]; exact Tryd.cells163) (by rw [leafL_length]; decide) (leaf_at (by omega)))) ?_
          refine D.nS (k := 7) (Sub.nil _) rfl (by kernel_rfl) (by kernel_rfl) rfl rfl (OpV.slice1 (bytes := 40) (v := .agg (leafL (ls.getD k leaf0)).toArray) Tryd.underlying50 Tryd.elem163 (by decide) rfl (leafL_vl _) (fun g63 => ⟨Sub.drop _ (Sub.keep _ (Sub.keep _ (Sub.keep _ (Sub.keep _ (Sub.keep _ (Sub.nil [])))))), ?_⟩))
          refine D.opS (k := 8) (Sub.nil _) rfl (by kernel_rfl) (by kernel_rfl) rfl rfl (OpV.app1 (bytes := 40) (news := leafL (ls.getD k leaf0)) Tryd.underlying50 Tryd.elem163 rfl rfl (Has.blk (cs := leafL (ls.getD k leaf0)) (Has.at 0 rfl)) (by rw [leafL_length]) (leafL_one _) (by simp only [maxLen]; omega) (by (try dsimp only); omega) (fun O2 d2 => ⟨Sub.nil _, ?_⟩))
          refine D.qX (k := 9) rfl (by kernel_rfl) (by kernel_rfl) (by kernel_rfl) rfl rfl (Qt.field Tryd.underlying52 rfl Tryd.cells50 rfl) ?_
          refine D.opN (k := 10) (Sub.nil _) rfl (by kernel_rfl) (by kernel_rfl) rfl (OpV.storeC2 rfl (by conv => lhs; whnf) Tryd.cells50 rfl rfl (Nat.le_of_ble_eq_true rfl) ⟨Sub.nil _, ?_⟩)
          refine D.done (Sub.nil _) (by kernel_rfl) ?_
          refine TC.region ?_
          refine S.q rfl rfl (Qt.move (by conv => lhs; whnf)) ?_
          refine S.q rfl rfl (Qt.add (b := 1) rfl rfl (by simp only [kmax]; omega)) ?_
          refine S.q rfl rfl (Qt.assign (by conv => lhs; whnf)) ?_
          refine S.nil ?_
          refine ⟨(k + 1, out ++ [ls.getD k leaf0], false, O2, d2), ?_, ?_, ⟨?_, (List.forall_mem_cons.2 ⟨rfl, (List.forall_mem_cons.2 ⟨rfl, (fun _ h => nomatch h)⟩)⟩)⟩, (by dsimp only; simp only [len_snoc, flat_snoc]; exact Sub.trans (Sub.keep _ (Sub.keep _ (Sub.keep _ (Sub.keep _ (Sub.keep _ (Sub.drop _ (Sub.nil []))))))) (Sub.trans (Sub.keep _ (Sub.trans (Sub.keep _ (Sub.trans (Sub.keep _ (Sub.trans (Sub.keep _ (Sub.trans (Sub.keep _ (Sub.refl _)) (Sub.of_perm (List.perm_middle (l₁ := [_]))))) (Sub.of_perm (List.perm_middle (l₁ := [_]))))) (Sub.of_perm (List.perm_middle (l₁ := [_]))))) (Sub.of_perm (List.perm_middle (l₁ := [_]))))) (Sub.of_perm (List.perm_middle (l₁ := [_])))))⟩
          · exact ⟨by show _ ≤ _; dsimp only; omega, hp.keep h25 h55 (hlow _ (getD_mem (k := k) leaf0 h25)), hq.keep hp.mono hs h25 h55 (fun _ => by omega)⟩
          · show _ < _; dsimp only; omega
          repeat (first | exact Out.refl _ _ | refine Out.put rfl ?_ | refine Out.puts rfl ?_ | refine Out.scr ?_ | refine Out.scr' rfl ?_)
        · refine S.nil ?_
          refine S.if_f rfl ?_
          refine TC.skip ?_
          refine TC.region ?_
          refine S.q rfl rfl (Qt.move (by conv => lhs; whnf)) ?_
          refine S.q rfl rfl (Qt.add (b := 1) rfl rfl (by simp only [kmax]; omega)) ?_
          refine S.q rfl rfl (Qt.assign (by conv => lhs; whnf)) ?_
          refine S.nil ?_
          refine ⟨(k + 1, out, false, A1, c1), ?_, ?_, ⟨?_, (List.forall_mem_cons.2 ⟨rfl, (List.forall_mem_cons.2 ⟨rfl, (fun _ h => nomatch h)⟩)⟩)⟩, Sub.refl _⟩
          · exact ⟨by show _ ≤ _; dsimp only; omega, hp.drop h25 (Decidable.not_not.1 h55), hq.drop h25 (Decidable.not_not.1 h55) (fun _ => by omega)⟩
          · show _ < _; dsimp only; omega
          repeat (first | exact Out.refl _ _ | refine Out.put rfl ?_ | refine Out.puts rfl ?_ | refine Out.scr ?_ | refine Out.scr' rfl ?_)
    · refine S.q rfl rfl (Qt.move rfl) ?_
      refine S.q rfl rfl (Qt.not_t rfl) ?_
      refine S.q rfl rfl (Qt.move (by conv => lhs; whnf)) ?_
      refine S.pass rfl rfl ?_
      refine S.pass rfl rfl ?_
      refine S.pass rfl rfl ?_
      refine S.pass rfl rfl ?_
      refine S.pass rfl rfl ?_
      refine S.pass rfl rfl ?_
      refine S.pass rfl rfl ?_
      refine S.pass rfl rfl ?_
      refine S.q rfl rfl (Qt.pick_f rfl (by conv => lhs; whnf)) ?_
      refine S.nil ?_
      refine S.if_f rfl ?_
      refine TC.skip ?_
      refine TC.seq ?_
      refine TC.region ?_
      refine S.q rfl rfl (Qt.field Tryd.underlying52 rfl Tryd.cells50 rfl) ?_
      refine S.q rfl rfl (Qt.load rfl (Ld.one (Has.at 4 rfl) Tryd.one50 (rfl))) ?_
      refine S.q rfl rfl (Qt.move (by conv => lhs; whnf)) ?_
      refine S.q rfl rfl (Qt.index Tryd.underlying50 Tryd.cells163 rfl rfl (by omega) (Has.ro hL) (by rw [leafL_len]; omega)) ?_
      refine S.q rfl rfl (Qt.fieldS Tryd.underlying163 rfl Tryd.cells24 rfl (Has.ro hL) (by rw [leafL_len]; omega)) ?_
      refine S.q rfl rfl (Qt.load rfl (Ld.sl (v := .int .u64 ((ls.getD k leaf0).1 : Int)) (Has.ro hL) Tryd.one24 (leaf_at (by omega) 0 _ rfl))) ?_
      refine S.q rfl rfl (Qt.move (by conv => lhs; whnf)) ?_
      refine S.dec rfl rfl (Qt.ne rfl rfl) (fun h55 => ?_) (fun h55 => ?_)
      · refine S.nil ?_
        refine S.if_t rfl ?_
        refine S.draw ([8, 10], [7]) Tryd.mixed (Sub.nil _) ?_
        refine D.qX (k := 0) rfl (by kernel_rfl) (by kernel_rfl) (by kernel_rfl) rfl rfl (Qt.field Tryd.underlying52 rfl Tryd.cells50 rfl) ?_
        refine D.qX (k := 1) rfl (by kernel_rfl) (by kernel_rfl) (by kernel_rfl) rfl rfl (Qt.load rfl (Ld.one (Has.at 1 rfl) Tryd.one50 (rfl))) ?_
        refine D.qX (k := 2) rfl (by kernel_rfl) (by kernel_rfl) (by kernel_rfl) rfl rfl (Qt.field Tryd.underlying52 rfl Tryd.cells50 rfl) ?_
        refine D.qX (k := 3) rfl (by kernel_rfl) (by kernel_rfl) (by kernel_rfl) rfl rfl (Qt.load rfl (Ld.one (Has.at 4 rfl) Tryd.one50 (rfl))) ?_
        refine D.qX (k := 4) rfl (by kernel_rfl) (by kernel_rfl) (by kernel_rfl) rfl rfl (Qt.move (by conv => lhs; whnf)) ?_
        refine D.qX (k := 5) rfl (by kernel_rfl) (by kernel_rfl) (by kernel_rfl) rfl rfl (Qt.index Tryd.underlying50 Tryd.cells163 rfl rfl (by omega) (Has.ro hL) (by rw [leafL_len]; omega)) ?_
        refine D.qX (k := 6) rfl (by kernel_rfl) (by kernel_rfl) (by kernel_rfl) rfl rfl (Qt.load rfl (Ld.slr (vs := leafL (ls.getD k leaf0)) (Has.ro hL) Tryd.row163 (by rw [leafL_length]; exact Tryd.cells163) (by rw [leafL_length]; decide) (leaf_at (by omega)))) ?_
        refine D.nS (k := 7) (Sub.nil _) rfl (by kernel_rfl) (by kernel_rfl) rfl rfl (OpV.slice1 (bytes := 40) (v := .agg (leafL (ls.getD k leaf0)).toArray) Tryd.underlying50 Tryd.elem163 (by decide) rfl (leafL_vl _) (fun g63 => ⟨Sub.drop _ (Sub.keep _ (Sub.keep _ (Sub.keep _ (Sub.keep _ (Sub.keep _ (Sub.nil [])))))), ?_⟩))
        refine D.opS (k := 8) (Sub.nil _) rfl (by kernel_rfl) (by kernel_rfl) rfl rfl (OpV.app1 (bytes := 40) (news := leafL (ls.getD k leaf0)) Tryd.underlying50 Tryd.elem163 rfl rfl (Has.blk (cs := leafL (ls.getD k leaf0)) (Has.at 0 rfl)) (by rw [leafL_length]) (leafL_one _) (by simp only [maxLen]; omega) (by (try dsimp only); omega) (fun O2 d2 => ⟨Sub.nil _, ?_⟩))
        refine D.qX (k := 9) rfl (by kernel_rfl) (by kernel_rfl) (by kernel_rfl) rfl rfl (Qt.field Tryd.underlying52 rfl Tryd.cells50 rfl) ?_
        refine D.opN (k := 10) (Sub.nil _) rfl (by kernel_rfl) (by kernel_rfl) rfl (OpV.storeC2 rfl (by conv => lhs; whnf) Tryd.cells50 rfl rfl (Nat.le_of_ble_eq_true rfl) ⟨Sub.nil _, ?_⟩)
        refine D.done (Sub.nil _) (by kernel_rfl) ?_
        refine TC.region ?_
        refine S.q rfl rfl (Qt.move (by conv => lhs; whnf)) ?_
        refine S.q rfl rfl (Qt.add (b := 1) rfl rfl (by simp only [kmax]; omega)) ?_
        refine S.q rfl rfl (Qt.assign (by conv => lhs; whnf)) ?_
        refine S.nil ?_
        refine ⟨(k + 1, out ++ [ls.getD k leaf0], true, O2, d2), ?_, ?_, ⟨?_, (List.forall_mem_cons.2 ⟨rfl, (List.forall_mem_cons.2 ⟨rfl, (fun _ h => nomatch h)⟩)⟩)⟩, (by dsimp only; simp only [len_snoc, flat_snoc]; exact Sub.trans (Sub.keep _ (Sub.keep _ (Sub.keep _ (Sub.keep _ (Sub.keep _ (Sub.drop _ (Sub.nil []))))))) (Sub.trans (Sub.keep _ (Sub.trans (Sub.keep _ (Sub.trans (Sub.keep _ (Sub.trans (Sub.keep _ (Sub.trans (Sub.keep _ (Sub.refl _)) (Sub.of_perm (List.perm_middle (l₁ := [_]))))) (Sub.of_perm (List.perm_middle (l₁ := [_]))))) (Sub.of_perm (List.perm_middle (l₁ := [_]))))) (Sub.of_perm (List.perm_middle (l₁ := [_]))))) (Sub.of_perm (List.perm_middle (l₁ := [_])))))⟩
        · exact ⟨by show _ ≤ _; dsimp only; omega, hp.keep h25 h55 (hlow _ (getD_mem (k := k) leaf0 h25)), hq.keep hp.mono hs h25 h55 (fun e => by cases e)⟩
        · show _ < _; dsimp only; omega
        repeat (first | exact Out.refl _ _ | refine Out.put rfl ?_ | refine Out.puts rfl ?_ | refine Out.scr ?_ | refine Out.scr' rfl ?_)
      · refine S.nil ?_
        refine S.if_f rfl ?_
        refine TC.skip ?_
        refine TC.region ?_
        refine S.q rfl rfl (Qt.move (by conv => lhs; whnf)) ?_
        refine S.q rfl rfl (Qt.add (b := 1) rfl rfl (by simp only [kmax]; omega)) ?_
        refine S.q rfl rfl (Qt.assign (by conv => lhs; whnf)) ?_
        refine S.nil ?_
        refine ⟨(k + 1, out, true, A1, c1), ?_, ?_, ⟨?_, (List.forall_mem_cons.2 ⟨rfl, (List.forall_mem_cons.2 ⟨rfl, (fun _ h => nomatch h)⟩)⟩)⟩, Sub.refl _⟩
        · exact ⟨by show _ ≤ _; dsimp only; omega, hp.drop h25 (Decidable.not_not.1 h55), hq.drop h25 (Decidable.not_not.1 h55) (fun e => by cases e)⟩
        · show _ < _; dsimp only; omega
        repeat (first | exact Out.refl _ _ | refine Out.put rfl ?_ | refine Out.puts rfl ?_ | refine Out.scr ?_ | refine Out.scr' rfl ?_)
  · refine S.nil ?_
    refine S.if_f rfl ?_
    refine TC.exit ?_
    refine TC.seq ?_
    refine TC.seq ?_
    refine TC.region ?_
    cases dn
    · refine S.q rfl rfl (Qt.move rfl) ?_
      refine S.q rfl rfl (Qt.not_f rfl) ?_
      refine S.nil ?_
      refine S.if_t rfl ?_
      refine TC.region ?_
      refine S.q rfl rfl (Qt.field Tryd.underlying52 rfl Tryd.cells50 rfl) ?_
      refine S.q rfl rfl (Qt.load rfl (Ld.one (Has.at 1 rfl) Tryd.one50 (rfl))) ?_
      refine S.q rfl rfl (Qt.move (by conv => lhs; whnf)) ?_
      refine S.q rfl rfl (Qt.load rfl (Ld.hash1 (x := h) (Has.at 3 rfl) Tryd.row23 Tryd.cells23)) ?_
      refine S.q rfl rfl (Qt.as (Qt.buildS (vs := [.int .u64 (i : Int), hv h]) (pls := #[(0, 1), (1, 32)]) Tryd.underlying163 (fun w => by kernel_rfl) Tryd.zero163 rfl ⟨rfl, (by show some (1, 32) = some (1, _); rw [hv_len]), trivial⟩ (by rw [List.flatMap_cons, List.flatMap_singleton]; show 33 = ([Value.int .u64 (i : Int)] ++ vl (hv h)).length; rw [List.length_append, hv_len]; rfl)) (show _ = Value.agg (leafL (i, h)).toArray by rw [List.flatMap_cons, List.flatMap_singleton, vl_hv]; rfl)) ?_
      refine S.opS rfl rfl (OpV.slice1 (bytes := 40) (v := .agg (leafL ((i, h))).toArray) Tryd.underlying50 Tryd.elem163 (by decide) rfl (leafL_vl _) (fun g73 => ?_))
      refine S.opS rfl rfl (OpV.app1 (bytes := 40) (news := leafL ((i, h))) Tryd.underlying50 Tryd.elem163 rfl rfl (Has.blk (cs := leafL ((i, h))) (Has.at 0 rfl)) (by rw [leafL_length]) (leafL_one _) (by simp only [maxLen]; omega) (by (try dsimp only); omega) (fun O1 d1 => ?_))
      refine S.q rfl rfl (Qt.field Tryd.underlying52 rfl Tryd.cells50 rfl) ?_
      refine S.opN rfl (OpV.storeC2 rfl (by conv => lhs; whnf) Tryd.cells50 rfl rfl (Nat.le_of_ble_eq_true rfl) ?_)
      refine S.nil ?_
      refine TC.seq ?_
      refine TC.region ?_
      refine S.q rfl rfl (Qt.load rfl (Ld.all (Has.at 2 rfl) Tryd.row52 (Tryd.cells52))) ?_
      refine S.opN rfl (OpV.storeV3 rfl (by conv => lhs; whnf) (by exact Tryd.cells52) (by rfl) (by rfl) ?_)
      refine S.nil ?_
      refine TC.ret ?_
      refine finQ.ret (RVs.cell rfl (Ld.all (Has.at 3 rfl) Tryd.row52 (Tryd.cells52)) RVs.nil) (Sub.trans (Sub.keep _ (Sub.drop _ (Sub.drop _ (Sub.drop _ (Sub.drop _ (Sub.drop _ (Sub.nil []))))))) (Sub.trans (Sub.keep _ (Sub.refl _)) (Sub.of_perm (List.perm_middle (l₁ := [_]))))) ?_
      exact ⟨_, O1, d1, by rw [len_snoc]; rfl, by rw [len_snoc, flat_snoc], (hp.ins hi).end (fun e => of_decide_eq_true e) (by omega), hq.end2 hp.mono rfl (by omega)⟩
    · refine S.q rfl rfl (Qt.move rfl) ?_
      refine S.q rfl rfl (Qt.not_t rfl) ?_
      refine S.nil ?_
      refine S.if_f rfl ?_
      refine TC.skip ?_
      refine TC.seq ?_
      refine TC.region ?_
      refine S.q rfl rfl (Qt.load rfl (Ld.all (Has.at 1 rfl) Tryd.row52 (Tryd.cells52))) ?_
      refine S.opN rfl (OpV.storeV2 rfl (by conv => lhs; whnf) (by exact Tryd.cells52) (by rfl) (by rfl) ?_)
      refine S.nil ?_
      refine TC.ret ?_
      refine finQ.ret (RVs.cell rfl (Ld.all (Has.at 2 rfl) Tryd.row52 (Tryd.cells52)) RVs.nil) (Sub.keep _ (Sub.drop _ (Sub.drop _ (Sub.drop _ (Sub.drop _ (Sub.nil [])))))) ?_
      exact ⟨out, A1, c1, rfl, rfl, hp.end (fun e => of_decide_eq_true e) (by omega), hq.end rfl (by omega)⟩
set_option maxHeartbeats 1600000 in
theorem both2_walk (E : Nat → H32) (hEm : ∀ w, Tabs 2 0 w [] → Calls Tryd.prog 88 #[] w (Ret w (.agg (hcs (emptL E)).toArray))) (hE : ∀ h, E (h + 1) = joinH (h + 1) (E h) (E h)) (hEr : ∀ w, Tabs 3 1 w [] → Calls Tryd.prog 90 #[] w (Post w [] fun v L => ∃ O d, v = .slice O 33 d ∧ L = [OwnA 23 32 O 33 d (hcs (emptL E))])) (height : Nat) (hh : height ≤ 32) (A : Option Addr) (c : Nat) (xs : List Go.E.Act) (hxs : xs.length ≤ 25) (w0 : World) (hR : Ro w0 [] (SlA A (xs.flatMap actL))) (hT : Tabs 2 0 w0 []) (hT2 : Tabs 3 1 w0 []) :
    Calls Tryd.prog 32 #[.int .i64 (height : Int), .slice A xs.length c] w0 (Post w0 [] fun v L => ∃ tb mb ms ls Al cl O d, v = .tuple #[.pointer (some ⟨tb, 0, none⟩), .agg #[.int .i64 (height : Int), .slice Al ls.length cl, .slice O 33 d], .bool true, .bool true] ∧ L = [Blk tb 150 (treeCs E height mb), MapA mb encAt hv (ms), OwnA 163 33 Al (ls).length cl ((ls).flatMap leafL), OwnA 23 32 O 33 d (hcs (emptL E))] ∧ TreeOk E height (fL E ls) ms ∧ LsOk E height ls ∧ InS E xs xs.length (fL E ls) ∧ ls.length ≤ 25 ∧ ∀ x ∈ ls, x.1 < 18446744073709551616) := by
  refine Calls.of (L := []) (n := 82) (rs := [.tmp 4, .cell 5 52, .tmp 6, .tmp 7]) Tryd.func32 rfl rfl rfl (Nat.le_of_ble_eq_true rfl) (Sat.nil _) ?_
  refine TC.ownNil 163 33 ?_
  refine TC.seq ?_
  refine TC.region ?_
  refine S.q rfl rfl (Qt.assign (by conv => lhs; whnf)) ?_
  refine S.opS rfl rfl (OpV.alloc Tryd.zero52 (fun b5 => ?_))
  refine S.q rfl rfl (Qt.assign (by conv => lhs; whnf)) ?_
  refine S.q rfl rfl (Qt.assign (by conv => lhs; whnf)) ?_
  refine S.nil ?_
  refine TC.seq ?_
  refine TC.seq ?_
  refine TC.region ?_
  refine S.q rfl rfl (Qt.move (by conv => lhs; whnf)) ?_
  refine S.q rfl rfl (Qt.len_slice Tryd.underlying34 rfl) ?_
  refine S.q rfl rfl (Qt.dF (Qt.gt (b := 25) rfl rfl) (by omega)) ?_
  refine S.nil ?_
  refine S.if_f rfl ?_
  refine TC.skip ?_
  refine TC.seq ?_
  refine TC.region ?_
  refine S.q rfl rfl (Qt.move (by conv => lhs; whnf)) ?_
  refine S.opS rfl rfl (OpV.con (Pre := []) (R := _) Tryd.ent26 rfl (List.Perm.refl _) (fun w hw => new_walk E hEm height hh w (hT.at hw)) ?_)
  rintro v L' ⟨tb, mb, rfl, rfl⟩
  refine S.q rfl rfl (Qt.move (by conv => lhs; whnf)) ?_
  refine S.q rfl rfl (Qt.extract rfl rfl) ?_
  refine S.q rfl rfl (Qt.extract rfl rfl) ?_
  refine S.q rfl rfl (Qt.assign (by conv => lhs; whnf)) ?_
  refine S.q rfl rfl (Qt.assign (by conv => lhs; whnf)) ?_
  refine S.nil ?_
  refine TC.seq ?_
  refine TC.seq ?_
  refine TC.region ?_
  refine S.q rfl rfl (Qt.move (by conv => lhs; whnf)) ?_
  refine S.q rfl rfl (Qt.dF (Qt.lt (b := 0) rfl rfl) (by omega)) ?_
  refine S.q rfl rfl (Qt.move (by conv => lhs; whnf)) ?_
  refine S.qg rfl rfl rfl (Qt.move (by conv => lhs; whnf)) ?_
  refine S.qg rfl rfl rfl (Qt.dF (Qt.gt (b := 32) rfl rfl) (by omega)) ?_
  refine S.q rfl rfl (Qt.pick_f rfl (by conv => lhs; whnf)) ?_
  refine S.nil ?_
  refine S.if_f rfl ?_
  refine TC.skip ?_
  refine TC.seq ?_
  refine TC.region ?_
  refine S.q rfl rfl (Qt.move (by conv => lhs; whnf)) ?_
  refine S.opS rfl rfl (OpV.con (Pre := []) (R := _) Tryd.ent97 rfl (List.Perm.refl _) (fun w hw => rnew_walk E hEr height w (hT2.at hw)) ?_)
  rintro v L' ⟨O, d, rfl, rfl⟩
  refine S.opS rfl rfl (OpV.alloc Tryd.zero52 (fun b10 => ?_))
  refine S.opN rfl (OpV.storeV0 rfl (by conv => lhs; whnf) (by exact Tryd.cells52) (by rfl) (by rfl) ?_)
  refine S.nil ?_
  refine TC.seq ?_
  refine TC.seq ?_
  refine TC.region ?_
  refine S.q rfl rfl (Qt.move (by conv => lhs; whnf)) ?_
  refine S.q rfl rfl (Qt.len_slice Tryd.underlying34 rfl) ?_
  refine S.q rfl rfl (Qt.move (by conv => lhs; whnf)) ?_
  refine S.nil ?_
  refine TC.block ?_
  refine TC.loop (γ := Nat × Tm × Ls × Option Addr × Nat) [42, 43, 44, 12, 13, 45, 46, 47, 48, 49, 50, 51, 14, 52, 53, 54, 55, 56, 57, 58, 59, 60, 61, 9, 62, 63, 64, 65, 66, 67, 68, 69, 70, 71, 4, 6, 7, 72, 73, 74, 75, 76, 77, 78, 79, 41] (fun g => [(41, .int .i64 ((g.1 : Nat) : Int))]) (fun g => [Blk b10 52 [.int .i64 (height : Int), .slice g.2.2.2.1 g.2.2.1.length g.2.2.2.2, .slice O 33 d], OwnA 23 32 O 33 d (hcs (emptL E)), Blk tb 150 (treeCs E height mb), MapA mb encAt hv (g.2.1), Blk b5 52 [.int .i64 0, .slice none 0 0, .slice none 0 0], OwnA 163 33 g.2.2.2.1 (g.2.2.1).length g.2.2.2.2 ((g.2.2.1).flatMap leafL)]) (fun g => g.1 ≤ xs.length ∧ TreeOk E height (fL E g.2.2.1) g.2.1 ∧ g.2.2.1.length ≤ g.1 ∧ LsOk E height g.2.2.1 ∧ InS E xs g.1 (fL E g.2.2.1) ∧ ∀ x ∈ g.2.2.1, x.1 < 18446744073709551616) (fun g => xs.length - g.1) ((0, [], [], none, 0))
    ⟨Nat.zero_le _, TreeOk.empty hE height, Nat.le_refl _, LsOk.nil E height, InS.zero E xs, fun x hx => by cases hx⟩ ⟨Out.refl _ _, (List.forall_mem_cons.2 ⟨rfl, (fun _ h => nomatch h)⟩)⟩ (Sub.refl _) ?_
  rintro ⟨k, ms, ls, Al, cl⟩ u ⟨hk, ht, hll, ho, hin, hlow⟩
  dsimp only at hk ht hll ho hin hlow
  refine TC.seq ?_
  refine TC.region ?_
  refine S.dec rfl rfl (Qt.lt rfl rfl) (fun h42 => ?_) (fun h42 => ?_)
  · refine S.nil ?_
    refine TC.seq ?_
    refine S.if_t rfl ?_
    refine TC.skip ?_
    refine TC.seq ?_
    refine TC.block ?_
    refine TC.seq ?_
    refine TC.region ?_
    refine S.q rfl rfl (Qt.index Tryd.underlying34 Tryd.cells40 rfl rfl (by omega) (Has.ro hR) (by rw [acts_len]; omega)) ?_
    refine S.q rfl rfl (Qt.load rfl (Ld.slr (Has.ro hR) Tryd.row40 (by rw [actL_length]; exact Tryd.cells40) (by rw [actL_length]; decide) (acts_at h42))) ?_
    refine S.opS rfl rfl (OpV.alloc Tryd.zero40 (fun b12 => ?_))
    refine S.opN rfl (OpV.storeV0 (v := .agg (actL (xs.getD k act0)).toArray) rfl rfl (by rw [actL_vl]; exact Tryd.cells40) (actL_one _) (by rw [actL_vl]; rfl) ?_)
    refine S.nil ?_
    refine TC.seq ?_
    refine TC.region ?_
    refine S.q rfl rfl (Qt.assign (by conv => lhs; whnf)) ?_
    refine S.nil ?_
    refine TC.seq ?_
    refine TC.seq ?_
    refine TC.region ?_
    refine S.q rfl rfl (Qt.load rfl (Ld.all (Has.at 1 rfl) Tryd.row52 (Tryd.cells52))) ?_
    refine S.q rfl rfl (Qt.field Tryd.underlying40 rfl Tryd.cells24 rfl) ?_
    refine S.q rfl rfl (Qt.load rfl (Ld.one (Has.at 0 rfl) Tryd.one24 (rfl))) ?_
    by_cases hs : (xs.getD k act0).i < 2 ^ height
    · refine S.opS rfl rfl (OpV.con0 Tryd.ent34 rfl (fun w hw => rhas_T height 0 (xs.getD k act0).i hh (ok0 hs) Al ls.length cl O d w) ?_)
      refine S.q rfl rfl (Qt.not_t rfl) ?_
      refine S.nil ?_
      refine S.if_f rfl ?_
      refine TC.skip ?_
      refine TC.seq ?_
      refine TC.region ?_
      refine S.q rfl rfl (Qt.field Tryd.underlying40 rfl Tryd.cells23 rfl) ?_
      refine S.q rfl rfl (Qt.load rfl (Ld.row (vs := hvl (xs.getD k act0).h) (Has.at 0 rfl) Tryd.row23 (by rw [hvl_length]; exact Tryd.cells23) (actL_hash _))) ?_
      refine S.opS rfl rfl (OpV.alloc Tryd.zero23 (fun b14 => ?_))
      refine S.opN rfl (OpV.storeV0 (v := hv (_)) rfl rfl (hv_size Tryd.cells23) (hv_all _) (hv_len _) ?_)
      refine S.nil ?_
      refine TC.seq ?_
      refine TC.seq ?_
      refine TC.region ?_
      refine S.q rfl rfl (Qt.field Tryd.underlying40 rfl Tryd.cells4 rfl) ?_
      cases hd : (xs.getD k act0).d
      · refine S.q rfl rfl (Qt.as (v' := .bool false) (Qt.load rfl (Ld.one (Has.at 1 rfl) Tryd.one4 (actL_bool _))) (by rw [hd])) ?_
        refine S.nil ?_
        refine S.if_f rfl ?_
        refine TC.region ?_
        refine S.q rfl rfl (Qt.move (by conv => lhs; whnf)) ?_
        refine S.q rfl rfl (Qt.field Tryd.underlying40 rfl Tryd.cells24 rfl) ?_
        refine S.q rfl rfl (Qt.load rfl (Ld.one (Has.at 1 rfl) Tryd.one24 (rfl))) ?_
        refine S.q rfl rfl (Qt.load rfl (Ld.hash1 (x := (xs.getD k act0).h) (Has.at 0 rfl) Tryd.row23 Tryd.cells23)) ?_
        refine S.opS rfl rfl (OpV.con (Pre := [Blk tb 150 (treeCs E height mb), MapA mb encAt hv (ms)]) (R := _) Tryd.ent27 rfl ((List.perm_middle (l₁ := [_, _, _, _])).trans (List.Perm.cons _ (List.perm_middle (l₁ := [_, _, _, _])))) (fun w hw => set_walk E tb mb height ms (xs.getD k act0).i _ hh hs w hw.sat.left (hT.pre hw)) ?_)
        rintro v L' ⟨rfl, rfl⟩
        refine S.q rfl rfl (Qt.assign (by conv => lhs; whnf)) ?_
        refine S.nil ?_
        refine TC.seq ?_
        refine TC.seq ?_
        refine TC.region ?_
        refine S.q rfl rfl (Qt.move (by conv => lhs; whnf)) ?_
        refine S.opS rfl rfl (OpV.con0 Tryd.ent24 rfl (fun w hw => Calls.ret (num_nil_walk w)) ?_)
        refine S.q rfl rfl (Qt.move (by conv => lhs; whnf)) ?_
        refine S.q rfl rfl (Qt.dF (Qt.nei (m := 0) (n := 0) rfl rfl) (by decide)) ?_
        refine S.nil ?_
        refine S.if_f rfl ?_
        refine TC.skip ?_
        refine TC.seq ?_
        refine TC.region ?_
        refine S.q rfl rfl (Qt.move (by conv => lhs; whnf)) ?_
        refine S.q rfl rfl (Qt.dT (Qt.eqi (m := 0) (n := 0) rfl rfl) rfl) ?_
        refine S.nil ?_
        refine S.if_t rfl ?_
        refine TC.region ?_
        refine S.q rfl rfl (Qt.load rfl (Ld.all (Has.at 4 rfl) Tryd.row52 (Tryd.cells52))) ?_
        refine S.q rfl rfl (Qt.field Tryd.underlying40 rfl Tryd.cells24 rfl) ?_
        refine S.q rfl rfl (Qt.load rfl (Ld.one (Has.at 3 rfl) Tryd.one24 (rfl))) ?_
        refine S.q rfl rfl (Qt.load rfl (Ld.hash1 (x := (xs.getD k act0).h) (Has.at 2 rfl) Tryd.row23 Tryd.cells23)) ?_
        refine S.opS rfl rfl (OpV.con (Pre := []) (R := _) Tryd.ent98 rfl (List.Perm.refl _) (fun w hw => rset2_walk E height ls Al cl O d (xs.getD k act0).i ((xs.getD k act0).h) (xs.getD k act0).lt w (by omega) hlow (Rd.own (Rd.at 7 rfl) w hw) (Rd.own (Rd.at 5 rfl) w hw) ho.rise) ?_)
        rintro v L' ⟨ls2, A2, c2, rfl, rfl, hset, hsl⟩
        refine S.opN rfl (OpV.storeV5 rfl (by conv => lhs; whnf) (by exact Tryd.cells52) (by rfl) (by rfl) ?_)
        refine S.nil ?_
        refine TC.region ?_
        refine S.q rfl rfl (Qt.add (b := 1) rfl rfl (by simp only [kmax]; omega)) ?_
        refine S.q rfl rfl (Qt.move (by conv => lhs; whnf)) ?_
        refine S.nil ?_
        refine ⟨(k + 1, setK E ms (xs.getD k act0).i ((xs.getD k act0).h) height, ls2, A2, c2), ?_, ?_, ⟨?_, (List.forall_mem_cons.2 ⟨rfl, (fun _ h => nomatch h)⟩)⟩, Sub.trans (Sub.keep _ (Sub.keep _ (Sub.keep _ (Sub.keep _ (Sub.keep _ (Sub.keep _ (Sub.drop _ (Sub.drop _ (Sub.drop _ (Sub.nil [])))))))))) (Sub.trans (Sub.keep _ (Sub.trans (Sub.keep _ (Sub.trans (Sub.keep _ (Sub.trans (Sub.keep _ (Sub.trans (Sub.keep _ (Sub.refl _)) (Sub.of_perm (List.perm_middle (l₁ := [_, _, _]))))) (Sub.of_perm (List.perm_middle (l₁ := [_]))))) (Sub.of_perm (List.perm_middle (l₁ := [_]))))) (Sub.of_perm (List.perm_middle (l₁ := [_, _, _, _, _]))))) (Sub.of_perm (List.perm_middle (l₁ := [_, _, _, _, _]))))⟩
        · exact ⟨by show _ ≤ _; dsimp only; omega, hset.tree ht hs, by have := hset.len; dsimp only; omega, by dsimp only; rw [hsl]; exact ho.set hs _, (hin.set h42 _).congr hset.val, hset.low⟩
        · show _ < _; dsimp only; omega
        repeat (first | exact Out.refl _ _ | refine Out.put rfl ?_ | refine Out.puts rfl ?_ | refine Out.scr ?_ | refine Out.scr' rfl ?_)
      · refine S.q rfl rfl (Qt.as (v' := .bool true) (Qt.load rfl (Ld.one (Has.at 1 rfl) Tryd.one4 (actL_bool _))) (by rw [hd])) ?_
        refine S.nil ?_
        refine S.if_t rfl ?_
        refine TC.seq ?_
        refine TC.region ?_
        refine S.q rfl rfl (Qt.field Tryd.underlying52 rfl Tryd.cells44 rfl) ?_
        refine S.q rfl rfl (Qt.load rfl (Ld.one (Has.at 2 rfl) Tryd.one44 (rfl))) ?_
        refine S.q rfl rfl (Qt.index (i := 0) Tryd.underlying44 Tryd.cells23 rfl rfl (by omega) (Has.own (Has.at 3 rfl)) (by rw [hcs_length, emptL_length]; omega)) ?_
        refine S.q rfl rfl (Qt.as (Qt.load rfl (Ld.hashS (Has.own (Has.at 3 rfl)) 0 Tryd.row23 Tryd.cells23 (by rw [emptL_length]; omega) rfl)) (by rw [emptL_get E (by omega)])) ?_
        refine S.opN rfl (OpV.storeV0 (v := hv (E 0)) rfl rfl (hv_size Tryd.cells23) (hv_all _) (by rw [hv_len, hv_len]) ?_)
        refine S.nil ?_
        refine TC.region ?_
        refine S.q rfl rfl (Qt.move (by conv => lhs; whnf)) ?_
        refine S.q rfl rfl (Qt.field Tryd.underlying40 rfl Tryd.cells24 rfl) ?_
        refine S.q rfl rfl (Qt.load rfl (Ld.one (Has.at 1 rfl) Tryd.one24 (rfl))) ?_
        refine S.opS rfl rfl (OpV.con (Pre := [Blk tb 150 (treeCs E height mb), MapA mb encAt hv (ms)]) (R := _) Tryd.ent78 rfl ((List.perm_middle (l₁ := [_, _, _, _])).trans (List.Perm.cons _ (List.perm_middle (l₁ := [_, _, _, _])))) (fun w hw => drop_walk E tb mb height ms (xs.getD k act0).i hh hs w hw.sat.left (hT.pre hw)) ?_)
        rintro v L' ⟨rfl, rfl⟩
        refine S.q rfl rfl (Qt.assign (by conv => lhs; whnf)) ?_
        refine S.nil ?_
        refine TC.seq ?_
        refine TC.seq ?_
        refine TC.region ?_
        refine S.q rfl rfl (Qt.move (by conv => lhs; whnf)) ?_
        refine S.opS rfl rfl (OpV.con0 Tryd.ent24 rfl (fun w hw => Calls.ret (num_nil_walk w)) ?_)
        refine S.q rfl rfl (Qt.move (by conv => lhs; whnf)) ?_
        refine S.q rfl rfl (Qt.dF (Qt.nei (m := 0) (n := 0) rfl rfl) (by decide)) ?_
        refine S.nil ?_
        refine S.if_f rfl ?_
        refine TC.skip ?_
        refine TC.seq ?_
        refine TC.region ?_
        refine S.q rfl rfl (Qt.move (by conv => lhs; whnf)) ?_
        refine S.q rfl rfl (Qt.dT (Qt.eqi (m := 0) (n := 0) rfl rfl) rfl) ?_
        refine S.nil ?_
        refine S.if_t rfl ?_
        refine TC.region ?_
        refine S.q rfl rfl (Qt.load rfl (Ld.all (Has.at 4 rfl) Tryd.row52 (Tryd.cells52))) ?_
        refine S.q rfl rfl (Qt.field Tryd.underlying40 rfl Tryd.cells24 rfl) ?_
        refine S.q rfl rfl (Qt.load rfl (Ld.one (Has.at 3 rfl) Tryd.one24 (rfl))) ?_
        refine S.q rfl rfl (Qt.load rfl (Ld.hash1 (x := E 0) (Has.at 2 rfl) Tryd.row23 Tryd.cells23)) ?_
        refine S.opS rfl rfl (OpV.con (Pre := []) (R := _) Tryd.ent98 rfl (List.Perm.refl _) (fun w hw => rset2_walk E height ls Al cl O d (xs.getD k act0).i (E 0) (xs.getD k act0).lt w (by omega) hlow (Rd.own (Rd.at 7 rfl) w hw) (Rd.own (Rd.at 5 rfl) w hw) ho.rise) ?_)
        rintro v L' ⟨ls2, A2, c2, rfl, rfl, hset, hsl⟩
        refine S.opN rfl (OpV.storeV5 rfl (by conv => lhs; whnf) (by exact Tryd.cells52) (by rfl) (by rfl) ?_)
        refine S.nil ?_
        refine TC.region ?_
        refine S.q rfl rfl (Qt.add (b := 1) rfl rfl (by simp only [kmax]; omega)) ?_
        refine S.q rfl rfl (Qt.move (by conv => lhs; whnf)) ?_
        refine S.nil ?_
        refine ⟨(k + 1, setK E ms (xs.getD k act0).i (E 0) height, ls2, A2, c2), ?_, ?_, ⟨?_, (List.forall_mem_cons.2 ⟨rfl, (fun _ h => nomatch h)⟩)⟩, Sub.trans (Sub.keep _ (Sub.keep _ (Sub.keep _ (Sub.keep _ (Sub.keep _ (Sub.keep _ (Sub.drop _ (Sub.drop _ (Sub.drop _ (Sub.nil [])))))))))) (Sub.trans (Sub.keep _ (Sub.trans (Sub.keep _ (Sub.trans (Sub.keep _ (Sub.trans (Sub.keep _ (Sub.trans (Sub.keep _ (Sub.refl _)) (Sub.of_perm (List.perm_middle (l₁ := [_, _, _]))))) (Sub.of_perm (List.perm_middle (l₁ := [_]))))) (Sub.of_perm (List.perm_middle (l₁ := [_]))))) (Sub.of_perm (List.perm_middle (l₁ := [_, _, _, _, _]))))) (Sub.of_perm (List.perm_middle (l₁ := [_, _, _, _, _]))))⟩
        · exact ⟨by show _ ≤ _; dsimp only; omega, hset.tree ht hs, by have := hset.len; dsimp only; omega, by dsimp only; rw [hsl]; exact ho.set hs _, (hin.set h42 _).congr hset.val, hset.low⟩
        · show _ < _; dsimp only; omega
        repeat (first | exact Out.refl _ _ | refine Out.put rfl ?_ | refine Out.puts rfl ?_ | refine Out.scr ?_ | refine Out.scr' rfl ?_)
    · refine S.opS rfl rfl (OpV.con0 Tryd.ent34 rfl (fun w hw => rhas_F height 0 (xs.getD k act0).i hh (xs.getD k act0).lt (not_ok0 hs) Al ls.length cl O d w) ?_)
      refine S.q rfl rfl (Qt.not_f rfl) ?_
      refine S.nil ?_
      refine S.if_t rfl ?_
      refine TC.region ?_
      refine S.q rfl rfl (Qt.assign (by conv => lhs; whnf)) ?_
      refine S.nil ?_
      refine TC.seq ?_
      refine TC.region ?_
      refine S.q rfl rfl (Qt.field Tryd.underlying40 rfl Tryd.cells23 rfl) ?_
      refine S.q rfl rfl (Qt.load rfl (Ld.row (vs := hvl (xs.getD k act0).h) (Has.at 0 rfl) Tryd.row23 (by rw [hvl_length]; exact Tryd.cells23) (actL_hash _))) ?_
      refine S.opS rfl rfl (OpV.alloc Tryd.zero23 (fun b14 => ?_))
      refine S.opN rfl (OpV.storeV0 (v := hv (_)) rfl rfl (hv_size Tryd.cells23) (hv_all _) (hv_len _) ?_)
      refine S.nil ?_
      refine TC.seq ?_
      refine TC.seq ?_
      refine TC.region ?_
      refine S.q rfl rfl (Qt.field Tryd.underlying40 rfl Tryd.cells4 rfl) ?_
      cases hd : (xs.getD k act0).d
      · refine S.q rfl rfl (Qt.as (v' := .bool false) (Qt.load rfl (Ld.one (Has.at 1 rfl) Tryd.one4 (actL_bool _))) (by rw [hd])) ?_
        refine S.nil ?_
        refine S.if_f rfl ?_
        refine TC.region ?_
        refine S.q rfl rfl (Qt.move (by conv => lhs; whnf)) ?_
        refine S.q rfl rfl (Qt.field Tryd.underlying40 rfl Tryd.cells24 rfl) ?_
        refine S.q rfl rfl (Qt.load rfl (Ld.one (Has.at 1 rfl) Tryd.one24 (rfl))) ?_
        refine S.q rfl rfl (Qt.load rfl (Ld.hash1 (x := (xs.getD k act0).h) (Has.at 0 rfl) Tryd.row23 Tryd.cells23)) ?_
        refine S.opS rfl rfl (OpV.con0 Tryd.ent27 rfl (fun w hw => setF_R E tb mb height (xs.getD k act0).i _ hh (xs.getD k act0).lt hs w (Rd.at 4 rfl w hw)) ?_)
        refine S.q rfl rfl (Qt.assign (by conv => lhs; whnf)) ?_
        refine S.nil ?_
        refine TC.seq ?_
        refine TC.seq ?_
        refine TC.region ?_
        refine S.q rfl rfl (Qt.move (by conv => lhs; whnf)) ?_
        refine S.opS rfl rfl (OpV.con0 Tryd.ent24 rfl (fun w hw => Calls.ret (num_pos_walk 1 (by decide) w)) ?_)
        refine S.q rfl rfl (Qt.move (by conv => lhs; whnf)) ?_
        refine S.q rfl rfl (Qt.dF (Qt.nei (m := 1) (n := 1) rfl rfl) (by decide)) ?_
        refine S.nil ?_
        refine S.if_f rfl ?_
        refine TC.skip ?_
        refine TC.seq ?_
        refine TC.region ?_
        refine S.q rfl rfl (Qt.move (by conv => lhs; whnf)) ?_
        refine S.q rfl rfl (Qt.dF (Qt.eqi (m := 1) (n := 0) rfl rfl) (by decide)) ?_
        refine S.nil ?_
        refine S.if_f rfl ?_
        refine TC.skip ?_
        refine TC.region ?_
        refine S.q rfl rfl (Qt.add (b := 1) rfl rfl (by simp only [kmax]; omega)) ?_
        refine S.q rfl rfl (Qt.move (by conv => lhs; whnf)) ?_
        refine S.nil ?_
        refine ⟨(k + 1, ms, ls, Al, cl), ?_, ?_, ⟨?_, (List.forall_mem_cons.2 ⟨rfl, (fun _ h => nomatch h)⟩)⟩, Sub.trans (Sub.keep _ (Sub.keep _ (Sub.keep _ (Sub.keep _ (Sub.keep _ (Sub.keep _ (Sub.drop _ (Sub.drop _ (Sub.nil []))))))))) (Sub.trans (Sub.keep _ (Sub.trans (Sub.keep _ (Sub.trans (Sub.keep _ (Sub.trans (Sub.keep _ (Sub.trans (Sub.keep _ (Sub.trans (Sub.keep _ (Sub.refl _)) (Sub.of_perm (List.perm_middle (l₁ := [_, _]))))) (Sub.of_perm (List.perm_middle (l₁ := [_, _]))))) (Sub.of_perm (List.perm_middle (l₁ := [_, _]))))) (Sub.of_perm (List.perm_middle (l₁ := [_, _]))))) (Sub.of_perm (List.perm_middle (l₁ := [_, _]))))) (Sub.of_perm (List.perm_middle (l₁ := [_, _]))))⟩
        · exact ⟨by show _ ≤ _; dsimp only; omega, ht, by dsimp only; omega, ho, hin.skip h42, hlow⟩
        · show _ < _; dsimp only; omega
        repeat (first | exact Out.refl _ _ | refine Out.put rfl ?_ | refine Out.puts rfl ?_ | refine Out.scr ?_ | refine Out.scr' rfl ?_)
      · refine S.q rfl rfl (Qt.as (v' := .bool true) (Qt.load rfl (Ld.one (Has.at 1 rfl) Tryd.one4 (actL_bool _))) (by rw [hd])) ?_
        refine S.nil ?_
        refine S.if_t rfl ?_
        refine TC.seq ?_
        refine TC.region ?_
        refine S.q rfl rfl (Qt.field Tryd.underlying52 rfl Tryd.cells44 rfl) ?_
        refine S.q rfl rfl (Qt.load rfl (Ld.one (Has.at 2 rfl) Tryd.one44 (rfl))) ?_
        refine S.q rfl rfl (Qt.index (i := 0) Tryd.underlying44 Tryd.cells23 rfl rfl (by omega) (Has.own (Has.at 3 rfl)) (by rw [hcs_length, emptL_length]; omega)) ?_
        refine S.q rfl rfl (Qt.as (Qt.load rfl (Ld.hashS (Has.own (Has.at 3 rfl)) 0 Tryd.row23 Tryd.cells23 (by rw [emptL_length]; omega) rfl)) (by rw [emptL_get E (by omega)])) ?_
        refine S.opN rfl (OpV.storeV0 (v := hv (E 0)) rfl rfl (hv_size Tryd.cells23) (hv_all _) (by rw [hv_len, hv_len]) ?_)
        refine S.nil ?_
        refine TC.region ?_
        refine S.q rfl rfl (Qt.move (by conv => lhs; whnf)) ?_
        refine S.q rfl rfl (Qt.field Tryd.underlying40 rfl Tryd.cells24 rfl) ?_
        refine S.q rfl rfl (Qt.load rfl (Ld.one (Has.at 1 rfl) Tryd.one24 (rfl))) ?_
        refine S.opS rfl rfl (OpV.con0 Tryd.ent78 rfl (fun w hw => dropF_R E tb mb height (xs.getD k act0).i hh (xs.getD k act0).lt hs w (Rd.at 4 rfl w hw)) ?_)
        refine S.q rfl rfl (Qt.assign (by conv => lhs; whnf)) ?_
        refine S.nil ?_
        refine TC.seq ?_
        refine TC.seq ?_
        refine TC.region ?_
        refine S.q rfl rfl (Qt.move (by conv => lhs; whnf)) ?_
        refine S.opS rfl rfl (OpV.con0 Tryd.ent24 rfl (fun w hw => Calls.ret (num_pos_walk 1 (by decide) w)) ?_)
        refine S.q rfl rfl (Qt.move (by conv => lhs; whnf)) ?_
        refine S.q rfl rfl (Qt.dF (Qt.nei (m := 1) (n := 1) rfl rfl) (by decide)) ?_
        refine S.nil ?_
        refine S.if_f rfl ?_
        refine TC.skip ?_
        refine TC.seq ?_
        refine TC.region ?_
        refine S.q rfl rfl (Qt.move (by conv => lhs; whnf)) ?_
        refine S.q rfl rfl (Qt.dF (Qt.eqi (m := 1) (n := 0) rfl rfl) (by decide)) ?_
        refine S.nil ?_
        refine S.if_f rfl ?_
        refine TC.skip ?_
        refine TC.region ?_
        refine S.q rfl rfl (Qt.add (b := 1) rfl rfl (by simp only [kmax]; omega)) ?_
        refine S.q rfl rfl (Qt.move (by conv => lhs; whnf)) ?_
        refine S.nil ?_
        refine ⟨(k + 1, ms, ls, Al, cl), ?_, ?_, ⟨?_, (List.forall_mem_cons.2 ⟨rfl, (fun _ h => nomatch h)⟩)⟩, Sub.trans (Sub.keep _ (Sub.keep _ (Sub.keep _ (Sub.keep _ (Sub.keep _ (Sub.keep _ (Sub.drop _ (Sub.drop _ (Sub.nil []))))))))) (Sub.trans (Sub.keep _ (Sub.trans (Sub.keep _ (Sub.trans (Sub.keep _ (Sub.trans (Sub.keep _ (Sub.trans (Sub.keep _ (Sub.trans (Sub.keep _ (Sub.refl _)) (Sub.of_perm (List.perm_middle (l₁ := [_, _]))))) (Sub.of_perm (List.perm_middle (l₁ := [_, _]))))) (Sub.of_perm (List.perm_middle (l₁ := [_, _]))))) (Sub.of_perm (List.perm_middle (l₁ := [_, _]))))) (Sub.of_perm (List.perm_middle (l₁ := [_, _]))))) (Sub.of_perm (List.perm_middle (l₁ := [_, _]))))⟩
        · exact ⟨by show _ ≤ _; dsimp only; omega, ht, by dsimp only; omega, ho, hin.skip h42, hlow⟩
        · show _ < _; dsimp only; omega
        repeat (first | exact Out.refl _ _ | refine Out.put rfl ?_ | refine Out.puts rfl ?_ | refine Out.scr ?_ | refine Out.scr' rfl ?_)
  · refine S.nil ?_
    refine TC.seq ?_
    refine S.if_f rfl ?_
    refine TC.exit ?_
    refine TC.seq ?_
    refine S.draw ([3], []) Tryd.mixed (Sub.nil _) ?_
    refine D.qX (k := 0) rfl (by kernel_rfl) (by kernel_rfl) (by kernel_rfl) rfl rfl (Qt.move (by conv => lhs; whnf)) ?_
    refine D.qX (k := 1) rfl (by kernel_rfl) (by kernel_rfl) (by kernel_rfl) rfl rfl (Qt.load rfl (Ld.all (Has.at 0 rfl) Tryd.row52 (Tryd.cells52))) ?_
    refine D.qX (k := 2) rfl (by kernel_rfl) (by kernel_rfl) (by kernel_rfl) rfl rfl (Qt.assign (by conv => lhs; whnf)) ?_
    refine D.opN (k := 3) (Sub.nil _) rfl (by kernel_rfl) (by kernel_rfl) rfl (OpV.storeV4 rfl (by conv => lhs; whnf) (by exact Tryd.cells52) (by rfl) (by rfl) ⟨Sub.nil _, ?_⟩)
    refine D.qX (k := 4) rfl (by kernel_rfl) (by kernel_rfl) (by kernel_rfl) rfl rfl (Qt.assign (by conv => lhs; whnf)) ?_
    refine D.qX (k := 5) rfl (by kernel_rfl) (by kernel_rfl) (by kernel_rfl) rfl rfl (Qt.assign (by conv => lhs; whnf)) ?_
    refine D.done (Sub.nil _) (by kernel_rfl) ?_
    refine TC.ret ?_
    refine finQ.ret (RVs.tmp (by conv => lhs; whnf) (RVs.cell rfl (Ld.all (Has.at 4 rfl) Tryd.row52 (Tryd.cells52)) (RVs.tmp (by conv => lhs; whnf) (RVs.tmp (by conv => lhs; whnf) RVs.nil)))) (Sub.trans (Sub.keep _ (Sub.keep _ (Sub.keep _ (Sub.keep _ (Sub.drop _ (Sub.drop _ (Sub.nil []))))))) (Sub.trans (Sub.keep _ (Sub.trans (Sub.keep _ (Sub.trans (Sub.keep _ (Sub.trans (Sub.keep _ (Sub.refl _)) (Sub.of_perm (List.perm_middle (l₁ := [_]))))) (Sub.of_perm (List.perm_middle (l₁ := [_, _, _]))))) (Sub.of_perm (List.perm_middle (l₁ := [_, _]))))) (Sub.of_perm (List.perm_middle (l₁ := [_, _]))))) ?_
    obtain rfl : k = xs.length := by omega
    exact ⟨tb, mb, ms, ls, Al, cl, O, d, rfl, rfl, ht, ho, hin, by omega, hlow⟩
set_option maxHeartbeats 1600000 in
theorem rresize_walk (E : Nat → H32) (height : Nat) (ls : Ls) (A : Option Addr) (c : Nat) (O : Option Addr) (d b : Nat) (hb : okN b) (w0 : World) (hlen : ls.length ≤ 4095) (hlow : ∀ x ∈ ls, x.1 < 18446744073709551616) (hL : Ro w0 [] (SlA A (ls.flatMap leafL))) :
    Calls Tryd.prog 83 #[.agg #[.int .i64 (height : Int), .slice A ls.length c, .slice O 33 d], .int .u64 (b : Int)] w0 (Post w0 [] fun v L => ∃ A2 c2, v = .agg #[.int .i64 (hgt b : Int), .slice A2 (loL b ls).length c2, .slice O 33 d] ∧ L = [OwnA 163 33 A2 (loL b ls).length c2 ((loL b ls).flatMap leafL)]) := by
  refine Calls.of (L := []) (n := 44) (rs := [.cell 4 52]) Tryd.func83 rfl rfl rfl (Nat.le_of_ble_eq_true rfl) (Sat.nil _) ?_
  refine TC.ownNil 163 33 ?_
  refine TC.seq ?_
  refine TC.region ?_
  refine S.opS rfl rfl (OpV.box (v := .agg #[.int .i64 (height : Int), .slice A ls.length c, .slice O 33 d]) rfl (fun b2 => ?_))
  refine S.opS rfl rfl (OpV.alloc Tryd.zero52 (fun b4 => ?_))
  refine S.nil ?_
  refine TC.seq ?_
  refine TC.region ?_
  refine S.q rfl rfl (Qt.move (by conv => lhs; whnf)) ?_
  refine S.opS rfl rfl (OpV.con0 Tryd.ent81 rfl (fun w hw => Calls.ret (high_walkT b hb w)) ?_)
  refine S.q rfl rfl (Qt.move (by conv => lhs; whnf)) ?_
  refine S.q rfl rfl (Qt.extract rfl rfl) ?_
  refine S.q rfl rfl (Qt.extract rfl rfl) ?_
  refine S.q rfl rfl (Qt.assign (by conv => lhs; whnf)) ?_
  refine S.q rfl rfl (Qt.assign (by conv => lhs; whnf)) ?_
  refine S.nil ?_
  refine TC.seq ?_
  refine TC.region ?_
  refine S.q rfl rfl (Qt.move (by conv => lhs; whnf)) ?_
  refine S.q rfl rfl (Qt.field Tryd.underlying52 rfl Tryd.cells44 rfl) ?_
  refine S.q rfl rfl (Qt.load rfl (Ld.one (Has.at 1 rfl) Tryd.one44 (rfl))) ?_
  refine S.q rfl rfl (Qt.build2 (a := .int .i64 ((hgt b : Nat) : Int)) (b := .slice O 33 d) rfl rfl (Tryd.buildTree (hgt b) O d)) ?_
  refine S.opS rfl rfl (OpV.alloc Tryd.zero52 (fun b7 => ?_))
  refine S.opN rfl (OpV.storeV0 rfl (by conv => lhs; whnf) (by exact Tryd.cells52) (by rfl) (by rfl) ?_)
  refine S.nil ?_
  refine TC.seq ?_
  refine TC.seq ?_
  refine TC.region ?_
  refine S.q rfl rfl (Qt.assign (by conv => lhs; whnf)) ?_
  refine S.nil ?_
  refine TC.block ?_
  refine TC.loop (γ := Nat × Ls × Option Addr × Nat) [18, 19, 20, 21, 22, 25, 26, 27, 28, 29, 30, 31, 32, 33, 34, 35, 36, 37, 38, 39, 40, 41, 42, 23, 24, 8] (fun g => [(8, .int .i64 ((g.1 : Nat) : Int))]) (fun g => [OwnA 163 33 g.2.2.1 (g.2.1).length g.2.2.2 ((g.2.1).flatMap leafL), Blk b7 52 [.int .i64 ((hgt b : Nat) : Int), .slice g.2.2.1 g.2.1.length g.2.2.2, .slice O 33 d], Blk b4 52 [.int .i64 0, .slice none 0 0, .slice none 0 0], Blk b2 52 (vl (.agg #[.int .i64 (height : Int), .slice A ls.length c, .slice O 33 d]))]) (fun g => g.1 ≤ ls.length ∧ g.2.1 = loL b (ls.take g.1)) (fun g => ls.length - g.1) ((0, [], none, 0))
    ⟨Nat.zero_le _, rfl⟩ ⟨Out.refl _ _, (List.forall_mem_cons.2 ⟨rfl, (fun _ h => nomatch h)⟩)⟩ (Sub.trans (Sub.keep _ (Sub.refl _)) (Sub.of_perm (List.perm_middle (l₁ := [_, _, _])))) ?_
  rintro ⟨k, out, A1, c1⟩ u ⟨hk, ha⟩
  dsimp only at hk ha
  have hal : out.length ≤ k := by rw [ha]; exact lowL_len b ls k hk
  refine TC.seq ?_
  refine TC.seq ?_
  refine TC.region ?_
  refine S.q rfl rfl (Qt.move (by conv => lhs; whnf)) ?_
  refine S.q rfl rfl (Qt.field Tryd.underlying52 rfl Tryd.cells50 rfl) ?_
  refine S.q rfl rfl (Qt.load rfl (Ld.one (Has.at 3 rfl) Tryd.one50 (rfl))) ?_
  refine S.q rfl rfl (Qt.len_slice Tryd.underlying50 rfl) ?_
  refine S.dec rfl rfl (Qt.lt rfl rfl) (fun h22 => ?_) (fun h22 => ?_)
  · refine S.nil ?_
    refine S.if_t rfl ?_
    refine TC.skip ?_
    refine TC.seq ?_
    refine TC.block ?_
    refine TC.seq ?_
    refine TC.region ?_
    refine S.q rfl rfl (Qt.field Tryd.underlying52 rfl Tryd.cells50 rfl) ?_
    refine S.q rfl rfl (Qt.load rfl (Ld.one (Has.at 3 rfl) Tryd.one50 (rfl))) ?_
    refine S.q rfl rfl (Qt.move (by conv => lhs; whnf)) ?_
    refine S.q rfl rfl (Qt.index Tryd.underlying50 Tryd.cells163 rfl rfl (by omega) (Has.ro hL) (by rw [leafL_len]; omega)) ?_
    refine S.q rfl rfl (Qt.fieldS Tryd.underlying163 rfl Tryd.cells24 rfl (Has.ro hL) (by rw [leafL_len]; omega)) ?_
    refine S.q rfl rfl (Qt.load rfl (Ld.sl (v := .int .u64 ((ls.getD k leaf0).1 : Int)) (Has.ro hL) Tryd.one24 (leaf_at (by omega) 0 _ rfl))) ?_
    refine S.q rfl rfl (Qt.move (by conv => lhs; whnf)) ?_
    refine S.dec rfl rfl (Qt.lt rfl rfl) (fun h32 => ?_) (fun h32 => ?_)
    · refine S.nil ?_
      refine S.if_t rfl ?_
      refine S.draw ([8, 10], [7]) Tryd.mixed (Sub.nil _) ?_
      refine D.qX (k := 0) rfl (by kernel_rfl) (by kernel_rfl) (by kernel_rfl) rfl rfl (Qt.field Tryd.underlying52 rfl Tryd.cells50 rfl) ?_
      refine D.qX (k := 1) rfl (by kernel_rfl) (by kernel_rfl) (by kernel_rfl) rfl rfl (Qt.load rfl (Ld.one (Has.at 1 rfl) Tryd.one50 (rfl))) ?_
      refine D.qX (k := 2) rfl (by kernel_rfl) (by kernel_rfl) (by kernel_rfl) rfl rfl (Qt.field Tryd.underlying52 rfl Tryd.cells50 rfl) ?_
      refine D.qX (k := 3) rfl (by kernel_rfl) (by kernel_rfl) (by kernel_rfl) rfl rfl (Qt.load rfl (Ld.one (Has.at 3 rfl) Tryd.one50 (rfl))) ?_
      refine D.qX (k := 4) rfl (by kernel_rfl) (by kernel_rfl) (by kernel_rfl) rfl rfl (Qt.move (by conv => lhs; whnf)) ?_
      refine D.qX (k := 5) rfl (by kernel_rfl) (by kernel_rfl) (by kernel_rfl) rfl rfl (Qt.index Tryd.underlying50 Tryd.cells163 rfl rfl (by omega) (Has.ro hL) (by rw [leafL_len]; omega)) ?_
      refine D.qX (k := 6) rfl (by kernel_rfl) (by kernel_rfl) (by kernel_rfl) rfl rfl (Qt.load rfl (Ld.slr (vs := leafL (ls.getD k leaf0)) (Has.ro hL) Tryd.row163 (by rw [leafL_length]; exact Tryd.cells163) (by rw [leafL_length]; decide) (leaf_at (by omega)))) ?_
      refine D.nS (k := 7) (Sub.nil _) rfl (by kernel_rfl) (by kernel_rfl) rfl rfl (OpV.slice1 (bytes := 40) (v := .agg (leafL (ls.getD k leaf0)).toArray) Tryd.underlying50 Tryd.elem163 (by decide) rfl (leafL_vl _) (fun g40 => ⟨Sub.drop _ (Sub.keep _ (Sub.keep _ (Sub.keep _ (Sub.keep _ (Sub.nil []))))), ?_⟩))
      refine D.opS (k := 8) (Sub.nil _) rfl (by kernel_rfl) (by kernel_rfl) rfl rfl (OpV.app1 (bytes := 40) (news := leafL (ls.getD k leaf0)) Tryd.underlying50 Tryd.elem163 rfl rfl (Has.blk (cs := leafL (ls.getD k leaf0)) (Has.at 0 rfl)) (by rw [leafL_length]) (leafL_one _) (by simp only [maxLen]; omega) (by (try dsimp only); omega) (fun O1 d1 => ⟨Sub.nil _, ?_⟩))
      refine D.qX (k := 9) rfl (by kernel_rfl) (by kernel_rfl) (by kernel_rfl) rfl rfl (Qt.field Tryd.underlying52 rfl Tryd.cells50 rfl) ?_
      refine D.opN (k := 10) (Sub.nil _) rfl (by kernel_rfl) (by kernel_rfl) rfl (OpV.storeC2 rfl (by conv => lhs; whnf) Tryd.cells50 rfl rfl (Nat.le_of_ble_eq_true rfl) ⟨Sub.nil _, ?_⟩)
      refine D.done (Sub.nil _) (by kernel_rfl) ?_
      refine TC.region ?_
      refine S.q rfl rfl (Qt.move (by conv => lhs; whnf)) ?_
      refine S.q rfl rfl (Qt.add (b := 1) rfl rfl (by simp only [kmax]; omega)) ?_
      refine S.q rfl rfl (Qt.assign (by conv => lhs; whnf)) ?_
      refine S.nil ?_
      refine ⟨(k + 1, out ++ [ls.getD k leaf0], O1, d1), ?_, ?_, ⟨?_, (List.forall_mem_cons.2 ⟨rfl, (fun _ h => nomatch h)⟩)⟩, (by dsimp only; simp only [len_snoc, flat_snoc]; exact Sub.trans (Sub.keep _ (Sub.keep _ (Sub.keep _ (Sub.keep _ (Sub.drop _ (Sub.nil [])))))) (Sub.trans (Sub.keep _ (Sub.trans (Sub.keep _ (Sub.trans (Sub.keep _ (Sub.trans (Sub.keep _ (Sub.refl _)) (Sub.of_perm (List.perm_middle (l₁ := [_]))))) (Sub.of_perm (List.perm_middle (l₁ := [_]))))) (Sub.of_perm (List.perm_middle (l₁ := [_]))))) (Sub.of_perm (List.perm_middle (l₁ := [_])))))⟩
      · exact ⟨by show _ ≤ _; dsimp only; omega, by dsimp only; rw [lowL_step b ls h22, if_pos h32, ha]⟩
      · show _ < _; dsimp only; omega
      repeat (first | exact Out.refl _ _ | refine Out.put rfl ?_ | refine Out.puts rfl ?_ | refine Out.scr ?_ | refine Out.scr' rfl ?_)
    · refine S.nil ?_
      refine S.if_f rfl ?_
      refine TC.skip ?_
      refine TC.region ?_
      refine S.q rfl rfl (Qt.move (by conv => lhs; whnf)) ?_
      refine S.q rfl rfl (Qt.add (b := 1) rfl rfl (by simp only [kmax]; omega)) ?_
      refine S.q rfl rfl (Qt.assign (by conv => lhs; whnf)) ?_
      refine S.nil ?_
      refine ⟨(k + 1, out, A1, c1), ?_, ?_, ⟨?_, (List.forall_mem_cons.2 ⟨rfl, (fun _ h => nomatch h)⟩)⟩, Sub.refl _⟩
      · exact ⟨by show _ ≤ _; dsimp only; omega, by dsimp only; rw [lowL_step b ls h22, if_neg h32, ha]⟩
      · show _ < _; dsimp only; omega
      repeat (first | exact Out.refl _ _ | refine Out.put rfl ?_ | refine Out.puts rfl ?_ | refine Out.scr ?_ | refine Out.scr' rfl ?_)
  · refine S.nil ?_
    refine S.if_f rfl ?_
    refine TC.exit ?_
    refine TC.seq ?_
    refine TC.region ?_
    refine S.q rfl rfl (Qt.load rfl (Ld.all (Has.at 1 rfl) Tryd.row52 (Tryd.cells52))) ?_
    refine S.opN rfl (OpV.storeV2 rfl (by conv => lhs; whnf) (by exact Tryd.cells52) (by rfl) (by rfl) ?_)
    refine S.nil ?_
    refine TC.ret ?_
    refine finQ.ret (RVs.cell rfl (Ld.all (Has.at 2 rfl) Tryd.row52 (Tryd.cells52)) RVs.nil) (Sub.keep _ (Sub.drop _ (Sub.drop _ (Sub.drop _ (Sub.nil []))))) ?_
    rw [take_all ls (by omega)] at ha
    subst ha
    exact ⟨A1, c1, rfl, rfl⟩
end Go.Proofs.YtlneklemjfefpaaDoor
