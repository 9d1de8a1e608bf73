/-
  Walks: the document's tree. Printed by a program of ours.
-/
import Derived.Test.YtlneklemjfefpaaDoorTF
import Derived.Test.YtlneklemjfefpaaDoorTN
namespace Go.Proofs.YtlneklemjfefpaaDoor
open Go.E
set_option linter.unusedVariables false
set_option maxRecDepth 4000

theorem Tryd.elem163 : elemT Tryd.prog 163 33 40 := elemT_of (by kernel_rfl)
theorem Tryd.buildTree (h : Nat) (O : Option Addr) (d : Nat) (w : World) : (Instr.build 52 #[(0, .int .i64 (h : Int)), (2, .slice O 33 d)]).run Tryd.prog w = .ok (.agg #[.int .i64 (h : Int), .slice none 0 0, .slice O 33 d]) w := by kernel_rfl
/-- What 'part' shall give, at a level. -/
def PartC (E : Nat → H32) (l : Nat) : Prop := ∀ (p : Nat) (ls : Ls) (A : Option Addr) (c ht : Nat) (A0 : Option Addr) (n0 c0 : Nat) (O : Option Addr) (d : Nat) (w0 : World), (p + 1) * 2 ^ l ≤ 9223372036854775808 → ls.length ≤ 4096 → (∀ x ∈ ls, x.1 < 18446744073709551616) → (∀ x ∈ ls, x.1 / 2 ^ l = p) →
  Ro w0 [] (SlA A (ls.flatMap leafL)) → Ro w0 [] (SlA O (hcs (emptL E))) → Tabs 3 1 w0 [] → Calls Tryd.prog 99 #[.agg #[.int .i64 (ht : Int), .slice A0 n0 c0, .slice O 33 d], .slice A ls.length c, .int .i64 (l : Int), .int .u64 (p : Int)] w0 (Ret w0 (hv (nodeH (fL E ls) l p)))
set_option maxHeartbeats 400000 in
theorem rnew_walk (E : Nat → H32) (hEr : ∀ w, Tabs 3 1 w [] → Calls Tryd.prog 90 #[] w (Post w [] fun v L => ∃ O d, v = .slice O 33 d ∧ L = [OwnA 23 32 O 33 d (hcs (emptL E))])) (height : Nat) (w0 : World) (hT : Tabs 3 1 w0 []) :
    Calls Tryd.prog 97 #[.int .i64 (height : Int)] w0 (Post w0 [] fun v L => ∃ O d, v = .agg #[.int .i64 (height : Int), .slice none 0 0, .slice O 33 d] ∧ L = [OwnA 23 32 O 33 d (hcs (emptL E))]) := by
  refine Calls.of (L := []) (n := 6) (rs := [.cell 2 52]) Tryd.func97 rfl rfl rfl (Nat.le_of_ble_eq_true rfl) (Sat.nil _) ?_
  refine TC.seq ?_
  refine TC.region ?_
  refine S.opS rfl rfl (OpV.alloc Tryd.zero52 (fun b2 => ?_))
  refine S.nil ?_
  refine TC.seq ?_
  refine TC.region ?_
  refine S.q rfl rfl (Qt.move (by conv => lhs; whnf)) ?_
  refine S.opS rfl rfl (OpV.con (Pre := []) (R := _) Tryd.ent90 rfl (List.Perm.refl _) (fun w hw => hEr w (hT.at hw)) ?_)
  rintro v L' ⟨O, d, rfl, rfl⟩
  refine S.q rfl rfl (Qt.build2 (a := .int .i64 (height : Int)) (b := .slice O 33 d) rfl rfl (Tryd.buildTree height O d)) ?_
  refine S.opN rfl (OpV.storeV1 rfl (by conv => lhs; whnf) (by exact Tryd.cells52) (by rfl) (by rfl) ?_)
  refine S.nil ?_
  refine TC.ret ?_
  refine finQ.ret (RVs.cell rfl (Ld.all (Has.at 1 rfl) Tryd.row52 (Tryd.cells52)) RVs.nil) (Sub.keep _ (Sub.drop _ (Sub.nil []))) ?_
  exact ⟨O, d, rfl, rfl⟩
set_option maxHeartbeats 400000 in
theorem rhas_walk (height l p : Nat) (hh : height ≤ 32) (hp : p < 18446744073709551616) (A : Option Addr) (n c : Nat) (O : Option Addr) (d : Nat) (w0 : World) :
    Calls Tryd.prog 34 #[.agg #[.int .i64 (height : Int), .slice A n c, .slice O 33 d], .int .i64 (l : Int), .int .u64 (p : Int)] w0 (Post w0 [] fun v L => v = .bool (decide (okAt height (l, p))) ∧ L = []) := by
  refine Calls.of (L := []) (n := 29) (rs := [.tmp 6]) Tryd.func34 rfl rfl rfl (Nat.le_of_ble_eq_true rfl) (Sat.nil _) ?_
  refine TC.seq ?_
  refine TC.region ?_
  refine S.opS rfl rfl (OpV.box (v := .agg #[.int .i64 (height : Int), .slice A n c, .slice O 33 d]) rfl (fun b3 => ?_))
  refine S.q rfl rfl (Qt.assign (by conv => lhs; whnf)) ?_
  refine S.nil ?_
  refine TC.seq ?_
  refine TC.seq ?_
  refine TC.region ?_
  refine S.q rfl rfl (Qt.move (by conv => lhs; whnf)) ?_
  refine S.q rfl rfl (Qt.dF (Qt.lt (b := 0) rfl rfl) (by omega)) ?_
  refine S.q rfl rfl (Qt.move (by conv => lhs; whnf)) ?_
  refine S.qg rfl rfl rfl (Qt.move (by conv => lhs; whnf)) ?_
  refine S.qg rfl rfl rfl (Qt.field Tryd.underlying52 rfl Tryd.cells3 rfl) ?_
  refine S.qg rfl rfl rfl (Qt.load rfl (Ld.one (Has.at 0 rfl) Tryd.one3 (rfl))) ?_
  refine S.decg rfl rfl rfl (Qt.gt rfl rfl) (fun h15 => ?_) (fun h15 => ?_)
  · refine S.q rfl rfl (Qt.pick_f rfl (by conv => lhs; whnf)) ?_
    refine S.nil ?_
    refine S.if_t rfl ?_
    refine TC.seq ?_
    refine TC.region ?_
    refine S.q rfl rfl (Qt.assign (by conv => lhs; whnf)) ?_
    refine S.nil ?_
    refine TC.ret ?_
    refine finQ.ret (RVs.tmp (by conv => lhs; whnf) RVs.nil) (Sub.nil _) ?_
    exact ⟨(congrArg Value.bool (decide_eq_false (fun h => by have h1 : l ≤ height := h.1; omega))).symm, rfl⟩
  · refine S.q rfl rfl (Qt.pick_f rfl (by conv => lhs; whnf)) ?_
    refine S.nil ?_
    refine S.if_f rfl ?_
    refine TC.skip ?_
    refine TC.seq ?_
    refine TC.region ?_
    refine S.q rfl rfl (Qt.assign (by conv => lhs; whnf)) ?_
    refine S.nil ?_
    refine TC.seq ?_
    refine TC.seq ?_
    refine TC.region ?_
    refine S.q rfl rfl (Qt.move (by conv => lhs; whnf)) ?_
    refine S.q rfl rfl (Qt.assign (by conv => lhs; whnf)) ?_
    refine S.nil ?_
    refine TC.block ?_
    refine TC.loop (γ := Nat) [18, 19, 20, 21, 24, 25, 7, 22, 23, 8] (fun k => [(8, .int .i64 (k : Int)), (7, .int .u64 ((2 ^ (k - l) : Nat) : Int))]) (fun _ => _) (fun k => l ≤ k ∧ k ≤ height) (fun k => height - k) (l)
      ⟨Nat.le_refl _, by omega⟩ ⟨Out.refl _ _, (List.forall_mem_cons.2 ⟨rfl, (List.forall_mem_cons.2 ⟨(by show Value.int .u64 1 = Value.int .u64 ((2 ^ (l - l) : Nat) : Int); rw [Nat.sub_self]; rfl), (fun _ h => nomatch h)⟩)⟩)⟩ (Sub.refl _) ?_
    rintro k u ⟨hk1, hk2⟩
    refine TC.seq ?_
    refine TC.seq ?_
    refine TC.region ?_
    refine S.q rfl rfl (Qt.move (by conv => lhs; whnf)) ?_
    refine S.q rfl rfl (Qt.field Tryd.underlying52 rfl Tryd.cells3 rfl) ?_
    refine S.q rfl rfl (Qt.load rfl (Ld.one (Has.at 0 rfl) Tryd.one3 (rfl))) ?_
    refine S.dec rfl rfl (Qt.lt rfl rfl) (fun h21 => ?_) (fun h21 => ?_)
    · refine S.nil ?_
      refine S.if_t rfl ?_
      refine TC.skip ?_
      refine TC.seq ?_
      refine TC.block ?_
      refine TC.region ?_
      refine S.q rfl rfl (Qt.move (by conv => lhs; whnf)) ?_
      have hm : 2 ^ (k - l) < 4294967296 := Nat.lt_of_lt_of_le (Nat.pow_lt_pow_right (by decide) (show k - l < 32 by omega)) (by decide)
      refine S.q rfl rfl (Qt.mul (b := 2) rfl rfl (by simp only [kmax]; omega)) ?_
      refine S.q rfl rfl (Qt.assign (by conv => lhs; whnf)) ?_
      refine S.nil ?_
      refine TC.region ?_
      refine S.q rfl rfl (Qt.move (by conv => lhs; whnf)) ?_
      refine S.q rfl rfl (Qt.add (b := 1) rfl rfl (by simp only [kmax]; omega)) ?_
      refine S.q rfl rfl (Qt.assign (by conv => lhs; whnf)) ?_
      refine S.nil ?_
      refine ⟨k + 1, ?_, ?_, ⟨?_, (List.forall_mem_cons.2 ⟨rfl, (List.forall_mem_cons.2 ⟨(by show Value.int .u64 ((2 ^ (k - l) * 2 : Nat) : Int) = Value.int .u64 ((2 ^ (k + 1 - l) : Nat) : Int); rw [show k + 1 - l = k - l + 1 by omega, Nat.pow_succ]), (fun _ h => nomatch h)⟩)⟩)⟩, Sub.refl _⟩
      · exact ⟨by omega, by omega⟩
      · show _ < _; dsimp only; omega
      repeat (first | exact Out.refl _ _ | refine Out.put rfl ?_ | refine Out.puts rfl ?_ | refine Out.scr ?_ | refine Out.scr' rfl ?_)
    · refine S.nil ?_
      refine S.if_f rfl ?_
      refine TC.exit ?_
      refine TC.seq ?_
      refine TC.region ?_
      have hke : k = height := by omega
      have hiff : p < 2 ^ (k - l) ↔ okAt height (l, p) := by subst hke; exact ⟨fun h => ⟨by show l ≤ k; omega, h⟩, fun h => h.2⟩
      refine S.q rfl rfl (Qt.move (by conv => lhs; whnf)) ?_
      refine S.q rfl rfl (Qt.move (by conv => lhs; whnf)) ?_
      refine S.q rfl rfl (Qt.as (v' := .bool (decide (okAt height (l, p)))) (Qt.lt (a := p) (b := 2 ^ (k - l)) rfl rfl) (by rw [decide_eq_decide.2 hiff])) ?_
      refine S.q rfl rfl (Qt.assign (by conv => lhs; whnf)) ?_
      refine S.nil ?_
      refine TC.ret ?_
      refine finQ.ret (RVs.tmp (by conv => lhs; whnf) RVs.nil) (Sub.nil _) ?_
      exact ⟨rfl, rfl⟩
theorem rhas_R (height l p : Nat) (hh : height ≤ 32) (hp : p < 18446744073709551616) (A : Option Addr) (n c : Nat) (O : Option Addr) (d : Nat) (w0 : World) : Calls Tryd.prog 34 #[.agg #[.int .i64 (height : Int), .slice A n c, .slice O 33 d], .int .i64 (l : Int), .int .u64 (p : Int)] w0 (Ret w0 (.bool (decide (okAt height (l, p))))) := Calls.ret (rhas_walk height l p hh hp A n c O d w0)

set_option maxHeartbeats 400000 in
theorem part_walkE (E : Nat → H32) (l p : Nat) (ls : Ls) (A : Option Addr) (c ht : Nat) (A0 : Option Addr) (n0 c0 : Nat) (O : Option Addr) (d : Nat) (w0 : World) (hp : (p + 1) * 2 ^ (l) ≤ 9223372036854775808) (hlen : ls.length ≤ 4096) (hlow : ∀ x ∈ ls, x.1 < 18446744073709551616) (hall : ∀ x ∈ ls, x.1 / 2 ^ (l) = p) (hL : Ro w0 [] (SlA A (ls.flatMap leafL))) (hO : Ro w0 [] (SlA O (hcs (emptL E)))) (hT : Tabs 3 1 w0 []) (hE : ∀ h, E (h + 1) = joinH (h + 1) (E h) (E h)) (hl : l ≤ 32) (h0 : ls = []) :
    Calls Tryd.prog 99 #[.agg #[.int .i64 (ht : Int), .slice A0 n0 c0, .slice O 33 d], .slice A ls.length c, .int .i64 ((l : Nat) : Int), .int .u64 (p : Int)] w0 (Post w0 [] fun v L => v = hv (nodeH (fL E ls) l p) ∧ L = []) := by
  subst h0
  refine Calls.of (L := []) (n := 75) (rs := [.cell 8 23]) Tryd.func99 rfl rfl rfl (Nat.le_of_ble_eq_true rfl) (Sat.nil _) ?_
  refine TC.seq ?_
  refine TC.region ?_
  refine S.opS rfl rfl (OpV.box (v := .agg #[.int .i64 (ht : Int), .slice A0 n0 c0, .slice O 33 d]) rfl (fun b4 => ?_))
  refine S.opS rfl rfl (OpV.alloc Tryd.zero23 (fun b8 => ?_))
  refine S.nil ?_
  refine TC.seq ?_
  refine TC.seq ?_
  refine TC.region ?_
  refine S.q rfl rfl (Qt.move (by conv => lhs; whnf)) ?_
  refine S.q rfl rfl (Qt.len_slice Tryd.underlying50 rfl) ?_
  refine S.q rfl rfl (Qt.dT (Qt.eq (b := 0) rfl rfl) (rfl)) ?_
  refine S.nil ?_
  refine S.if_t rfl ?_
  refine TC.seq ?_
  refine TC.region ?_
  refine S.q rfl rfl (Qt.field Tryd.underlying52 rfl Tryd.cells44 rfl) ?_
  refine S.q rfl rfl (Qt.load rfl (Ld.one (Has.at 1 rfl) Tryd.one44 (rfl))) ?_
  refine S.q rfl rfl (Qt.move (by conv => lhs; whnf)) ?_
  refine S.q rfl rfl (Qt.index Tryd.underlying44 Tryd.cells23 rfl rfl (by omega) (Has.ro hO) (by rw [hcs_length, emptL_length]; omega)) ?_
  refine S.q rfl rfl (Qt.as (Qt.load rfl (Ld.hashS (Has.ro hO) (l) Tryd.row23 Tryd.cells23 (by rw [emptL_length]; omega) rfl)) (by rw [emptL_get E (by omega)])) ?_
  refine S.opN rfl (OpV.storeV0 (v := hv (_)) rfl rfl (hv_size Tryd.cells23) (hv_all _) (hv_len _) ?_)
  refine S.nil ?_
  refine TC.ret ?_
  refine finQ.ret (RVs.cell rfl (Ld.all (Has.at 0 rfl) Tryd.row23 (hv_size Tryd.cells23)) RVs.nil) (Sub.nil _) ?_
  exact ⟨congrArg hv (node_nil hE l p).symm, rfl⟩
set_option maxHeartbeats 400000 in
theorem part_walk0 (E : Nat → H32) (p : Nat) (ls : Ls) (A : Option Addr) (c ht : Nat) (A0 : Option Addr) (n0 c0 : Nat) (O : Option Addr) (d : Nat) (w0 : World) (hp : (p + 1) * 2 ^ (0) ≤ 9223372036854775808) (hlen : ls.length ≤ 4096) (hlow : ∀ x ∈ ls, x.1 < 18446744073709551616) (hall : ∀ x ∈ ls, x.1 / 2 ^ (0) = p) (hL : Ro w0 [] (SlA A (ls.flatMap leafL))) (hO : Ro w0 [] (SlA O (hcs (emptL E)))) (hT : Tabs 3 1 w0 []) (h0 : 0 < ls.length) :
    Calls Tryd.prog 99 #[.agg #[.int .i64 (ht : Int), .slice A0 n0 c0, .slice O 33 d], .slice A ls.length c, .int .i64 ((0 : Nat) : Int), .int .u64 (p : Int)] w0 (Post w0 [] fun v L => v = hv (nodeH (fL E ls) 0 p) ∧ L = []) := by
  refine Calls.of (L := []) (n := 75) (rs := [.cell 8 23]) Tryd.func99 rfl rfl rfl (Nat.le_of_ble_eq_true rfl) (Sat.nil _) ?_
  refine TC.seq ?_
  refine TC.region ?_
  refine S.opS rfl rfl (OpV.box (v := .agg #[.int .i64 (ht : Int), .slice A0 n0 c0, .slice O 33 d]) rfl (fun b4 => ?_))
  refine S.opS rfl rfl (OpV.alloc Tryd.zero23 (fun b8 => ?_))
  refine S.nil ?_
  refine TC.seq ?_
  refine TC.seq ?_
  refine TC.region ?_
  refine S.q rfl rfl (Qt.move (by conv => lhs; whnf)) ?_
  refine S.q rfl rfl (Qt.len_slice Tryd.underlying50 rfl) ?_
  refine S.q rfl rfl (Qt.dF (Qt.eq (b := 0) rfl rfl) (by omega)) ?_
  refine S.nil ?_
  refine S.if_f rfl ?_
  refine TC.skip ?_
  refine TC.seq ?_
  refine TC.seq ?_
  refine TC.region ?_
  refine S.q rfl rfl (Qt.move (by conv => lhs; whnf)) ?_
  refine S.q rfl rfl (Qt.dT (Qt.eq (b := 0) rfl rfl) (rfl)) ?_
  refine S.nil ?_
  refine S.if_t rfl ?_
  refine TC.seq ?_
  refine TC.region ?_
  refine S.q rfl rfl (Qt.move (by conv => lhs; whnf)) ?_
  refine S.q rfl rfl (Qt.index (i := 0) Tryd.underlying50 Tryd.cells163 rfl rfl (by omega) (Has.ro hL) (by rw [leafL_len]; omega)) ?_
  refine S.q rfl rfl (Qt.fieldS Tryd.underlying163 rfl Tryd.cells23 rfl (Has.ro hL) (by rw [leafL_len]; omega)) ?_
  refine S.q rfl rfl (Qt.load rfl (Ld.slr (vs := hvl (ls.getD 0 leaf0).2) (Has.ro hL) Tryd.row23 (by rw [hvl_length]; exact Tryd.cells23) (by rw [hvl_length]; decide) (fun j v hj => by have := leaf_at (k := 0) h0 (1 + j) v (leafL_hash _ j v hj); rw [← Nat.add_assoc] at this; exact this))) ?_
  refine S.opN rfl (OpV.storeV0 (v := hv ((ls.getD 0 leaf0).2)) rfl rfl (hv_size Tryd.cells23) (hv_all _) (hv_len _) ?_)
  refine S.nil ?_
  refine TC.ret ?_
  refine finQ.ret (RVs.cell rfl (Ld.all (Has.at 0 rfl) Tryd.row23 (hv_size Tryd.cells23)) RVs.nil) (Sub.nil _) ?_
  exact ⟨congrArg hv (node_leaf h0 hall).symm, rfl⟩
set_option maxHeartbeats 1600000 in
theorem part_walkS (E : Nat → H32) (l p : Nat) (ls : Ls) (A : Option Addr) (c ht : Nat) (A0 : Option Addr) (n0 c0 : Nat) (O : Option Addr) (d : Nat) (w0 : World) (hp : (p + 1) * 2 ^ (l + 1) ≤ 9223372036854775808) (hlen : ls.length ≤ 4096) (hlow : ∀ x ∈ ls, x.1 < 18446744073709551616) (hall : ∀ x ∈ ls, x.1 / 2 ^ (l + 1) = p) (hL : Ro w0 [] (SlA A (ls.flatMap leafL))) (hO : Ro w0 [] (SlA O (hcs (emptL E)))) (hT : Tabs 3 1 w0 []) (hl : l + 1 ≤ 32) (h0 : 0 < ls.length) (hrec : PartC E l) :
    Calls Tryd.prog 99 #[.agg #[.int .i64 (ht : Int), .slice A0 n0 c0, .slice O 33 d], .slice A ls.length c, .int .i64 ((l + 1 : Nat) : Int), .int .u64 (p : Int)] w0 (Post w0 [] fun v L => v = hv (nodeH (fL E ls) (l + 1) p) ∧ L = []) := by
  refine Calls.of (L := []) (n := 75) (rs := [.cell 8 23]) Tryd.func99 rfl rfl rfl (Nat.le_of_ble_eq_true rfl) (Sat.nil _) ?_
  obtain ⟨hp1, hp2, hp3⟩ := bound_half hp
  refine TC.ownNil 163 33 ?_
  refine TC.ownNil 163 33 ?_
  refine TC.seq ?_
  refine TC.region ?_
  refine S.opS rfl rfl (OpV.box (v := .agg #[.int .i64 (ht : Int), .slice A0 n0 c0, .slice O 33 d]) rfl (fun b4 => ?_))
  refine S.opS rfl rfl (OpV.alloc Tryd.zero23 (fun b8 => ?_))
  refine S.nil ?_
  refine TC.seq ?_
  refine TC.seq ?_
  refine TC.region ?_
  refine S.q rfl rfl (Qt.move (by conv => lhs; whnf)) ?_
  refine S.q rfl rfl (Qt.len_slice Tryd.underlying50 rfl) ?_
  refine S.q rfl rfl (Qt.dF (Qt.eq (b := 0) rfl rfl) (by omega)) ?_
  refine S.nil ?_
  refine S.if_f rfl ?_
  refine TC.skip ?_
  refine TC.seq ?_
  refine TC.seq ?_
  refine TC.region ?_
  refine S.q rfl rfl (Qt.move (by conv => lhs; whnf)) ?_
  refine S.q rfl rfl (Qt.dF (Qt.eq (b := 0) rfl rfl) (by omega)) ?_
  refine S.nil ?_
  refine S.if_f rfl ?_
  refine TC.skip ?_
  refine TC.seq ?_
  refine TC.region ?_
  refine S.q rfl rfl (Qt.assign (by conv => lhs; whnf)) ?_
  refine S.q rfl rfl (Qt.assign (by conv => lhs; whnf)) ?_
  refine S.nil ?_
  refine TC.seq ?_
  refine TC.seq ?_
  refine TC.region ?_
  refine S.q rfl rfl (Qt.assign (by conv => lhs; whnf)) ?_
  refine S.nil ?_
  refine TC.block ?_
  refine TC.loop (γ := Nat × Ls × Ls × (Option Addr × Nat) × (Option Addr × Nat)) [26, 27, 28, 29, 32, 33, 34, 35, 36, 37, 38, 39, 40, 41, 42, 43, 44, 45, 46, 47, 48, 49, 50, 9, 51, 52, 53, 54, 55, 56, 57, 10, 30, 31, 11] (fun g => [(11, .int .i64 ((g.1 : Nat) : Int)), (9, .slice g.2.2.2.1.1 g.2.1.length g.2.2.2.1.2), (10, .slice g.2.2.2.2.1 g.2.2.1.length g.2.2.2.2.2)]) (fun g => [Blk b8 23 (List.replicate 32 (.int .u8 0)), Blk b4 52 (vl (.agg #[.int .i64 (ht : Int), .slice A0 n0 c0, .slice O 33 d])), OwnA 163 33 g.2.2.2.1.1 (g.2.1).length g.2.2.2.1.2 ((g.2.1).flatMap leafL), OwnA 163 33 g.2.2.2.2.1 (g.2.2.1).length g.2.2.2.2.2 ((g.2.2.1).flatMap leafL)]) (fun g => g.1 ≤ ls.length ∧ g.2.1 = cutL (ls.take g.1) l (2 * p) ∧ g.2.2.1 = restL (ls.take g.1) l (2 * p)) (fun g => ls.length - g.1) ((0, [], [], (none, 0), (none, 0)))
    ⟨Nat.zero_le _, rfl, rfl⟩ ⟨Out.refl _ _, (List.forall_mem_cons.2 ⟨rfl, (List.forall_mem_cons.2 ⟨rfl, (List.forall_mem_cons.2 ⟨rfl, (fun _ h => nomatch h)⟩)⟩)⟩)⟩ (Sub.refl _) ?_
  rintro ⟨k, a, b, ⟨A1, c1⟩, ⟨A2, c2⟩⟩ u ⟨hk, ha, hb⟩
  dsimp only at hk ha hb
  have hal : a.length ≤ k := by rw [ha]; exact cut_take_len ls k l _ hk
  have hbl : b.length ≤ k := by rw [hb]; exact rest_take_len ls k l _ hk
  refine TC.seq ?_
  refine TC.seq ?_
  refine TC.region ?_
  refine S.q rfl rfl (Qt.move (by conv => lhs; whnf)) ?_
  refine S.q rfl rfl (Qt.move (by conv => lhs; whnf)) ?_
  refine S.q rfl rfl (Qt.len_slice Tryd.underlying50 rfl) ?_
  refine S.dec rfl rfl (Qt.lt rfl rfl) (fun h29 => ?_) (fun h29 => ?_)
  · refine S.nil ?_
    refine S.if_t rfl ?_
    refine TC.skip ?_
    refine TC.seq ?_
    refine TC.block ?_
    refine TC.seq ?_
    refine TC.region ?_
    refine S.q rfl rfl (Qt.move (by conv => lhs; whnf)) ?_
    refine S.q rfl rfl (Qt.move (by conv => lhs; whnf)) ?_
    refine S.q rfl rfl (Qt.index Tryd.underlying50 Tryd.cells163 rfl rfl (by omega) (Has.ro hL) (by rw [leafL_len]; omega)) ?_
    refine S.q rfl rfl (Qt.fieldS Tryd.underlying163 rfl Tryd.cells24 rfl (Has.ro hL) (by rw [leafL_len]; omega)) ?_
    refine S.q rfl rfl (Qt.load rfl (Ld.sl (v := .int .u64 ((ls.getD k leaf0).1 : Int)) (Has.ro hL) Tryd.one24 (leaf_at (by omega) 0 _ rfl))) ?_
    refine S.q rfl rfl (Qt.move (by conv => lhs; whnf)) ?_
    refine S.q rfl rfl (Qt.sub (b := 1) rfl rfl (by omega) (by simp only [kmax]; omega)) ?_
    refine S.q rfl rfl (Qt.convert Tryd.underlying3 Tryd.underlying155 rfl (by simp only [kmax]; omega)) ?_
    refine S.q rfl rfl (Qt.as (Qt.shrN rfl rfl (by have := hlow _ (getD_mem (k := k) leaf0 h29); simp only [kmax]; omega)) (show _ = Value.int .u64 (((ls.getD k leaf0).1 / 2 ^ l : Nat) : Int) from rfl)) ?_
    refine S.q rfl rfl (Qt.move (by conv => lhs; whnf)) ?_
    refine S.q rfl rfl (Qt.mul (a := 2) rfl rfl (by simp only [kmax]; omega)) ?_
    refine S.dec rfl rfl (Qt.eq rfl rfl) (fun h43 => ?_) (fun h43 => ?_)
    · refine S.nil ?_
      refine S.if_t rfl ?_
      refine TC.region ?_
      refine S.q rfl rfl (Qt.move (by conv => lhs; whnf)) ?_
      refine S.q rfl rfl (Qt.move (by conv => lhs; whnf)) ?_
      refine S.q rfl rfl (Qt.move (by conv => lhs; whnf)) ?_
      refine S.q rfl rfl (Qt.index Tryd.underlying50 Tryd.cells163 rfl rfl (by omega) (Has.ro hL) (by rw [leafL_len]; omega)) ?_
      refine S.q rfl rfl (Qt.load rfl (Ld.slr (vs := leafL (ls.getD k leaf0)) (Has.ro hL) Tryd.row163 (by rw [leafL_length]; exact Tryd.cells163) (by rw [leafL_length]; decide) (leaf_at (by omega)))) ?_
      refine S.opS rfl rfl (OpV.slice1 (bytes := 40) (v := .agg (leafL (ls.getD k leaf0)).toArray) Tryd.underlying50 Tryd.elem163 (by decide) rfl (leafL_vl _) (fun g49 => ?_))
      refine S.opS rfl rfl (OpV.app3 (bytes := 40) (news := leafL (ls.getD k leaf0)) Tryd.underlying50 Tryd.elem163 rfl rfl (Has.blk (cs := leafL (ls.getD k leaf0)) (Has.at 0 rfl)) (by rw [leafL_length]) (leafL_one _) (by simp only [maxLen]; omega) (by (try dsimp only); omega) (fun O1 d1 => ?_))
      refine S.q rfl rfl (Qt.assign (by conv => lhs; whnf)) ?_
      refine S.nil ?_
      refine TC.region ?_
      refine S.q rfl rfl (Qt.move (by conv => lhs; whnf)) ?_
      refine S.q rfl rfl (Qt.add (b := 1) rfl rfl (by simp only [kmax]; omega)) ?_
      refine S.q rfl rfl (Qt.assign (by conv => lhs; whnf)) ?_
      refine S.nil ?_
      refine ⟨(k + 1, a ++ [ls.getD k leaf0], b, (O1, d1), (A2, c2)), ?_, ?_, ⟨?_, (List.forall_mem_cons.2 ⟨rfl, (List.forall_mem_cons.2 ⟨(by show Value.slice O1 (a.length + 1) d1 = Value.slice O1 (a ++ [ls.getD k leaf0]).length d1; rw [len_snoc]), (List.forall_mem_cons.2 ⟨rfl, (fun _ h => nomatch h)⟩)⟩)⟩)⟩, (by dsimp only; simp only [len_snoc, flat_snoc]; exact Sub.trans (Sub.keep _ (Sub.keep _ (Sub.keep _ (Sub.keep _ (Sub.drop _ (Sub.nil [])))))) (Sub.trans (Sub.keep _ (Sub.trans (Sub.keep _ (Sub.trans (Sub.keep _ (Sub.trans (Sub.keep _ (Sub.refl _)) (Sub.of_perm (List.perm_middle (l₁ := [_]))))) (Sub.of_perm (List.perm_middle (l₁ := [_]))))) (Sub.of_perm (List.perm_middle (l₁ := [_]))))) (Sub.of_perm (List.perm_middle (l₁ := [_])))))⟩
      · exact ⟨by show _ ≤ _; dsimp only; omega, by dsimp only; rw [cut_step ls l _ h29, if_pos h43, ha], by dsimp only; rw [rest_step ls l _ h29, if_pos h43, hb]⟩
      · show _ < _; dsimp only; omega
      repeat (first | exact Out.refl _ _ | refine Out.put rfl ?_ | refine Out.puts rfl ?_ | refine Out.scr ?_ | refine Out.scr' rfl ?_)
    · refine S.nil ?_
      refine S.if_f rfl ?_
      refine TC.region ?_
      refine S.q rfl rfl (Qt.move (by conv => lhs; whnf)) ?_
      refine S.q rfl rfl (Qt.move (by conv => lhs; whnf)) ?_
      refine S.q rfl rfl (Qt.move (by conv => lhs; whnf)) ?_
      refine S.q rfl rfl (Qt.index Tryd.underlying50 Tryd.cells163 rfl rfl (by omega) (Has.ro hL) (by rw [leafL_len]; omega)) ?_
      refine S.q rfl rfl (Qt.load rfl (Ld.slr (vs := leafL (ls.getD k leaf0)) (Has.ro hL) Tryd.row163 (by rw [leafL_length]; exact Tryd.cells163) (by rw [leafL_length]; decide) (leaf_at (by omega)))) ?_
      refine S.opS rfl rfl (OpV.slice1 (bytes := 40) (v := .agg (leafL (ls.getD k leaf0)).toArray) Tryd.underlying50 Tryd.elem163 (by decide) rfl (leafL_vl _) (fun g56 => ?_))
      refine S.opS rfl rfl (OpV.app4 (bytes := 40) (news := leafL (ls.getD k leaf0)) Tryd.underlying50 Tryd.elem163 rfl rfl (Has.blk (cs := leafL (ls.getD k leaf0)) (Has.at 0 rfl)) (by rw [leafL_length]) (leafL_one _) (by simp only [maxLen]; omega) (by (try dsimp only); omega) (fun O1 d1 => ?_))
      refine S.q rfl rfl (Qt.assign (by conv => lhs; whnf)) ?_
      refine S.nil ?_
      refine TC.region ?_
      refine S.q rfl rfl (Qt.move (by conv => lhs; whnf)) ?_
      refine S.q rfl rfl (Qt.add (b := 1) rfl rfl (by simp only [kmax]; omega)) ?_
      refine S.q rfl rfl (Qt.assign (by conv => lhs; whnf)) ?_
      refine S.nil ?_
      refine ⟨(k + 1, a, b ++ [ls.getD k leaf0], (A1, c1), (O1, d1)), ?_, ?_, ⟨?_, (List.forall_mem_cons.2 ⟨rfl, (List.forall_mem_cons.2 ⟨rfl, (List.forall_mem_cons.2 ⟨(by show Value.slice O1 (b.length + 1) d1 = Value.slice O1 (b ++ [ls.getD k leaf0]).length d1; rw [len_snoc]), (fun _ h => nomatch h)⟩)⟩)⟩)⟩, (by dsimp only; simp only [len_snoc, flat_snoc]; exact Sub.trans (Sub.keep _ (Sub.keep _ (Sub.keep _ (Sub.keep _ (Sub.drop _ (Sub.nil [])))))) (Sub.trans (Sub.keep _ (Sub.trans (Sub.keep _ (Sub.trans (Sub.keep _ (Sub.trans (Sub.keep _ (Sub.refl _)) (Sub.of_perm (List.perm_middle (l₁ := [_]))))) (Sub.of_perm (List.perm_middle (l₁ := [_]))))) (Sub.of_perm (List.perm_middle (l₁ := [_]))))) (Sub.of_perm (List.perm_middle (l₁ := [_])))))⟩
      · exact ⟨by show _ ≤ _; dsimp only; omega, by dsimp only; rw [cut_step ls l _ h29, if_neg h43, ha], by dsimp only; rw [rest_step ls l _ h29, if_neg h43, hb]⟩
      · show _ < _; dsimp only; omega
      repeat (first | exact Out.refl _ _ | refine Out.put rfl ?_ | refine Out.puts rfl ?_ | refine Out.scr ?_ | refine Out.scr' rfl ?_)
  · refine S.nil ?_
    refine S.if_f rfl ?_
    refine TC.exit ?_
    refine TC.seq ?_
    refine S.draw ([17], []) Tryd.mixed (Sub.nil _) ?_
    refine D.qX (k := 0) rfl (by kernel_rfl) (by kernel_rfl) (by kernel_rfl) rfl rfl (Qt.move (by conv => lhs; whnf)) ?_
    refine D.qX (k := 1) rfl (by kernel_rfl) (by kernel_rfl) (by kernel_rfl) rfl rfl (Qt.load rfl (Ld.all (vs := vl (.agg #[.int .i64 (ht : Int), .slice A0 n0 c0, .slice O 33 d])) (Has.at 1 rfl) Tryd.row52 Tryd.cells52)) ?_
    refine D.qX (k := 2) rfl (by kernel_rfl) (by kernel_rfl) (by kernel_rfl) rfl rfl (Qt.move (by conv => lhs; whnf)) ?_
    refine D.qX (k := 3) rfl (by kernel_rfl) (by kernel_rfl) (by kernel_rfl) rfl rfl (Qt.move (by conv => lhs; whnf)) ?_
    refine D.qX (k := 4) rfl (by kernel_rfl) (by kernel_rfl) (by kernel_rfl) rfl rfl (Qt.sub (b := 1) rfl rfl (by omega) (by simp only [kmax]; omega)) ?_
    refine D.qX (k := 5) rfl (by kernel_rfl) (by kernel_rfl) (by kernel_rfl) rfl rfl (Qt.move (by conv => lhs; whnf)) ?_
    refine D.qX (k := 6) rfl (by kernel_rfl) (by kernel_rfl) (by kernel_rfl) rfl rfl (Qt.mul (a := 2) rfl rfl (by simp only [kmax]; omega)) ?_
    refine D.cX (k := 7) rfl (by kernel_rfl) (by kernel_rfl) (by kernel_rfl) rfl rfl (CalU.con0 Tryd.ent99 rfl (fun w hw => hrec (2 * p) a A1 c1 ht A0 n0 c0 O d w (by omega) (by omega) (fun x hx => hlow x (by rw [ha, take_all ls (by omega)] at hx; exact (List.mem_filter.1 hx).1)) (fun x hx => cutL_mem x (by rw [ha] at hx; exact hx)) (Rd.own (Rd.at 2 rfl) w hw) (Rd.ro hO w hw) (hT.at hw))) ?_
    refine D.qX (k := 8) rfl (by kernel_rfl) (by kernel_rfl) (by kernel_rfl) rfl rfl (Qt.load rfl (Ld.all (vs := vl (.agg #[.int .i64 (ht : Int), .slice A0 n0 c0, .slice O 33 d])) (Has.at 1 rfl) Tryd.row52 Tryd.cells52)) ?_
    refine D.qX (k := 9) rfl (by kernel_rfl) (by kernel_rfl) (by kernel_rfl) rfl rfl (Qt.move (by conv => lhs; whnf)) ?_
    refine D.qX (k := 10) rfl (by kernel_rfl) (by kernel_rfl) (by kernel_rfl) rfl rfl (Qt.move (by conv => lhs; whnf)) ?_
    refine D.qX (k := 11) rfl (by kernel_rfl) (by kernel_rfl) (by kernel_rfl) rfl rfl (Qt.sub (b := 1) rfl rfl (by omega) (by simp only [kmax]; omega)) ?_
    refine D.qX (k := 12) rfl (by kernel_rfl) (by kernel_rfl) (by kernel_rfl) rfl rfl (Qt.move (by conv => lhs; whnf)) ?_
    refine D.qX (k := 13) rfl (by kernel_rfl) (by kernel_rfl) (by kernel_rfl) rfl rfl (Qt.mul (a := 2) rfl rfl (by simp only [kmax]; omega)) ?_
    refine D.qX (k := 14) rfl (by kernel_rfl) (by kernel_rfl) (by kernel_rfl) rfl rfl (Qt.add (b := 1) rfl rfl (by simp only [kmax]; omega)) ?_
    refine D.cX (k := 15) rfl (by kernel_rfl) (by kernel_rfl) (by kernel_rfl) rfl rfl (CalU.con0 Tryd.ent99 rfl (fun w hw => hrec (2 * p + 1) b A2 c2 ht A0 n0 c0 O d w (by omega) (by omega) (fun x hx => hlow x (by rw [hb, take_all ls (by omega)] at hx; exact (List.mem_filter.1 hx).1)) (fun x hx => by rw [hb, take_all ls (by omega), rest_cut hall] at hx; exact cutL_mem x hx) (Rd.own (Rd.at 3 rfl) w hw) (Rd.ro hO w hw) (hT.at hw))) ?_
    refine D.cX (k := 16) rfl (by kernel_rfl) (by kernel_rfl) (by kernel_rfl) rfl rfl (CalU.con0 Tryd.ent91 rfl (fun w hw => (by have h := rjoin_R (l + 1) (by omega) (nodeH (fL E a) l (2 * p)) (nodeH (fL E b) l (2 * p + 1)) w (hT.at hw); rw [show joinH (l + 1) (nodeH (fL E a) l (2 * p)) (nodeH (fL E b) l (2 * p + 1)) = nodeH (fL E ls) (l + 1) p by rw [ha, hb, take_all ls (by omega)]; exact node_parts hall] at h; exact h : Calls Tryd.prog 91 #[.int .i64 ((l + 1 : Nat) : Int), hv (nodeH (fL E a) l (2 * p)), hv (nodeH (fL E b) l (2 * p + 1))] w (Ret w (hv (nodeH (fL E ls) (l + 1) p)))))) ?_
    refine D.opN (k := 17) (Sub.nil _) rfl (by kernel_rfl) (by kernel_rfl) rfl (OpV.storeV0 (v := hv (_)) rfl rfl (hv_size Tryd.cells23) (hv_all _) (hv_len _) ⟨Sub.nil _, ?_⟩)
    refine D.done (Sub.nil _) (by kernel_rfl) ?_
    refine TC.ret ?_
    refine finQ.ret (RVs.cell rfl (Ld.all (Has.at 0 rfl) Tryd.row23 (hv_size Tryd.cells23)) RVs.nil) (Sub.nil _) ?_
    exact ⟨rfl, rfl⟩
theorem part_C (E : Nat → H32) (hE : ∀ h, E (h + 1) = joinH (h + 1) (E h) (E h)) : ∀ l, l ≤ 32 → PartC E l
  | 0, hl => fun p ls A c ht A0 n0 c0 O d w0 hp hlen hlow hall hL hO hT => by
    rcases Nat.eq_zero_or_pos ls.length with h0 | h0
    · exact Calls.ret (part_walkE E 0 p ls A c ht A0 n0 c0 O d w0 hp hlen hlow hall hL hO hT hE hl (List.eq_nil_of_length_eq_zero h0))
    · exact Calls.ret (part_walk0 E p ls A c ht A0 n0 c0 O d w0 hp hlen hlow hall hL hO hT h0)
  | l + 1, hl => fun p ls A c ht A0 n0 c0 O d w0 hp hlen hlow hall hL hO hT => by
    rcases Nat.eq_zero_or_pos ls.length with h0 | h0
    · exact Calls.ret (part_walkE E (l + 1) p ls A c ht A0 n0 c0 O d w0 hp hlen hlow hall hL hO hT hE hl (List.eq_nil_of_length_eq_zero h0))
    · exact Calls.ret (part_walkS E l p ls A c ht A0 n0 c0 O d w0 hp hlen hlow hall hL hO hT hl h0 (part_C E hE l (by omega)))

set_option maxHeartbeats 400000 in
theorem rnode_walk (E : Nat → H32) (hE : ∀ h, E (h + 1) = joinH (h + 1) (E h) (E h)) (height : Nat) (hh : height ≤ 32) (ls : Ls) (A : Option Addr) (c : Nat) (O : Option Addr) (d : Nat) (l p : Nat) (ho : okAt height (l, p)) (w0 : World) (hlen : ls.length ≤ 4096) (hlow : ∀ x ∈ ls, x.1 < 18446744073709551616) (hL : Ro w0 [] (SlA A (ls.flatMap leafL))) (hO : Ro w0 [] (SlA O (hcs (emptL E)))) (hT : Tabs 3 1 w0 []) :
    Calls Tryd.prog 36 #[.agg #[.int .i64 (height : Int), .slice A ls.length c, .slice O 33 d], .int .i64 (l : Int), .int .u64 (p : Int)] w0 (Post w0 [] fun v L => v = hv (nodeH (fL E ls) l p) ∧ L = []) := by
  refine Calls.of (L := []) (n := 40) (rs := [.cell 6 23]) Tryd.func36 rfl rfl rfl (Nat.le_of_ble_eq_true rfl) (Sat.nil _) ?_
  obtain ⟨hl32, hp32⟩ := okAt_lt hh ho
  refine TC.ownNil 163 33 ?_
  refine TC.seq ?_
  refine TC.region ?_
  refine S.opS rfl rfl (OpV.box (v := .agg #[.int .i64 (height : Int), .slice A ls.length c, .slice O 33 d]) rfl (fun b3 => ?_))
  refine S.opS rfl rfl (OpV.alloc Tryd.zero23 (fun b6 => ?_))
  refine S.nil ?_
  refine TC.seq ?_
  refine TC.region ?_
  refine S.q rfl rfl (Qt.assign (by conv => lhs; whnf)) ?_
  refine S.nil ?_
  refine TC.seq ?_
  refine TC.seq ?_
  refine TC.region ?_
  refine S.q rfl rfl (Qt.assign (by conv => lhs; whnf)) ?_
  refine S.nil ?_
  refine TC.block ?_
  refine TC.loop (γ := Nat × Ls × Option Addr × Nat) [9, 10, 11, 12, 13, 16, 17, 18, 19, 20, 21, 22, 23, 24, 25, 26, 27, 28, 29, 30, 31, 32, 33, 34, 7, 14, 15, 8] (fun g => [(8, .int .i64 ((g.1 : Nat) : Int)), (7, .slice g.2.2.1 g.2.1.length g.2.2.2)]) (fun g => [Blk b6 23 (List.replicate 32 (.int .u8 0)), Blk b3 52 (vl (.agg #[.int .i64 (height : Int), .slice A ls.length c, .slice O 33 d])), OwnA 163 33 g.2.2.1 (g.2.1).length g.2.2.2 ((g.2.1).flatMap leafL)]) (fun g => g.1 ≤ ls.length ∧ g.2.1 = cutL (ls.take g.1) l p) (fun g => ls.length - g.1) ((0, [], none, 0))
    ⟨Nat.zero_le _, rfl⟩ ⟨Out.refl _ _, (List.forall_mem_cons.2 ⟨rfl, (List.forall_mem_cons.2 ⟨rfl, (fun _ h => nomatch h)⟩)⟩)⟩ (Sub.refl _) ?_
  rintro ⟨k, a, A1, c1⟩ u ⟨hk, ha⟩
  dsimp only at hk ha
  have hal : a.length ≤ k := by rw [ha]; exact cut_take_len ls k l _ hk
  refine TC.seq ?_
  refine TC.seq ?_
  refine TC.region ?_
  refine S.q rfl rfl (Qt.move (by conv => lhs; whnf)) ?_
  refine S.q rfl rfl (Qt.field Tryd.underlying52 rfl Tryd.cells50 rfl) ?_
  refine S.q rfl rfl (Qt.load rfl (Ld.one (Has.at 1 rfl) Tryd.one50 (rfl))) ?_
  refine S.q rfl rfl (Qt.len_slice Tryd.underlying50 rfl) ?_
  refine S.dec rfl rfl (Qt.lt rfl rfl) (fun h13 => ?_) (fun h13 => ?_)
  · refine S.nil ?_
    refine S.if_t rfl ?_
    refine TC.skip ?_
    refine TC.seq ?_
    refine TC.block ?_
    refine TC.seq ?_
    refine TC.region ?_
    refine S.q rfl rfl (Qt.field Tryd.underlying52 rfl Tryd.cells50 rfl) ?_
    refine S.q rfl rfl (Qt.load rfl (Ld.one (Has.at 1 rfl) Tryd.one50 (rfl))) ?_
    refine S.q rfl rfl (Qt.move (by conv => lhs; whnf)) ?_
    refine S.q rfl rfl (Qt.index Tryd.underlying50 Tryd.cells163 rfl rfl (by omega) (Has.ro hL) (by rw [leafL_len]; omega)) ?_
    refine S.q rfl rfl (Qt.fieldS Tryd.underlying163 rfl Tryd.cells24 rfl (Has.ro hL) (by rw [leafL_len]; omega)) ?_
    refine S.q rfl rfl (Qt.load rfl (Ld.sl (v := .int .u64 ((ls.getD k leaf0).1 : Int)) (Has.ro hL) Tryd.one24 (leaf_at (by omega) 0 _ rfl))) ?_
    refine S.q rfl rfl (Qt.move (by conv => lhs; whnf)) ?_
    refine S.q rfl rfl (Qt.convert Tryd.underlying3 Tryd.underlying155 rfl (by simp only [kmax]; omega)) ?_
    refine S.q rfl rfl (Qt.shrN rfl rfl (by have := hlow _ (getD_mem (k := k) leaf0 h13); simp only [kmax]; omega)) ?_
    refine S.q rfl rfl (Qt.move (by conv => lhs; whnf)) ?_
    refine S.dec rfl rfl (Qt.eq rfl rfl) (fun h26 => ?_) (fun h26 => ?_)
    · refine S.nil ?_
      refine S.if_t rfl ?_
      refine TC.region ?_
      refine S.q rfl rfl (Qt.move (by conv => lhs; whnf)) ?_
      refine S.q rfl rfl (Qt.field Tryd.underlying52 rfl Tryd.cells50 rfl) ?_
      refine S.q rfl rfl (Qt.load rfl (Ld.one (Has.at 1 rfl) Tryd.one50 (rfl))) ?_
      refine S.q rfl rfl (Qt.move (by conv => lhs; whnf)) ?_
      refine S.q rfl rfl (Qt.index Tryd.underlying50 Tryd.cells163 rfl rfl (by omega) (Has.ro hL) (by rw [leafL_len]; omega)) ?_
      refine S.q rfl rfl (Qt.load rfl (Ld.slr (vs := leafL (ls.getD k leaf0)) (Has.ro hL) Tryd.row163 (by rw [leafL_length]; exact Tryd.cells163) (by rw [leafL_length]; decide) (leaf_at (by omega)))) ?_
      refine S.opS rfl rfl (OpV.slice1 (bytes := 40) (v := .agg (leafL (ls.getD k leaf0)).toArray) Tryd.underlying50 Tryd.elem163 (by decide) rfl (leafL_vl _) (fun g33 => ?_))
      refine S.opS rfl rfl (OpV.app3 (bytes := 40) (news := leafL (ls.getD k leaf0)) Tryd.underlying50 Tryd.elem163 rfl rfl (Has.blk (cs := leafL (ls.getD k leaf0)) (Has.at 0 rfl)) (by rw [leafL_length]) (leafL_one _) (by simp only [maxLen]; omega) (by (try dsimp only); omega) (fun O1 d1 => ?_))
      refine S.q rfl rfl (Qt.assign (by conv => lhs; whnf)) ?_
      refine S.nil ?_
      refine TC.region ?_
      refine S.q rfl rfl (Qt.move (by conv => lhs; whnf)) ?_
      refine S.q rfl rfl (Qt.add (b := 1) rfl rfl (by simp only [kmax]; omega)) ?_
      refine S.q rfl rfl (Qt.assign (by conv => lhs; whnf)) ?_
      refine S.nil ?_
      refine ⟨(k + 1, a ++ [ls.getD k leaf0], O1, d1), ?_, ?_, ⟨?_, (List.forall_mem_cons.2 ⟨rfl, (List.forall_mem_cons.2 ⟨(by show Value.slice O1 (a.length + 1) d1 = Value.slice O1 (a ++ [ls.getD k leaf0]).length d1; rw [len_snoc]), (fun _ h => nomatch h)⟩)⟩)⟩, (by dsimp only; simp only [len_snoc, flat_snoc]; exact Sub.trans (Sub.keep _ (Sub.keep _ (Sub.keep _ (Sub.drop _ (Sub.nil []))))) (Sub.trans (Sub.keep _ (Sub.trans (Sub.keep _ (Sub.trans (Sub.keep _ (Sub.refl _)) (Sub.of_perm (List.perm_middle (l₁ := [_]))))) (Sub.of_perm (List.perm_middle (l₁ := [_]))))) (Sub.of_perm (List.perm_middle (l₁ := [_])))))⟩
      · exact ⟨by show _ ≤ _; dsimp only; omega, by dsimp only; rw [cut_step ls l _ h13, if_pos h26, ha]⟩
      · show _ < _; dsimp only; omega
      repeat (first | exact Out.refl _ _ | refine Out.put rfl ?_ | refine Out.puts rfl ?_ | refine Out.scr ?_ | refine Out.scr' rfl ?_)
    · refine S.nil ?_
      refine S.if_f rfl ?_
      refine TC.skip ?_
      refine TC.region ?_
      refine S.q rfl rfl (Qt.move (by conv => lhs; whnf)) ?_
      refine S.q rfl rfl (Qt.add (b := 1) rfl rfl (by simp only [kmax]; omega)) ?_
      refine S.q rfl rfl (Qt.assign (by conv => lhs; whnf)) ?_
      refine S.nil ?_
      refine ⟨(k + 1, a, A1, c1), ?_, ?_, ⟨?_, (List.forall_mem_cons.2 ⟨rfl, (List.forall_mem_cons.2 ⟨rfl, (fun _ h => nomatch h)⟩)⟩)⟩, Sub.refl _⟩
      · exact ⟨by show _ ≤ _; dsimp only; omega, by dsimp only; rw [cut_step ls l _ h13, if_neg h26, ha]⟩
      · show _ < _; dsimp only; omega
      repeat (first | exact Out.refl _ _ | refine Out.put rfl ?_ | refine Out.puts rfl ?_ | refine Out.scr ?_ | refine Out.scr' rfl ?_)
  · refine S.nil ?_
    refine S.if_f rfl ?_
    refine TC.exit ?_
    refine TC.seq ?_
    refine TC.region ?_
    refine S.q rfl rfl (Qt.load rfl (Ld.all (vs := vl (.agg #[.int .i64 (height : Int), .slice A ls.length c, .slice O 33 d])) (Has.at 1 rfl) Tryd.row52 Tryd.cells52)) ?_
    refine S.q rfl rfl (Qt.move (by conv => lhs; whnf)) ?_
    refine S.q rfl rfl (Qt.move (by conv => lhs; whnf)) ?_
    refine S.q rfl rfl (Qt.move (by conv => lhs; whnf)) ?_
    refine S.opS rfl rfl (OpV.con0 Tryd.ent99 rfl (fun w hw => (by have h := part_C E hE l hl32 p a A1 c1 height A ls.length c O d w (okAt_bound hh ho) (by omega) (fun x hx => hlow x (by rw [ha, take_all ls (by omega)] at hx; exact (List.mem_filter.1 hx).1)) (fun x hx => cutL_mem x (by rw [ha] at hx; exact hx)) (Rd.own (Rd.at 2 rfl) w hw) (Rd.ro hO w hw) (hT.at hw); rw [show nodeH (fL E a) l p = nodeH (fL E ls) l p by rw [ha, take_all ls (by omega), node_cut]] at h; exact h : Calls Tryd.prog 99 #[.agg #[.int .i64 (height : Int), .slice A ls.length c, .slice O 33 d], .slice A1 a.length c1, .int .i64 (l : Int), .int .u64 (p : Int)] w (Ret w (hv (nodeH (fL E ls) l p))))) ?_)
    refine S.opN rfl (OpV.storeV0 (v := hv (_)) rfl rfl (hv_size Tryd.cells23) (hv_all _) (hv_len _) ?_)
    refine S.nil ?_
    refine TC.ret ?_
    refine finQ.ret (RVs.cell rfl (Ld.all (Has.at 0 rfl) Tryd.row23 (hv_size Tryd.cells23)) RVs.nil) (Sub.nil _) ?_
    exact ⟨rfl, rfl⟩
theorem rnode_R (E : Nat → H32) (hE : ∀ h, E (h + 1) = joinH (h + 1) (E h) (E h)) (height : Nat) (hh : height ≤ 32) (ls : Ls) (A : Option Addr) (c : Nat) (O : Option Addr) (d : Nat) (l p : Nat) (ho : okAt height (l, p)) (w0 : World) (hlen : ls.length ≤ 4096) (hlow : ∀ x ∈ ls, x.1 < 18446744073709551616) (hL : Ro w0 [] (SlA A (ls.flatMap leafL))) (hO : Ro w0 [] (SlA O (hcs (emptL E)))) (hT : Tabs 3 1 w0 []) : Calls Tryd.prog 36 #[.agg #[.int .i64 (height : Int), .slice A ls.length c, .slice O 33 d], .int .i64 (l : Int), .int .u64 (p : Int)] w0 (Ret w0 (hv (nodeH (fL E ls) l p))) := Calls.ret (rnode_walk E hE height hh ls A c O d l p ho w0 hlen hlow hL hO hT)

set_option maxHeartbeats 400000 in
theorem rroot_walk (E : Nat → H32) (hE : ∀ h, E (h + 1) = joinH (h + 1) (E h) (E h)) (height : Nat) (hh : height ≤ 32) (ls : Ls) (A : Option Addr) (c : Nat) (O : Option Addr) (d : Nat) (w0 : World) (hlen : ls.length ≤ 4096) (hlow : ∀ x ∈ ls, x.1 < 18446744073709551616) (hL : Ro w0 [] (SlA A (ls.flatMap leafL))) (hO : Ro w0 [] (SlA O (hcs (emptL E)))) (hT : Tabs 3 1 w0 []) :
    Calls Tryd.prog 118 #[.agg #[.int .i64 (height : Int), .slice A ls.length c, .slice O 33 d]] w0 (Post w0 [] fun v L => v = hv (nodeH (fL E ls) height 0) ∧ L = []) := by
  refine Calls.of (L := []) (n := 7) (rs := [.cell 2 23]) Tryd.func118 rfl rfl rfl (Nat.le_of_ble_eq_true rfl) (Sat.nil _) ?_
  refine TC.seq ?_
  refine TC.region ?_
  refine S.opS rfl rfl (OpV.box (v := .agg #[.int .i64 (height : Int), .slice A ls.length c, .slice O 33 d]) rfl (fun b1 => ?_))
  refine S.opS rfl rfl (OpV.alloc Tryd.zero23 (fun b2 => ?_))
  refine S.nil ?_
  refine TC.seq ?_
  refine TC.region ?_
  refine S.q rfl rfl (Qt.load rfl (Ld.all (vs := vl (.agg #[.int .i64 (height : Int), .slice A ls.length c, .slice O 33 d])) (Has.at 1 rfl) Tryd.row52 Tryd.cells52)) ?_
  refine S.q rfl rfl (Qt.field Tryd.underlying52 rfl Tryd.cells3 rfl) ?_
  refine S.q rfl rfl (Qt.load rfl (Ld.one (Has.at 1 rfl) Tryd.one3 (rfl))) ?_
  refine S.opS rfl rfl (OpV.con0 Tryd.ent36 rfl (fun w hw => rnode_R E hE height hh ls A c O d (height) (0) (okRoot height) w hlen hlow (Rd.ro hL w hw) (Rd.ro hO w hw) (hT.at hw)) ?_)
  refine S.opN rfl (OpV.storeV0 (v := hv (_)) rfl rfl (hv_size Tryd.cells23) (hv_all _) (hv_len _) ?_)
  refine S.nil ?_
  refine TC.ret ?_
  refine finQ.ret (RVs.cell rfl (Ld.all (Has.at 0 rfl) Tryd.row23 (hv_size Tryd.cells23)) RVs.nil) (Sub.nil _) ?_
  exact ⟨rfl, rfl⟩
theorem rroot_R (E : Nat → H32) (hE : ∀ h, E (h + 1) = joinH (h + 1) (E h) (E h)) (height : Nat) (hh : height ≤ 32) (ls : Ls) (A : Option Addr) (c : Nat) (O : Option Addr) (d : Nat) (w0 : World) (hlen : ls.length ≤ 4096) (hlow : ∀ x ∈ ls, x.1 < 18446744073709551616) (hL : Ro w0 [] (SlA A (ls.flatMap leafL))) (hO : Ro w0 [] (SlA O (hcs (emptL E)))) (hT : Tabs 3 1 w0 []) : Calls Tryd.prog 118 #[.agg #[.int .i64 (height : Int), .slice A ls.length c, .slice O 33 d]] w0 (Ret w0 (hv (nodeH (fL E ls) height 0))) := Calls.ret (rroot_walk E hE height hh ls A c O d w0 hlen hlow hL hO hT)

end Go.Proofs.YtlneklemjfefpaaDoor
