/-
  Walks: the root that leaves and a proof come to. Printed by a program of ours. Walks: roots and checks. Printed by a program of ours.
-/
import Derived.Test.YtgdjcmehlhebdaaGreatDoorYZUD1
import Derived.Test.YtgdjcmehlhebdaaGreatDoorP1
namespace Go.Proofs.YtgdjcmehlhebdaaGreatDoor
open Go.E
set_option linter.unusedVariables false
set_option maxRecDepth 4000

def ClimbC (height l : Nat) : Prop := ∀ (p : Nat) (xs : List Nat) (A : Option Addr) (c cb : Nat) (A1 : Option Addr) (lr : List H32) (c1 : Nat) (A2 : Option Addr) (br : List H32) (c2 : Nat) (O : Option Addr) (tt : List Tx) (d : Nat) (w0 : World),
  okAt height (l, p) → xs.Pairwise (· < ·) → (∀ x ∈ xs, x / 2 ^ l = p) → xs.length ≤ c → xs.length ≤ 256 → xs.length ≤ lr.length → (spots l xs p).length ≤ br.length → lr.length ≤ c1 → br.length ≤ c2 → tt.length + xs.length * l ≤ 16384 → lr.length ≤ 65536 → br.length ≤ 65536 →
  Sat w0 (climbL 331 112 cb A1 lr c1 A2 br c2 O tt d) → Ro w0 (fps (climbL 331 112 cb A1 lr c1 A2 br c2 O tt d)) (SlA A (u64s xs)) → Ro w0 (fps (climbL 331 112 cb A1 lr c1 A2 br c2 O tt d)) (SlA A1 (hcs lr)) → Ro w0 (fps (climbL 331 112 cb A1 lr c1 A2 br c2 O tt d)) (SlA A2 (hcs br)) → Tabs 3 1 w0 (fps (climbL 331 112 cb A1 lr c1 A2 br c2 O tt d)) →
  Calls Tryz.prog 206 #[.pointer (some ⟨cb, 0, none⟩), .slice A xs.length c, .int .i64 (l : Int), .int .u64 (p : Int)] w0 (Post w0 (fps (climbL 331 112 cb A1 lr c1 A2 br c2 O tt d)) fun v L => ∃ A1' c1' A2' c2' O' d' tt', v = .tuple #[hv (climbV l xs p (lr.take xs.length) (br.take (spots l xs p).length)), .nilIface] ∧
    L = climbL 331 112 cb A1' (lr.drop xs.length) c1' A2' (br.drop (spots l xs p).length) c2' O' (tt ++ tt') d' ∧ tt'.map (fun t => t.2.2) = climbT l xs p (lr.take xs.length) (br.take (spots l xs p).length) ∧ Less A1 lr xs.length A1' c1' ∧ Less A2 br (spots l xs p).length A2' c2')
set_option maxHeartbeats 400000 in
theorem first0_walk (cb : Nat) (B : Option Addr) (lr : List H32) (c1 : Nat) (u t : Value) (h0 : 0 < lr.length) (hc : lr.length ≤ c1) (hm : lr.length ≤ 65536) (w0 : World) (hL : Sat w0 [Blk cb 331 [.slice B lr.length c1, u, t]]) (hB : Ro w0 (fps [Blk cb 331 [.slice B lr.length c1, u, t]]) (SlA B (hcs lr))) :
    Calls Tryz.prog 214 #[.pointer (some ⟨cb, 0, none⟩)] w0 (Post w0 (fps [Blk cb 331 [.slice B lr.length c1, u, t]]) fun v L => v = hv (lr.getD 0 zeroH) ∧ L = [Blk cb 331 [.slice (if c1 = 1 then B else B.map (·.add (1 * 32))) (lr.length - 1) (c1 - 1), u, t]]) := by
  refine Calls.of (L := [Blk cb 331 [.slice B lr.length c1, u, t]]) (n := 16) (rs := [.cell 2 49]) Tryz.func214 rfl rfl rfl (Nat.le_of_ble_eq_true rfl) (hL) ?_
  refine TC.seq ?_
  refine TC.region ?_
  refine S.opS rfl rfl (OpV.alloc Tryz.zero49 (fun b2 => ?_))
  refine S.nil ?_
  refine TC.seq ?_
  refine TC.region ?_
  refine S.mv ?_
  refine S.q rfl rfl (Qt.nilCheck rfl) ?_
  refine S.q rfl rfl (Qt.load rfl (Ld.one (v := .slice B lr.length c1) (Has.at 1 rfl) Tryz.one33 rfl)) ?_
  refine S.q rfl rfl (Qt.index (i := 0) Tryz.underlying33 Tryz.cells49 rfl rfl (by omega) (Has.ro hB) (by rw [hcs_length]; omega)) ?_
  refine S.q rfl rfl (Qt.load rfl (Ld.hashS (Has.ro hB) 0 Tryz.row49 Tryz.cells49 h0 rfl)) ?_
  refine S.opS rfl rfl (OpV.alloc Tryz.zero49 (fun b3 => ?_))
  refine S.opN rfl (OpV.storeV0 (v := hv (_)) rfl rfl (hv_size Tryz.cells49) (hv_all _) (hv_len _) ?_)
  refine S.nil ?_
  refine TC.seq ?_
  refine TC.region ?_
  refine S.mv ?_
  refine S.mv ?_
  refine S.q rfl rfl (Qt.nilCheck rfl) ?_
  refine S.q rfl rfl (Qt.load rfl (Ld.one (v := .slice B lr.length c1) (Has.at 2 rfl) Tryz.one33 rfl)) ?_
  refine S.q rfl rfl (Qt.slice_lo (l := 1) Tryz.underlying33 Tryz.cells49 rfl rfl (by omega)) ?_
  refine S.q rfl rfl (Qt.nilCheck rfl) ?_
  refine S.opN rfl (OpV.storeC2 rfl (by conv => lhs; whnf) Tryz.cells33 rfl rfl (Nat.le_of_ble_eq_true rfl) ?_)
  refine S.nil ?_
  refine TC.seq ?_
  refine TC.region ?_
  refine S.q rfl rfl (Qt.load rfl (Ld.hash1 (x := lr.getD 0 zeroH) (Has.at 0 rfl) Tryz.row49 Tryz.cells49)) ?_
  refine S.opN rfl (OpV.storeV1 (v := hv (_)) rfl rfl (hv_size Tryz.cells49) (hv_all _) (hv_len _) ?_)
  refine S.nil ?_
  refine TC.ret ?_
  refine finQ.ret (RVs.cell rfl (Ld.all (Has.at 1 rfl) Tryz.row49 (hv_size Tryz.cells49)) RVs.nil) (Sub.trans (Sub.keep _ (Sub.drop _ (Sub.drop _ (Sub.nil [])))) (Sub.trans (Sub.keep _ (Sub.refl _)) (Sub.of_perm (List.perm_middle (l₁ := [_, _]))))) ?_
  exact ⟨rfl, rfl⟩
set_option maxHeartbeats 400000 in
theorem first1_walk (cb : Nat) (B : Option Addr) (lr : List H32) (c1 : Nat) (u t : Value) (h0 : 0 < lr.length) (hc : lr.length ≤ c1) (hm : lr.length ≤ 65536) (w0 : World) (hL : Sat w0 [Blk cb 331 [u, .slice B lr.length c1, t]]) (hB : Ro w0 (fps [Blk cb 331 [u, .slice B lr.length c1, t]]) (SlA B (hcs lr))) :
    Calls Tryz.prog 214 #[.pointer (some ⟨cb, 1, none⟩)] w0 (Post w0 (fps [Blk cb 331 [u, .slice B lr.length c1, t]]) fun v L => v = hv (lr.getD 0 zeroH) ∧ L = [Blk cb 331 [u, .slice (if c1 = 1 then B else B.map (·.add (1 * 32))) (lr.length - 1) (c1 - 1), t]]) := by
  refine Calls.of (L := [Blk cb 331 [u, .slice B lr.length c1, t]]) (n := 16) (rs := [.cell 2 49]) Tryz.func214 rfl rfl rfl (Nat.le_of_ble_eq_true rfl) (hL) ?_
  refine TC.seq ?_
  refine TC.region ?_
  refine S.opS rfl rfl (OpV.alloc Tryz.zero49 (fun b2 => ?_))
  refine S.nil ?_
  refine TC.seq ?_
  refine TC.region ?_
  refine S.mv ?_
  refine S.q rfl rfl (Qt.nilCheck rfl) ?_
  refine S.q rfl rfl (Qt.load rfl (Ld.one (v := .slice B lr.length c1) (Has.at 1 rfl) Tryz.one33 rfl)) ?_
  refine S.q rfl rfl (Qt.index (i := 0) Tryz.underlying33 Tryz.cells49 rfl rfl (by omega) (Has.ro hB) (by rw [hcs_length]; omega)) ?_
  refine S.q rfl rfl (Qt.load rfl (Ld.hashS (Has.ro hB) 0 Tryz.row49 Tryz.cells49 h0 rfl)) ?_
  refine S.opS rfl rfl (OpV.alloc Tryz.zero49 (fun b3 => ?_))
  refine S.opN rfl (OpV.storeV0 (v := hv (_)) rfl rfl (hv_size Tryz.cells49) (hv_all _) (hv_len _) ?_)
  refine S.nil ?_
  refine TC.seq ?_
  refine TC.region ?_
  refine S.mv ?_
  refine S.mv ?_
  refine S.q rfl rfl (Qt.nilCheck rfl) ?_
  refine S.q rfl rfl (Qt.load rfl (Ld.one (v := .slice B lr.length c1) (Has.at 2 rfl) Tryz.one33 rfl)) ?_
  refine S.q rfl rfl (Qt.slice_lo (l := 1) Tryz.underlying33 Tryz.cells49 rfl rfl (by omega)) ?_
  refine S.q rfl rfl (Qt.nilCheck rfl) ?_
  refine S.opN rfl (OpV.storeC2 rfl (by conv => lhs; whnf) Tryz.cells33 rfl rfl (Nat.le_of_ble_eq_true rfl) ?_)
  refine S.nil ?_
  refine TC.seq ?_
  refine TC.region ?_
  refine S.q rfl rfl (Qt.load rfl (Ld.hash1 (x := lr.getD 0 zeroH) (Has.at 0 rfl) Tryz.row49 Tryz.cells49)) ?_
  refine S.opN rfl (OpV.storeV1 (v := hv (_)) rfl rfl (hv_size Tryz.cells49) (hv_all _) (hv_len _) ?_)
  refine S.nil ?_
  refine TC.ret ?_
  refine finQ.ret (RVs.cell rfl (Ld.all (Has.at 1 rfl) Tryz.row49 (hv_size Tryz.cells49)) RVs.nil) (Sub.trans (Sub.keep _ (Sub.drop _ (Sub.drop _ (Sub.nil [])))) (Sub.trans (Sub.keep _ (Sub.refl _)) (Sub.of_perm (List.perm_middle (l₁ := [_, _]))))) ?_
  exact ⟨rfl, rfl⟩
set_option maxHeartbeats 400000 in
theorem climb_walkE (height : Nat) (hh : height ≤ 32) (l p : Nat) (xs : List Nat) (A : Option Addr) (c cb : Nat) (A1 : Option Addr) (lr : List H32) (c1 : Nat) (A2 : Option Addr) (br : List H32) (c2 : Nat) (O : Option Addr) (tt : List Tx) (d : Nat) (w0 : World) (ho : okAt height (l, p)) (hs : xs.Pairwise (· < ·)) (hx : ∀ x ∈ xs, x / 2 ^ (l) = p) (hc : xs.length ≤ c) (hn : xs.length ≤ 256) (hl1 : xs.length ≤ lr.length) (hl2 : (spots (l) xs p).length ≤ br.length) (hc1 : lr.length ≤ c1) (hc2 : br.length ≤ c2) (htt : tt.length + xs.length * (l) ≤ 16384) (hm1 : lr.length ≤ 65536) (hm2 : br.length ≤ 65536) (h0 : Sat w0 (climbL 331 112 cb A1 lr c1 A2 br c2 O tt d)) (hR : Ro w0 (fps (climbL 331 112 cb A1 lr c1 A2 br c2 O tt d)) (SlA A (u64s xs))) (hA1 : Ro w0 (fps (climbL 331 112 cb A1 lr c1 A2 br c2 O tt d)) (SlA A1 (hcs lr))) (hA2 : Ro w0 (fps (climbL 331 112 cb A1 lr c1 A2 br c2 O tt d)) (SlA A2 (hcs br))) (hT : Tabs 3 1 w0 (fps (climbL 331 112 cb A1 lr c1 A2 br c2 O tt d))) (he : xs = []) :
    Calls Tryz.prog 206 #[.pointer (some ⟨cb, 0, none⟩), .slice A xs.length c, .int .i64 ((l : Nat) : Int), .int .u64 (p : Int)] w0 (Post w0 (fps (climbL 331 112 cb A1 lr c1 A2 br c2 O tt d)) fun v L => ∃ A1' c1' A2' c2' O' d' tt', v = .tuple #[hv (climbV (l) xs p (lr.take xs.length) (br.take (spots (l) xs p).length)), .nilIface] ∧ L = climbL 331 112 cb A1' (lr.drop xs.length) c1' A2' (br.drop (spots (l) xs p).length) c2' O' (tt ++ tt') d' ∧ tt'.map (fun t => t.2.2) = climbT (l) xs p (lr.take xs.length) (br.take (spots (l) xs p).length) ∧ Less A1 lr xs.length A1' c1' ∧ Less A2 br (spots (l) xs p).length A2' c2') := by
  refine Calls.of (L := climbL 331 112 cb A1 lr c1 A2 br c2 O tt d) (n := 90) (rs := [.cell 8 49, .tmp 9]) Tryz.func206 rfl rfl rfl (Nat.le_of_ble_eq_true rfl) (h0) ?_
  subst he
  have hb1 : 1 ≤ br.length := by rw [spots_nil] at hl2; exact hl2
  refine TC.seq ?_
  refine TC.region ?_
  refine S.opS rfl rfl (OpV.alloc Tryz.zero49 (fun b8 => ?_))
  refine S.as ?_
  refine S.nil ?_
  refine TC.seq ?_
  refine TC.block ?_
  refine TC.seq ?_
  refine TC.region ?_
  refine S.mv ?_
  refine S.q rfl rfl (Qt.len_slice Tryz.underlying22 rfl) ?_
  refine S.q rfl rfl (Qt.dT (Qt.eq (b := 0) rfl rfl) (rfl)) ?_
  refine S.as ?_
  refine S.nil ?_
  refine S.if_t rfl ?_
  refine TC.seq ?_
  refine TC.region ?_
  refine S.mv ?_
  refine S.q rfl rfl (Qt.nilCheck rfl) ?_
  refine S.q rfl rfl (Qt.field Tryz.underlying331 rfl Tryz.cells33 rfl) ?_
  refine S.opS rfl rfl (OpV.con (Pre := [Blk cb 331 [.slice A1 lr.length c1, .slice A2 br.length c2, .slice O tt.length d]]) (R := _) Tryz.ent214 rfl (List.perm_middle (l₁ := [_])) (fun w hw => first1_walk cb A2 br c2 (.slice A1 lr.length c1) (.slice O tt.length d) (by omega) hc2 hm2 w hw.sat.left (Ro.of_pre hw hA2)) ?_)
  rintro v L' ⟨rfl, rfl⟩
  refine S.opN rfl (OpV.storeV1 (v := hv (_)) rfl rfl (hv_size Tryz.cells49) (hv_all _) (hv_len _) ?_)
  refine S.as ?_
  refine S.nil ?_
  refine TC.ret ?_
  refine finQ.ret (RVs.cell rfl (Ld.all (Has.at 1 rfl) Tryz.row49 (hv_size Tryz.cells49)) (RVs.tmp (by conv => lhs; whnf) RVs.nil)) (Sub.trans (Sub.keep _ (Sub.keep _ (Sub.keep _ (Sub.drop _ (Sub.nil []))))) (Sub.keep _ (Sub.trans (Sub.keep _ (Sub.trans (Sub.keep _ (Sub.refl _)) (Sub.of_perm (List.perm_middle (l₁ := [_]))))) (Sub.of_perm (List.perm_middle (l₁ := [_])))))) ?_
  refine ⟨A1, c1, if c2 = 1 then A2 else A2.map (·.add (1 * 32)), c2 - 1, O, d, [], ?_, ?_, by rw [climbT_nil]; rfl, Less.zero hc1, ?_⟩
  · rw [climbV_nil, headD_take (by rw [spots_nil]; exact Nat.zero_lt_one)]; rfl
  · rw [List.append_nil, List.length_nil, List.drop_zero, spots_nil, climbL, List.length_drop]; rfl
  · rw [spots_nil]; exact Less.one hc2 hb1
set_option maxHeartbeats 400000 in
theorem climb_walk0 (height : Nat) (hh : height ≤ 32) (p : Nat) (xs : List Nat) (A : Option Addr) (c cb : Nat) (A1 : Option Addr) (lr : List H32) (c1 : Nat) (A2 : Option Addr) (br : List H32) (c2 : Nat) (O : Option Addr) (tt : List Tx) (d : Nat) (w0 : World) (ho : okAt height (0, p)) (hs : xs.Pairwise (· < ·)) (hx : ∀ x ∈ xs, x / 2 ^ (0) = p) (hc : xs.length ≤ c) (hn : xs.length ≤ 256) (hl1 : xs.length ≤ lr.length) (hl2 : (spots (0) xs p).length ≤ br.length) (hc1 : lr.length ≤ c1) (hc2 : br.length ≤ c2) (htt : tt.length + xs.length * (0) ≤ 16384) (hm1 : lr.length ≤ 65536) (hm2 : br.length ≤ 65536) (h0 : Sat w0 (climbL 331 112 cb A1 lr c1 A2 br c2 O tt d)) (hR : Ro w0 (fps (climbL 331 112 cb A1 lr c1 A2 br c2 O tt d)) (SlA A (u64s xs))) (hA1 : Ro w0 (fps (climbL 331 112 cb A1 lr c1 A2 br c2 O tt d)) (SlA A1 (hcs lr))) (hA2 : Ro w0 (fps (climbL 331 112 cb A1 lr c1 A2 br c2 O tt d)) (SlA A2 (hcs br))) (hT : Tabs 3 1 w0 (fps (climbL 331 112 cb A1 lr c1 A2 br c2 O tt d))) (he : xs ≠ []) :
    Calls Tryz.prog 206 #[.pointer (some ⟨cb, 0, none⟩), .slice A xs.length c, .int .i64 ((0 : Nat) : Int), .int .u64 (p : Int)] w0 (Post w0 (fps (climbL 331 112 cb A1 lr c1 A2 br c2 O tt d)) fun v L => ∃ A1' c1' A2' c2' O' d' tt', v = .tuple #[hv (climbV (0) xs p (lr.take xs.length) (br.take (spots (0) xs p).length)), .nilIface] ∧ L = climbL 331 112 cb A1' (lr.drop xs.length) c1' A2' (br.drop (spots (0) xs p).length) c2' O' (tt ++ tt') d' ∧ tt'.map (fun t => t.2.2) = climbT (0) xs p (lr.take xs.length) (br.take (spots (0) xs p).length) ∧ Less A1 lr xs.length A1' c1' ∧ Less A2 br (spots (0) xs p).length A2' c2') := by
  refine Calls.of (L := climbL 331 112 cb A1 lr c1 A2 br c2 O tt d) (n := 90) (rs := [.cell 8 49, .tmp 9]) Tryz.func206 rfl rfl rfl (Nat.le_of_ble_eq_true rfl) (h0) ?_
  have hpos := List.length_pos_iff.2 he
  have h1 : xs.length = 1 := by have := rise_one hs hx; omega
  have hb1 : 0 < lr.length := by omega
  refine TC.seq ?_
  refine TC.region ?_
  refine S.opS rfl rfl (OpV.alloc Tryz.zero49 (fun b8 => ?_))
  refine S.as ?_
  refine S.nil ?_
  refine TC.seq ?_
  refine TC.block ?_
  refine TC.seq ?_
  refine TC.region ?_
  refine S.mv ?_
  refine S.q rfl rfl (Qt.len_slice Tryz.underlying22 rfl) ?_
  refine S.q rfl rfl (Qt.dF (Qt.eq (b := 0) rfl rfl) (by omega)) ?_
  refine S.as ?_
  refine S.nil ?_
  refine S.if_f rfl ?_
  refine TC.seq ?_
  refine TC.region ?_
  refine S.mv ?_
  refine S.q rfl rfl (Qt.dT (Qt.eq (b := 0) rfl rfl) (rfl)) ?_
  refine S.as ?_
  refine S.nil ?_
  refine S.if_t rfl ?_
  refine TC.seq ?_
  refine TC.region ?_
  refine S.mv ?_
  refine S.q rfl rfl (Qt.nilCheck rfl) ?_
  refine S.q rfl rfl (Qt.field Tryz.underlying331 rfl Tryz.cells33 rfl) ?_
  refine S.opS rfl rfl (OpV.con (Pre := [Blk cb 331 [.slice A1 lr.length c1, .slice A2 br.length c2, .slice O tt.length d]]) (R := _) Tryz.ent214 rfl (List.perm_middle (l₁ := [_])) (fun w hw => first0_walk cb A1 lr c1 (.slice A2 br.length c2) (.slice O tt.length d) (by omega) hc1 hm1 w hw.sat.left (Ro.of_pre hw hA1)) ?_)
  rintro v L' ⟨rfl, rfl⟩
  refine S.opN rfl (OpV.storeV1 (v := hv (_)) rfl rfl (hv_size Tryz.cells49) (hv_all _) (hv_len _) ?_)
  refine S.as ?_
  refine S.nil ?_
  refine TC.ret ?_
  refine finQ.ret (RVs.cell rfl (Ld.all (Has.at 1 rfl) Tryz.row49 (hv_size Tryz.cells49)) (RVs.tmp (by conv => lhs; whnf) RVs.nil)) (Sub.trans (Sub.keep _ (Sub.keep _ (Sub.keep _ (Sub.drop _ (Sub.nil []))))) (Sub.keep _ (Sub.trans (Sub.keep _ (Sub.trans (Sub.keep _ (Sub.refl _)) (Sub.of_perm (List.perm_middle (l₁ := [_]))))) (Sub.of_perm (List.perm_middle (l₁ := [_])))))) ?_
  refine ⟨if c1 = 1 then A1 else A1.map (·.add (1 * 32)), c1 - 1, A2, c2, O, d, [], ?_, ?_, rfl, ?_, by rw [spots_zero he]; exact Less.zero hc2⟩
  · rw [climbV_zero he, headD_take (by omega)]; rfl
  · rw [List.append_nil, spots_zero he, List.length_nil, List.drop_zero, climbL, List.length_drop, h1]
  · rw [h1]; exact Less.one hc1 hb1
set_option maxHeartbeats 3200000 in
theorem climb_walkS (height : Nat) (hh : height ≤ 32) (l p : Nat) (xs : List Nat) (A : Option Addr) (c cb : Nat) (A1 : Option Addr) (lr : List H32) (c1 : Nat) (A2 : Option Addr) (br : List H32) (c2 : Nat) (O : Option Addr) (tt : List Tx) (d : Nat) (w0 : World) (ho : okAt height (l + 1, p)) (hs : xs.Pairwise (· < ·)) (hx : ∀ x ∈ xs, x / 2 ^ (l + 1) = p) (hc : xs.length ≤ c) (hn : xs.length ≤ 256) (hl1 : xs.length ≤ lr.length) (hl2 : (spots (l + 1) xs p).length ≤ br.length) (hc1 : lr.length ≤ c1) (hc2 : br.length ≤ c2) (htt : tt.length + xs.length * (l + 1) ≤ 16384) (hm1 : lr.length ≤ 65536) (hm2 : br.length ≤ 65536) (h0 : Sat w0 (climbL 331 112 cb A1 lr c1 A2 br c2 O tt d)) (hR : Ro w0 (fps (climbL 331 112 cb A1 lr c1 A2 br c2 O tt d)) (SlA A (u64s xs))) (hA1 : Ro w0 (fps (climbL 331 112 cb A1 lr c1 A2 br c2 O tt d)) (SlA A1 (hcs lr))) (hA2 : Ro w0 (fps (climbL 331 112 cb A1 lr c1 A2 br c2 O tt d)) (SlA A2 (hcs br))) (hT : Tabs 3 1 w0 (fps (climbL 331 112 cb A1 lr c1 A2 br c2 O tt d))) (he : xs ≠ []) (hrec : ClimbC height l) :
    Calls Tryz.prog 206 #[.pointer (some ⟨cb, 0, none⟩), .slice A xs.length c, .int .i64 ((l + 1 : Nat) : Int), .int .u64 (p : Int)] w0 (Post w0 (fps (climbL 331 112 cb A1 lr c1 A2 br c2 O tt d)) fun v L => ∃ A1' c1' A2' c2' O' d' tt', v = .tuple #[hv (climbV (l + 1) xs p (lr.take xs.length) (br.take (spots (l + 1) xs p).length)), .nilIface] ∧ L = climbL 331 112 cb A1' (lr.drop xs.length) c1' A2' (br.drop (spots (l + 1) xs p).length) c2' O' (tt ++ tt') d' ∧ tt'.map (fun t => t.2.2) = climbT (l + 1) xs p (lr.take xs.length) (br.take (spots (l + 1) xs p).length) ∧ Less A1 lr xs.length A1' c1' ∧ Less A2 br (spots (l + 1) xs p).length A2' c2') := by
  refine Calls.of (L := climbL 331 112 cb A1 lr c1 A2 br c2 O tt d) (n := 90) (rs := [.cell 8 49, .tmp 9]) Tryz.func206 rfl rfl rfl (Nat.le_of_ble_eq_true rfl) (h0) ?_
  have hpos := List.length_pos_iff.2 he
  obtain ⟨hl32, hp32⟩ := okAt_lt hh ho
  obtain ⟨okl, okr⟩ := okAt_kids ho
  have hcl := cutN_len xs l (2 * p)
  have hcr := cutN_len xs l (2 * p + 1)
  have hnn := congrArg List.length (rise_parts l p xs hs hx)
  rw [List.length_append] at hnn
  have hsp := congrArg List.length (spots_succ (l := l) (p := p) he)
  rw [List.length_append] at hsp
  have hmul : xs.length * (l + 1) = (cutN xs l (2 * p)).length * l + (cutN xs l (2 * p + 1)).length * l + xs.length := by rw [Nat.mul_succ, hnn, Nat.add_mul]
  obtain ⟨eV, eT⟩ := climbV_parts (lr := lr) (br := br) he hs hx
  refine TC.seq ?_
  refine TC.region ?_
  refine S.opS rfl rfl (OpV.alloc Tryz.zero49 (fun b8 => ?_))
  refine S.as ?_
  refine S.nil ?_
  refine TC.seq ?_
  refine TC.block ?_
  refine TC.seq ?_
  refine TC.region ?_
  refine S.mv ?_
  refine S.q rfl rfl (Qt.len_slice Tryz.underlying22 rfl) ?_
  refine S.q rfl rfl (Qt.dF (Qt.eq (b := 0) rfl rfl) (by omega)) ?_
  refine S.as ?_
  refine S.nil ?_
  refine S.if_f rfl ?_
  refine TC.seq ?_
  refine TC.region ?_
  refine S.mv ?_
  refine S.q rfl rfl (Qt.dF (Qt.eq (b := 0) rfl rfl) (by omega)) ?_
  refine S.as ?_
  refine S.nil ?_
  refine S.if_f rfl ?_
  refine TC.skip ?_
  refine TC.seq ?_
  refine TC.region ?_
  refine S.mv ?_
  refine S.mv ?_
  refine S.mv ?_
  refine S.opS rfl rfl (OpV.con (Pre := []) (R := _) Tryz.ent187 rfl (List.Perm.refl _) (fun w hw => split_walk height l p hh ho A c xs hs hx hc hn w (Rd.ro hR w hw)) ?_)
  rintro v L' ⟨A', c', rfl, rfl, hc', hro⟩
  refine S.mv ?_
  refine S.q rfl rfl (Qt.extract rfl rfl) ?_
  refine S.q rfl rfl (Qt.extract rfl rfl) ?_
  refine S.as ?_
  refine S.as ?_
  refine S.nil ?_
  refine TC.seq ?_
  refine TC.region ?_
  refine S.mv ?_
  refine S.mv ?_
  refine S.mv ?_
  refine S.q rfl rfl (Qt.as (Qt.sub (a := l + 1) (b := 1) rfl rfl (by omega) (by simp only [kmax]; omega)) (by rw [Nat.add_sub_cancel])) ?_
  refine S.mv ?_
  refine S.q rfl rfl (Qt.mul (a := 2) rfl rfl (by simp only [kmax]; omega)) ?_
  refine S.opS rfl rfl (OpV.con (Pre := climbL 331 112 cb A1 lr c1 A2 br c2 O tt d) (R := _) Tryz.ent206 rfl ((List.perm_middle (l₁ := [_])).trans (List.Perm.cons _ ((List.perm_middle (l₁ := [_])).trans (List.Perm.cons _ (List.perm_middle (l₁ := [_])))))) (fun w hw => hrec (2 * p) (cutN xs l (2 * p)) A c cb A1 lr c1 A2 br c2 O tt d w okl (cutN_rise hs) cutN_mem (by omega) (by omega) (by omega) (by omega) hc1 hc2 (by omega) hm1 hm2 hw.sat.left (hro w _ (Ro.of_pre hw hR)).1 (Ro.of_pre hw hA1) (Ro.of_pre hw hA2) (hT.pre hw)) ?_)
  rintro v L' ⟨A1l, c1l, A2l, c2l, Ol, dl, tl, rfl, rfl, etl, le1, le2⟩
  have ltl := congrArg List.length etl
  rw [List.length_map] at ltl
  have btl := climbT_len l (cutN xs l (2 * p)) (2 * p) (lr.take (cutN xs l (2 * p)).length) (br.take (spots l (cutN xs l (2 * p)) (2 * p)).length)
  refine S.mv ?_
  refine S.q rfl rfl (Qt.extract rfl rfl) ?_
  refine S.q rfl rfl (Qt.extract rfl rfl) ?_
  refine S.opS rfl rfl (OpV.alloc Tryz.zero49 (fun b12 => ?_))
  refine S.opN rfl (OpV.storeV0 (v := hv (_)) rfl rfl (hv_size Tryz.cells49) (hv_all _) (hv_len _) ?_)
  refine S.as ?_
  refine S.nil ?_
  refine TC.seq ?_
  refine TC.seq ?_
  refine TC.region ?_
  refine S.mv ?_
  refine S.q rfl rfl (Qt.nenil_nil Tryz.underlying51 rfl) ?_
  refine S.nil ?_
  refine S.if_f rfl ?_
  refine TC.skip ?_
  refine TC.seq ?_
  refine TC.region ?_
  refine S.mv ?_
  refine S.mv ?_
  refine S.mv ?_
  refine S.q rfl rfl (Qt.as (Qt.sub (a := l + 1) (b := 1) rfl rfl (by omega) (by simp only [kmax]; omega)) (by rw [Nat.add_sub_cancel])) ?_
  refine S.mv ?_
  refine S.q rfl rfl (Qt.mul (a := 2) rfl rfl (by simp only [kmax]; omega)) ?_
  refine S.q rfl rfl (Qt.add (b := 1) rfl rfl (by simp only [kmax]; omega)) ?_
  refine S.opS rfl rfl (OpV.con (Pre := climbL 331 112 cb A1l (lr.drop (cutN xs l (2 * p)).length) c1l A2l (br.drop (spots l (cutN xs l (2 * p)) (2 * p)).length) c2l Ol (tt ++ tl) dl) (R := _) Tryz.ent206 rfl ((List.perm_middle (l₁ := [_])).trans (List.Perm.cons _ ((List.perm_middle (l₁ := [_])).trans (List.Perm.cons _ (List.perm_middle (l₁ := [_])))))) (fun w hw => hrec (2 * p + 1) (cutN xs l (2 * p + 1)) A' c' cb A1l (lr.drop (cutN xs l (2 * p)).length) c1l A2l (br.drop (spots l (cutN xs l (2 * p)) (2 * p)).length) c2l Ol (tt ++ tl) dl w okr (cutN_rise hs) cutN_mem hc' (by omega) (by rw [List.length_drop]; omega) (by rw [List.length_drop]; omega) le1.cap le2.cap (by rw [List.length_append]; omega) (by rw [List.length_drop]; omega) (by rw [List.length_drop]; omega) hw.sat.left (hro w _ (Ro.of_pre hw hR)).2 (le1.ro w _ (Ro.of_pre hw hA1)) (le2.ro w _ (Ro.of_pre hw hA2)) (hT.pre hw)) ?_)
  rintro v L' ⟨A1r, c1r, A2r, c2r, Or, dr, tr, rfl, rfl, etr, lf1, lf2⟩
  have ltr := congrArg List.length etr
  rw [List.length_map] at ltr
  have btr := climbT_len l (cutN xs l (2 * p + 1)) (2 * p + 1) ((lr.drop (cutN xs l (2 * p)).length).take (cutN xs l (2 * p + 1)).length) ((br.drop (spots l (cutN xs l (2 * p)) (2 * p)).length).take (spots l (cutN xs l (2 * p + 1)) (2 * p + 1)).length)
  have hlen : (tt ++ tl ++ tr).length ≤ 16384 := by rw [List.length_append, List.length_append]; omega
  have ptl := le1.next lf1
  have ptr := le2.next lf2
  refine S.mv ?_
  refine S.q rfl rfl (Qt.extract rfl rfl) ?_
  refine S.q rfl rfl (Qt.extract rfl rfl) ?_
  refine S.opS rfl rfl (OpV.alloc Tryz.zero49 (fun b14 => ?_))
  refine S.opN rfl (OpV.storeV0 (v := hv (_)) rfl rfl (hv_size Tryz.cells49) (hv_all _) (hv_len _) ?_)
  refine S.as ?_
  refine S.nil ?_
  refine TC.seq ?_
  refine TC.seq ?_
  refine TC.region ?_
  refine S.mv ?_
  refine S.q rfl rfl (Qt.nenil_nil Tryz.underlying51 rfl) ?_
  refine S.nil ?_
  refine S.if_f rfl ?_
  refine TC.skip ?_
  refine TC.seq ?_
  refine TC.region ?_
  refine S.mv ?_
  refine S.q rfl rfl (Qt.load rfl (Ld.hash1 (x := climbV l (cutN xs l (2 * p)) (2 * p) (lr.take (cutN xs l (2 * p)).length) (br.take (spots l (cutN xs l (2 * p)) (2 * p)).length)) (Has.at 4 rfl) Tryz.row49 Tryz.cells49)) ?_
  refine S.q rfl rfl (Qt.load rfl (Ld.hash1 (x := climbV l (cutN xs l (2 * p + 1)) (2 * p + 1) ((lr.drop (cutN xs l (2 * p)).length).take (cutN xs l (2 * p + 1)).length) ((br.drop (spots l (cutN xs l (2 * p)) (2 * p)).length).take (spots l (cutN xs l (2 * p + 1)) (2 * p + 1)).length)) (Has.at 0 rfl) Tryz.row49 Tryz.cells49)) ?_
  refine S.opS rfl rfl (OpV.con (Pre := []) (R := _) Tryz.ent176 rfl (List.Perm.refl _) (fun w hw => jointext_walk (l + 1) (by omega) (by omega) (climbV l (cutN xs l (2 * p)) (2 * p) (lr.take (cutN xs l (2 * p)).length) (br.take (spots l (cutN xs l (2 * p)) (2 * p)).length)) (climbV l (cutN xs l (2 * p + 1)) (2 * p + 1) ((lr.drop (cutN xs l (2 * p)).length).take (cutN xs l (2 * p + 1)).length) ((br.drop (spots l (cutN xs l (2 * p)) (2 * p)).length).take (spots l (cutN xs l (2 * p + 1)) (2 * p + 1)).length)) w) ?_)
  rintro v L' ⟨Ot, dt, rfl, rfl⟩
  refine TL.manyJoin (List.Perm.cons _ (List.perm_middle (l₁ := [_, _, _]))) ?_
  refine S.mv ?_
  refine S.q rfl rfl (Qt.extract rfl rfl) ?_
  refine S.q rfl rfl (Qt.extract rfl rfl) ?_
  refine S.as ?_
  refine S.as ?_
  refine S.nil ?_
  refine TC.seq ?_
  refine TC.seq ?_
  refine TC.region ?_
  refine S.mv ?_
  refine S.q rfl rfl (Qt.nenil_nil Tryz.underlying51 rfl) ?_
  refine S.nil ?_
  refine S.if_f rfl ?_
  refine TC.skip ?_
  refine TC.seq ?_
  refine TC.region ?_
  refine S.mv ?_
  refine S.mv ?_
  refine S.q rfl rfl (Qt.nilCheck rfl) ?_
  refine S.q rfl rfl (Qt.field Tryz.underlying331 rfl Tryz.cells111 rfl) ?_
  refine S.q rfl rfl (Qt.load rfl (Ld.one (v := .slice Or (tt ++ tl ++ tr).length dr) (Has.at 2 rfl) Tryz.one111 rfl)) ?_
  refine S.mv ?_
  refine S.opS rfl rfl (OpV.slice1 (bytes := 24) (v := .slice Ot (joinT (l + 1) (climbV l (cutN xs l (2 * p)) (2 * p) (lr.take (cutN xs l (2 * p)).length) (br.take (spots l (cutN xs l (2 * p)) (2 * p)).length)) (climbV l (cutN xs l (2 * p + 1)) (2 * p + 1) ((lr.drop (cutN xs l (2 * p)).length).take (cutN xs l (2 * p + 1)).length) ((br.drop (spots l (cutN xs l (2 * p)) (2 * p)).length).take (spots l (cutN xs l (2 * p + 1)) (2 * p + 1)).length))).length dt) Tryz.underlying111 Tryz.elem112 (by decide) rfl rfl (fun g84 => ?_))
  refine S.opS rfl rfl (OpV.app4 (bytes := 24) (news := [.slice Ot (joinT (l + 1) (climbV l (cutN xs l (2 * p)) (2 * p) (lr.take (cutN xs l (2 * p)).length) (br.take (spots l (cutN xs l (2 * p)) (2 * p)).length)) (climbV l (cutN xs l (2 * p + 1)) (2 * p + 1) ((lr.drop (cutN xs l (2 * p)).length).take (cutN xs l (2 * p + 1)).length) ((br.drop (spots l (cutN xs l (2 * p)) (2 * p)).length).take (spots l (cutN xs l (2 * p + 1)) (2 * p + 1)).length))).length dt]) Tryz.underlying111 Tryz.elem112 rfl rfl (Has.blk (cs := [.slice Ot (joinT (l + 1) (climbV l (cutN xs l (2 * p)) (2 * p) (lr.take (cutN xs l (2 * p)).length) (br.take (spots l (cutN xs l (2 * p)) (2 * p)).length)) (climbV l (cutN xs l (2 * p + 1)) (2 * p + 1) ((lr.drop (cutN xs l (2 * p)).length).take (cutN xs l (2 * p + 1)).length) ((br.drop (spots l (cutN xs l (2 * p)) (2 * p)).length).take (spots l (cutN xs l (2 * p + 1)) (2 * p + 1)).length))).length dt]) (Has.at 0 rfl)) rfl (by intro u hu; rw [List.mem_singleton.1 hu]; rfl) (by simp only [maxLen]; omega) (by omega) (fun O3 d3 => ?_))
  refine S.q rfl rfl (Qt.nilCheck rfl) ?_
  refine S.q rfl rfl (Qt.field Tryz.underlying331 rfl Tryz.cells111 rfl) ?_
  refine S.opN rfl (OpV.storeC3 rfl (by conv => lhs; whnf) Tryz.cells111 rfl rfl (Nat.le_of_ble_eq_true rfl) ?_)
  refine S.nil ?_
  refine TC.seq ?_
  refine TC.region ?_
  refine S.mv ?_
  refine S.opS rfl rfl (OpV.con0 Tryz.ent114 rfl (fun w hw => Calls.ret (sum_walk Ot dt (joinT (l + 1) (climbV l (cutN xs l (2 * p)) (2 * p) (lr.take (cutN xs l (2 * p)).length) (br.take (spots l (cutN xs l (2 * p)) (2 * p)).length)) (climbV l (cutN xs l (2 * p + 1)) (2 * p + 1) ((lr.drop (cutN xs l (2 * p)).length).take (cutN xs l (2 * p + 1)).length) ((br.drop (spots l (cutN xs l (2 * p)) (2 * p)).length).take (spots l (cutN xs l (2 * p + 1)) (2 * p + 1)).length))) w (Rd.own (e := 5) (sz := 1) (Rd.many (A := OwnA 5 1 Ot (joinT (l + 1) (climbV l (cutN xs l (2 * p)) (2 * p) (lr.take (cutN xs l (2 * p)).length) (br.take (spots l (cutN xs l (2 * p)) (2 * p)).length)) (climbV l (cutN xs l (2 * p + 1)) (2 * p + 1) ((lr.drop (cutN xs l (2 * p)).length).take (cutN xs l (2 * p + 1)).length) ((br.drop (spots l (cutN xs l (2 * p)) (2 * p)).length).take (spots l (cutN xs l (2 * p + 1)) (2 * p + 1)).length))).length dt (bytesL (joinT (l + 1) (climbV l (cutN xs l (2 * p)) (2 * p) (lr.take (cutN xs l (2 * p)).length) (br.take (spots l (cutN xs l (2 * p)) (2 * p)).length)) (climbV l (cutN xs l (2 * p + 1)) (2 * p + 1) ((lr.drop (cutN xs l (2 * p)).length).take (cutN xs l (2 * p + 1)).length) ((br.drop (spots l (cutN xs l (2 * p)) (2 * p)).length).take (spots l (cutN xs l (2 * p + 1)) (2 * p + 1)).length))))) (Rd.at 1 rfl) (List.mem_append.2 (.inr (List.mem_singleton.2 rfl)))) w hw) (by rw [joinT_length]; decide) (hT.at hw))) ?_)
  refine S.opN rfl (OpV.storeV6 (v := hv (_)) rfl rfl (hv_size Tryz.cells49) (hv_all _) (hv_len _) ?_)
  refine S.as ?_
  refine S.nil ?_
  refine TC.ret ?_
  refine finQ.ret (RVs.cell rfl (Ld.all (Has.at 6 rfl) Tryz.row49 (hv_size Tryz.cells49)) (RVs.tmp (by conv => lhs; whnf) RVs.nil)) (Sub.trans (Sub.keep _ (Sub.keep _ (Sub.keep _ (Sub.drop _ (Sub.drop _ (Sub.drop _ (Sub.drop _ (Sub.nil [])))))))) (Sub.trans (Sub.keep _ (Sub.trans (Sub.keep _ (Sub.trans (Sub.keep _ (Sub.refl _)) (Sub.of_perm (List.perm_middle (l₁ := [_]))))) (Sub.of_perm (List.perm_middle (l₁ := [_, _, _]))))) (Sub.of_perm (List.perm_middle (l₁ := [_, _, _]))))) ?_
  refine ⟨A1r, c1r, A2r, c2r, O3, d3, tl ++ tr ++ [(Ot, dt, joinT (l + 1) (climbV l (cutN xs l (2 * p)) (2 * p) (lr.take (cutN xs l (2 * p)).length) (br.take (spots l (cutN xs l (2 * p)) (2 * p)).length)) (climbV l (cutN xs l (2 * p + 1)) (2 * p + 1) ((lr.drop (cutN xs l (2 * p)).length).take (cutN xs l (2 * p + 1)).length) ((br.drop (spots l (cutN xs l (2 * p)) (2 * p)).length).take (spots l (cutN xs l (2 * p + 1)) (2 * p + 1)).length)))], ?_, ?_, ?_, ?_, ?_⟩
  · rw [eV]; rfl
  · rw [hsp, hnn, ← List.drop_drop, ← List.drop_drop]
    simp only [climbL, List.length_append, List.append_assoc, List.flatMap_append, List.map_append]
    rfl
  · rw [eT, List.map_append, List.map_append, etl, etr]; rfl
  · rw [hnn]; exact ptl
  · rw [hsp]; exact ptr
theorem climb_C (height : Nat) (hh : height ≤ 32) : ∀ l, l ≤ height → ClimbC height l
  | 0, hl => fun p xs A c cb A1 lr c1 A2 br c2 O tt d w0 ho hs hx hc hn hl1 hl2 hc1 hc2 htt hm1 hm2 h0 hR hA1 hA2 hT => by
    by_cases he : xs = []
    · exact climb_walkE height hh 0 p xs A c cb A1 lr c1 A2 br c2 O tt d w0 ho hs hx hc hn hl1 hl2 hc1 hc2 htt hm1 hm2 h0 hR hA1 hA2 hT he
    · exact climb_walk0 height hh p xs A c cb A1 lr c1 A2 br c2 O tt d w0 ho hs hx hc hn hl1 hl2 hc1 hc2 htt hm1 hm2 h0 hR hA1 hA2 hT he
  | l + 1, hl => fun p xs A c cb A1 lr c1 A2 br c2 O tt d w0 ho hs hx hc hn hl1 hl2 hc1 hc2 htt hm1 hm2 h0 hR hA1 hA2 hT => by
    by_cases he : xs = []
    · exact climb_walkE height hh (l + 1) p xs A c cb A1 lr c1 A2 br c2 O tt d w0 ho hs hx hc hn hl1 hl2 hc1 hc2 htt hm1 hm2 h0 hR hA1 hA2 hT he
    · exact climb_walkS height hh l p xs A c cb A1 lr c1 A2 br c2 O tt d w0 ho hs hx hc hn hl1 hl2 hc1 hc2 htt hm1 hm2 h0 hR hA1 hA2 hT he (climb_C height hh l (by omega))

end Go.Proofs.YtgdjcmehlhebdaaGreatDoor
namespace Go.Proofs.YtgdjcmehlhebdaaGreatDoor
open Go.E
set_option linter.unusedVariables false
set_option maxRecDepth 4000
theorem Tryz.buildClimb (A : Option Addr) (n c : Nat) (B : Option Addr) (m d : Nat) (w : World) : (Instr.build 331 #[(0, .slice A n c), (1, .slice B m d)]).run Tryz.prog w = .ok (.agg #[.slice A n c, .slice B m d, .slice none 0 0]) w := by kernel_rfl
def largeP (n a b : Nat) : Prop := (40 < n ∧ n ≤ 256) ∨ 300 < n ∨ 300 < a ∨ 1500 < b
instance (n a b : Nat) : Decidable (largeP n a b) := inferInstanceAs (Decidable (_ ∨ _))
set_option maxHeartbeats 400000 in
theorem come_walk1 (z : Int) (A : Option Addr) (c : Nat) (xs : List Nat) (B : Option Addr) (b : Nat) (ls : List H32) (Z : Option Addr) (e : Nat) (bs : List H32) (hr : ∀ w, Ro w [] (SlA A (u64s xs)) → Calls Tryz.prog 41 #[.int .i64 z, .slice A xs.length c] w (Ret w (.bool false))) (w0 : World) (hR : Ro w0 [] (SlA A (u64s xs))) :
    Calls Tryz.prog 188 #[.int .i64 z, .slice A xs.length c, .slice B ls.length b, .slice Z bs.length e] w0 (Post w0 [] fun v L => v = .tuple #[hv zeroH, .slice none 0 0, .iface 73 (.int .i64 1)] ∧ L = []) := by
  refine Calls.of (L := []) (n := 61) (rs := [.cell 8 49, .tmp 9, .tmp 10]) Tryz.func188 rfl rfl rfl (Nat.le_of_ble_eq_true rfl) (Sat.nil _) ?_
  refine TC.seq ?_
  refine TC.region ?_
  refine S.opS rfl rfl (OpV.alloc Tryz.zero49 (fun b8 => ?_))
  refine S.as ?_
  refine S.as ?_
  refine S.nil ?_
  refine TC.seq ?_
  refine TC.region ?_
  refine S.mv ?_
  refine S.mv ?_
  refine S.opS rfl rfl (OpV.con0 Tryz.ent205 rfl (fun w hw => Calls.ret (count10_walkF2 z A c xs w (fun w1 h => hr w1 h) (Rd.ro hR w hw))) ?_)
  refine S.mv ?_
  refine S.q rfl rfl (Qt.extract rfl rfl) ?_
  refine S.q rfl rfl (Qt.extract rfl rfl) ?_
  refine S.as ?_
  refine S.as ?_
  refine S.nil ?_
  refine TC.seq ?_
  refine TC.block ?_
  refine TC.seq ?_
  refine TC.region ?_
  refine S.mv ?_
  refine S.q rfl rfl (Qt.nenil_iface Tryz.underlying51 rfl) ?_
  refine S.as ?_
  refine S.nil ?_
  refine S.if_t rfl ?_
  refine TC.seq ?_
  refine TC.region ?_
  refine S.q rfl rfl (Qt.build (v := hv zeroH) rfl (fun _ => by kernel_rfl)) ?_
  refine S.mv ?_
  refine S.opN rfl (OpV.storeV0 (v := hv (zeroH)) rfl rfl (hv_size Tryz.cells49) (hv_all _) (hv_len _) ?_)
  refine S.as ?_
  refine S.as ?_
  refine S.nil ?_
  refine TC.ret ?_
  refine finQ.ret (RVs.cell rfl (Ld.all (Has.at 0 rfl) Tryz.row49 (hv_size Tryz.cells49)) (RVs.tmp (by conv => lhs; whnf) (RVs.tmp (by conv => lhs; whnf) RVs.nil))) (Sub.nil _) ?_
  exact ⟨rfl, rfl⟩
set_option maxHeartbeats 400000 in
theorem come_walk2 (height : Nat) (hh : height ≤ 32) (A : Option Addr) (c : Nat) (xs : List Nat) (hc : xs.length ≤ c) (B : Option Addr) (b : Nat) (ls : List H32) (Z : Option Addr) (e : Nat) (bs : List H32) (hi : idxOk height xs) (h2 : ls.length ≠ xs.length) (w0 : World) (hlow : ∀ x ∈ xs, x < 18446744073709551616) (hR : Ro w0 [] (SlA A (u64s xs))) (hB : Ro w0 [] (SlA B (hcs ls))) (hD : Ro w0 [] (SlA Z (hcs bs))) :
    Calls Tryz.prog 188 #[.int .i64 (height : Int), .slice A xs.length c, .slice B ls.length b, .slice Z bs.length e] w0 (Post w0 [] fun v L => v = .tuple #[hv zeroH, .slice none 0 0, .iface 73 (.int .i64 2)] ∧ L = []) := by
  refine Calls.of (L := []) (n := 61) (rs := [.cell 8 49, .tmp 9, .tmp 10]) Tryz.func188 rfl rfl rfl (Nat.le_of_ble_eq_true rfl) (Sat.nil _) ?_
  refine TC.seq ?_
  refine TC.region ?_
  refine S.opS rfl rfl (OpV.alloc Tryz.zero49 (fun b8 => ?_))
  refine S.as ?_
  refine S.as ?_
  refine S.nil ?_
  refine TC.seq ?_
  refine TC.region ?_
  refine S.mv ?_
  refine S.mv ?_
  refine S.opS rfl rfl (OpV.con0 Tryz.ent205 rfl (fun w hw => Calls.ret (count10_walk height hh A c xs hc hi w hlow (Rd.ro hR w hw))) ?_)
  refine S.mv ?_
  refine S.q rfl rfl (Qt.extract rfl rfl) ?_
  refine S.q rfl rfl (Qt.extract rfl rfl) ?_
  refine S.as ?_
  refine S.as ?_
  refine S.nil ?_
  refine TC.seq ?_
  refine TC.block ?_
  refine TC.seq ?_
  refine TC.region ?_
  refine S.mv ?_
  refine S.q rfl rfl (Qt.nenil_nil Tryz.underlying51 rfl) ?_
  refine S.as ?_
  refine S.nil ?_
  refine S.if_f rfl ?_
  refine TC.seq ?_
  refine TC.region ?_
  refine S.mv ?_
  refine S.q rfl rfl (Qt.len_slice Tryz.underlying33 rfl) ?_
  refine S.mv ?_
  refine S.q rfl rfl (Qt.len_slice Tryz.underlying22 rfl) ?_
  refine S.q rfl rfl (Qt.dT (Qt.ne rfl rfl) (h2)) ?_
  refine S.as ?_
  refine S.nil ?_
  refine S.if_t rfl ?_
  refine TC.seq ?_
  refine TC.region ?_
  refine S.q rfl rfl (Qt.build (v := hv zeroH) rfl (fun _ => by kernel_rfl)) ?_
  refine S.q rfl rfl (Qt.makeInterface Tryz.underlying73 (fun _ h => nomatch h) (by conv => lhs; whnf)) ?_
  refine S.opN rfl (OpV.storeV0 (v := hv (zeroH)) rfl rfl (hv_size Tryz.cells49) (hv_all _) (hv_len _) ?_)
  refine S.as ?_
  refine S.as ?_
  refine S.nil ?_
  refine TC.ret ?_
  refine finQ.ret (RVs.cell rfl (Ld.all (Has.at 0 rfl) Tryz.row49 (hv_size Tryz.cells49)) (RVs.tmp (by conv => lhs; whnf) (RVs.tmp (by conv => lhs; whnf) RVs.nil))) (Sub.nil _) ?_
  exact ⟨rfl, rfl⟩
set_option maxHeartbeats 400000 in
theorem come_walk5 (height : Nat) (hh : height ≤ 32) (A : Option Addr) (c : Nat) (xs : List Nat) (hc : xs.length ≤ c) (B : Option Addr) (b : Nat) (ls : List H32) (Z : Option Addr) (e : Nat) (bs : List H32) (hi : idxOk height xs) (h2 : ls.length = xs.length) (h3 : bs.length ≠ (spots height xs 0).length) (w0 : World) (hlow : ∀ x ∈ xs, x < 18446744073709551616) (hR : Ro w0 [] (SlA A (u64s xs))) (hB : Ro w0 [] (SlA B (hcs ls))) (hD : Ro w0 [] (SlA Z (hcs bs))) :
    Calls Tryz.prog 188 #[.int .i64 (height : Int), .slice A xs.length c, .slice B ls.length b, .slice Z bs.length e] w0 (Post w0 [] fun v L => v = .tuple #[hv zeroH, .slice none 0 0, .iface 73 (.int .i64 5)] ∧ L = []) := by
  refine Calls.of (L := []) (n := 61) (rs := [.cell 8 49, .tmp 9, .tmp 10]) Tryz.func188 rfl rfl rfl (Nat.le_of_ble_eq_true rfl) (Sat.nil _) ?_
  refine TC.seq ?_
  refine TC.region ?_
  refine S.opS rfl rfl (OpV.alloc Tryz.zero49 (fun b8 => ?_))
  refine S.as ?_
  refine S.as ?_
  refine S.nil ?_
  refine TC.seq ?_
  refine TC.region ?_
  refine S.mv ?_
  refine S.mv ?_
  refine S.opS rfl rfl (OpV.con0 Tryz.ent205 rfl (fun w hw => Calls.ret (count10_walk height hh A c xs hc hi w hlow (Rd.ro hR w hw))) ?_)
  refine S.mv ?_
  refine S.q rfl rfl (Qt.extract rfl rfl) ?_
  refine S.q rfl rfl (Qt.extract rfl rfl) ?_
  refine S.as ?_
  refine S.as ?_
  refine S.nil ?_
  refine TC.seq ?_
  refine TC.block ?_
  refine TC.seq ?_
  refine TC.region ?_
  refine S.mv ?_
  refine S.q rfl rfl (Qt.nenil_nil Tryz.underlying51 rfl) ?_
  refine S.as ?_
  refine S.nil ?_
  refine S.if_f rfl ?_
  refine TC.seq ?_
  refine TC.region ?_
  refine S.mv ?_
  refine S.q rfl rfl (Qt.len_slice Tryz.underlying33 rfl) ?_
  refine S.mv ?_
  refine S.q rfl rfl (Qt.len_slice Tryz.underlying22 rfl) ?_
  refine S.q rfl rfl (Qt.dF (Qt.ne rfl rfl) (fun k => k h2)) ?_
  refine S.as ?_
  refine S.nil ?_
  refine S.if_f rfl ?_
  refine TC.seq ?_
  refine TC.region ?_
  refine S.mv ?_
  refine S.q rfl rfl (Qt.len_slice Tryz.underlying33 rfl) ?_
  refine S.mv ?_
  refine S.q rfl rfl (Qt.dT (Qt.ne rfl rfl) (h3)) ?_
  refine S.as ?_
  refine S.nil ?_
  refine S.if_t rfl ?_
  refine TC.seq ?_
  refine TC.region ?_
  refine S.q rfl rfl (Qt.build (v := hv zeroH) rfl (fun _ => by kernel_rfl)) ?_
  refine S.q rfl rfl (Qt.makeInterface Tryz.underlying73 (fun _ h => nomatch h) (by conv => lhs; whnf)) ?_
  refine S.opN rfl (OpV.storeV0 (v := hv (zeroH)) rfl rfl (hv_size Tryz.cells49) (hv_all _) (hv_len _) ?_)
  refine S.as ?_
  refine S.as ?_
  refine S.nil ?_
  refine TC.ret ?_
  refine finQ.ret (RVs.cell rfl (Ld.all (Has.at 0 rfl) Tryz.row49 (hv_size Tryz.cells49)) (RVs.tmp (by conv => lhs; whnf) (RVs.tmp (by conv => lhs; whnf) RVs.nil))) (Sub.nil _) ?_
  exact ⟨rfl, rfl⟩
set_option maxHeartbeats 1600000 in
theorem come_walk0 (height : Nat) (hh : height ≤ 32) (A : Option Addr) (c : Nat) (xs : List Nat) (hc : xs.length ≤ c) (B : Option Addr) (b : Nat) (ls : List H32) (Z : Option Addr) (e : Nat) (bs : List H32) (hi : idxOk height xs) (h2 : ls.length = xs.length) (h3 : bs.length = (spots height xs 0).length) (hb : ls.length ≤ b) (hbs : bs.length ≤ e) (w0 : World) (hlow : ∀ x ∈ xs, x < 18446744073709551616) (hR : Ro w0 [] (SlA A (u64s xs))) (hB : Ro w0 [] (SlA B (hcs ls))) (hD : Ro w0 [] (SlA Z (hcs bs))) (hT : Tabs 3 1 w0 []) :
    Calls Tryz.prog 188 #[.int .i64 (height : Int), .slice A xs.length c, .slice B ls.length b, .slice Z bs.length e] w0 (Post w0 [] fun v L => ∃ (O : Option Addr) (d : Nat) (tt : List Tx), v = .tuple #[hv (climbV height xs 0 ls bs), .slice O tt.length d, .nilIface] ∧ L = [OwnA 112 1 O (tt).length d ((tt).flatMap txL), Many ((tt).map txOwn)] ∧ tt.map (fun t => t.2.2) = climbT height xs 0 ls bs) := by
  refine Calls.of (L := []) (n := 61) (rs := [.cell 8 49, .tmp 9, .tmp 10]) Tryz.func188 rfl rfl rfl (Nat.le_of_ble_eq_true rfl) (Sat.nil _) ?_
  have hn := hi.2.1
  have hsp : (spots height xs 0).length ≤ 8193 := by have h1 := spots_len height xs 0; have h2 : xs.length * height ≤ 256 * 32 := Nat.mul_le_mul hi.2.1 hh; omega
  have hmu : xs.length * height ≤ 256 * 32 := Nat.mul_le_mul hi.2.1 hh
  refine TC.ownNil 112 1 ?_
  refine TC.manyNil ?_
  refine TC.seq ?_
  refine TC.region ?_
  refine S.opS rfl rfl (OpV.alloc Tryz.zero49 (fun b8 => ?_))
  refine S.as ?_
  refine S.as ?_
  refine S.nil ?_
  refine TC.seq ?_
  refine TC.region ?_
  refine S.mv ?_
  refine S.mv ?_
  refine S.opS rfl rfl (OpV.con0 Tryz.ent205 rfl (fun w hw => Calls.ret (count10_walk height hh A c xs hc hi w hlow (Rd.ro hR w hw))) ?_)
  refine S.mv ?_
  refine S.q rfl rfl (Qt.extract rfl rfl) ?_
  refine S.q rfl rfl (Qt.extract rfl rfl) ?_
  refine S.as ?_
  refine S.as ?_
  refine S.nil ?_
  refine TC.seq ?_
  refine TC.block ?_
  refine TC.seq ?_
  refine TC.region ?_
  refine S.mv ?_
  refine S.q rfl rfl (Qt.nenil_nil Tryz.underlying51 rfl) ?_
  refine S.as ?_
  refine S.nil ?_
  refine S.if_f rfl ?_
  refine TC.seq ?_
  refine TC.region ?_
  refine S.mv ?_
  refine S.q rfl rfl (Qt.len_slice Tryz.underlying33 rfl) ?_
  refine S.mv ?_
  refine S.q rfl rfl (Qt.len_slice Tryz.underlying22 rfl) ?_
  refine S.q rfl rfl (Qt.dF (Qt.ne rfl rfl) (fun k => k h2)) ?_
  refine S.as ?_
  refine S.nil ?_
  refine S.if_f rfl ?_
  refine TC.seq ?_
  refine TC.region ?_
  refine S.mv ?_
  refine S.q rfl rfl (Qt.len_slice Tryz.underlying33 rfl) ?_
  refine S.mv ?_
  refine S.q rfl rfl (Qt.dF (Qt.ne rfl rfl) (fun k => k h3)) ?_
  refine S.as ?_
  refine S.nil ?_
  refine S.if_f rfl ?_
  refine TC.skip ?_
  refine TC.seq ?_
  refine TC.region ?_
  refine S.mv ?_
  refine S.mv ?_
  refine S.q rfl rfl (Qt.build2 (a := .slice B ls.length b) (b := .slice Z bs.length e) rfl rfl (Tryz.buildClimb B ls.length b Z bs.length e)) ?_
  refine S.opS rfl rfl (OpV.box (v := .agg #[.slice B ls.length b, .slice Z bs.length e, .slice none 0 0]) rfl (fun b44 => ?_))
  refine S.as ?_
  refine S.nil ?_
  refine TC.seq ?_
  refine TC.region ?_
  refine S.mv ?_
  refine S.mv ?_
  refine S.mv ?_
  refine S.opS rfl rfl (OpV.con (Pre := climbL 331 112 b44 B ls b Z bs e none [] 0) (R := _) Tryz.ent206 rfl (List.Perm.cons _ ((List.perm_middle (l₁ := [_, _])).trans (List.Perm.cons _ (List.perm_middle (l₁ := [_]))))) (fun w hw => climb_C height hh height (Nat.le_refl _) 0 xs A c b44 B ls b Z bs e none [] 0 w (okRoot height) hi.rise hi.root hc hn (by omega) (by omega) hb hbs (by rw [List.length_nil]; omega) (by omega) (by omega) hw.sat.left (Ro.of_pre hw hR) (Ro.of_pre hw hB) (Ro.of_pre hw hD) (hT.pre hw)) ?_)
  rintro v L' ⟨A1', c1', A2', c2', O, d, tt, rfl, rfl, ett, le1, le2⟩
  refine S.mv ?_
  refine S.q rfl rfl (Qt.extract rfl rfl) ?_
  refine S.q rfl rfl (Qt.extract rfl rfl) ?_
  refine S.opS rfl rfl (OpV.alloc Tryz.zero49 (fun b14 => ?_))
  refine S.opN rfl (OpV.storeV0 (v := hv (_)) rfl rfl (hv_size Tryz.cells49) (hv_all _) (hv_len _) ?_)
  refine S.as ?_
  refine S.nil ?_
  refine TC.seq ?_
  refine TC.seq ?_
  refine TC.region ?_
  refine S.mv ?_
  refine S.q rfl rfl (Qt.nenil_nil Tryz.underlying51 rfl) ?_
  refine S.nil ?_
  refine S.if_f rfl ?_
  refine TC.skip ?_
  refine TC.seq ?_
  refine S.draw ([5], []) Tryz.mixed (Sub.keep _ (Sub.keep _ (Sub.keep _ (Sub.keep _ (Sub.drop _ (Sub.nil [])))))) ?_
  refine D.qY 0 rfl (Qt.load rfl (Ld.hash1 (x := climbV height xs 0 (ls.take xs.length) (bs.take (spots height xs 0).length)) (Has.at 0 rfl) Tryz.row49 Tryz.cells49)) ?_
  refine D.q (k := 1) rfl (by kernel_rfl) (by kernel_rfl) rfl rfl (Qt.move (by conv => lhs; whnf)) ?_
  refine D.q (k := 2) rfl (by kernel_rfl) (by kernel_rfl) rfl rfl (Qt.nilCheck rfl) ?_
  refine D.q (k := 3) rfl (by kernel_rfl) (by kernel_rfl) rfl rfl (Qt.field Tryz.underlying331 rfl Tryz.cells111 rfl) ?_
  refine D.q (k := 4) rfl (by kernel_rfl) (by kernel_rfl) rfl rfl (Qt.load rfl (Ld.one (v := .slice O ([] ++ tt).length d) (Has.at 1 rfl) Tryz.one111 rfl)) ?_
  refine D.opN (k := 5) (Sub.keep _ (Sub.keep _ (Sub.keep _ (Sub.keep _ (Sub.drop _ (Sub.nil [])))))) rfl (by kernel_rfl) (by kernel_rfl) rfl (OpV.storeV4 (v := hv (_)) rfl rfl (hv_size Tryz.cells49) (hv_all _) (hv_len _) ⟨Sub.keep _ (Sub.keep _ (Sub.keep _ (Sub.keep _ (Sub.drop _ (Sub.nil []))))), ?_⟩)
  refine D.qY 6 rfl (Qt.assign (by conv => lhs; whnf)) ?_
  refine D.qY 7 rfl (Qt.assign (by conv => lhs; whnf)) ?_
  refine D.done (Sub.keep _ (Sub.keep _ (Sub.keep _ (Sub.keep _ (Sub.drop _ (Sub.nil [])))))) (by kernel_rfl) ?_
  refine TC.ret ?_
  refine finQ.ret (RVs.cell rfl (Ld.all (Has.at 4 rfl) Tryz.row49 (hv_size Tryz.cells49)) (RVs.tmp (by conv => lhs; whnf) (RVs.tmp (by conv => lhs; whnf) RVs.nil))) (Sub.trans (Sub.keep _ (Sub.keep _ (Sub.drop _ (Sub.drop _ (Sub.drop _ (Sub.nil [])))))) (Sub.trans (Sub.keep _ (Sub.trans (Sub.keep _ (Sub.refl _)) (Sub.of_perm (List.perm_middle (l₁ := [_, _]))))) (Sub.of_perm (List.perm_middle (l₁ := [_, _]))))) ?_
  rw [← h2, List.take_length, ← h3, List.take_length] at *
  exact ⟨O, d, tt, rfl, rfl, ett⟩
theorem come_F1 (z : Int) (A : Option Addr) (c : Nat) (xs : List Nat) (hc : xs.length ≤ c) (B : Option Addr) (b : Nat) (ls : List H32) (Z : Option Addr) (e : Nat) (bs : List H32) (h : z < 0 ∨ 32 < z ∨ ∃ height : Nat, z = (height : Int) ∧ height ≤ 32 ∧ ¬ idxOk height xs) (hlow : ∀ x ∈ xs, x < 18446744073709551616) (w : World) (hR : Ro w [] (SlA A (u64s xs))) : Calls Tryz.prog 188 #[.int .i64 z, .slice A xs.length c, .slice B ls.length b, .slice Z bs.length e] w (Ret w (.tuple #[hv zeroH, .slice none 0 0, .iface 73 (.int .i64 1)])) := by
  refine Calls.ret (come_walk1 z A c xs B b ls Z e bs (fun w1 h1 => ?_) w hR)
  rcases h with h | h | ⟨height, rfl, hh, hi⟩
  · exact right10Z_R z (.inl h) A c xs w1
  · exact right10Z_R z (.inr h) A c xs w1
  · exact right10_F height hh A c xs hi w1 hlow h1
end Go.Proofs.YtgdjcmehlhebdaaGreatDoor
