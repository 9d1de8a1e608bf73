/-
  Walks: spans made. Printed by a program of ours.
-/
import Derived.Test.YtlneklemjfefpaaDoorTV
import Derived.Test.YtlneklemjfefpaaDoorTS
namespace Go.Proofs.YtlneklemjfefpaaDoor
open Go.E
set_option linter.unusedVariables false
set_option maxRecDepth 4000


set_option maxHeartbeats 400000 in
theorem into_walk (p : Addr) (u v2 : Value) (w0 : World) :
    Calls Tryd.prog 101 #[.pointer (some p), u, v2] w0 (Post w0 [] fun v L => ∃ b, v = .func (.func 102) #[] #[u, v2, .pointer (some ⟨b, 0, none⟩)] ∧ L = [Blk b 166 [.pointer (some p)]]) := by
  refine Calls.of (L := []) (n := 6) (rs := [.tmp 4]) Tryd.func101 rfl rfl rfl (Nat.le_of_ble_eq_true rfl) (Sat.nil _) ?_
  refine TC.seq ?_
  refine TC.region ?_
  refine S.opS rfl rfl (OpV.box (by conv => lhs; whnf) (fun b3 => ?_))
  refine S.q rfl rfl (Qt.assign (by conv => lhs; whnf)) ?_
  refine S.nil ?_
  refine TC.seq ?_
  refine TC.region ?_
  refine S.q rfl rfl (Qt.makeFuncL (fs := []) (cs := [u, v2, .pointer (some ⟨b3, 0, none⟩)]) rfl rfl) ?_
  refine S.q rfl rfl (Qt.assign (by conv => lhs; whnf)) ?_
  refine S.nil ?_
  refine TC.ret ?_
  refine finQ.ret (RVs.tmp (by conv => lhs; whnf) RVs.nil) (Sub.refl _) ?_
  exact ⟨_, rfl, rfl⟩
set_option maxHeartbeats 400000 in
theorem addL_walk (E : Nat → H32) (tb mb height : Nat) (ms : Tm) (hh : height ≤ 32) (pb tv eb qb : Nat) (ls rs : Sd) (hl : ls.length ≤ 64) (Ol : Option Addr) (c : Nat) (Or : Option Addr) (d : Nat) (l p : Nat) (ho : okAt height (l, p)) (w0 : World) (hL : Sat w0 [Blk pb 77 [.slice Ol ls.length c, .slice Or rs.length d], OwnA 23 32 Ol (ls).length c (hcs ((ls).map (fun a => getT E ms a))), OwnA 23 32 Or (rs).length d (hcs ((rs).map (fun a => getT E ms a)))]) (hB : Ro w0 (fps [Blk pb 77 [.slice Ol ls.length c, .slice Or rs.length d], OwnA 23 32 Ol (ls).length c (hcs ((ls).map (fun a => getT E ms a))), OwnA 23 32 Or (rs).length d (hcs ((rs).map (fun a => getT E ms a)))]) (Blk tb 150 (treeCs E height mb))) (hM : Ro w0 (fps [Blk pb 77 [.slice Ol ls.length c, .slice Or rs.length d], OwnA 23 32 Ol (ls).length c (hcs ((ls).map (fun a => getT E ms a))), OwnA 23 32 Or (rs).length d (hcs ((rs).map (fun a => getT E ms a)))]) (MapA mb encAt hv (ms))) (hV : Ro w0 (fps [Blk pb 77 [.slice Ol ls.length c, .slice Or rs.length d], OwnA 23 32 Ol (ls).length c (hcs ((ls).map (fun a => getT E ms a))), OwnA 23 32 Or (rs).length d (hcs ((rs).map (fun a => getT E ms a)))]) (Blk tv 35 [.pointer (some ⟨tb, 0, none⟩)])) (hQ : Ro w0 (fps [Blk pb 77 [.slice Ol ls.length c, .slice Or rs.length d], OwnA 23 32 Ol (ls).length c (hcs ((ls).map (fun a => getT E ms a))), OwnA 23 32 Or (rs).length d (hcs ((rs).map (fun a => getT E ms a)))]) (Blk qb 166 [.pointer (some ⟨pb, 0, none⟩)])) :
    Calls Tryd.prog 102 #[.int .i64 (l : Int), .int .u64 (p : Int), .pointer (some ⟨tv, 0, none⟩), .pointer (some ⟨eb, 0, none⟩), .pointer (some ⟨qb, 0, none⟩)] w0 (Post w0 (fps [Blk pb 77 [.slice Ol ls.length c, .slice Or rs.length d], OwnA 23 32 Ol (ls).length c (hcs ((ls).map (fun a => getT E ms a))), OwnA 23 32 Or (rs).length d (hcs ((rs).map (fun a => getT E ms a)))]) fun v L => ∃ O2 d2, L = [Blk pb 77 [.slice O2 (ls ++ [(l, p)]).length d2, .slice Or rs.length d], OwnA 23 32 O2 (ls ++ [(l, p)]).length d2 (hcs ((ls ++ [(l, p)]).map (fun a => getT E ms a))), OwnA 23 32 Or (rs).length d (hcs ((rs).map (fun a => getT E ms a)))]) := by
  refine Calls.of (L := [Blk pb 77 [.slice Ol ls.length c, .slice Or rs.length d], OwnA 23 32 Ol (ls).length c (hcs ((ls).map (fun a => getT E ms a))), OwnA 23 32 Or (rs).length d (hcs ((rs).map (fun a => getT E ms a)))]) (n := 27) (rs := []) Tryd.func102 rfl rfl rfl (Nat.le_of_ble_eq_true rfl) (hL) ?_
  refine TC.seq ?_
  refine TC.region ?_
  refine S.q rfl rfl (Qt.load rfl (Ld.one (Has.ro hV) Tryd.one35 rfl)) ?_
  refine S.q rfl rfl (Qt.move (by conv => lhs; whnf)) ?_
  refine S.q rfl rfl (Qt.move (by conv => lhs; whnf)) ?_
  refine S.opS rfl rfl (OpV.con0 Tryd.ent33 rfl (fun w hw => Calls.ret (node_walk E tb mb height ms l p ho hh w (Rd.ro hB w hw) (Rd.ro hM w hw))) ?_)
  refine S.q rfl rfl (Qt.move (by conv => lhs; whnf)) ?_
  refine S.q rfl rfl (Qt.extract rfl rfl) ?_
  refine S.q rfl rfl (Qt.extract rfl rfl) ?_
  refine S.opS rfl rfl (OpV.alloc Tryd.zero23 (fun b7 => ?_))
  refine S.opN rfl (OpV.storeV0 (v := hv (_)) rfl rfl (hv_size Tryd.cells23) (hv_all _) (hv_len _) ?_)
  refine S.q rfl rfl (Qt.assign (by conv => lhs; whnf)) ?_
  refine S.nil ?_
  refine TC.seq ?_
  refine TC.seq ?_
  refine TC.region ?_
  refine S.q rfl rfl (Qt.move (by conv => lhs; whnf)) ?_
  refine S.q rfl rfl (Qt.nenil_nil Tryd.underlying27 rfl) ?_
  refine S.nil ?_
  refine S.if_f rfl ?_
  refine TC.skip ?_
  refine S.draw ([6, 8], [5]) Tryd.mixed (Sub.nil _) ?_
  refine D.q (k := 0) rfl (by kernel_rfl) (by kernel_rfl) rfl rfl (Qt.load rfl (Ld.one (Has.ro hQ) Tryd.one166 rfl)) ?_
  refine D.qX (k := 1) rfl (by kernel_rfl) (by kernel_rfl) (by kernel_rfl) rfl rfl (Qt.load rfl (Ld.one (Has.ro hQ) Tryd.one166 rfl)) ?_
  refine D.qX (k := 2) rfl (by kernel_rfl) (by kernel_rfl) (by kernel_rfl) rfl rfl (Qt.nilCheck rfl) ?_
  refine D.qX (k := 3) rfl (by kernel_rfl) (by kernel_rfl) (by kernel_rfl) rfl rfl (Qt.load rfl (Ld.one (Has.at 1 rfl) Tryd.one44 (rfl))) ?_
  refine D.qX (k := 4) rfl (by kernel_rfl) (by kernel_rfl) (by kernel_rfl) rfl rfl (Qt.load rfl (Ld.hash1 (x := getT E ms (l, p)) (Has.at 0 rfl) Tryd.row23 Tryd.cells23)) ?_
  refine D.nS (k := 5) (Sub.nil _) rfl (by kernel_rfl) (by kernel_rfl) rfl rfl (OpV.slice1 (bytes := 32) (v := hv (getT E ms (l, p))) Tryd.underlying44 Tryd.elem23 (by decide) rfl (hv_len _) (fun g24 => ⟨Sub.drop _ (Sub.keep _ (Sub.keep _ (Sub.keep _ (Sub.keep _ (Sub.nil []))))), ?_⟩))
  refine D.opS (k := 6) (Sub.nil _) rfl (by kernel_rfl) (by kernel_rfl) rfl rfl (OpV.app3 (bytes := 32) (news := hvl (getT E ms (l, p))) Tryd.underlying44 Tryd.elem23 rfl rfl (Has.blk (cs := hvl (getT E ms (l, p))) (Has.at 0 rfl)) (by rw [hvl_length]) (bytesL_one _) (by simp only [maxLen]; omega) (by omega) (fun O2 d2 => ⟨Sub.nil _, ?_⟩))
  refine D.qX (k := 7) rfl (by kernel_rfl) (by kernel_rfl) (by kernel_rfl) rfl rfl (Qt.nilCheck rfl) ?_
  refine D.opN (k := 8) (Sub.nil _) rfl (by kernel_rfl) (by kernel_rfl) rfl (OpV.storeC2 rfl (by conv => lhs; whnf) Tryd.cells44 rfl rfl (Nat.le_of_ble_eq_true rfl) ⟨Sub.nil _, ?_⟩)
  refine D.done (Sub.nil _) (by kernel_rfl) ?_
  refine finQ.normal RVs.nil (Sub.trans (Sub.keep _ (Sub.keep _ (Sub.keep _ (Sub.drop _ (Sub.drop _ (Sub.nil [])))))) (Sub.trans (Sub.keep _ (Sub.trans (Sub.keep _ (Sub.trans (Sub.keep _ (Sub.refl _)) (Sub.of_perm (List.perm_middle (l₁ := [_, _]))))) (Sub.of_perm (List.perm_middle (l₁ := [_, _]))))) (Sub.of_perm (List.perm_middle (l₁ := [_, _]))))) ?_
  refine ⟨O2, d2, ?_⟩
  simp only [len_snoc, List.map_append, hcs_append, List.map_cons, List.map_nil, hcs_cons, hcs_nil, List.append_nil]
  rfl
set_option maxHeartbeats 400000 in
theorem addR_walk (E : Nat → H32) (tb mb height : Nat) (ms : Tm) (hh : height ≤ 32) (pb tv eb qb : Nat) (ls rs : Sd) (hl : rs.length ≤ 64) (Ol : Option Addr) (c : Nat) (Or : Option Addr) (d : Nat) (l p : Nat) (ho : okAt height (l, p)) (w0 : World) (hL : Sat w0 [Blk pb 77 [.slice Ol ls.length c, .slice Or rs.length d], OwnA 23 32 Ol (ls).length c (hcs ((ls).map (fun a => getT E ms a))), OwnA 23 32 Or (rs).length d (hcs ((rs).map (fun a => getT E ms a)))]) (hB : Ro w0 (fps [Blk pb 77 [.slice Ol ls.length c, .slice Or rs.length d], OwnA 23 32 Ol (ls).length c (hcs ((ls).map (fun a => getT E ms a))), OwnA 23 32 Or (rs).length d (hcs ((rs).map (fun a => getT E ms a)))]) (Blk tb 150 (treeCs E height mb))) (hM : Ro w0 (fps [Blk pb 77 [.slice Ol ls.length c, .slice Or rs.length d], OwnA 23 32 Ol (ls).length c (hcs ((ls).map (fun a => getT E ms a))), OwnA 23 32 Or (rs).length d (hcs ((rs).map (fun a => getT E ms a)))]) (MapA mb encAt hv (ms))) (hV : Ro w0 (fps [Blk pb 77 [.slice Ol ls.length c, .slice Or rs.length d], OwnA 23 32 Ol (ls).length c (hcs ((ls).map (fun a => getT E ms a))), OwnA 23 32 Or (rs).length d (hcs ((rs).map (fun a => getT E ms a)))]) (Blk tv 35 [.pointer (some ⟨tb, 0, none⟩)])) (hQ : Ro w0 (fps [Blk pb 77 [.slice Ol ls.length c, .slice Or rs.length d], OwnA 23 32 Ol (ls).length c (hcs ((ls).map (fun a => getT E ms a))), OwnA 23 32 Or (rs).length d (hcs ((rs).map (fun a => getT E ms a)))]) (Blk qb 166 [.pointer (some ⟨pb, 1, none⟩)])) :
    Calls Tryd.prog 102 #[.int .i64 (l : Int), .int .u64 (p : Int), .pointer (some ⟨tv, 0, none⟩), .pointer (some ⟨eb, 0, none⟩), .pointer (some ⟨qb, 0, none⟩)] w0 (Post w0 (fps [Blk pb 77 [.slice Ol ls.length c, .slice Or rs.length d], OwnA 23 32 Ol (ls).length c (hcs ((ls).map (fun a => getT E ms a))), OwnA 23 32 Or (rs).length d (hcs ((rs).map (fun a => getT E ms a)))]) fun v L => ∃ O2 d2, L = [Blk pb 77 [.slice Ol ls.length c, .slice O2 (rs ++ [(l, p)]).length d2], OwnA 23 32 Ol (ls).length c (hcs ((ls).map (fun a => getT E ms a))), OwnA 23 32 O2 (rs ++ [(l, p)]).length d2 (hcs ((rs ++ [(l, p)]).map (fun a => getT E ms a)))]) := by
  refine Calls.of (L := [Blk pb 77 [.slice Ol ls.length c, .slice Or rs.length d], OwnA 23 32 Ol (ls).length c (hcs ((ls).map (fun a => getT E ms a))), OwnA 23 32 Or (rs).length d (hcs ((rs).map (fun a => getT E ms a)))]) (n := 27) (rs := []) Tryd.func102 rfl rfl rfl (Nat.le_of_ble_eq_true rfl) (hL) ?_
  refine TC.seq ?_
  refine TC.region ?_
  refine S.q rfl rfl (Qt.load rfl (Ld.one (Has.ro hV) Tryd.one35 rfl)) ?_
  refine S.q rfl rfl (Qt.move (by conv => lhs; whnf)) ?_
  refine S.q rfl rfl (Qt.move (by conv => lhs; whnf)) ?_
  refine S.opS rfl rfl (OpV.con0 Tryd.ent33 rfl (fun w hw => Calls.ret (node_walk E tb mb height ms l p ho hh w (Rd.ro hB w hw) (Rd.ro hM w hw))) ?_)
  refine S.q rfl rfl (Qt.move (by conv => lhs; whnf)) ?_
  refine S.q rfl rfl (Qt.extract rfl rfl) ?_
  refine S.q rfl rfl (Qt.extract rfl rfl) ?_
  refine S.opS rfl rfl (OpV.alloc Tryd.zero23 (fun b7 => ?_))
  refine S.opN rfl (OpV.storeV0 (v := hv (_)) rfl rfl (hv_size Tryd.cells23) (hv_all _) (hv_len _) ?_)
  refine S.q rfl rfl (Qt.assign (by conv => lhs; whnf)) ?_
  refine S.nil ?_
  refine TC.seq ?_
  refine TC.seq ?_
  refine TC.region ?_
  refine S.q rfl rfl (Qt.move (by conv => lhs; whnf)) ?_
  refine S.q rfl rfl (Qt.nenil_nil Tryd.underlying27 rfl) ?_
  refine S.nil ?_
  refine S.if_f rfl ?_
  refine TC.skip ?_
  refine S.draw ([6, 8], [5]) Tryd.mixed (Sub.nil _) ?_
  refine D.q (k := 0) rfl (by kernel_rfl) (by kernel_rfl) rfl rfl (Qt.load rfl (Ld.one (Has.ro hQ) Tryd.one166 rfl)) ?_
  refine D.qX (k := 1) rfl (by kernel_rfl) (by kernel_rfl) (by kernel_rfl) rfl rfl (Qt.load rfl (Ld.one (Has.ro hQ) Tryd.one166 rfl)) ?_
  refine D.qX (k := 2) rfl (by kernel_rfl) (by kernel_rfl) (by kernel_rfl) rfl rfl (Qt.nilCheck rfl) ?_
  refine D.qX (k := 3) rfl (by kernel_rfl) (by kernel_rfl) (by kernel_rfl) rfl rfl (Qt.load rfl (Ld.one (Has.at 1 rfl) Tryd.one44 (rfl))) ?_
  refine D.qX (k := 4) rfl (by kernel_rfl) (by kernel_rfl) (by kernel_rfl) rfl rfl (Qt.load rfl (Ld.hash1 (x := getT E ms (l, p)) (Has.at 0 rfl) Tryd.row23 Tryd.cells23)) ?_
  refine D.nS (k := 5) (Sub.nil _) rfl (by kernel_rfl) (by kernel_rfl) rfl rfl (OpV.slice1 (bytes := 32) (v := hv (getT E ms (l, p))) Tryd.underlying44 Tryd.elem23 (by decide) rfl (hv_len _) (fun g24 => ⟨Sub.drop _ (Sub.keep _ (Sub.keep _ (Sub.keep _ (Sub.keep _ (Sub.nil []))))), ?_⟩))
  refine D.opS (k := 6) (Sub.nil _) rfl (by kernel_rfl) (by kernel_rfl) rfl rfl (OpV.app4 (bytes := 32) (news := hvl (getT E ms (l, p))) Tryd.underlying44 Tryd.elem23 rfl rfl (Has.blk (cs := hvl (getT E ms (l, p))) (Has.at 0 rfl)) (by rw [hvl_length]) (bytesL_one _) (by simp only [maxLen]; omega) (by omega) (fun O2 d2 => ⟨Sub.nil _, ?_⟩))
  refine D.qX (k := 7) rfl (by kernel_rfl) (by kernel_rfl) (by kernel_rfl) rfl rfl (Qt.nilCheck rfl) ?_
  refine D.opN (k := 8) (Sub.nil _) rfl (by kernel_rfl) (by kernel_rfl) rfl (OpV.storeC2 rfl (by conv => lhs; whnf) Tryd.cells44 rfl rfl (Nat.le_of_ble_eq_true rfl) ⟨Sub.nil _, ?_⟩)
  refine D.done (Sub.nil _) (by kernel_rfl) ?_
  refine finQ.normal RVs.nil (Sub.trans (Sub.keep _ (Sub.keep _ (Sub.keep _ (Sub.drop _ (Sub.drop _ (Sub.nil [])))))) (Sub.trans (Sub.keep _ (Sub.trans (Sub.keep _ (Sub.trans (Sub.keep _ (Sub.refl _)) (Sub.of_perm (List.perm_middle (l₁ := [_, _]))))) (Sub.of_perm (List.perm_middle (l₁ := [_, _]))))) (Sub.of_perm (List.perm_middle (l₁ := [_, _]))))) ?_
  refine ⟨O2, d2, ?_⟩
  simp only [len_snoc, List.map_append, hcs_append, List.map_cons, List.map_nil, hcs_cons, hcs_nil, List.append_nil]
  rfl
set_option maxHeartbeats 1600000 in
theorem make_walk (E : Nat → H32) (tb mb height : Nat) (ms : Tm) (f n : Nat) (hh : height ≤ 32) (hf64 : f < 18446744073709551616) (hf : f + n ≤ 2 ^ height) (h1 : 1 ≤ n) (h2 : n ≤ 256) (w0 : World) (hB : Ro w0 [] (Blk tb 150 (treeCs E height mb))) (hM : Ro w0 [] (MapA mb encAt hv (ms))) :
    Calls Tryd.prog 47 #[.pointer (some ⟨tb, 0, none⟩), .int .u64 (f : Int), .int .i64 (n : Int)] w0 (Post w0 [] fun v L => ∃ Ol c Or d, v = .tuple #[.agg #[.slice Ol (sideL f height).length c, .slice Or (sideR (f + n - 1) height).length d], .nilIface] ∧ L = [OwnA 23 32 Ol (sideL f height).length c (hcs ((sideL f height).map (fun a => getT E ms a))), OwnA 23 32 Or (sideR (f + n - 1) height).length d (hcs ((sideR (f + n - 1) height).map (fun a => getT E ms a)))]) := by
  refine Calls.of (L := []) (n := 42) (rs := [.cell 6 77, .tmp 7]) Tryd.func47 rfl rfl rfl (Nat.le_of_ble_eq_true rfl) (Sat.nil _) ?_
  refine TC.ownNil 23 32 ?_
  refine TC.ownNil 23 32 ?_
  refine TC.seq ?_
  refine TC.region ?_
  refine S.opS rfl rfl (OpV.box (by conv => lhs; whnf) (fun b3 => ?_))
  refine S.opS rfl rfl (OpV.alloc Tryd.zero77 (fun b6 => ?_))
  refine S.q rfl rfl (Qt.assign (by conv => lhs; whnf)) ?_
  refine S.nil ?_
  refine TC.seq ?_
  refine TC.block ?_
  refine TC.seq ?_
  refine TC.region ?_
  refine S.q rfl rfl (Qt.load rfl (Ld.one (Has.at 1 rfl) Tryd.one35 rfl)) ?_
  refine S.q rfl rfl (Qt.eqp_some Tryd.underlying35 rfl) ?_
  refine S.q rfl rfl (Qt.assign (by conv => lhs; whnf)) ?_
  refine S.nil ?_
  refine S.if_f rfl ?_
  refine TC.seq ?_
  refine TC.region ?_
  refine S.q rfl rfl (Qt.load rfl (Ld.one (Has.at 1 rfl) Tryd.one35 rfl)) ?_
  refine S.opS rfl rfl (OpV.con0 Tryd.ent85 rfl (fun w hw => height85_R E tb mb height w (Rd.ro hB w hw)) ?_)
  refine S.q rfl rfl (Qt.move (by conv => lhs; whnf)) ?_
  refine S.q rfl rfl (Qt.move (by conv => lhs; whnf)) ?_
  refine S.opS rfl rfl (OpV.con0 Tryd.ent49 rfl (fun w hw => (by have k := right_R height f n hh hf64 h1 h2 w; rw [decide_eq_true hf] at k; exact k : Calls Tryd.prog 49 #[.int .i64 (height : Int), .int .u64 (f : Int), .int .i64 (n : Int)] w (Ret w (.bool true)))) ?_)
  refine S.q rfl rfl (Qt.not_t rfl) ?_
  refine S.q rfl rfl (Qt.assign (by conv => lhs; whnf)) ?_
  refine S.nil ?_
  refine S.if_f rfl ?_
  refine TC.skip ?_
  refine TC.seq ?_
  refine TC.region ?_
  refine S.opS rfl rfl (OpV.alloc Tryd.zero77 (fun b8 => ?_))
  refine S.nil ?_
  refine TC.seq ?_
  refine TC.region ?_
  refine S.opS rfl rfl (OpV.alloc Tryd.zero27 (fun b9 => ?_))
  refine S.nil ?_
  refine TC.seq ?_
  refine TC.region ?_
  refine S.q rfl rfl (Qt.makeFuncL (fs := []) (cs := [.pointer (some ⟨b3, 0, none⟩), .pointer (some ⟨b9, 0, none⟩)]) rfl rfl) ?_
  refine S.q rfl rfl (Qt.assign (by conv => lhs; whnf)) ?_
  refine S.nil ?_
  refine TC.seq ?_
  refine TC.region ?_
  refine S.q rfl rfl (Qt.load rfl (Ld.one (Has.at 3 rfl) Tryd.one35 rfl)) ?_
  refine S.opS rfl rfl (OpV.con0 Tryd.ent85 rfl (fun w hw => height85_R E tb mb height w (Rd.ro hB w hw)) ?_)
  refine S.q rfl rfl (Qt.move (by conv => lhs; whnf)) ?_
  refine S.q rfl rfl (Qt.move (by conv => lhs; whnf)) ?_
  refine S.q rfl rfl (Qt.move (by conv => lhs; whnf)) ?_
  refine S.q rfl rfl (Qt.field Tryd.underlying77 rfl Tryd.cells44 rfl) ?_
  refine S.opS rfl rfl (OpV.con (Pre := []) (R := _) Tryd.ent101 rfl (List.Perm.refl _) (fun w hw => into_walk ⟨b8, 0, none⟩ (.pointer (some ⟨b3, 0, none⟩)) (.pointer (some ⟨b9, 0, none⟩)) w) ?_)
  rintro v L' ⟨qb1, rfl, rfl⟩
  refine S.q rfl rfl (Qt.move (by conv => lhs; whnf)) ?_
  refine S.q rfl rfl (Qt.field Tryd.underlying77 rfl Tryd.cells44 rfl) ?_
  refine S.opS rfl rfl (OpV.con (Pre := []) (R := _) Tryd.ent101 rfl (List.Perm.refl _) (fun w hw => into_walk ⟨b8, 1, none⟩ (.pointer (some ⟨b3, 0, none⟩)) (.pointer (some ⟨b9, 0, none⟩)) w) ?_)
  rintro v L' ⟨qb2, rfl, rfl⟩
  refine S.opS rfl rfl (OpV.con (Pre := [Blk b8 77 [.slice none ([] : Sd).length 0, .slice none ([] : Sd).length 0], OwnA 23 32 none (([] : Sd)).length 0 (hcs ((([] : Sd)).map (fun a => getT E ms a))), OwnA 23 32 none (([] : Sd)).length 0 (hcs ((([] : Sd)).map (fun a => getT E ms a)))]) (R := _) Tryd.ent103 rfl ((List.perm_middle (l₁ := [_, _, _])).trans (List.Perm.cons _ ((List.perm_middle (l₁ := [_, _, _, _, _])).trans (List.Perm.cons _ (List.perm_middle (l₁ := [_, _, _, _, _])))))) (fun w hw => sides_walk (fun ls rs L => ls.length ≤ 64 ∧ rs.length ≤ 64 ∧ ∃ Ol c Or d, L = [Blk b8 77 [.slice Ol ls.length c, .slice Or rs.length d], OwnA 23 32 Ol (ls).length c (hcs ((ls).map (fun a => getT E ms a))), OwnA 23 32 Or (rs).length d (hcs ((rs).map (fun a => getT E ms a)))]) height f n hh hf h1 h2 102 102 #[.pointer (some ⟨b3, 0, none⟩), .pointer (some ⟨b9, 0, none⟩), .pointer (some ⟨qb1, 0, none⟩)] #[.pointer (some ⟨b3, 0, none⟩), .pointer (some ⟨b9, 0, none⟩), .pointer (some ⟨qb2, 0, none⟩)] Tryd.ent102 Tryd.ent102 _ w hw.sat.left ⟨Nat.zero_le _, Nat.zero_le _, none, 0, none, 0, rfl⟩ (fun k rs L w' hk hb hJ hst => by obtain ⟨j1, j2, Ol, c, Or, d, rfl⟩ := hJ; exact (addL_walk E tb mb height ms hh b8 b3 b9 qb1 _ _ (by omega) Ol c Or d k _ (side_left (by omega) hk hb) w' hst.sat (Ro.of_pre (R := []) (by rw [List.append_nil]; exact hst) (Ro.of_pre hw hB)) (Ro.of_pre (R := []) (by rw [List.append_nil]; exact hst) (Ro.of_pre hw hM)) (Ro.of_pre (R := []) (by rw [List.append_nil]; exact hst) (Ro.of_rest hw (List.mem_of_getElem? (i := 4) rfl))) (Ro.of_pre (R := []) (by rw [List.append_nil]; exact hst) (Ro.of_rest hw (List.mem_of_getElem? (i := 1) rfl)))).mono fun e w'' ⟨v, L', q1, q2, q3'⟩ => by obtain ⟨O2, c2, q3⟩ := q3'; exact ⟨v, L', q1, q2, (by have := sideL_len f (k + 1); omega), j2, ⟨O2, c2, Or, d, by subst q3; rw [sideL_1 hb]⟩⟩) (fun k ls L w' hk hb hJ hst => by obtain ⟨j1, j2, Ol, c, Or, d, rfl⟩ := hJ; exact (addR_walk E tb mb height ms hh b8 b3 b9 qb2 _ _ (by omega) Ol c Or d k _ (side_right (by omega) hk hb) w' hst.sat (Ro.of_pre (R := []) (by rw [List.append_nil]; exact hst) (Ro.of_pre hw hB)) (Ro.of_pre (R := []) (by rw [List.append_nil]; exact hst) (Ro.of_pre hw hM)) (Ro.of_pre (R := []) (by rw [List.append_nil]; exact hst) (Ro.of_rest hw (List.mem_of_getElem? (i := 4) rfl))) (Ro.of_pre (R := []) (by rw [List.append_nil]; exact hst) (Ro.of_rest hw (List.mem_of_getElem? (i := 0) rfl)))).mono fun e w'' ⟨v, L', q1, q2, q3'⟩ => by obtain ⟨O2, c2, q3⟩ := q3'; exact ⟨v, L', q1, q2, j1, (by have := sideR_len (f + n - 1) (k + 1); omega), ⟨Ol, c, O2, c2, by subst q3; rw [sideR_1 hb]⟩⟩)) ?_)
  rintro v L' ⟨hj1, hj2, Ol, c, Or, d, rfl⟩
  refine S.nil ?_
  refine TC.seq ?_
  refine TC.seq ?_
  refine TC.region ?_
  refine S.q rfl rfl (Qt.load rfl (Ld.one (Has.at 5 rfl) Tryd.one27 rfl)) ?_
  refine S.q rfl rfl (Qt.nenil_nil Tryd.underlying27 rfl) ?_
  refine S.nil ?_
  refine S.if_f rfl ?_
  refine TC.skip ?_
  refine TC.seq ?_
  refine TC.region ?_
  refine S.q rfl rfl (Qt.load rfl (Ld.all (Has.at 0 rfl) Tryd.row77 (Tryd.cells77))) ?_
  refine S.opN rfl (OpV.storeV6 rfl (by conv => lhs; whnf) (by exact Tryd.cells77) (by rfl) (by rfl) ?_)
  refine S.q rfl rfl (Qt.assign (by conv => lhs; whnf)) ?_
  refine S.nil ?_
  refine TC.ret ?_
  refine finQ.ret (RVs.cell rfl (Ld.all (Has.at 6 rfl) Tryd.row77 (Tryd.cells77)) (RVs.tmp (by conv => lhs; whnf) RVs.nil)) (Sub.trans (Sub.keep _ (Sub.keep _ (Sub.drop _ (Sub.drop _ (Sub.drop _ (Sub.drop _ (Sub.drop _ (Sub.drop _ (Sub.nil []))))))))) (Sub.trans (Sub.keep _ (Sub.trans (Sub.keep _ (Sub.refl _)) (Sub.of_perm (List.perm_middle (l₁ := [_]))))) (Sub.of_perm (List.perm_middle (l₁ := [_]))))) ?_
  exact ⟨Ol, c, Or, d, rfl, rfl⟩
end Go.Proofs.YtlneklemjfefpaaDoor
