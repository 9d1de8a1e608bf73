/-
  Walks: a tree that is nil. Printed by a program of ours. Walks: a tree's steps. Printed by a program of ours. Walks: a truth, what a reply to a change is held against. Printed by a program of ours. Walks: the fixed example. Printed by a program of ours.
-/
import Derived.Test.YtgdjcmehlhebdaaGreatDoorYZs
import Derived.Test.YtgdjcmehlhebdaaGreatDoorE2
import Derived.Test.YtgdjcmehlhebdaaGreatDoorYZUD1
import Derived.Test.YtgdjcmehlhebdaaGreatDoorYZG
import Derived.Test.YtgdjcmehlhebdaaGreatDoorYZE
import Derived.Test.YtgdjcmehlhebdaaGreatDoorE3
import Derived.Test.YtgdjcmehlhebdaaGreatDoorXQ
import Derived.Test.YtgdjcmehlhebdaaGreatDoorO1
namespace Go.Proofs.YtgdjcmehlhebdaaGreatDoor
open Go.E
set_option linter.unusedVariables false
set_option maxRecDepth 4000

end Go.Proofs.YtgdjcmehlhebdaaGreatDoor
namespace Go.Proofs.YtgdjcmehlhebdaaGreatDoor
open Go.E
set_option linter.unusedVariables false
set_option maxRecDepth 4000

theorem cut_one (x : H32) (A : Option Addr) (n c : Nat) : (vl (.agg (hvl x ++ [Value.slice A n c]).toArray)).all (·.oneCell') = true := by
  rw [vl_agg, List.all_append, Bool.and_eq_true]; exact ⟨hvl_one x, rfl⟩
set_option maxHeartbeats 400000 in
theorem cloneu_walk (A : Option Addr) (c : Nat) (xs : List Nat) (hx : xs.length ≤ 4096) (w0 : World) (hR : Ro w0 [] (SlA A (u64s xs))) :
    Calls Tryz.prog 152 #[.slice A xs.length c] w0 (Post w0 [] fun v L => ∃ O d, v = .slice O xs.length d ∧ L = [OwnA 40 1 O xs.length d (u64s xs)]) := by
  refine Calls.of (L := []) (n := 8) (rs := [.tmp 2]) Tryz.func152 rfl rfl rfl (Nat.le_of_ble_eq_true rfl) (Sat.nil _) ?_
  refine TC.ownNil 40 1 ?_
  refine TC.seq ?_
  refine TC.region ?_
  refine S.as ?_
  refine S.nil ?_
  refine TC.seq ?_
  refine TC.seq ?_
  refine TC.region ?_
  refine S.mv ?_
  refine S.q rfl rfl (Qt.eqsl Tryz.underlying22 rfl) ?_
  refine S.nil ?_
  refine TC.ifb rfl (fun hnl => ?_) (fun hnl => ?_)
  · refine TC.seq ?_
    refine TC.region ?_
    refine S.as ?_
    refine S.nil ?_
    refine TC.ret ?_
    refine finQ.ret (RVs.tmp (by conv => lhs; whnf) RVs.nil) (Sub.refl _) ?_
    obtain rfl : A = none := Option.isNone_iff_eq_none.1 hnl
    have h := SlA.none_nil hR.1
    obtain rfl : xs = [] := by cases xs with
      | nil => rfl
      | cons x xs => cases h
    exact ⟨none, 0, rfl, rfl⟩
  · refine TC.skip ?_
    refine TC.seq ?_
    refine TC.region ?_
    refine S.opS rfl rfl (OpV.slice0 Tryz.underlying22 ⟨_, Tryz.elem40⟩ (fun g5 => ?_))
    refine S.mv ?_
    refine S.opS rfl rfl (OpV.app0 (bytes := 8) (news := u64s xs) Tryz.underlying22 Tryz.elem40 rfl rfl (Has.ro hR) (by rw [u64s_len, Nat.mul_one]) (u64s_one _) (by simp only [maxLen]; omega) (by omega) (fun O d => ?_))
    refine S.as ?_
    refine S.nil ?_
    refine TC.ret ?_
    refine finQ.ret (RVs.tmp (by conv => lhs; whnf) RVs.nil) (Sub.keep _ (Sub.drop _ (Sub.nil _))) ?_
    exact ⟨O, d, by rw [Nat.zero_add]; rfl, by rw [Nat.zero_add, List.nil_append]⟩
set_option maxHeartbeats 400000 in
theorem mkw_walk (E : Nat → H32) (tb mb height : Nat) (ms : Tm) (hh : height ≤ 32) (A : Option Addr) (c : Nat) (xs : List Nat) (hc : xs.length ≤ c) (hi : idxOk height xs) (w0 : World) (hB : Ro w0 [] (Blk tb 243 (treeCs E height mb))) (hM : Ro w0 [] (MapA mb encAt hv (ms))) (hlow : ∀ x ∈ xs, x < 18446744073709551616) (hR : Ro w0 [] (SlA A (u64s xs))) :
    Calls Tryz.prog 94 #[.pointer (some ⟨tb, 0, none⟩), .slice A xs.length c] w0 (Post w0 [] fun v L => ∃ I i A1 a1 B1 b1, v = .tuple #[.agg #[.slice I xs.length i, .slice A1 xs.length a1, .slice B1 (spots height xs 0).length b1], .nilIface] ∧ L = [OwnA 40 1 I xs.length i (u64s xs), OwnA 49 32 A1 xs.length a1 (hcs (xs.map (fun x => getT E ms (0, x)))), OwnA 49 32 B1 (spots height xs 0).length b1 (hcs ((spots height xs 0).map (fun a => getT E ms a)))]) := by
  refine Calls.of (L := []) (n := 34) (rs := [.cell 4 194, .tmp 5]) Tryz.func94 rfl rfl rfl (Nat.le_of_ble_eq_true rfl) (Sat.nil _) ?_
  refine TC.seq ?_
  refine TC.region ?_
  refine S.opS rfl rfl (OpV.alloc Tryz.zero194 (fun b4 => ?_))
  refine S.as ?_
  refine S.nil ?_
  refine TC.seq ?_
  refine TC.region ?_
  refine S.mv ?_
  refine S.mv ?_
  refine S.opS rfl rfl (OpV.con (Pre := []) (R := _) Tryz.ent83 rfl (List.Perm.refl _) (fun w hw => make10_walk E tb mb height ms hh A c xs hc hi w (Rd.ro hB w hw) (Rd.ro hM w hw) hlow (Rd.ro hR w hw)) ?_)
  rintro v L' ⟨B1, b1, rfl, rfl⟩
  refine S.mv ?_
  refine S.q rfl rfl (Qt.extract rfl rfl) ?_
  refine S.q rfl rfl (Qt.extract rfl rfl) ?_
  refine S.as ?_
  refine S.as ?_
  refine S.nil ?_
  refine TC.seq ?_
  refine TC.seq ?_
  refine TC.region ?_
  refine S.mv ?_
  refine S.q rfl rfl (Qt.nenil_nil Tryz.underlying51 rfl) ?_
  refine S.nil ?_
  refine S.if_f rfl ?_
  refine TC.skip ?_
  refine TC.seq ?_
  refine TC.region ?_
  refine S.mv ?_
  refine S.mv ?_
  refine S.opS rfl rfl (OpV.con (Pre := []) (R := _) Tryz.ent82 rfl (List.Perm.refl _) (fun w hw => leaves10_walk E tb mb height ms hh A c xs hi w (Rd.ro hB w hw) (Rd.ro hM w hw) hlow (Rd.ro hR w hw)) ?_)
  rintro v L' ⟨A1, a1, rfl, rfl⟩
  refine S.mv ?_
  refine S.q rfl rfl (Qt.extract rfl rfl) ?_
  refine S.q rfl rfl (Qt.extract rfl rfl) ?_
  refine S.as ?_
  refine S.as ?_
  refine S.nil ?_
  refine TC.seq ?_
  refine TC.seq ?_
  refine TC.region ?_
  refine S.mv ?_
  refine S.q rfl rfl (Qt.nenil_nil Tryz.underlying51 rfl) ?_
  refine S.nil ?_
  refine S.if_f rfl ?_
  refine TC.skip ?_
  refine TC.seq ?_
  refine TC.region ?_
  refine S.mv ?_
  refine S.opS rfl rfl (OpV.con (Pre := []) (R := _) Tryz.ent152 rfl (List.Perm.refl _) (fun w hw => cloneu_walk A c xs (by have := hi.2.1; omega) w (Rd.ro hR w hw)) ?_)
  rintro v L' ⟨I, i, rfl, rfl⟩
  refine S.mv ?_
  refine S.mv ?_
  refine S.q rfl rfl (Qt.as (Qt.buildS (vs := [.slice I xs.length i, .slice A1 xs.length a1, .slice B1 (spots height xs 0).length b1]) (pls := #[(0, 1), (1, 1), (2, 1)]) Tryz.underlying194 (fun w => by kernel_rfl) Tryz.zero194 rfl ⟨rfl, rfl, rfl, trivial⟩ rfl) (show _ = Value.agg #[.slice I xs.length i, .slice A1 xs.length a1, .slice B1 (spots height xs 0).length b1] from rfl)) ?_
  refine S.opN rfl (OpV.storeV3 rfl (by conv => lhs; whnf) (by exact Tryz.cells194) (by rfl) (by rfl) ?_)
  refine S.as ?_
  refine S.nil ?_
  refine TC.ret ?_
  refine finQ.ret (RVs.cell rfl (Ld.all (Has.at 3 rfl) Tryz.row194 (Tryz.cells194)) (RVs.tmp (by conv => lhs; whnf) RVs.nil)) (Sub.keep _ (Sub.keep _ (Sub.keep _ (Sub.drop _ (Sub.nil []))))) ?_
  exact ⟨I, i, A1, a1, B1, b1, rfl, rfl⟩
set_option maxHeartbeats 400000 in
theorem mkc_walk (E : Nat → H32) (tb mb height : Nat) (ms : Tm) (hh : height ≤ 32) (b : Nat) (h1 : 1 ≤ b) (hb : b - 1 < 2 ^ height) (w0 : World) (hB : Ro w0 [] (Blk tb 243 (treeCs E height mb))) (hM : Ro w0 [] (MapA mb encAt hv (ms))) :
    Calls Tryz.prog 95 #[.pointer (some ⟨tb, 0, none⟩), .int .u64 (b : Int)] w0 (Post w0 [] fun v L => ∃ O d, v = .tuple #[.agg (hvl (getT E ms (0, b - 1)) ++ [Value.slice O height d]).toArray, .nilIface] ∧ L = [OwnA 49 32 O height d (hcs (pathT E ms height (b - 1)))]) := by
  refine Calls.of (L := []) (n := 34) (rs := [.cell 4 198, .tmp 5]) Tryz.func95 rfl rfl rfl (Nat.le_of_ble_eq_true rfl) (Sat.nil _) ?_
  have hb32 := pow32 hh hb
  refine TC.seq ?_
  refine TC.region ?_
  refine S.opS rfl rfl (OpV.alloc Tryz.zero198 (fun b4 => ?_))
  refine S.as ?_
  refine S.nil ?_
  refine TC.seq ?_
  refine TC.region ?_
  refine S.mv ?_
  refine S.mv ?_
  refine S.q rfl rfl (Qt.sub (b := 1) rfl rfl (by omega) (by simp only [kmax]; omega)) ?_
  refine S.opS rfl rfl (OpV.con0 Tryz.ent138 rfl (fun w hw => leaf_R E tb mb height ms (b - 1) hh hb w (Rd.ro hB w hw) (Rd.ro hM w hw)) ?_)
  refine S.mv ?_
  refine S.q rfl rfl (Qt.extract rfl rfl) ?_
  refine S.q rfl rfl (Qt.extract rfl rfl) ?_
  refine S.opS rfl rfl (OpV.alloc Tryz.zero49 (fun b6 => ?_))
  refine S.opN rfl (OpV.storeV0 (v := hv (_)) rfl rfl (hv_size Tryz.cells49) (hv_all _) (hv_len _) ?_)
  refine S.as ?_
  refine S.nil ?_
  refine TC.seq ?_
  refine TC.seq ?_
  refine TC.region ?_
  refine S.mv ?_
  refine S.q rfl rfl (Qt.nenil_nil Tryz.underlying51 rfl) ?_
  refine S.nil ?_
  refine S.if_f rfl ?_
  refine TC.skip ?_
  refine TC.seq ?_
  refine TC.region ?_
  refine S.mv ?_
  refine S.mv ?_
  refine S.q rfl rfl (Qt.sub (b := 1) rfl rfl (by omega) (by simp only [kmax]; omega)) ?_
  refine S.opS rfl rfl (OpV.con (Pre := []) (R := _) Tryz.ent153 rfl (List.Perm.refl _) (fun w hw => path_walk E tb mb height ms (b - 1) hh hb w (Rd.ro hB w hw) (Rd.ro hM w hw)) ?_)
  rintro v L' ⟨O, d, rfl, rfl⟩
  refine S.mv ?_
  refine S.q rfl rfl (Qt.extract rfl rfl) ?_
  refine S.q rfl rfl (Qt.extract rfl rfl) ?_
  refine S.as ?_
  refine S.as ?_
  refine S.nil ?_
  refine TC.seq ?_
  refine TC.seq ?_
  refine TC.region ?_
  refine S.mv ?_
  refine S.q rfl rfl (Qt.nenil_nil Tryz.underlying51 rfl) ?_
  refine S.nil ?_
  refine S.if_f rfl ?_
  refine TC.skip ?_
  refine TC.seq ?_
  refine TC.region ?_
  refine S.q rfl rfl (Qt.load rfl (Ld.hash1 (x := getT E ms (0, b - 1)) (Has.at 1 rfl) Tryz.row49 Tryz.cells49)) ?_
  refine S.mv ?_
  refine S.q rfl rfl (Qt.as (Qt.buildS (vs := [hv (getT E ms (0, b - 1)), .slice O height d]) (pls := #[(0, 32), (32, 1)]) Tryz.underlying198 (fun w => by kernel_rfl) Tryz.zero198 rfl ⟨(by show some (0, 32) = some (0, _); rw [hv_len]), (by show some (32, 1) = some (0 + (vl (hv (getT E ms (0, b - 1)))).length, _); rw [hv_len]; rfl), trivial⟩ (by show 33 = _; rw [List.flatMap_cons, List.flatMap_singleton, List.length_append, hv_len]; rfl)) (show _ = Value.agg (hvl (getT E ms (0, b - 1)) ++ [Value.slice O height d]).toArray by rw [List.flatMap_cons, List.flatMap_singleton, vl_hv]; rfl)) ?_
  refine S.opN rfl (OpV.storeV2 (v := .agg (hvl (getT E ms (0, b - 1)) ++ [Value.slice O height d]).toArray) rfl rfl (by rw [vl_agg, cut_size]; exact Tryz.cells198) (cut_one _ _ _ _) (by rw [vl_agg, cut_size]; rfl) ?_)
  refine S.as ?_
  refine S.nil ?_
  refine TC.ret ?_
  refine finQ.ret (RVs.cell rfl (Ld.all (Has.at 2 rfl) Tryz.row198 (by rw [vl_agg, cut_size]; exact Tryz.cells198)) (RVs.tmp (by conv => lhs; whnf) RVs.nil)) (Sub.keep _ (Sub.drop _ (Sub.drop _ (Sub.nil [])))) ?_
  exact ⟨O, d, rfl, rfl⟩
end Go.Proofs.YtgdjcmehlhebdaaGreatDoor
namespace Go.Proofs.YtgdjcmehlhebdaaGreatDoor
open Go.E
set_option linter.unusedVariables false
set_option maxRecDepth 4000
theorem Tryz.build99 (n sm tb : Nat) (w : World) : (Instr.build 160 #[(0, .int .u64 (n : Int)), (1, .map (some sm)), (2, .pointer (some ⟨tb, 0, none⟩))]).run Tryz.prog w = .ok (.agg #[.int .u64 (n : Int), .map (some sm), .pointer (some ⟨tb, 0, none⟩)]) w := by kernel_rfl
theorem Tryz.build47 (A : Option Addr) (n c : Nat) (B : Option Addr) (m d : Nat) (w : World) : (Instr.build 182 #[(0, .slice A n c), (1, .slice B m d)]).run Tryz.prog w = .ok (.agg #[.slice A n c, .slice B m d]) w := by kernel_rfl
set_option maxHeartbeats 400000 in
theorem blocks19_walk (qb n sm tb : Nat) (w0 : World) (hQ : Ro w0 [] (Blk qb 160 [.int .u64 (n : Int), .map (some sm), .pointer (some ⟨tb, 0, none⟩)])) :
    Calls Tryz.prog 27 #[.pointer (some ⟨qb, 0, none⟩)] w0 (Post w0 [] fun v L => v = .int .u64 (n : Int) ∧ L = []) := by
  refine Calls.of (L := []) (n := 9) (rs := [.tmp 2]) Tryz.func27 rfl rfl rfl (Nat.le_of_ble_eq_true rfl) (Sat.nil _) ?_
  refine TC.seq ?_
  refine TC.region ?_
  refine S.as ?_
  refine S.nil ?_
  refine TC.seq ?_
  refine TC.seq ?_
  refine TC.region ?_
  refine S.mv ?_
  refine S.q rfl rfl (Qt.eqp_some Tryz.underlying69 rfl) ?_
  refine S.nil ?_
  refine S.if_f rfl ?_
  refine TC.skip ?_
  refine TC.seq ?_
  refine TC.region ?_
  refine S.mv ?_
  refine S.q rfl rfl (Qt.nilCheck rfl) ?_
  refine S.q rfl rfl (Qt.field Tryz.underlying160 rfl Tryz.cells40 rfl) ?_
  refine S.q rfl rfl (Qt.load rfl (Ld.one (v := .int .u64 (n : Int)) (Has.ro hQ) Tryz.one40 rfl)) ?_
  refine S.as ?_
  refine S.nil ?_
  refine TC.ret ?_
  refine finQ.ret (RVs.tmp (by conv => lhs; whnf) RVs.nil) (Sub.nil _) ?_
  exact ⟨rfl, rfl⟩
theorem blocks19_R (qb n sm tb : Nat) (w0 : World) (hQ : Ro w0 [] (Blk qb 160 [.int .u64 (n : Int), .map (some sm), .pointer (some ⟨tb, 0, none⟩)])) : Calls Tryz.prog 27 #[.pointer (some ⟨qb, 0, none⟩)] w0 (Ret w0 (.int .u64 (n : Int))) := Calls.ret (blocks19_walk qb n sm tb w0 hQ)

set_option maxHeartbeats 400000 in
theorem new16_walk (E : Nat → H32) (hEm : ∀ w, Tabs 3 1 w [] → Calls Tryz.prog 55 #[] w (Ret w (.agg (hcs (emptL E)).toArray))) (n : Nat) (h : okN n) (w0 : World) (hT : Tabs 3 1 w0 []) :
    Calls Tryz.prog 21 #[.int .u64 (n : Int)] w0 (Post w0 [] fun v L => ∃ qb sm tb mb, v = .tuple #[.pointer (some ⟨qb, 0, none⟩), .nilIface] ∧ L = [Blk qb 160 [.int .u64 (n : Int), .map (some sm), .pointer (some ⟨tb, 0, none⟩)], MapA sm encU sv [], Blk tb 243 (treeCs E (hgt n) mb), MapA mb encAt hv []]) := by
  refine Calls.of (L := []) (n := 28) (rs := [.tmp 2, .tmp 3]) Tryz.func21 rfl rfl rfl (Nat.le_of_ble_eq_true rfl) (Sat.nil _) ?_
  refine TC.seq ?_
  refine TC.region ?_
  refine S.as ?_
  refine S.as ?_
  refine S.nil ?_
  refine TC.seq ?_
  refine TC.region ?_
  refine S.mv ?_
  refine S.opS rfl rfl (OpV.con0 Tryz.ent39 rfl (fun w hw => height_T n h w) ?_)
  refine S.mv ?_
  refine S.q rfl rfl (Qt.extract rfl rfl) ?_
  refine S.q rfl rfl (Qt.extract rfl rfl) ?_
  refine S.as ?_
  refine S.as ?_
  refine S.nil ?_
  refine TC.seq ?_
  refine TC.seq ?_
  refine TC.region ?_
  refine S.mv ?_
  refine S.q rfl rfl (Qt.nenil_nil Tryz.underlying51 rfl) ?_
  refine S.nil ?_
  refine S.if_f rfl ?_
  refine TC.skip ?_
  refine TC.seq ?_
  refine TC.region ?_
  refine S.mv ?_
  refine S.opS rfl rfl (OpV.con (Pre := []) (R := _) Tryz.ent67 rfl (List.Perm.refl _) (fun w hw => new_walk E hEm (hgt n) (hgt_le h) w (hT.at hw)) ?_)
  rintro v L' ⟨tb, mb, rfl, rfl⟩
  refine S.mv ?_
  refine S.q rfl rfl (Qt.extract rfl rfl) ?_
  refine S.q rfl rfl (Qt.extract rfl rfl) ?_
  refine S.as ?_
  refine S.as ?_
  refine S.nil ?_
  refine TC.seq ?_
  refine TC.seq ?_
  refine TC.region ?_
  refine S.mv ?_
  refine S.q rfl rfl (Qt.nenil_nil Tryz.underlying51 rfl) ?_
  refine S.nil ?_
  refine S.if_f rfl ?_
  refine TC.skip ?_
  refine TC.seq ?_
  refine TC.region ?_
  refine S.mv ?_
  refine S.opS rfl rfl (OpV.makeMap (enc := encU) (encv := sv) (fun sm => ?_))
  refine S.mv ?_
  refine S.q rfl rfl (Qt.build3 (a := .int .u64 (n : Int)) (b := .map (some sm)) (c := .pointer (some ⟨tb, 0, none⟩)) rfl rfl rfl (Tryz.build99 _ _ _)) ?_
  refine S.opS rfl rfl (OpV.box (v := .agg #[.int .u64 (n : Int), .map (some sm), .pointer (some ⟨tb, 0, none⟩)]) rfl (fun b27 => ?_))
  refine S.as ?_
  refine S.as ?_
  refine S.nil ?_
  refine TC.ret ?_
  refine finQ.ret (RVs.tmp (by conv => lhs; whnf) (RVs.tmp (by conv => lhs; whnf) RVs.nil)) (Sub.refl _) ?_
  exact ⟨b27, sm, tb, mb, rfl, rfl⟩
set_option maxHeartbeats 6400000 in
theorem step17_walk (E : Nat → H32) (n : Nat) (hn : okN n) (qb sm tb mb : Nat) (ms : Tm) (A : Option Addr) (c : Nat) (B : Option Addr) (d : Nat) (o : Order) (hxc : o.xs.length ≤ c) (hss : o.ss.length ≤ 65536) (hxx : o.xs.length ≤ 65536) (hob : o.blocks < 18446744073709551616) (rs : List Value) (err : Int) (P : Option Addr) (p : Nat) (pa : List H32) (Q : Option Addr) (q : Nat) (pb : List H32) (hrl : rs.length = 29) (hr1 : rs.all (·.oneCell') = true) (hre : rs[2]? = some (.int .i64 err)) (hra : rs[27]? = some (.slice P pa.length p)) (hrb : rs[28]? = some (.slice Q pb.length q)) (hp : pa.length ≤ p) (hq : pb.length ≤ q) (w0 : World) (hQ : Ro w0 [] (Blk qb 160 [.int .u64 (n : Int), .map (some sm), .pointer (some ⟨tb, 0, none⟩)])) (hB : Ro w0 [] (Blk tb 243 (treeCs E (hgt n) mb))) (hM : Ro w0 [] (MapA mb encAt hv ms)) (hlow : ∀ x ∈ o.xs, x < 18446744073709551616) (hR : Ro w0 [] (SlA A (u64s o.xs))) (hS : Ro w0 [] (SlA B (o.ss.flatMap sealL))) (hPa : Ro w0 [] (SlA P (hcs pa))) (hPb : Ro w0 [] (SlA Q (hcs pb))) (hT : Tabs 3 1 w0 []) :
    Calls Tryz.prog 35 #[.pointer (some ⟨qb, 0, none⟩), .agg (orderV A c B d o).toArray, .agg rs.toArray] w0 (Post w0 [] fun v L => PxQ 114 (stepP (fun x => getT E ms (0, x)) (fun a => getT E ms a) (fun i => pathT E ms (hgt n) i) n o err pa pb) v L) := by
  refine Calls.of (L := []) (n := 100) (rs := [.tmp 6]) Tryz.func35 rfl rfl rfl (Nat.le_of_ble_eq_true rfl) (Sat.nil _) ?_
  refine TC.ownNil 114 2 ?_
  refine TC.manyNil ?_
  have hh := hgt_le hn
  refine TC.seq ?_
  refine TC.region ?_
  refine S.opS rfl rfl (OpV.box (v := .agg (orderV A c B d o).toArray) rfl (fun b4 => ?_))
  refine S.opS rfl rfl (OpV.box (v := .agg rs.toArray) rfl (fun b5 => ?_))
  refine S.as ?_
  refine S.nil ?_
  refine TC.seq ?_
  refine TC.block ?_
  refine TC.seq ?_
  refine S.draw ([], []) Tryz.mixed (Sub.nil _) ?_
  refine D.qY 0 rfl (Qt.move (by conv => lhs; whnf)) ?_
  refine D.qY 1 rfl (Qt.eqp_some Tryz.underlying69 rfl) ?_
  refine D.qY 2 rfl (Qt.move (by conv => lhs; whnf)) ?_
  refine D.qgX (k := 3) rfl (by kernel_rfl) (by kernel_rfl) (by kernel_rfl) rfl rfl rfl (Qt.field Tryz.underlying65 rfl Tryz.cells3 rfl) ?_
  refine D.qgX (k := 4) rfl (by kernel_rfl) (by kernel_rfl) (by kernel_rfl) rfl rfl rfl (Qt.load rfl (Ld.one (v := .int .i64 err) (Has.at 0 rfl) Tryz.one3 hre)) ?_
  refine D.decgX (k := 5) rfl (by kernel_rfl) (by kernel_rfl) (by kernel_rfl) rfl rfl rfl (Qt.nei rfl rfl) (fun h17 => ?_) (fun h17 => ?_)
  · refine D.qY 6 rfl (Qt.pick_f rfl (by conv => lhs; whnf)) ?_
    refine D.qY 7 rfl (Qt.move (by conv => lhs; whnf)) ?_
    refine D.pass (k := 8) rfl (by kernel_rfl) (by kernel_rfl) rfl rfl rfl ?_
    refine D.pass (k := 9) rfl (by kernel_rfl) (by kernel_rfl) rfl rfl rfl ?_
    refine D.pass (k := 10) rfl (by kernel_rfl) (by kernel_rfl) rfl rfl rfl ?_
    refine D.pass (k := 11) rfl (by kernel_rfl) (by kernel_rfl) rfl rfl rfl ?_
    refine D.pass (k := 12) rfl (by kernel_rfl) (by kernel_rfl) rfl rfl rfl ?_
    refine D.pass (k := 13) rfl (by kernel_rfl) (by kernel_rfl) rfl rfl rfl ?_
    refine D.pass (k := 14) rfl (by kernel_rfl) (by kernel_rfl) rfl rfl rfl ?_
    refine D.qY 15 rfl (Qt.pick_t rfl (by conv => lhs; whnf)) ?_
    refine D.qY 16 rfl (Qt.assign (by conv => lhs; whnf)) ?_
    refine D.done (Sub.nil _) (by kernel_rfl) ?_
    refine S.if_t rfl ?_
    refine TC.seq ?_
    refine TC.region ?_
    refine S.as ?_
    refine S.nil ?_
    refine TC.ret ?_
    refine finQ.ret (RVs.tmp (by conv => lhs; whnf) RVs.nil) (Sub.trans (Sub.keep _ (Sub.keep _ (Sub.drop _ (Sub.drop _ (Sub.nil []))))) (Sub.trans (Sub.keep _ (Sub.trans (Sub.keep _ (Sub.refl _)) (Sub.of_perm (List.perm_middle (l₁ := [_, _]))))) (Sub.of_perm (List.perm_middle (l₁ := [_, _, _]))))) ?_
    exact ⟨none, 0, [], [], rfl, rfl, (stepP_bad (.inl h17)).symm, Nat.zero_le _, fun p hp => nomatch hp⟩
  · refine D.qY 6 rfl (Qt.pick_f rfl (by conv => lhs; whnf)) ?_
    refine D.qY 7 rfl (Qt.move (by conv => lhs; whnf)) ?_
    refine D.qgX (k := 8) rfl (by kernel_rfl) (by kernel_rfl) (by kernel_rfl) rfl rfl rfl (Qt.load rfl (Ld.all (vs := (orderV A c B d o)) (Has.at 1 rfl) Tryz.row58 Tryz.cells58)) ?_
    refine D.qgX (k := 9) rfl (by kernel_rfl) (by kernel_rfl) (by kernel_rfl) rfl rfl rfl (Qt.move (by conv => lhs; whnf)) ?_
    refine D.qgX (k := 10) rfl (by kernel_rfl) (by kernel_rfl) (by kernel_rfl) rfl rfl rfl (Qt.nilCheck rfl) ?_
    refine D.qgX (k := 11) rfl (by kernel_rfl) (by kernel_rfl) (by kernel_rfl) rfl rfl rfl (Qt.field Tryz.underlying160 rfl Tryz.cells40 rfl) ?_
    refine D.qgX (k := 12) rfl (by kernel_rfl) (by kernel_rfl) (by kernel_rfl) rfl rfl rfl (Qt.load rfl (Ld.one (v := .int .u64 (n : Int)) (Has.ro hQ) Tryz.one40 rfl)) ?_
    by_cases hf : fitsO o n
    · refine D.cgX (k := 13) rfl (by kernel_rfl) (by kernel_rfl) (by kernel_rfl) rfl rfl rfl (CalU.con0 Tryz.ent93 rfl (fun w hw => (by have h := fits39_R A c B d o hss hxx n w hlow (Rd.ro hR w hw) (Rd.ro hS w hw); rw [decide_eq_true hf] at h; exact h : Calls Tryz.prog 93 #[.agg (orderV A c B d o).toArray, .int .u64 (n : Int)] w (Ret w (.bool true))))) ?_
      refine D.qgX (k := 14) rfl (by kernel_rfl) (by kernel_rfl) (by kernel_rfl) rfl rfl rfl (Qt.not_t rfl) ?_
      refine D.qY 15 rfl (Qt.pick_f rfl (by conv => lhs; whnf)) ?_
      refine D.qY 16 rfl (Qt.assign (by conv => lhs; whnf)) ?_
      refine D.done (Sub.nil _) (by kernel_rfl) ?_
      refine S.if_f rfl ?_
      refine TC.seq ?_
      refine TC.region ?_
      refine S.q rfl rfl (Qt.field Tryz.underlying58 rfl Tryz.cells3 rfl) ?_
      refine S.q rfl rfl (Qt.load rfl (Ld.one (v := .int .i64 o.kind) (Has.at 1 rfl) Tryz.one3 rfl)) ?_
      refine S.dec rfl rfl (Qt.nei rfl rfl) (fun h31 => ?_) (fun h31 => ?_)
      · refine S.as ?_
        refine S.nil ?_
        refine S.if_t rfl ?_
        refine TC.seq ?_
        refine S.draw ([11], [6, 10]) Tryz.mixed (Sub.refl _) ?_
        refine D.qY 0 rfl (Qt.move (by conv => lhs; whnf)) ?_
        refine D.qY 1 rfl (Qt.nilCheck rfl) ?_
        refine D.qY 2 rfl (Qt.field Tryz.underlying160 rfl Tryz.cells155 rfl) ?_
        refine D.qY 3 rfl (Qt.load rfl (Ld.one (v := .pointer (some ⟨tb, 0, none⟩)) (Has.ro hQ) Tryz.one155 rfl)) ?_
        refine D.qY 4 rfl (Qt.field Tryz.underlying58 rfl Tryz.cells22 rfl) ?_
        refine D.qY 5 rfl (Qt.load rfl (Ld.one (v := .slice A o.xs.length c) (Has.at 1 rfl) Tryz.one22 rfl)) ?_
        refine D.orNN (k1 := 6) (k2 := 10) (Sub.refl _) rfl rfl (by kernel_rfl) (by kernel_rfl) rfl rfl rfl rfl ?_ ?_
        · refine (OpV.con (Pre := []) (R := _) Tryz.ent94 rfl (List.Perm.refl _) (fun w hw => mkw_walk E tb mb (hgt n) ms hh A c o.xs hxc (fitsO_hgt hn hf h31) w (Rd.ro hB w hw) (Rd.ro hM w hw) hlow (Rd.ro hR w hw)) ?_)
          rintro v L' ⟨I, i, A1, a1, B1, b1, rfl, rfl⟩
          refine ⟨Sub.drop _ (Sub.drop _ (Sub.drop _ (Sub.keep _ (Sub.keep _ (Sub.keep _ (Sub.keep _ (Sub.nil []))))))), ?_⟩
          refine D.qY 7 rfl (Qt.move (by conv => lhs; whnf)) ?_
          refine D.qY 8 rfl (Qt.extract rfl rfl) ?_
          refine D.q (k := 9) rfl (by kernel_rfl) (by kernel_rfl) rfl rfl (Qt.extract rfl rfl) ?_
          refine D.nS (k := 10) (Sub.drop _ (Sub.drop _ (Sub.drop _ (Sub.keep _ (Sub.keep _ (Sub.keep _ (Sub.keep _ (Sub.nil [])))))))) rfl (by kernel_rfl) (by kernel_rfl) rfl rfl (OpV.alloc Tryz.zero194 (fun b7 => ⟨Sub.drop _ (Sub.refl _), ?_⟩))
          refine D.opN (k := 11) (Sub.drop _ (Sub.drop _ (Sub.drop _ (Sub.drop _ (Sub.keep _ (Sub.keep _ (Sub.keep _ (Sub.keep _ (Sub.nil []))))))))) rfl (by kernel_rfl) (by kernel_rfl) rfl (OpV.storeV0 (v := .agg #[.slice I o.xs.length i, .slice A1 o.xs.length a1, .slice B1 (spots (hgt n) o.xs 0).length b1]) rfl rfl (by exact Tryz.cells194) (by rfl) (by rfl) ⟨Sub.drop _ (Sub.drop _ (Sub.drop _ (Sub.drop _ (Sub.keep _ (Sub.keep _ (Sub.keep _ (Sub.keep _ (Sub.nil [])))))))), ?_⟩)
          refine D.qY 12 rfl (Qt.assign (by conv => lhs; whnf)) ?_
          refine D.done (Sub.drop _ (Sub.drop _ (Sub.drop _ (Sub.drop _ (Sub.keep _ (Sub.keep _ (Sub.keep _ (Sub.keep _ (Sub.nil []))))))))) (by kernel_rfl) ?_
          refine TC.seq ?_
          refine TC.seq ?_
          refine TC.region ?_
          refine S.mv ?_
          refine S.q rfl rfl (Qt.nenil_nil Tryz.underlying51 rfl) ?_
          refine S.nil ?_
          refine S.if_f rfl ?_
          refine TC.skip ?_
          refine TC.seq ?_
          refine S.draw ([], [17]) Tryz.mixed (Sub.nil _) ?_
          refine D.qY 0 rfl (Qt.move (by conv => lhs; whnf)) ?_
          refine D.qY 1 rfl (Qt.nilCheck rfl) ?_
          refine D.qY 2 rfl (Qt.field Tryz.underlying160 rfl Tryz.cells155 rfl) ?_
          refine D.qY 3 rfl (Qt.load rfl (Ld.one (v := .pointer (some ⟨tb, 0, none⟩)) (Has.ro hQ) Tryz.one155 rfl)) ?_
          refine D.cX (k := 4) rfl (by kernel_rfl) (by kernel_rfl) (by kernel_rfl) rfl rfl (CalU.con0 Tryz.ent80 rfl (fun w hw => height85_R E tb mb (hgt n) w (Rd.ro hB w hw))) ?_
          refine D.qY 5 rfl (Qt.field Tryz.underlying58 rfl Tryz.cells22 rfl) ?_
          refine D.qY 6 rfl (Qt.load rfl (Ld.one (v := .slice A o.xs.length c) (Has.at 5 rfl) Tryz.one22 rfl)) ?_
          refine D.qY 7 rfl (Qt.field Tryz.underlying194 rfl Tryz.cells33 rfl) ?_
          refine D.qY 8 rfl (Qt.load rfl (Ld.one (v := .slice A1 o.xs.length a1) (Has.at 0 rfl) Tryz.one33 rfl)) ?_
          refine D.qY 9 rfl (Qt.field Tryz.underlying194 rfl Tryz.cells33 rfl) ?_
          refine D.qY 10 rfl (Qt.load rfl (Ld.one (v := .slice B1 (spots (hgt n) o.xs 0).length b1) (Has.at 0 rfl) Tryz.one33 rfl)) ?_
          refine D.qY 11 rfl (Qt.build2 (a := .slice A1 o.xs.length a1) (b := .slice B1 (spots (hgt n) o.xs 0).length b1) rfl rfl (Tryz.build47 _ _ _ _ _ _)) ?_
          refine D.qY 12 rfl (Qt.field Tryz.underlying65 rfl Tryz.cells33 rfl) ?_
          refine D.qY 13 rfl (Qt.load rfl (Ld.one (v := .slice P pa.length p) (Has.at 4 rfl) Tryz.one33 hra)) ?_
          refine D.qY 14 rfl (Qt.field Tryz.underlying65 rfl Tryz.cells33 rfl) ?_
          refine D.qY 15 rfl (Qt.load rfl (Ld.one (v := .slice Q pb.length q) (Has.at 4 rfl) Tryz.one33 hrb)) ?_
          refine D.qY 16 rfl (Qt.build2 (a := .slice P pa.length p) (b := .slice Q pb.length q) rfl rfl (Tryz.build47 _ _ _ _ _ _)) ?_
          refine D.nS (k := 17) (Sub.nil _) rfl (by kernel_rfl) (by kernel_rfl) rfl rfl (OpV.con (Pre := []) (R := _) Tryz.ent84 rfl (List.Perm.refl _) (fun w hw => (by have k := opens13_walk (hgt n : Int) A c o.xs hxc A1 a1 (o.xs.map (fun x => getT E ms (0, x))) B1 b1 ((spots (hgt n) o.xs 0).map (fun a => getT E ms a)) P p pa Q q pb (by rw [List.length_map]; exact (own_cap (hw.ok (List.mem_of_getElem? (i := 2) rfl))).1) (by rw [List.length_map]; exact (own_cap (hw.ok (List.mem_of_getElem? (i := 3) rfl))).1) hp hq w hlow (Rd.ro hR w hw) (Rd.own (Rd.at 2 rfl) w hw) (Rd.own (Rd.at 3 rfl) w hw) (Rd.ro hPa w hw) (Rd.ro hPb w hw) (hT.at hw); simp only [List.length_map] at k; exact k : Calls Tryz.prog 84 #[.int .i64 (hgt n : Int), .slice A o.xs.length c, .agg #[.slice A1 o.xs.length a1, .slice B1 (spots (hgt n) o.xs 0).length b1], .agg #[.slice P pa.length p, .slice Q pb.length q]] w (Post w [] fun v L => PxQ 114 (pairX (openQ (hgt n : Int) o.xs (o.xs.map (fun x => getT E ms (0, x))) ((spots (hgt n) o.xs 0).map (fun a => getT E ms a))) (openQ (hgt n : Int) o.xs pa pb)) v L))) ?_)
          rintro v L' ⟨O, d2, pp, Ls, rfl, rfl, q1, q2, q3⟩
          refine ⟨Sub.drop _ (Sub.drop _ (Sub.keep _ (Sub.keep _ (Sub.keep _ (Sub.keep _ (Sub.keep _ (Sub.keep _ (Sub.keep _ (Sub.keep _ (Sub.nil [])))))))))), ?_⟩
          refine D.qY 18 rfl (Qt.assign (by conv => lhs; whnf)) ?_
          refine D.done (Sub.nil _) (by kernel_rfl) ?_
          refine TC.ret ?_
          refine finQ.ret (RVs.tmp (by conv => lhs; whnf) RVs.nil) (Sub.keep _ (Sub.keep _ (Sub.drop _ (Sub.drop _ (Sub.drop _ (Sub.drop _ (Sub.drop _ (Sub.drop _ (Sub.drop _ (Sub.drop _ (Sub.nil []))))))))))) ?_
          refine ⟨O, d2, pp, Ls, rfl, rfl, ?_, q2, q3⟩
          rw [stepP_open h17 hf h31]; exact q1
        · refine (OpV.alloc Tryz.zero194 (fun b7 => ⟨Sub.drop _ (Sub.refl _), ?_⟩))
          refine D.nS (k := 6) (Sub.drop _ (Sub.keep _ (Sub.keep _ (Sub.keep _ (Sub.keep _ (Sub.nil [])))))) rfl (by kernel_rfl) (by kernel_rfl) rfl rfl (OpV.con (Pre := []) (R := _) Tryz.ent94 rfl (List.Perm.refl _) (fun w hw => mkw_walk E tb mb (hgt n) ms hh A c o.xs hxc (fitsO_hgt hn hf h31) w (Rd.ro hB w hw) (Rd.ro hM w hw) hlow (Rd.ro hR w hw)) ?_)
          rintro v L' ⟨I, i, A1, a1, B1, b1, rfl, rfl⟩
          refine ⟨Sub.drop _ (Sub.drop _ (Sub.drop _ (Sub.keep _ (Sub.keep _ (Sub.keep _ (Sub.keep _ (Sub.keep _ (Sub.nil [])))))))), ?_⟩
          refine D.qY 7 rfl (Qt.move (by conv => lhs; whnf)) ?_
          refine D.qY 8 rfl (Qt.extract rfl rfl) ?_
          refine D.q (k := 9) rfl (by kernel_rfl) (by kernel_rfl) rfl rfl (Qt.extract rfl rfl) ?_
          refine D.opN (k := 11) (Sub.drop _ (Sub.drop _ (Sub.drop _ (Sub.drop _ (Sub.keep _ (Sub.keep _ (Sub.keep _ (Sub.keep _ (Sub.nil []))))))))) rfl (by kernel_rfl) (by kernel_rfl) rfl (OpV.storeV3 (v := .agg #[.slice I o.xs.length i, .slice A1 o.xs.length a1, .slice B1 (spots (hgt n) o.xs 0).length b1]) rfl rfl (by exact Tryz.cells194) (by rfl) (by rfl) ⟨Sub.drop _ (Sub.drop _ (Sub.drop _ (Sub.drop _ (Sub.keep _ (Sub.keep _ (Sub.keep _ (Sub.keep _ (Sub.nil [])))))))), ?_⟩)
          refine D.qY 12 rfl (Qt.assign (by conv => lhs; whnf)) ?_
          refine D.done (Sub.drop _ (Sub.drop _ (Sub.drop _ (Sub.drop _ (Sub.keep _ (Sub.keep _ (Sub.keep _ (Sub.keep _ (Sub.nil []))))))))) (by kernel_rfl) ?_
          refine TC.seq ?_
          refine TC.seq ?_
          refine TC.region ?_
          refine S.mv ?_
          refine S.q rfl rfl (Qt.nenil_nil Tryz.underlying51 rfl) ?_
          refine S.nil ?_
          refine S.if_f rfl ?_
          refine TC.skip ?_
          refine TC.seq ?_
          refine S.draw ([], [17]) Tryz.mixed (Sub.nil _) ?_
          refine D.qY 0 rfl (Qt.move (by conv => lhs; whnf)) ?_
          refine D.qY 1 rfl (Qt.nilCheck rfl) ?_
          refine D.qY 2 rfl (Qt.field Tryz.underlying160 rfl Tryz.cells155 rfl) ?_
          refine D.qY 3 rfl (Qt.load rfl (Ld.one (v := .pointer (some ⟨tb, 0, none⟩)) (Has.ro hQ) Tryz.one155 rfl)) ?_
          refine D.cX (k := 4) rfl (by kernel_rfl) (by kernel_rfl) (by kernel_rfl) rfl rfl (CalU.con0 Tryz.ent80 rfl (fun w hw => height85_R E tb mb (hgt n) w (Rd.ro hB w hw))) ?_
          refine D.qY 5 rfl (Qt.field Tryz.underlying58 rfl Tryz.cells22 rfl) ?_
          refine D.qY 6 rfl (Qt.load rfl (Ld.one (v := .slice A o.xs.length c) (Has.at 5 rfl) Tryz.one22 rfl)) ?_
          refine D.qY 7 rfl (Qt.field Tryz.underlying194 rfl Tryz.cells33 rfl) ?_
          refine D.qY 8 rfl (Qt.load rfl (Ld.one (v := .slice A1 o.xs.length a1) (Has.at 3 rfl) Tryz.one33 rfl)) ?_
          refine D.qY 9 rfl (Qt.field Tryz.underlying194 rfl Tryz.cells33 rfl) ?_
          refine D.qY 10 rfl (Qt.load rfl (Ld.one (v := .slice B1 (spots (hgt n) o.xs 0).length b1) (Has.at 3 rfl) Tryz.one33 rfl)) ?_
          refine D.qY 11 rfl (Qt.build2 (a := .slice A1 o.xs.length a1) (b := .slice B1 (spots (hgt n) o.xs 0).length b1) rfl rfl (Tryz.build47 _ _ _ _ _ _)) ?_
          refine D.qY 12 rfl (Qt.field Tryz.underlying65 rfl Tryz.cells33 rfl) ?_
          refine D.qY 13 rfl (Qt.load rfl (Ld.one (v := .slice P pa.length p) (Has.at 4 rfl) Tryz.one33 hra)) ?_
          refine D.qY 14 rfl (Qt.field Tryz.underlying65 rfl Tryz.cells33 rfl) ?_
          refine D.qY 15 rfl (Qt.load rfl (Ld.one (v := .slice Q pb.length q) (Has.at 4 rfl) Tryz.one33 hrb)) ?_
          refine D.qY 16 rfl (Qt.build2 (a := .slice P pa.length p) (b := .slice Q pb.length q) rfl rfl (Tryz.build47 _ _ _ _ _ _)) ?_
          refine D.nS (k := 17) (Sub.nil _) rfl (by kernel_rfl) (by kernel_rfl) rfl rfl (OpV.con (Pre := []) (R := _) Tryz.ent84 rfl (List.Perm.refl _) (fun w hw => (by have k := opens13_walk (hgt n : Int) A c o.xs hxc A1 a1 (o.xs.map (fun x => getT E ms (0, x))) B1 b1 ((spots (hgt n) o.xs 0).map (fun a => getT E ms a)) P p pa Q q pb (by rw [List.length_map]; exact (own_cap (hw.ok (List.mem_of_getElem? (i := 1) rfl))).1) (by rw [List.length_map]; exact (own_cap (hw.ok (List.mem_of_getElem? (i := 2) rfl))).1) hp hq w hlow (Rd.ro hR w hw) (Rd.own (Rd.at 1 rfl) w hw) (Rd.own (Rd.at 2 rfl) w hw) (Rd.ro hPa w hw) (Rd.ro hPb w hw) (hT.at hw); simp only [List.length_map] at k; exact k : Calls Tryz.prog 84 #[.int .i64 (hgt n : Int), .slice A o.xs.length c, .agg #[.slice A1 o.xs.length a1, .slice B1 (spots (hgt n) o.xs 0).length b1], .agg #[.slice P pa.length p, .slice Q pb.length q]] w (Post w [] fun v L => PxQ 114 (pairX (openQ (hgt n : Int) o.xs (o.xs.map (fun x => getT E ms (0, x))) ((spots (hgt n) o.xs 0).map (fun a => getT E ms a))) (openQ (hgt n : Int) o.xs pa pb)) v L))) ?_)
          rintro v L' ⟨O, d2, pp, Ls, rfl, rfl, q1, q2, q3⟩
          refine ⟨Sub.drop _ (Sub.drop _ (Sub.keep _ (Sub.keep _ (Sub.keep _ (Sub.keep _ (Sub.keep _ (Sub.keep _ (Sub.keep _ (Sub.keep _ (Sub.nil [])))))))))), ?_⟩
          refine D.qY 18 rfl (Qt.assign (by conv => lhs; whnf)) ?_
          refine D.done (Sub.nil _) (by kernel_rfl) ?_
          refine TC.ret ?_
          refine finQ.ret (RVs.tmp (by conv => lhs; whnf) RVs.nil) (Sub.keep _ (Sub.keep _ (Sub.drop _ (Sub.drop _ (Sub.drop _ (Sub.drop _ (Sub.drop _ (Sub.drop _ (Sub.drop _ (Sub.drop _ (Sub.nil []))))))))))) ?_
          refine ⟨O, d2, pp, Ls, rfl, rfl, ?_, q2, q3⟩
          rw [stepP_open h17 hf h31]; exact q1
      · refine S.as ?_
        refine S.nil ?_
        refine S.if_f rfl ?_
        refine TC.seq ?_
        refine S.draw ([], []) Tryz.mixed (Sub.nil _) ?_
        refine D.qY 0 rfl (Qt.field Tryz.underlying58 rfl Tryz.cells40 rfl) ?_
        refine D.qY 1 rfl (Qt.load rfl (Ld.one (v := .int .u64 (o.blocks : Int)) (Has.at 1 rfl) Tryz.one40 rfl)) ?_
        refine D.qY 2 rfl (Qt.move (by conv => lhs; whnf)) ?_
        refine D.qY 3 rfl (Qt.nilCheck rfl) ?_
        refine D.qY 4 rfl (Qt.field Tryz.underlying160 rfl Tryz.cells40 rfl) ?_
        refine D.qY 5 rfl (Qt.load rfl (Ld.one (v := .int .u64 (n : Int)) (Has.ro hQ) Tryz.one40 rfl)) ?_
        refine D.decX (k := 6) rfl (by kernel_rfl) (by kernel_rfl) (by kernel_rfl) rfl rfl (Qt.lt rfl rfl) (fun h69 => ?_) (fun h69 => ?_)
        · refine D.qY 7 rfl (Qt.move (by conv => lhs; whnf)) ?_
          refine D.qgX (k := 8) rfl (by kernel_rfl) (by kernel_rfl) (by kernel_rfl) rfl rfl rfl (Qt.field Tryz.underlying65 rfl Tryz.cells33 rfl) ?_
          refine D.qgX (k := 9) rfl (by kernel_rfl) (by kernel_rfl) (by kernel_rfl) rfl rfl rfl (Qt.load rfl (Ld.one (v := .slice P pa.length p) (Has.at 0 rfl) Tryz.one33 hra)) ?_
          refine D.qgX (k := 10) rfl (by kernel_rfl) (by kernel_rfl) (by kernel_rfl) rfl rfl rfl (Qt.len_slice Tryz.underlying33 rfl) ?_
          refine D.decgX (k := 11) rfl (by kernel_rfl) (by kernel_rfl) (by kernel_rfl) rfl rfl rfl (Qt.eq (b := 1) rfl rfl) (fun h74 => ?_) (fun h74 => ?_)
          · refine D.qY 12 rfl (Qt.pick_t rfl (by conv => lhs; whnf)) ?_
            refine D.qY 13 rfl (Qt.assign (by conv => lhs; whnf)) ?_
            refine D.done (Sub.nil _) (by kernel_rfl) ?_
            refine S.if_t rfl ?_
            refine TC.seq ?_
            refine S.draw ([11], [6, 10]) Tryz.mixed (Sub.refl _) ?_
            refine D.qY 0 rfl (Qt.move (by conv => lhs; whnf)) ?_
            refine D.qY 1 rfl (Qt.nilCheck rfl) ?_
            refine D.qY 2 rfl (Qt.field Tryz.underlying160 rfl Tryz.cells155 rfl) ?_
            refine D.qY 3 rfl (Qt.load rfl (Ld.one (v := .pointer (some ⟨tb, 0, none⟩)) (Has.ro hQ) Tryz.one155 rfl)) ?_
            refine D.qY 4 rfl (Qt.field Tryz.underlying58 rfl Tryz.cells40 rfl) ?_
            refine D.qY 5 rfl (Qt.load rfl (Ld.one (v := .int .u64 (o.blocks : Int)) (Has.at 1 rfl) Tryz.one40 rfl)) ?_
            refine D.orNN (k1 := 6) (k2 := 10) (Sub.refl _) rfl rfl (by kernel_rfl) (by kernel_rfl) rfl rfl rfl rfl ?_ ?_
            · refine (OpV.con (Pre := []) (R := _) Tryz.ent95 rfl (List.Perm.refl _) (fun w hw => mkc_walk E tb mb (hgt n) ms hh o.blocks (fitsO_blocks hf (Decidable.not_not.1 h31)).1 (by have := hgt_lt hn; have := (fitsO_blocks hf (Decidable.not_not.1 h31)).1; omega) w (Rd.ro hB w hw) (Rd.ro hM w hw)) ?_)
              rintro v L' ⟨Pq, pq, rfl, rfl⟩
              refine ⟨Sub.drop _ (Sub.keep _ (Sub.keep _ (Sub.keep _ (Sub.keep _ (Sub.nil []))))), ?_⟩
              refine D.qY 7 rfl (Qt.move (by conv => lhs; whnf)) ?_
              refine D.qY 8 rfl (Qt.extract rfl rfl) ?_
              refine D.q (k := 9) rfl (by kernel_rfl) (by kernel_rfl) rfl rfl (Qt.extract rfl rfl) ?_
              refine D.nS (k := 10) (Sub.drop _ (Sub.keep _ (Sub.keep _ (Sub.keep _ (Sub.keep _ (Sub.nil [])))))) rfl (by kernel_rfl) (by kernel_rfl) rfl rfl (OpV.alloc Tryz.zero198 (fun b9 => ⟨Sub.drop _ (Sub.refl _), ?_⟩))
              refine D.opN (k := 11) (Sub.drop _ (Sub.drop _ (Sub.keep _ (Sub.keep _ (Sub.keep _ (Sub.keep _ (Sub.nil []))))))) rfl (by kernel_rfl) (by kernel_rfl) rfl (OpV.storeV0 (v := .agg (hvl (getT E ms (0, o.blocks - 1)) ++ [Value.slice Pq (hgt n) pq]).toArray) rfl rfl (by rw [vl_agg, cut_size]; exact Tryz.cells198) (by rw [vl_agg, List.all_append, hvl_one]; rfl) (by rw [vl_agg, cut_size]; rfl) ⟨Sub.drop _ (Sub.drop _ (Sub.keep _ (Sub.keep _ (Sub.keep _ (Sub.keep _ (Sub.nil [])))))), ?_⟩)
              refine D.qY 12 rfl (Qt.assign (by conv => lhs; whnf)) ?_
              refine D.done (Sub.drop _ (Sub.drop _ (Sub.keep _ (Sub.keep _ (Sub.keep _ (Sub.keep _ (Sub.nil []))))))) (by kernel_rfl) ?_
              refine TC.seq ?_
              refine TC.seq ?_
              refine TC.region ?_
              refine S.mv ?_
              refine S.q rfl rfl (Qt.nenil_nil Tryz.underlying51 rfl) ?_
              refine S.nil ?_
              refine S.if_f rfl ?_
              refine TC.skip ?_
              refine TC.seq ?_
              refine S.draw ([], [11]) Tryz.mixed (Sub.nil _) ?_
              refine D.qY 0 rfl (Qt.field Tryz.underlying58 rfl Tryz.cells40 rfl) ?_
              refine D.qY 1 rfl (Qt.load rfl (Ld.one (v := .int .u64 (o.blocks : Int)) (Has.at 3 rfl) Tryz.one40 rfl)) ?_
              refine D.qY 2 rfl (Qt.sub (b := 1) rfl rfl (by have := (fitsO_blocks hf (Decidable.not_not.1 h31)).1; omega) (by simp only [kmax]; omega)) ?_
              refine D.qY 3 rfl (Qt.load rfl (Ld.all (vs := vl (.agg (hvl (getT E ms (0, o.blocks - 1)) ++ [Value.slice Pq (hgt n) pq]).toArray)) (Has.at 0 rfl) Tryz.row198 (by rw [vl_agg, cut_size]; exact Tryz.cells198))) ?_
              refine D.qY 4 rfl (Qt.field Tryz.underlying65 rfl Tryz.cells33 rfl) ?_
              refine D.qY 5 rfl (Qt.load rfl (Ld.one (v := .slice P pa.length p) (Has.at 2 rfl) Tryz.one33 hra)) ?_
              refine D.qY 6 rfl (Qt.index (i := 0) Tryz.underlying33 Tryz.cells49 rfl rfl (by omega) (Has.ro hPa) (by rw [hcs_length]; omega)) ?_
              refine D.qY 7 rfl (Qt.load rfl (Ld.hashS (Has.ro hPa) 0 Tryz.row49 Tryz.cells49 (by omega) rfl)) ?_
              refine D.qY 8 rfl (Qt.field Tryz.underlying65 rfl Tryz.cells33 rfl) ?_
              refine D.qY 9 rfl (Qt.load rfl (Ld.one (v := .slice Q pb.length q) (Has.at 2 rfl) Tryz.one33 hrb)) ?_
              refine D.qY 10 rfl (Qt.as (Qt.buildS (vs := [hv ((pa.getD 0 zeroH)), .slice Q pb.length q]) (pls := #[(0, 32), (32, 1)]) Tryz.underlying198 (fun w => by kernel_rfl) Tryz.zero198 rfl ⟨(by show some (0, 32) = some (0, _); rw [hv_len]), (by show some (32, 1) = some (0 + (vl (hv ((pa.getD 0 zeroH)))).length, _); rw [hv_len]; rfl), trivial⟩ (by show 33 = _; rw [List.flatMap_cons, List.flatMap_singleton, List.length_append, hv_len]; rfl)) (show _ = Value.agg (hvl ((pa.getD 0 zeroH)) ++ [Value.slice Q pb.length q]).toArray by rw [List.flatMap_cons, List.flatMap_singleton, vl_hv]; rfl)) ?_
              refine D.nS (k := 11) (Sub.nil _) rfl (by kernel_rfl) (by kernel_rfl) rfl rfl (OpV.con (Pre := []) (R := _) Tryz.ent96 rfl (List.Perm.refl _) (fun w hw => (by have k := paths6_walk (o.blocks - 1) (by omega) (getT E ms (0, o.blocks - 1)) Pq pq (pathT E ms (hgt n) (o.blocks - 1)) (pa.getD 0 zeroH) Q q pb w (Rd.own (Rd.at 1 rfl) w hw) (Rd.ro hPb w hw) (hT.at hw); rw [pathT_length] at k; exact k : Calls Tryz.prog 96 #[.int .u64 ((o.blocks - 1 : Nat) : Int), .agg (hvl (getT E ms (0, o.blocks - 1)) ++ [Value.slice Pq (hgt n) pq]).toArray, .agg (hvl (pa.getD 0 zeroH) ++ [Value.slice Q pb.length q]).toArray] w (Post w [] fun v L => PxQ 114 (pairX (pathQ (getT E ms (0, o.blocks - 1)) (o.blocks - 1) (pathT E ms (hgt n) (o.blocks - 1))) (pathQ (pa.getD 0 zeroH) (o.blocks - 1) pb)) v L))) ?_)
              rintro v L' ⟨O, d2, pp, Ls, rfl, rfl, q1, q2, q3⟩
              refine ⟨Sub.drop _ (Sub.drop _ (Sub.keep _ (Sub.keep _ (Sub.keep _ (Sub.keep _ (Sub.keep _ (Sub.keep _ (Sub.nil [])))))))), ?_⟩
              refine D.qY 12 rfl (Qt.assign (by conv => lhs; whnf)) ?_
              refine D.done (Sub.nil _) (by kernel_rfl) ?_
              refine TC.ret ?_
              refine finQ.ret (RVs.tmp (by conv => lhs; whnf) RVs.nil) (Sub.keep _ (Sub.keep _ (Sub.drop _ (Sub.drop _ (Sub.drop _ (Sub.drop _ (Sub.drop _ (Sub.drop _ (Sub.nil []))))))))) ?_
              refine ⟨O, d2, pp, Ls, rfl, rfl, ?_, q2, q3⟩
              rw [stepP_path h17 hf h31 h69 h74]; exact q1
            · refine (OpV.alloc Tryz.zero198 (fun b9 => ⟨Sub.drop _ (Sub.refl _), ?_⟩))
              refine D.nS (k := 6) (Sub.drop _ (Sub.keep _ (Sub.keep _ (Sub.keep _ (Sub.keep _ (Sub.nil [])))))) rfl (by kernel_rfl) (by kernel_rfl) rfl rfl (OpV.con (Pre := []) (R := _) Tryz.ent95 rfl (List.Perm.refl _) (fun w hw => mkc_walk E tb mb (hgt n) ms hh o.blocks (fitsO_blocks hf (Decidable.not_not.1 h31)).1 (by have := hgt_lt hn; have := (fitsO_blocks hf (Decidable.not_not.1 h31)).1; omega) w (Rd.ro hB w hw) (Rd.ro hM w hw)) ?_)
              rintro v L' ⟨Pq, pq, rfl, rfl⟩
              refine ⟨Sub.drop _ (Sub.keep _ (Sub.keep _ (Sub.keep _ (Sub.keep _ (Sub.keep _ (Sub.nil [])))))), ?_⟩
              refine D.qY 7 rfl (Qt.move (by conv => lhs; whnf)) ?_
              refine D.qY 8 rfl (Qt.extract rfl rfl) ?_
              refine D.q (k := 9) rfl (by kernel_rfl) (by kernel_rfl) rfl rfl (Qt.extract rfl rfl) ?_
              refine D.opN (k := 11) (Sub.drop _ (Sub.drop _ (Sub.keep _ (Sub.keep _ (Sub.keep _ (Sub.keep _ (Sub.nil []))))))) rfl (by kernel_rfl) (by kernel_rfl) rfl (OpV.storeV1 (v := .agg (hvl (getT E ms (0, o.blocks - 1)) ++ [Value.slice Pq (hgt n) pq]).toArray) rfl rfl (by rw [vl_agg, cut_size]; exact Tryz.cells198) (by rw [vl_agg, List.all_append, hvl_one]; rfl) (by rw [vl_agg, cut_size]; rfl) ⟨Sub.drop _ (Sub.drop _ (Sub.keep _ (Sub.keep _ (Sub.keep _ (Sub.keep _ (Sub.nil [])))))), ?_⟩)
              refine D.qY 12 rfl (Qt.assign (by conv => lhs; whnf)) ?_
              refine D.done (Sub.drop _ (Sub.drop _ (Sub.keep _ (Sub.keep _ (Sub.keep _ (Sub.keep _ (Sub.nil []))))))) (by kernel_rfl) ?_
              refine TC.seq ?_
              refine TC.seq ?_
              refine TC.region ?_
              refine S.mv ?_
              refine S.q rfl rfl (Qt.nenil_nil Tryz.underlying51 rfl) ?_
              refine S.nil ?_
              refine S.if_f rfl ?_
              refine TC.skip ?_
              refine TC.seq ?_
              refine S.draw ([], [11]) Tryz.mixed (Sub.nil _) ?_
              refine D.qY 0 rfl (Qt.field Tryz.underlying58 rfl Tryz.cells40 rfl) ?_
              refine D.qY 1 rfl (Qt.load rfl (Ld.one (v := .int .u64 (o.blocks : Int)) (Has.at 3 rfl) Tryz.one40 rfl)) ?_
              refine D.qY 2 rfl (Qt.sub (b := 1) rfl rfl (by have := (fitsO_blocks hf (Decidable.not_not.1 h31)).1; omega) (by simp only [kmax]; omega)) ?_
              refine D.qY 3 rfl (Qt.load rfl (Ld.all (vs := vl (.agg (hvl (getT E ms (0, o.blocks - 1)) ++ [Value.slice Pq (hgt n) pq]).toArray)) (Has.at 1 rfl) Tryz.row198 (by rw [vl_agg, cut_size]; exact Tryz.cells198))) ?_
              refine D.qY 4 rfl (Qt.field Tryz.underlying65 rfl Tryz.cells33 rfl) ?_
              refine D.qY 5 rfl (Qt.load rfl (Ld.one (v := .slice P pa.length p) (Has.at 2 rfl) Tryz.one33 hra)) ?_
              refine D.qY 6 rfl (Qt.index (i := 0) Tryz.underlying33 Tryz.cells49 rfl rfl (by omega) (Has.ro hPa) (by rw [hcs_length]; omega)) ?_
              refine D.qY 7 rfl (Qt.load rfl (Ld.hashS (Has.ro hPa) 0 Tryz.row49 Tryz.cells49 (by omega) rfl)) ?_
              refine D.qY 8 rfl (Qt.field Tryz.underlying65 rfl Tryz.cells33 rfl) ?_
              refine D.qY 9 rfl (Qt.load rfl (Ld.one (v := .slice Q pb.length q) (Has.at 2 rfl) Tryz.one33 hrb)) ?_
              refine D.qY 10 rfl (Qt.as (Qt.buildS (vs := [hv ((pa.getD 0 zeroH)), .slice Q pb.length q]) (pls := #[(0, 32), (32, 1)]) Tryz.underlying198 (fun w => by kernel_rfl) Tryz.zero198 rfl ⟨(by show some (0, 32) = some (0, _); rw [hv_len]), (by show some (32, 1) = some (0 + (vl (hv ((pa.getD 0 zeroH)))).length, _); rw [hv_len]; rfl), trivial⟩ (by show 33 = _; rw [List.flatMap_cons, List.flatMap_singleton, List.length_append, hv_len]; rfl)) (show _ = Value.agg (hvl ((pa.getD 0 zeroH)) ++ [Value.slice Q pb.length q]).toArray by rw [List.flatMap_cons, List.flatMap_singleton, vl_hv]; rfl)) ?_
              refine D.nS (k := 11) (Sub.nil _) rfl (by kernel_rfl) (by kernel_rfl) rfl rfl (OpV.con (Pre := []) (R := _) Tryz.ent96 rfl (List.Perm.refl _) (fun w hw => (by have k := paths6_walk (o.blocks - 1) (by omega) (getT E ms (0, o.blocks - 1)) Pq pq (pathT E ms (hgt n) (o.blocks - 1)) (pa.getD 0 zeroH) Q q pb w (Rd.own (Rd.at 0 rfl) w hw) (Rd.ro hPb w hw) (hT.at hw); rw [pathT_length] at k; exact k : Calls Tryz.prog 96 #[.int .u64 ((o.blocks - 1 : Nat) : Int), .agg (hvl (getT E ms (0, o.blocks - 1)) ++ [Value.slice Pq (hgt n) pq]).toArray, .agg (hvl (pa.getD 0 zeroH) ++ [Value.slice Q pb.length q]).toArray] w (Post w [] fun v L => PxQ 114 (pairX (pathQ (getT E ms (0, o.blocks - 1)) (o.blocks - 1) (pathT E ms (hgt n) (o.blocks - 1))) (pathQ (pa.getD 0 zeroH) (o.blocks - 1) pb)) v L))) ?_)
              rintro v L' ⟨O, d2, pp, Ls, rfl, rfl, q1, q2, q3⟩
              refine ⟨Sub.drop _ (Sub.drop _ (Sub.keep _ (Sub.keep _ (Sub.keep _ (Sub.keep _ (Sub.keep _ (Sub.keep _ (Sub.nil [])))))))), ?_⟩
              refine D.qY 12 rfl (Qt.assign (by conv => lhs; whnf)) ?_
              refine D.done (Sub.nil _) (by kernel_rfl) ?_
              refine TC.ret ?_
              refine finQ.ret (RVs.tmp (by conv => lhs; whnf) RVs.nil) (Sub.keep _ (Sub.keep _ (Sub.drop _ (Sub.drop _ (Sub.drop _ (Sub.drop _ (Sub.drop _ (Sub.drop _ (Sub.nil []))))))))) ?_
              refine ⟨O, d2, pp, Ls, rfl, rfl, ?_, q2, q3⟩
              rw [stepP_path h17 hf h31 h69 h74]; exact q1
          · refine D.qY 12 rfl (Qt.pick_t rfl (by conv => lhs; whnf)) ?_
            refine D.qY 13 rfl (Qt.assign (by conv => lhs; whnf)) ?_
            refine D.done (Sub.nil _) (by kernel_rfl) ?_
            refine S.if_f rfl ?_
            refine TC.skip ?_
            refine TC.seq ?_
            refine TC.region ?_
            refine S.as ?_
            refine S.nil ?_
            refine TC.ret ?_
            refine finQ.ret (RVs.tmp (by conv => lhs; whnf) RVs.nil) (Sub.trans (Sub.keep _ (Sub.keep _ (Sub.drop _ (Sub.drop _ (Sub.nil []))))) (Sub.trans (Sub.keep _ (Sub.trans (Sub.keep _ (Sub.refl _)) (Sub.of_perm (List.perm_middle (l₁ := [_, _]))))) (Sub.of_perm (List.perm_middle (l₁ := [_, _, _]))))) ?_
            exact ⟨none, 0, [], [], rfl, rfl, (stepP_no h17 hf h31 (fun h => h74 h.2)).symm, Nat.zero_le _, fun p hp => nomatch hp⟩
        · refine D.qY 7 rfl (Qt.move (by conv => lhs; whnf)) ?_
          refine D.pass (k := 8) rfl (by kernel_rfl) (by kernel_rfl) rfl rfl rfl ?_
          refine D.pass (k := 9) rfl (by kernel_rfl) (by kernel_rfl) rfl rfl rfl ?_
          refine D.pass (k := 10) rfl (by kernel_rfl) (by kernel_rfl) rfl rfl rfl ?_
          refine D.pass (k := 11) rfl (by kernel_rfl) (by kernel_rfl) rfl rfl rfl ?_
          refine D.qY 12 rfl (Qt.pick_f rfl (by conv => lhs; whnf)) ?_
          refine D.qY 13 rfl (Qt.assign (by conv => lhs; whnf)) ?_
          refine D.done (Sub.nil _) (by kernel_rfl) ?_
          refine S.if_f rfl ?_
          refine TC.skip ?_
          refine TC.seq ?_
          refine TC.region ?_
          refine S.as ?_
          refine S.nil ?_
          refine TC.ret ?_
          refine finQ.ret (RVs.tmp (by conv => lhs; whnf) RVs.nil) (Sub.trans (Sub.keep _ (Sub.keep _ (Sub.drop _ (Sub.drop _ (Sub.nil []))))) (Sub.trans (Sub.keep _ (Sub.trans (Sub.keep _ (Sub.refl _)) (Sub.of_perm (List.perm_middle (l₁ := [_, _]))))) (Sub.of_perm (List.perm_middle (l₁ := [_, _, _]))))) ?_
          exact ⟨none, 0, [], [], rfl, rfl, (stepP_no h17 hf h31 (fun h => h69 h.1)).symm, Nat.zero_le _, fun p hp => nomatch hp⟩
    · refine D.cgX (k := 13) rfl (by kernel_rfl) (by kernel_rfl) (by kernel_rfl) rfl rfl rfl (CalU.con0 Tryz.ent93 rfl (fun w hw => (by have h := fits39_R A c B d o hss hxx n w hlow (Rd.ro hR w hw) (Rd.ro hS w hw); rw [decide_eq_false hf] at h; exact h : Calls Tryz.prog 93 #[.agg (orderV A c B d o).toArray, .int .u64 (n : Int)] w (Ret w (.bool false))))) ?_
      refine D.qgX (k := 14) rfl (by kernel_rfl) (by kernel_rfl) (by kernel_rfl) rfl rfl rfl (Qt.not_f rfl) ?_
      refine D.qY 15 rfl (Qt.pick_f rfl (by conv => lhs; whnf)) ?_
      refine D.qY 16 rfl (Qt.assign (by conv => lhs; whnf)) ?_
      refine D.done (Sub.nil _) (by kernel_rfl) ?_
      refine S.if_t rfl ?_
      refine TC.seq ?_
      refine TC.region ?_
      refine S.as ?_
      refine S.nil ?_
      refine TC.ret ?_
      refine finQ.ret (RVs.tmp (by conv => lhs; whnf) RVs.nil) (Sub.trans (Sub.keep _ (Sub.keep _ (Sub.drop _ (Sub.drop _ (Sub.nil []))))) (Sub.trans (Sub.keep _ (Sub.trans (Sub.keep _ (Sub.refl _)) (Sub.of_perm (List.perm_middle (l₁ := [_, _]))))) (Sub.of_perm (List.perm_middle (l₁ := [_, _, _]))))) ?_
      exact ⟨none, 0, [], [], rfl, rfl, (stepP_bad (.inr hf)).symm, Nat.zero_le _, fun p hp => nomatch hp⟩
end Go.Proofs.YtgdjcmehlhebdaaGreatDoor
namespace Go.Proofs.YtgdjcmehlhebdaaGreatDoor
open Go.E
set_option linter.unusedVariables false
set_option maxRecDepth 4000
theorem Tryz.zv24 : zero1 Tryz.prog 49 = some (hv zeroH) := by kernel_rfl
def rsA (A : Option Addr) (n c : Nat) : List Value := [.int .u64 0, .int .i64 3, .int .i64 0, .slice none 0 0, .bool false, .int .u64 0, .int .u64 0, .int .i64 0, .slice none 0 0, .slice none 0 0, .int .u64 0] ++ List.replicate 16 (.int .u8 0) ++ [.slice A n c, .slice none 0 0]
theorem Tryz.build57 (A : Option Addr) (n c : Nat) (w : World) : (Instr.build 58 #[(0, .int .i64 2), (1, .slice A n c)]).run Tryz.prog w = .ok (.agg #[.int .i64 2, .slice A n c, .slice none 0 0, .int .u64 0]) w := by kernel_rfl
theorem Tryz.build63 (A : Option Addr) (n c : Nat) (w : World) : (Instr.build 65 #[(1, .int .i64 3), (6, .slice A n c)]).run Tryz.prog w = .ok (.agg (rsA A n c).toArray) w := by kernel_rfl
set_option maxHeartbeats 1600000 in
theorem alive5_walk (E : Nat → H32) (hEm : ∀ w, Tabs 3 1 w [] → Calls Tryz.prog 55 #[] w (Ret w (.agg (hcs (emptL E)).toArray))) (w0 : World) (hT : Tabs 3 1 w0 []) :
    Calls Tryz.prog 8 #[] w0 (Post w0 [] fun v L => v = .bool true ∧ L = []) := by
  refine Calls.of (L := []) (n := 42) (rs := [.tmp 0]) Tryz.func8 rfl rfl rfl (Nat.le_of_ble_eq_true rfl) (Sat.nil _) ?_
  refine TC.seq ?_
  refine TC.region ?_
  refine S.as ?_
  refine S.nil ?_
  refine TC.seq ?_
  refine TC.region ?_
  refine S.opS rfl rfl (OpV.con (Pre := []) (R := _) Tryz.ent21 rfl (List.Perm.refl _) (fun w hw => new16_walk E hEm 2 (by decide) w (hT.at hw)) ?_)
  rintro v L' ⟨qb, sm, tb, mb, rfl, rfl⟩
  refine S.mv ?_
  refine S.q rfl rfl (Qt.extract rfl rfl) ?_
  refine S.q rfl rfl (Qt.extract rfl rfl) ?_
  refine S.as ?_
  refine S.as ?_
  refine S.nil ?_
  refine TC.seq ?_
  refine TC.seq ?_
  refine TC.region ?_
  refine S.mv ?_
  refine S.q rfl rfl (Qt.nenil_nil Tryz.underlying51 rfl) ?_
  refine S.nil ?_
  refine S.if_f rfl ?_
  refine TC.skip ?_
  refine TC.seq ?_
  refine TC.region ?_
  refine S.mv ?_
  refine S.opS rfl rfl (OpV.sliceLO (vs := u64s [0, 1]) Tryz.underlying22 Tryz.elem40 rfl (by decide) rfl (by intro v hv; obtain ⟨x, _, rfl⟩ := List.mem_map.1 hv; rfl) (fun g13 => ?_))
  refine S.q rfl rfl (Qt.build2 (a := .int .i64 2) (b := .slice (some ⟨g13, 0, none⟩) 2 2) rfl rfl (Tryz.build57 _ _ _)) ?_
  refine S.opS rfl rfl (OpV.makeS (n := 2) (cs := hcs [zeroH, zeroH]) Tryz.underlying33 Tryz.elem49 Tryz.zv24 rfl rfl (by decide) (by decide) (by decide) (by kernel_rfl) (fun g15 => ?_))
  refine S.q rfl rfl (Qt.build2 (a := .int .i64 3) (b := .slice (some ⟨g15, 0, none⟩) 2 2) rfl rfl (Tryz.build63 _ _ _)) ?_
  refine S.opS rfl rfl (OpV.con (Pre := []) (R := _) Tryz.ent35 rfl (List.Perm.refl _) (fun w hw => step17_walk E 2 (by decide) qb sm tb mb [] (some ⟨g13, 0, none⟩) 2 none 0 ⟨2, [0, 1], [], 0⟩ (by decide) (by decide) (by decide) (by decide) (rsA (some ⟨g15, 0, none⟩) 2 2) 0 (some ⟨g15, 0, none⟩) 2 [zeroH, zeroH] none 0 [] rfl rfl rfl rfl rfl (by decide) (by decide) w (Rd.at 2 rfl w hw) (Rd.at 4 rfl w hw) (Rd.at 5 rfl w hw) (by decide : ∀ x ∈ ([0, 1] : List Nat), x < 18446744073709551616) (Rd.own (Rd.at 1 rfl) w hw) (ro_none w) (Rd.blk (Rd.at 0 rfl) w hw) (ro_none w) (hT.at hw)) ?_)
  rintro v L' ⟨O, d2, pp, Ls, rfl, rfl, q1, q2, q3⟩
  rw [alive32_eq] at q1
  have hpl : pp.length = 1 := by have := congrArg List.length q1; simpa using this
  have hx : (pp.getD 0 px0).1.2.2.length = 66 := by have h1 := congrArg (fun l : List Pr => (l.getD 0 pr0).1.length) q1; rw [px_getD (by omega)] at h1; exact h1.trans (joinT_length ..)
  refine S.as ?_
  refine S.nil ?_
  refine TC.seq ?_
  refine TC.region ?_
  refine S.opS rfl rfl (OpV.con0 Tryz.ent44 rfl (fun w hw => Calls.ret (find_walkF none 0 [] (by decide) (by decide) w (ro_none w) (fun p h => nomatch h) (fun p h => nomatch h) (hT.at hw))) ?_)
  refine S.mv ?_
  refine S.q rfl rfl (Qt.extract rfl rfl) ?_
  refine S.q rfl rfl (Qt.extract rfl rfl) ?_
  refine S.opS rfl rfl (OpV.alloc Tryz.zero114 (fun b4 => ?_))
  refine S.opN rfl (OpV.storeV0 (v := .agg #[.slice none 0 0, .slice none 0 0]) rfl rfl (by exact Tryz.cells114) (by rfl) (by rfl) ?_)
  refine S.as ?_
  refine S.nil ?_
  refine TC.seq ?_
  refine TC.region ?_
  refine S.mv ?_
  refine S.q rfl rfl (Qt.len_slice Tryz.underlying26 rfl) ?_
  refine S.q rfl rfl (Qt.dT (Qt.eq (b := 1) rfl rfl) (hpl)) ?_
  refine S.mv ?_
  refine S.qg rfl rfl rfl (Qt.move (by conv => lhs; whnf)) ?_
  refine S.qg rfl rfl rfl (Qt.index (i := 0) Tryz.underlying26 Tryz.cells114 rfl rfl (by omega) (Has.own (Has.at 1 rfl)) (by rw [pxL_len]; omega)) ?_
  refine S.qg rfl rfl rfl (Qt.fieldS Tryz.underlying114 rfl Tryz.cells112 rfl (Has.own (Has.at 1 rfl)) (by rw [pxL_len]; omega)) ?_
  refine S.qg rfl rfl rfl (Qt.load rfl (Ld.sl (v := .slice (pp.getD 0 px0).1.1 (pp.getD 0 px0).1.2.2.length (pp.getD 0 px0).1.2.1) (Has.own (Has.at 1 rfl)) Tryz.one112 (pxL_at (by omega) rfl 0 _ rfl))) ?_
  refine S.qg rfl rfl rfl (Qt.len_slice Tryz.underlying112 rfl) ?_
  refine S.qg rfl rfl rfl (Qt.dT (Qt.eq (b := 66) rfl rfl) (hx)) ?_
  refine S.q rfl rfl (Qt.pick_t rfl (by conv => lhs; whnf)) ?_
  refine S.mv ?_
  refine S.qg rfl rfl rfl (Qt.move (by conv => lhs; whnf)) ?_
  refine S.qg rfl rfl rfl (Qt.not_f rfl) ?_
  refine S.q rfl rfl (Qt.pick_t rfl (by conv => lhs; whnf)) ?_
  refine S.mv ?_
  refine S.qg rfl rfl rfl (Qt.move (by conv => lhs; whnf)) ?_
  refine S.opg rfl rfl rfl (OpV.con0 Tryz.ent27 rfl (fun w hw => blocks19_R qb 2 sm tb w (Rd.at 5 rfl w hw)) ?_)
  refine S.qg rfl rfl rfl (Qt.dT (Qt.eq (b := 2) rfl rfl) (rfl)) ?_
  refine S.q rfl rfl (Qt.pick_t rfl (by conv => lhs; whnf)) ?_
  refine S.as ?_
  refine S.nil ?_
  refine TC.ret ?_
  refine finQ.ret (RVs.tmp (by conv => lhs; whnf) RVs.nil) (Sub.nil _) ?_
  exact ⟨rfl, rfl⟩
end Go.Proofs.YtgdjcmehlhebdaaGreatDoor
