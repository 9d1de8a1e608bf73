/-
  Walks: sealed blocks and leaves as bytes. Printed by a program of ours. Walks: items and their texts. Printed by a program of ours. Walks: lists of items; the law of items. Printed by a program of ours.
-/
import Derived.Test.YtgdjcmehlhebdaaGreatDoorY9
import Derived.Test.YtgdjcmehlhebdaaGreatDoorXQ
namespace Go.Proofs.YtgdjcmehlhebdaaGreatDoor
open Go.E
set_option linter.unusedVariables false
set_option maxRecDepth 4000
theorem Tryz.cells4 : (Tryz.prog.info? 4).map (·.size) = some 1 := by kernel_rfl
theorem Tryz.one4 : oneT Tryz.prog 4 = true := by kernel_rfl
theorem Tryz.cells23 : (Tryz.prog.info? 23).map (·.size) = some 1 := by kernel_rfl
theorem Tryz.one23 : oneT Tryz.prog 23 = true := by kernel_rfl
theorem Tryz.cells59 : (Tryz.prog.info? 59).map (·.size) = some 16 := by kernel_rfl
theorem Tryz.cells89 : (Tryz.prog.info? 89).map (·.size) = some 32 := by kernel_rfl
theorem Tryz.cells91 : (Tryz.prog.info? 91).map (·.size) = some 49 := by kernel_rfl
theorem Tryz.row91 : rowT Tryz.prog 91 = true := by kernel_rfl
theorem Tryz.cells93 : (Tryz.prog.info? 93).map (·.size) = some 50 := by kernel_rfl
theorem Tryz.row93 : rowT Tryz.prog 93 = true := by kernel_rfl
theorem Tryz.cells138 : (Tryz.prog.info? 138).map (·.size) = some 50 := by kernel_rfl
theorem Tryz.row138 : rowT Tryz.prog 138 = true := by kernel_rfl
theorem Tryz.zero91 : zeroOf Tryz.prog 91 = some ([.int .u64 0] ++ (List.replicate 32 (.int .u8 0)) ++ (List.replicate 16 (.int .u8 0))) := by kernel_rfl
theorem Tryz.ent119 : Enters Tryz.prog 119 := ⟨_, Tryz.func119, by kernel_rfl, rfl⟩
theorem Tryz.ent179 : Enters Tryz.prog 179 := ⟨_, Tryz.func179, by kernel_rfl, rfl⟩
theorem Tryz.ent202 : Enters Tryz.prog 202 := ⟨_, Tryz.func202, by kernel_rfl, rfl⟩

set_option maxHeartbeats 400000 in
theorem doc54_walk (x : Sealed) (w0 : World) :
    Calls Tryz.prog 54 #[.agg (sealL x).toArray] w0 (Post w0 [] fun v L => v = .agg (sealL x).toArray ∧ L = []) := by
  refine Calls.of (L := []) (n := 4) (rs := [.cell 2 91]) Tryz.func54 rfl rfl rfl (Nat.le_of_ble_eq_true rfl) (Sat.nil _) ?_
  refine TC.seq ?_
  refine TC.region ?_
  refine S.opS rfl rfl (OpV.box (v := .agg (sealL x).toArray) rfl (fun b1 => ?_))
  refine S.opS rfl rfl (OpV.alloc Tryz.zero91 (fun b2 => ?_))
  refine S.nil ?_
  refine TC.seq ?_
  refine TC.region ?_
  refine S.q rfl rfl (Qt.load rfl (Ld.all (vs := sealL x) (Has.at 1 rfl) Tryz.row136 (by rw [sealL_length]; exact Tryz.cells136))) ?_
  refine S.opN rfl (OpV.storeV0 (v := .agg (sealL x).toArray) rfl rfl (by rw [vl_agg, sealL_length]; exact Tryz.cells91) (sealL_one _) (by rw [vl_agg, sealL_length]; rfl) ?_)
  refine S.nil ?_
  refine TC.ret ?_
  refine finQ.ret (RVs.cell rfl (Ld.all (Has.at 0 rfl) Tryz.row91 ((by rw [vl_agg, sealL_length]; exact Tryz.cells91))) RVs.nil) (Sub.nil _) ?_
  exact ⟨rfl, rfl⟩
theorem doc54_R (x : Sealed) (w0 : World) : Calls Tryz.prog 54 #[.agg (sealL x).toArray] w0 (Ret w0 (.agg (sealL x).toArray)) := Calls.ret (doc54_walk x w0)

set_option maxHeartbeats 400000 in
theorem fail202_walk (wb : Nat) (u : Value) (w0 : World) (hL : Sat w0 [Blk wb 297 [.nilIface, u]]) :
    Calls Tryz.prog 202 #[.pointer (some ⟨wb, 0, none⟩), .iface 73 (.int .i64 1)] w0 (Post w0 (fps [Blk wb 297 [.nilIface, u]]) fun v L => L = [Blk wb 297 [.iface 73 (.int .i64 1), u]]) := by
  refine Calls.of (L := [Blk wb 297 [.nilIface, u]]) (n := 13) (rs := []) Tryz.func202 rfl rfl rfl (Nat.le_of_ble_eq_true rfl) (hL) ?_
  refine TC.seq ?_
  refine TC.region ?_
  refine S.q rfl rfl (Qt.move (by conv => lhs; whnf)) ?_
  refine S.q rfl rfl (Qt.nilCheck rfl) ?_
  refine S.q rfl rfl (Qt.field Tryz.underlying295 rfl Tryz.cells51 rfl) ?_
  refine S.q rfl rfl (Qt.load rfl (Ld.one (v := .nilIface) (Has.at 0 rfl) Tryz.one51 rfl)) ?_
  refine S.q rfl rfl (Qt.eqnil_nil Tryz.underlying51 rfl) ?_
  refine S.nil ?_
  refine S.if_t rfl ?_
  refine TC.region ?_
  refine S.q rfl rfl (Qt.move (by conv => lhs; whnf)) ?_
  refine S.q rfl rfl (Qt.move (by conv => lhs; whnf)) ?_
  refine S.q rfl rfl (Qt.nilCheck rfl) ?_
  refine S.q rfl rfl (Qt.field Tryz.underlying295 rfl Tryz.cells51 rfl) ?_
  refine S.opN rfl (OpV.storeC0 rfl (by conv => lhs; whnf) Tryz.cells51 rfl rfl (Nat.le_of_ble_eq_true rfl) ?_)
  refine S.nil ?_
  refine finQ.normal RVs.nil (Sub.refl _) ?_
  exact rfl
set_option maxHeartbeats 400000 in
theorem num_walkF (wb : Nat) (A : Option Addr) (c : Nat) (bs : List UInt8) (n : Nat) (hn : 4294967296 ≤ n) (hn64 : n < 18446744073709551616) (w0 : World) (hL : Sat w0 [Blk wb 297 [.nilIface, .slice A (bs).length c], OwnA 5 1 A (bs).length c (bytesL (bs))]) :
    Calls Tryz.prog 177 #[.pointer (some ⟨wb, 0, none⟩), .int .u64 (n : Int), .int .i64 ((4 : Nat) : Int)] w0 (Post w0 (fps [Blk wb 297 [.nilIface, .slice A (bs).length c], OwnA 5 1 A (bs).length c (bytesL (bs))]) fun v L => v = .pointer (some ⟨wb, 0, none⟩) ∧ L = [Blk wb 297 [.iface 73 (.int .i64 1), .slice A (bs).length c], OwnA 5 1 A (bs).length c (bytesL (bs))]) := by
  refine Calls.of (L := [Blk wb 297 [.nilIface, .slice A (bs).length c], OwnA 5 1 A (bs).length c (bytesL (bs))]) (n := 51) (rs := [.tmp 6]) Tryz.func177 rfl rfl rfl (Nat.le_of_ble_eq_true rfl) (hL) ?_
  refine TC.seq ?_
  refine TC.region ?_
  refine S.q rfl rfl (Qt.assign (by conv => lhs; whnf)) ?_
  refine S.nil ?_
  refine TC.seq ?_
  refine TC.seq ?_
  refine TC.region ?_
  refine S.q rfl rfl (Qt.move (by conv => lhs; whnf)) ?_
  refine S.q rfl rfl (Qt.eqp_some Tryz.underlying293 rfl) ?_
  refine S.nil ?_
  refine S.if_f rfl ?_
  refine TC.skip ?_
  refine TC.seq ?_
  refine TC.seq ?_
  refine TC.region ?_
  refine S.q rfl rfl (Qt.move (by conv => lhs; whnf)) ?_
  refine S.opS rfl rfl (OpV.con0 Tryz.ent201 rfl (fun w hw => sized_T 4 (.inr (.inr (.inl rfl))) w) ?_)
  refine S.q rfl rfl (Qt.not_t rfl) ?_
  refine S.q rfl rfl (Qt.move (by conv => lhs; whnf)) ?_
  refine S.qg rfl rfl rfl (Qt.move (by conv => lhs; whnf)) ?_
  refine S.qg rfl rfl rfl (Qt.dT (Qt.lt (b := 8) rfl rfl) (by decide)) ?_
  refine S.qg rfl rfl rfl (Qt.move (by conv => lhs; whnf)) ?_
  refine S.qg rfl rfl rfl (Qt.move (by conv => lhs; whnf)) ?_
  refine S.qg rfl rfl rfl (Qt.move (by conv => lhs; whnf)) ?_
  refine S.qg rfl rfl rfl (Qt.mul (a := 8) rfl rfl (by simp only [kmax]; omega)) ?_
  refine S.qg rfl rfl rfl (Qt.shrN (s := 32) rfl rfl (by simp only [kmax]; omega)) ?_
  refine S.qg rfl rfl rfl (Qt.dT (Qt.ne (b := 0) rfl rfl) (by have : 1 ≤ n / 4294967296 := (Nat.le_div_iff_mul_le (by decide)).2 (by omega); show n / 2 ^ 32 ≠ 0; have e : (2 : Nat) ^ 32 = 4294967296 := rfl; rw [e]; omega)) ?_
  refine S.qg rfl rfl rfl (Qt.pick_t rfl (by conv => lhs; whnf)) ?_
  refine S.q rfl rfl (Qt.pick_f rfl (by conv => lhs; whnf)) ?_
  refine S.nil ?_
  refine S.if_t rfl ?_
  refine TC.seq ?_
  refine TC.region ?_
  refine S.q rfl rfl (Qt.move (by conv => lhs; whnf)) ?_
  refine S.q rfl rfl (Qt.nilCheck rfl) ?_
  refine S.q rfl rfl (Qt.field Tryz.underlying297 rfl Tryz.cells295 rfl) ?_
  refine S.q rfl rfl (Qt.makeInterface Tryz.underlying73 (fun _ h => nomatch h) (by conv => lhs; whnf)) ?_
  refine S.opS rfl rfl (OpV.con (Pre := [Blk wb 297 [.nilIface, .slice A bs.length c]]) (R := _) Tryz.ent202 rfl (List.Perm.refl _) (fun w hw => fail202_walk wb (.slice A bs.length c) w hw.sat.left) ?_)
  rintro v L' rfl
  refine S.nil ?_
  refine TC.seq ?_
  refine TC.region ?_
  refine S.q rfl rfl (Qt.move (by conv => lhs; whnf)) ?_
  refine S.q rfl rfl (Qt.assign (by conv => lhs; whnf)) ?_
  refine S.nil ?_
  refine TC.ret ?_
  refine finQ.ret (RVs.tmp (by conv => lhs; whnf) RVs.nil) (Sub.refl _) ?_
  exact ⟨rfl, rfl⟩
set_option maxHeartbeats 400000 in
theorem raw_walkU (u : Value) (wb : Nat) (A : Option Addr) (c : Nat) (bs : List UInt8) (B : Option Addr) (d : Nat) (ns : List UInt8) (hb : bs.length ≤ 70368744177664) (hn : ns.length ≤ 70368744177664) (w0 : World) (hL : Sat w0 [Blk wb 297 [u, .slice A (bs).length c], OwnA 5 1 A (bs).length c (bytesL (bs))]) (hR : Ro w0 (fps [Blk wb 297 [u, .slice A (bs).length c], OwnA 5 1 A (bs).length c (bytesL (bs))]) (SlA B (bytesL ns))) :
    Calls Tryz.prog 178 #[.pointer (some ⟨wb, 0, none⟩), .slice B ns.length d] w0 (Post w0 (fps [Blk wb 297 [u, .slice A (bs).length c], OwnA 5 1 A (bs).length c (bytesL (bs))]) fun v L => ∃ O d, v = .pointer (some ⟨wb, 0, none⟩) ∧ L = [Blk wb 297 [u, .slice O ((bs ++ ns)).length d], OwnA 5 1 O ((bs ++ ns)).length d (bytesL ((bs ++ ns)))]) := by
  refine Calls.of (L := [Blk wb 297 [u, .slice A (bs).length c], OwnA 5 1 A (bs).length c (bytesL (bs))]) (n := 17) (rs := [.tmp 4]) Tryz.func178 rfl rfl rfl (Nat.le_of_ble_eq_true rfl) (hL) ?_
  refine TC.seq ?_
  refine TC.region ?_
  refine S.q rfl rfl (Qt.assign (by conv => lhs; whnf)) ?_
  refine S.nil ?_
  refine TC.seq ?_
  refine TC.seq ?_
  refine TC.region ?_
  refine S.q rfl rfl (Qt.move (by conv => lhs; whnf)) ?_
  refine S.q rfl rfl (Qt.eqp_some Tryz.underlying293 rfl) ?_
  refine S.nil ?_
  refine S.if_f rfl ?_
  refine TC.skip ?_
  refine TC.seq ?_
  refine TC.region ?_
  refine S.q rfl rfl (Qt.move (by conv => lhs; whnf)) ?_
  refine S.q rfl rfl (Qt.move (by conv => lhs; whnf)) ?_
  refine S.q rfl rfl (Qt.nilCheck rfl) ?_
  refine S.q rfl rfl (Qt.field Tryz.underlying297 rfl Tryz.cells112 rfl) ?_
  refine S.q rfl rfl (Qt.load rfl (Ld.one (Has.at 0 rfl) Tryz.one112 (rfl))) ?_
  refine S.q rfl rfl (Qt.move (by conv => lhs; whnf)) ?_
  refine S.opS rfl rfl (OpV.app1 (bytes := 1) (news := bytesL ns) Tryz.underlying112 Tryz.elem5 rfl rfl (Has.ro hR) (by rw [bytesL_length]; omega) (bytesL_one _) (by simp only [maxLen]; omega) (by omega) (fun O2 d2 => ?_))
  refine S.q rfl rfl (Qt.nilCheck rfl) ?_
  refine S.q rfl rfl (Qt.field Tryz.underlying297 rfl Tryz.cells112 rfl) ?_
  refine S.opN rfl (OpV.storeC0 rfl (by conv => lhs; whnf) Tryz.cells112 rfl rfl (Nat.le_of_ble_eq_true rfl) ?_)
  refine S.nil ?_
  refine TC.seq ?_
  refine TC.region ?_
  refine S.q rfl rfl (Qt.move (by conv => lhs; whnf)) ?_
  refine S.q rfl rfl (Qt.assign (by conv => lhs; whnf)) ?_
  refine S.nil ?_
  refine TC.ret ?_
  refine finQ.ret (RVs.tmp (by conv => lhs; whnf) RVs.nil) (Sub.refl _) ?_
  exact ⟨O2, d2, rfl, by rw [List.length_append, bytesL_append]; rfl⟩
set_option maxHeartbeats 400000 in
theorem done_walkE (wb : Nat) (u : Value) (w0 : World) (hW : Ro w0 [] (Blk wb 297 [.iface 73 (.int .i64 1), u])) :
    Calls Tryz.prog 180 #[.pointer (some ⟨wb, 0, none⟩)] w0 (Post w0 [] fun v L => v = .tuple #[.slice none 0 0, .iface 73 (.int .i64 1)] ∧ L = []) := by
  refine Calls.of (L := []) (n := 25) (rs := [.tmp 2, .tmp 3]) Tryz.func180 rfl rfl rfl (Nat.le_of_ble_eq_true rfl) (Sat.nil _) ?_
  refine TC.seq ?_
  refine TC.region ?_
  refine S.q rfl rfl (Qt.assign (by conv => lhs; whnf)) ?_
  refine S.q rfl rfl (Qt.assign (by conv => lhs; whnf)) ?_
  refine S.nil ?_
  refine TC.seq ?_
  refine TC.block ?_
  refine TC.seq ?_
  refine TC.region ?_
  refine S.q rfl rfl (Qt.move (by conv => lhs; whnf)) ?_
  refine S.q rfl rfl (Qt.eqp_some Tryz.underlying293 rfl) ?_
  refine S.q rfl rfl (Qt.assign (by conv => lhs; whnf)) ?_
  refine S.nil ?_
  refine S.if_f rfl ?_
  refine TC.seq ?_
  refine TC.region ?_
  refine S.q rfl rfl (Qt.move (by conv => lhs; whnf)) ?_
  refine S.q rfl rfl (Qt.nilCheck rfl) ?_
  refine S.q rfl rfl (Qt.field Tryz.underlying297 rfl Tryz.cells295 rfl) ?_
  refine S.q rfl rfl (Qt.field Tryz.underlying295 rfl Tryz.cells51 rfl) ?_
  refine S.q rfl rfl (Qt.load rfl (Ld.one (Has.ro hW) Tryz.one51 rfl)) ?_
  refine S.q rfl rfl (Qt.nenil_iface Tryz.underlying51 rfl) ?_
  refine S.q rfl rfl (Qt.assign (by conv => lhs; whnf)) ?_
  refine S.nil ?_
  refine S.if_t rfl ?_
  refine TC.seq ?_
  refine S.draw ([], []) Tryz.mixed (Sub.refl _) ?_
  refine D.qX (k := 0) rfl (by kernel_rfl) (by kernel_rfl) (by kernel_rfl) rfl rfl (Qt.move (by conv => lhs; whnf)) ?_
  refine D.qX (k := 1) rfl (by kernel_rfl) (by kernel_rfl) (by kernel_rfl) rfl rfl (Qt.nilCheck rfl) ?_
  refine D.qX (k := 2) rfl (by kernel_rfl) (by kernel_rfl) (by kernel_rfl) rfl rfl (Qt.field Tryz.underlying297 rfl Tryz.cells295 rfl) ?_
  refine D.qX (k := 3) rfl (by kernel_rfl) (by kernel_rfl) (by kernel_rfl) rfl rfl (Qt.field Tryz.underlying295 rfl Tryz.cells51 rfl) ?_
  refine D.qX (k := 4) rfl (by kernel_rfl) (by kernel_rfl) (by kernel_rfl) rfl rfl (Qt.load rfl (Ld.one (Has.ro hW) Tryz.one51 rfl)) ?_
  refine D.qX (k := 5) rfl (by kernel_rfl) (by kernel_rfl) (by kernel_rfl) rfl rfl (Qt.assign (by conv => lhs; whnf)) ?_
  refine D.qX (k := 6) rfl (by kernel_rfl) (by kernel_rfl) (by kernel_rfl) rfl rfl (Qt.assign (by conv => lhs; whnf)) ?_
  refine D.done (Sub.refl _) (by kernel_rfl) ?_
  refine TC.ret ?_
  refine finQ.ret (RVs.tmp (by conv => lhs; whnf) (RVs.tmp (by conv => lhs; whnf) RVs.nil)) (Sub.nil _) ?_
  exact ⟨rfl, rfl⟩
set_option maxHeartbeats 800000 in
theorem put179_walk (x : Sealed) (w0 : World) :
    Calls Tryz.prog 179 #[.agg (sealL x).toArray] w0 (Post w0 [] fun v L => ∃ O d, v = .slice O (putS x).length d ∧ L = [OwnA 5 1 O (putS x).length d (bytesL (putS x))]) := by
  refine Calls.of (L := []) (n := 25) (rs := [.tmp 2]) Tryz.func179 rfl rfl rfl (Nat.le_of_ble_eq_true rfl) (Sat.nil _) ?_
  refine TC.ownNil 5 1 ?_
  refine TC.seq ?_
  refine TC.region ?_
  refine S.opS rfl rfl (OpV.box (v := .agg (sealL x).toArray) rfl (fun b1 => ?_))
  refine S.q rfl rfl (Qt.assign (by conv => lhs; whnf)) ?_
  refine S.nil ?_
  refine TC.seq ?_
  refine TC.region ?_
  refine S.q rfl rfl (Qt.build (v := .agg #[.nilIface, .slice none 0 0]) rfl (fun _ => by kernel_rfl)) ?_
  refine S.opS rfl rfl (OpV.box (v := .agg #[.nilIface, .slice none 0 0]) rfl (fun b7 => ?_))
  refine S.q rfl rfl (Qt.assign (by conv => lhs; whnf)) ?_
  refine S.nil ?_
  refine TC.seq ?_
  refine S.draw ([3, 6, 9], [10]) Tryz.mixed (Sub.drop _ (Sub.keep _ (Sub.drop _ (Sub.nil [])))) ?_
  refine D.qX (k := 0) rfl (by kernel_rfl) (by kernel_rfl) (by kernel_rfl) rfl rfl (Qt.move (by conv => lhs; whnf)) ?_
  refine D.qX (k := 1) rfl (by kernel_rfl) (by kernel_rfl) (by kernel_rfl) rfl rfl (Qt.field Tryz.underlying136 rfl Tryz.cells40 rfl) ?_
  refine D.qX (k := 2) rfl (by kernel_rfl) (by kernel_rfl) (by kernel_rfl) rfl rfl (Qt.load rfl (Ld.one (v := .int .u64 (x.ep : Int)) (Has.at 1 rfl) Tryz.one40 rfl)) ?_
  refine D.q (k := 4) rfl (by kernel_rfl) (by kernel_rfl) rfl rfl (Qt.field Tryz.underlying136 rfl Tryz.cells89 rfl) ?_
  refine D.q (k := 5) rfl (by kernel_rfl) (by kernel_rfl) rfl rfl (Qt.as (v' := .slice (some ⟨b1, 1, none⟩) x.data.1.length 32) (Qt.sliceB_all Tryz.underlying89 Tryz.cells5 rfl) (by rw [x.data.2]; rfl)) ?_
  refine D.q (k := 7) rfl (by kernel_rfl) (by kernel_rfl) rfl rfl (Qt.field Tryz.underlying136 rfl Tryz.cells59 rfl) ?_
  refine D.q (k := 8) rfl (by kernel_rfl) (by kernel_rfl) rfl rfl (Qt.as (v' := .slice (some ⟨b1, 33, none⟩) x.tag.1.length 16) (Qt.sliceB_all Tryz.underlying59 Tryz.cells5 rfl) (by rw [x.tag.2]; rfl)) ?_
  refine D.opS (k := 3) (Sub.drop _ (Sub.keep _ (Sub.drop _ (Sub.nil [])))) rfl (by kernel_rfl) (by kernel_rfl) rfl rfl (OpV.con (Pre := [Blk b7 297 [.nilIface, .slice none (([] : List UInt8)).length 0], OwnA 5 1 none (([] : List UInt8)).length 0 (bytesL (([] : List UInt8)))]) (R := _) Tryz.ent177 rfl (List.Perm.cons _ (List.perm_middle (l₁ := [_]))) (fun w hw => num_walk b7 none 0 [] x.ep 8 (.inr (.inr (.inr rfl))) (show _ < 2 ^ 64 from x.lt) x.lt (by decide) w hw.sat.left) ?_)
  rintro v L' ⟨O1, d1, rfl, rfl⟩
  refine ⟨Sub.drop _ (Sub.drop _ (Sub.keep _ (Sub.nil []))), ?_⟩
  refine D.opS (k := 6) (Sub.drop _ (Sub.drop _ (Sub.keep _ (Sub.nil [])))) rfl (by kernel_rfl) (by kernel_rfl) rfl rfl (OpV.con (Pre := [Blk b7 297 [.nilIface, .slice O1 ((([] : List UInt8) ++ numB x.ep 8)).length d1], OwnA 5 1 O1 ((([] : List UInt8) ++ numB x.ep 8)).length d1 (bytesL ((([] : List UInt8) ++ numB x.ep 8)))]) (R := _) Tryz.ent178 rfl (List.Perm.refl _) (fun w hw => raw_walk b7 O1 d1 _ (some ⟨b1, 1, none⟩) 32 x.data.1 (by simp [numB_length, x.data.2, x.tag.2]) (by rw [x.data.2]; decide) w hw.sat.left (Ro.sealD (Ro.of_rest (A := Blk b1 136 (sealL x)) hw (List.mem_cons_self ..)))) ?_)
  rintro v L' ⟨O2, d2, rfl, rfl⟩
  refine ⟨Sub.drop _ (Sub.drop _ (Sub.keep _ (Sub.nil []))), ?_⟩
  refine D.opS (k := 9) (Sub.drop _ (Sub.drop _ (Sub.keep _ (Sub.nil [])))) rfl (by kernel_rfl) (by kernel_rfl) rfl rfl (OpV.con (Pre := [Blk b7 297 [.nilIface, .slice O2 (((([] : List UInt8) ++ numB x.ep 8) ++ x.data.1)).length d2], OwnA 5 1 O2 (((([] : List UInt8) ++ numB x.ep 8) ++ x.data.1)).length d2 (bytesL (((([] : List UInt8) ++ numB x.ep 8) ++ x.data.1)))]) (R := _) Tryz.ent178 rfl (List.Perm.refl _) (fun w hw => raw_walk b7 O2 d2 _ (some ⟨b1, 33, none⟩) 16 x.tag.1 (by simp [numB_length, x.data.2, x.tag.2]) (by rw [x.tag.2]; decide) w hw.sat.left (Ro.sealT (Ro.of_rest (A := Blk b1 136 (sealL x)) hw (List.mem_cons_self ..)))) ?_)
  rintro v L' ⟨O3, d3, rfl, rfl⟩
  refine ⟨Sub.drop _ (Sub.drop _ (Sub.keep _ (Sub.nil []))), ?_⟩
  refine D.nS (k := 10) (Sub.drop _ (Sub.drop _ (Sub.keep _ (Sub.nil [])))) rfl (by kernel_rfl) (by kernel_rfl) rfl rfl (OpV.con (Pre := []) (R := _) Tryz.ent180 rfl (List.Perm.refl _) (fun w hw => done_walk b7 O3 d3 _ (by simp [numB_length, x.data.2, x.tag.2]) w (Rd.at 0 rfl w hw) (Rd.own (Rd.at 1 rfl) w hw)) ?_)
  rintro v L' ⟨O4, d4, rfl, rfl⟩
  refine ⟨Sub.drop _ (Sub.keep _ (Sub.keep _ (Sub.keep _ (Sub.nil [])))), ?_⟩
  refine D.qX (k := 11) rfl (by kernel_rfl) (by kernel_rfl) (by kernel_rfl) rfl rfl (Qt.move (by conv => lhs; whnf)) ?_
  refine D.qX (k := 12) rfl (by kernel_rfl) (by kernel_rfl) (by kernel_rfl) rfl rfl (Qt.extract rfl rfl) ?_
  refine D.qX (k := 13) rfl (by kernel_rfl) (by kernel_rfl) (by kernel_rfl) rfl rfl (Qt.extract rfl rfl) ?_
  refine D.qX (k := 14) rfl (by kernel_rfl) (by kernel_rfl) (by kernel_rfl) rfl rfl (Qt.assign (by conv => lhs; whnf)) ?_
  refine D.qX (k := 15) rfl (by kernel_rfl) (by kernel_rfl) (by kernel_rfl) rfl rfl (Qt.assign (by conv => lhs; whnf)) ?_
  refine D.done (Sub.drop _ (Sub.drop _ (Sub.drop _ (Sub.keep _ (Sub.nil []))))) (by kernel_rfl) ?_
  refine TC.seq ?_
  refine TC.seq ?_
  refine TC.region ?_
  refine S.q rfl rfl (Qt.move (by conv => lhs; whnf)) ?_
  refine S.q rfl rfl (Qt.nenil_nil Tryz.underlying51 rfl) ?_
  refine S.nil ?_
  refine S.if_f rfl ?_
  refine TC.skip ?_
  refine TC.seq ?_
  refine TC.region ?_
  refine S.q rfl rfl (Qt.move (by conv => lhs; whnf)) ?_
  refine S.q rfl rfl (Qt.assign (by conv => lhs; whnf)) ?_
  refine S.nil ?_
  refine TC.ret ?_
  refine finQ.ret (RVs.tmp (by conv => lhs; whnf) RVs.nil) (Sub.keep _ (Sub.nil _)) ?_
  have e : (((([] : List UInt8) ++ numB x.ep 8) ++ x.data.1) ++ x.tag.1) = putS x := by rw [List.nil_append]; rfl
  rw [e]
  exact ⟨O4, d4, rfl, rfl⟩
set_option maxHeartbeats 800000 in
theorem leaf119_walk (i : Nat) (hi : i < 4294967296) (x : Sealed) (w0 : World) :
    Calls Tryz.prog 119 #[.int .u64 (i : Int), .agg (sealL x).toArray] w0 (Post w0 [] fun v L => ∃ O d, v = .tuple #[.slice O (leafX i x).length d, .nilIface] ∧ L = [OwnA 5 1 O (leafX i x).length d (bytesL (leafX i x))]) := by
  refine Calls.of (L := []) (n := 19) (rs := [.tmp 4, .tmp 5]) Tryz.func119 rfl rfl rfl (Nat.le_of_ble_eq_true rfl) (Sat.nil _) ?_
  refine TC.ownNil 5 1 ?_
  refine TC.seq ?_
  refine TC.region ?_
  refine S.opS rfl rfl (OpV.box (v := .agg (sealL x).toArray) rfl (fun b3 => ?_))
  refine S.q rfl rfl (Qt.assign (by conv => lhs; whnf)) ?_
  refine S.q rfl rfl (Qt.assign (by conv => lhs; whnf)) ?_
  refine S.nil ?_
  refine TC.seq ?_
  refine TC.region ?_
  refine S.q rfl rfl (Qt.build (v := .agg #[.nilIface, .slice none 0 0]) rfl (fun _ => by kernel_rfl)) ?_
  refine S.opS rfl rfl (OpV.box (v := .agg #[.nilIface, .slice none 0 0]) rfl (fun b8 => ?_))
  refine S.q rfl rfl (Qt.assign (by conv => lhs; whnf)) ?_
  refine S.nil ?_
  refine TC.seq ?_
  refine S.draw ([1, 3, 6], [5, 7]) Tryz.mixed (Sub.drop _ (Sub.keep _ (Sub.drop _ (Sub.nil [])))) ?_
  refine D.qX (k := 0) rfl (by kernel_rfl) (by kernel_rfl) (by kernel_rfl) rfl rfl (Qt.move (by conv => lhs; whnf)) ?_
  refine D.q (k := 2) rfl (by kernel_rfl) (by kernel_rfl) rfl rfl (Qt.move (by conv => lhs; whnf)) ?_
  refine D.q (k := 4) rfl (by kernel_rfl) (by kernel_rfl) rfl rfl (Qt.load rfl (Ld.all (vs := sealL x) (Has.at 0 rfl) Tryz.row136 (by rw [sealL_length]; exact Tryz.cells136))) ?_
  refine D.opS (k := 1) (Sub.drop _ (Sub.keep _ (Sub.drop _ (Sub.nil [])))) rfl (by kernel_rfl) (by kernel_rfl) rfl rfl (OpV.con (Pre := [Blk b8 297 [.nilIface, .slice none (([] : List UInt8)).length 0], OwnA 5 1 none (([] : List UInt8)).length 0 (bytesL (([] : List UInt8)))]) (R := _) Tryz.ent177 rfl (List.Perm.cons _ (List.perm_middle (l₁ := [_]))) (fun w hw => num_walk b8 none 0 [] 1 1 (.inl rfl) (by decide) (by decide) (by decide) w hw.sat.left) ?_)
  rintro v L' ⟨O1, d1, rfl, rfl⟩
  refine ⟨Sub.drop _ (Sub.drop _ (Sub.keep _ (Sub.nil []))), ?_⟩
  refine D.opS (k := 3) (Sub.drop _ (Sub.drop _ (Sub.keep _ (Sub.nil [])))) rfl (by kernel_rfl) (by kernel_rfl) rfl rfl (OpV.con (Pre := [Blk b8 297 [.nilIface, .slice O1 ((([] : List UInt8) ++ numB 1 1)).length d1], OwnA 5 1 O1 ((([] : List UInt8) ++ numB 1 1)).length d1 (bytesL ((([] : List UInt8) ++ numB 1 1)))]) (R := _) Tryz.ent177 rfl (List.Perm.refl _) (fun w hw => num_walk b8 O1 d1 _ i 4 (.inr (.inr (.inl rfl))) (show i < 2 ^ 32 from hi) (by omega) (by simp [numB_length, putS_length]) w hw.sat.left) ?_)
  rintro v L' ⟨O2, d2, rfl, rfl⟩
  refine ⟨Sub.drop _ (Sub.drop _ (Sub.keep _ (Sub.nil []))), ?_⟩
  refine D.nS (k := 5) (Sub.drop _ (Sub.drop _ (Sub.keep _ (Sub.nil [])))) rfl (by kernel_rfl) (by kernel_rfl) rfl rfl (OpV.con (Pre := []) (R := _) Tryz.ent179 rfl (List.Perm.refl _) (fun w hw => put179_walk x w) ?_)
  rintro v L' ⟨Op, dp, rfl, rfl⟩
  refine ⟨Sub.drop _ (Sub.keep _ (Sub.keep _ (Sub.keep _ (Sub.nil [])))), ?_⟩
  refine D.opS (k := 6) (Sub.drop _ (Sub.drop _ (Sub.drop _ (Sub.keep _ (Sub.nil []))))) rfl (by kernel_rfl) (by kernel_rfl) rfl rfl (OpV.con (Pre := [Blk b8 297 [.nilIface, .slice O2 (((([] : List UInt8) ++ numB 1 1) ++ numB i 4)).length d2], OwnA 5 1 O2 (((([] : List UInt8) ++ numB 1 1) ++ numB i 4)).length d2 (bytesL (((([] : List UInt8) ++ numB 1 1) ++ numB i 4)))]) (R := _) Tryz.ent178 rfl ((List.perm_middle (l₁ := [_])).trans (List.Perm.cons _ (List.perm_middle (l₁ := [_])))) (fun w hw => raw_walk b8 O2 d2 _ Op dp (putS x) (by simp [numB_length, putS_length]) (by rw [putS_length]; decide) w hw.sat.left (Ro.own (Ro.of_rest (A := OwnA 5 1 Op (putS x).length dp (bytesL (putS x))) hw (List.mem_cons_self ..)))) ?_)
  rintro v L' ⟨O3, d3, rfl, rfl⟩
  refine ⟨Sub.drop _ (Sub.drop _ (Sub.drop _ (Sub.keep _ (Sub.nil [])))), ?_⟩
  refine D.nS (k := 7) (Sub.drop _ (Sub.drop _ (Sub.drop _ (Sub.keep _ (Sub.nil []))))) rfl (by kernel_rfl) (by kernel_rfl) rfl rfl (OpV.con (Pre := []) (R := _) Tryz.ent180 rfl (List.Perm.refl _) (fun w hw => done_walk b8 O3 d3 _ (by simp [numB_length, putS_length]) w (Rd.at 0 rfl w hw) (Rd.own (Rd.at 1 rfl) w hw)) ?_)
  rintro v L' ⟨O4, d4, rfl, rfl⟩
  refine ⟨Sub.drop _ (Sub.keep _ (Sub.keep _ (Sub.keep _ (Sub.keep _ (Sub.nil []))))), ?_⟩
  refine D.qX (k := 8) rfl (by kernel_rfl) (by kernel_rfl) (by kernel_rfl) rfl rfl (Qt.extract rfl rfl) ?_
  refine D.qX (k := 9) rfl (by kernel_rfl) (by kernel_rfl) (by kernel_rfl) rfl rfl (Qt.extract rfl rfl) ?_
  refine D.qX (k := 10) rfl (by kernel_rfl) (by kernel_rfl) (by kernel_rfl) rfl rfl (Qt.assign (by conv => lhs; whnf)) ?_
  refine D.qX (k := 11) rfl (by kernel_rfl) (by kernel_rfl) (by kernel_rfl) rfl rfl (Qt.assign (by conv => lhs; whnf)) ?_
  refine D.done (Sub.drop _ (Sub.drop _ (Sub.drop _ (Sub.drop _ (Sub.keep _ (Sub.nil [])))))) (by kernel_rfl) ?_
  refine TC.ret ?_
  refine finQ.ret (RVs.tmp (by conv => lhs; whnf) (RVs.tmp (by conv => lhs; whnf) RVs.nil)) (Sub.keep _ (Sub.drop _ (Sub.drop _ (Sub.drop _ (Sub.drop _ (Sub.nil [])))))) ?_
  have e : (((([] : List UInt8) ++ numB 1 1) ++ numB i 4) ++ putS x) = leafX i x := by rw [List.nil_append]; rfl
  rw [e]
  exact ⟨O4, d4, rfl, rfl⟩
set_option maxHeartbeats 800000 in
theorem leaf119_walkF (i : Nat) (hi : 4294967296 ≤ i) (hi64 : i < 18446744073709551616) (x : Sealed) (w0 : World) :
    Calls Tryz.prog 119 #[.int .u64 (i : Int), .agg (sealL x).toArray] w0 (Post w0 [] fun v L => v = .tuple #[.slice none 0 0, .iface 73 (.int .i64 1)] ∧ L = []) := by
  refine Calls.of (L := []) (n := 19) (rs := [.tmp 4, .tmp 5]) Tryz.func119 rfl rfl rfl (Nat.le_of_ble_eq_true rfl) (Sat.nil _) ?_
  refine TC.ownNil 5 1 ?_
  refine TC.seq ?_
  refine TC.region ?_
  refine S.opS rfl rfl (OpV.box (v := .agg (sealL x).toArray) rfl (fun b3 => ?_))
  refine S.q rfl rfl (Qt.assign (by conv => lhs; whnf)) ?_
  refine S.q rfl rfl (Qt.assign (by conv => lhs; whnf)) ?_
  refine S.nil ?_
  refine TC.seq ?_
  refine TC.region ?_
  refine S.q rfl rfl (Qt.build (v := .agg #[.nilIface, .slice none 0 0]) rfl (fun _ => by kernel_rfl)) ?_
  refine S.opS rfl rfl (OpV.box (v := .agg #[.nilIface, .slice none 0 0]) rfl (fun b8 => ?_))
  refine S.q rfl rfl (Qt.assign (by conv => lhs; whnf)) ?_
  refine S.nil ?_
  refine TC.seq ?_
  refine S.draw ([1, 3, 6], [5]) Tryz.mixed (Sub.drop _ (Sub.keep _ (Sub.drop _ (Sub.nil [])))) ?_
  refine D.qX (k := 0) rfl (by kernel_rfl) (by kernel_rfl) (by kernel_rfl) rfl rfl (Qt.move (by conv => lhs; whnf)) ?_
  refine D.q (k := 2) rfl (by kernel_rfl) (by kernel_rfl) rfl rfl (Qt.move (by conv => lhs; whnf)) ?_
  refine D.q (k := 4) rfl (by kernel_rfl) (by kernel_rfl) rfl rfl (Qt.load rfl (Ld.all (vs := sealL x) (Has.at 0 rfl) Tryz.row136 (by rw [sealL_length]; exact Tryz.cells136))) ?_
  refine D.opS (k := 1) (Sub.drop _ (Sub.keep _ (Sub.drop _ (Sub.nil [])))) rfl (by kernel_rfl) (by kernel_rfl) rfl rfl (OpV.con (Pre := [Blk b8 297 [.nilIface, .slice none (([] : List UInt8)).length 0], OwnA 5 1 none (([] : List UInt8)).length 0 (bytesL (([] : List UInt8)))]) (R := _) Tryz.ent177 rfl (List.Perm.cons _ (List.perm_middle (l₁ := [_]))) (fun w hw => num_walk b8 none 0 [] 1 1 (.inl rfl) (by decide) (by decide) (by decide) w hw.sat.left) ?_)
  rintro v L' ⟨O1, d1, rfl, rfl⟩
  refine ⟨Sub.drop _ (Sub.drop _ (Sub.keep _ (Sub.nil []))), ?_⟩
  refine D.opS (k := 3) (Sub.drop _ (Sub.drop _ (Sub.keep _ (Sub.nil [])))) rfl (by kernel_rfl) (by kernel_rfl) rfl rfl (OpV.con (Pre := [Blk b8 297 [.nilIface, .slice O1 ((([] : List UInt8) ++ numB 1 1)).length d1], OwnA 5 1 O1 ((([] : List UInt8) ++ numB 1 1)).length d1 (bytesL ((([] : List UInt8) ++ numB 1 1)))]) (R := _) Tryz.ent177 rfl (List.Perm.refl _) (fun w hw => num_walkF b8 O1 d1 _ i hi hi64 w hw.sat.left) ?_)
  rintro v L' ⟨rfl, rfl⟩
  refine ⟨Sub.drop _ (Sub.drop _ (Sub.keep _ (Sub.nil []))), ?_⟩
  refine D.nS (k := 5) (Sub.drop _ (Sub.drop _ (Sub.keep _ (Sub.nil [])))) rfl (by kernel_rfl) (by kernel_rfl) rfl rfl (OpV.con (Pre := []) (R := _) Tryz.ent179 rfl (List.Perm.refl _) (fun w hw => put179_walk x w) ?_)
  rintro v L' ⟨Op, dp, rfl, rfl⟩
  refine ⟨Sub.drop _ (Sub.keep _ (Sub.keep _ (Sub.keep _ (Sub.nil [])))), ?_⟩
  refine D.opS (k := 6) (Sub.drop _ (Sub.drop _ (Sub.drop _ (Sub.keep _ (Sub.nil []))))) rfl (by kernel_rfl) (by kernel_rfl) rfl rfl (OpV.con (Pre := [Blk b8 297 [.iface 73 (.int .i64 1), .slice O1 ((([] : List UInt8) ++ numB 1 1)).length d1], OwnA 5 1 O1 ((([] : List UInt8) ++ numB 1 1)).length d1 (bytesL ((([] : List UInt8) ++ numB 1 1)))]) (R := _) Tryz.ent178 rfl ((List.perm_middle (l₁ := [_])).trans (List.Perm.cons _ (List.perm_middle (l₁ := [_])))) (fun w hw => raw_walkU (.iface 73 (.int .i64 1)) b8 O1 d1 _ Op dp (putS x) (by simp [numB_length, putS_length]) (by rw [putS_length]; decide) w hw.sat.left (Ro.own (Ro.of_rest (A := OwnA 5 1 Op (putS x).length dp (bytesL (putS x))) hw (List.mem_cons_self ..)))) ?_)
  rintro v L' ⟨O3, d3, rfl, rfl⟩
  refine ⟨Sub.drop _ (Sub.drop _ (Sub.drop _ (Sub.keep _ (Sub.nil [])))), ?_⟩
  refine D.cX (k := 7) rfl (by kernel_rfl) (by kernel_rfl) (by kernel_rfl) rfl rfl (CalU.con0 Tryz.ent180 rfl (fun w hw => Calls.ret (done_walkE b8 _ w (Rd.at 0 rfl w hw)))) ?_
  refine D.qX (k := 8) rfl (by kernel_rfl) (by kernel_rfl) (by kernel_rfl) rfl rfl (Qt.extract rfl rfl) ?_
  refine D.qX (k := 9) rfl (by kernel_rfl) (by kernel_rfl) (by kernel_rfl) rfl rfl (Qt.extract rfl rfl) ?_
  refine D.qX (k := 10) rfl (by kernel_rfl) (by kernel_rfl) (by kernel_rfl) rfl rfl (Qt.assign (by conv => lhs; whnf)) ?_
  refine D.qX (k := 11) rfl (by kernel_rfl) (by kernel_rfl) (by kernel_rfl) rfl rfl (Qt.assign (by conv => lhs; whnf)) ?_
  refine D.done (Sub.drop _ (Sub.drop _ (Sub.drop _ (Sub.keep _ (Sub.nil []))))) (by kernel_rfl) ?_
  refine TC.ret ?_
  refine finQ.ret (RVs.tmp (by conv => lhs; whnf) (RVs.tmp (by conv => lhs; whnf) RVs.nil)) (Sub.nil _) ?_
  exact ⟨rfl, rfl⟩
set_option maxHeartbeats 400000 in
theorem hashed_walkE (w0 : World) :
    Calls Tryz.prog 118 #[.slice none 0 0, .iface 73 (.int .i64 1)] w0 (Post w0 [] fun v L => v = .tuple #[hv zeroH, .iface 73 (.int .i64 1)] ∧ L = []) := by
  refine Calls.of (L := []) (n := 12) (rs := [.cell 4 49, .tmp 5]) Tryz.func118 rfl rfl rfl (Nat.le_of_ble_eq_true rfl) (Sat.nil _) ?_
  refine TC.seq ?_
  refine TC.region ?_
  refine S.opS rfl rfl (OpV.alloc Tryz.zero49 (fun b4 => ?_))
  refine S.q rfl rfl (Qt.assign (by conv => lhs; whnf)) ?_
  refine S.nil ?_
  refine TC.seq ?_
  refine TC.seq ?_
  refine TC.region ?_
  refine S.q rfl rfl (Qt.move (by conv => lhs; whnf)) ?_
  refine S.q rfl rfl (Qt.nenil_iface Tryz.underlying51 rfl) ?_
  refine S.nil ?_
  refine S.if_t rfl ?_
  refine TC.seq ?_
  refine TC.region ?_
  refine S.q rfl rfl (Qt.build (v := hv zeroH) rfl (fun _ => by kernel_rfl)) ?_
  refine S.q rfl rfl (Qt.move (by conv => lhs; whnf)) ?_
  refine S.opN rfl (OpV.storeV0 (v := hv (zeroH)) rfl rfl (hv_size Tryz.cells49) (hv_all _) (hv_len _) ?_)
  refine S.q rfl rfl (Qt.assign (by conv => lhs; whnf)) ?_
  refine S.nil ?_
  refine TC.ret ?_
  refine finQ.ret (RVs.cell rfl (Ld.all (Has.at 0 rfl) Tryz.row49 (hv_size Tryz.cells49)) (RVs.tmp (by conv => lhs; whnf) RVs.nil)) (Sub.nil _) ?_
  exact ⟨rfl, rfl⟩
set_option maxHeartbeats 400000 in
theorem leaf56_walk (i : Nat) (hi : i < 4294967296) (x : Sealed) (w0 : World) (hT : Tabs 3 1 w0 []) :
    Calls Tryz.prog 56 #[.int .u64 (i : Int), .agg (sealL x).toArray] w0 (Post w0 [] fun v L => v = .tuple #[hv (shaH (leafX i x)), .nilIface] ∧ L = []) := by
  refine Calls.of (L := []) (n := 14) (rs := [.cell 4 49, .tmp 5]) Tryz.func56 rfl rfl rfl (Nat.le_of_ble_eq_true rfl) (Sat.nil _) ?_
  refine TC.seq ?_
  refine TC.region ?_
  refine S.opS rfl rfl (OpV.box (v := .agg (sealL x).toArray) rfl (fun b3 => ?_))
  refine S.opS rfl rfl (OpV.alloc Tryz.zero49 (fun b4 => ?_))
  refine S.q rfl rfl (Qt.assign (by conv => lhs; whnf)) ?_
  refine S.nil ?_
  refine TC.seq ?_
  refine TC.region ?_
  refine S.q rfl rfl (Qt.move (by conv => lhs; whnf)) ?_
  refine S.q rfl rfl (Qt.load rfl (Ld.all (vs := sealL x) (Has.at 1 rfl) Tryz.row136 (by rw [sealL_length]; exact Tryz.cells136))) ?_
  refine S.opS rfl rfl (OpV.con (Pre := []) (R := _) Tryz.ent119 rfl (List.Perm.refl _) (fun w hw => leaf119_walk i hi x w) ?_)
  rintro v L' ⟨O, d, rfl, rfl⟩
  refine S.q rfl rfl (Qt.extract rfl rfl) ?_
  refine S.q rfl rfl (Qt.extract rfl rfl) ?_
  refine S.opS rfl rfl (OpV.con0 Tryz.ent118 rfl (fun w hw => Calls.ret (hashed_walk O d (leafX i x) w (Rd.own (Rd.at 0 rfl) w hw) (by rw [leafX_length]; decide) (hT.at hw))) ?_)
  refine S.q rfl rfl (Qt.extract rfl rfl) ?_
  refine S.q rfl rfl (Qt.extract rfl rfl) ?_
  refine S.opN rfl (OpV.storeV1 (v := hv (_)) rfl rfl (hv_size Tryz.cells49) (hv_all _) (hv_len _) ?_)
  refine S.q rfl rfl (Qt.assign (by conv => lhs; whnf)) ?_
  refine S.nil ?_
  refine TC.ret ?_
  refine finQ.ret (RVs.cell rfl (Ld.all (Has.at 1 rfl) Tryz.row49 (hv_size Tryz.cells49)) (RVs.tmp (by conv => lhs; whnf) RVs.nil)) (Sub.nil _) ?_
  exact ⟨rfl, rfl⟩
set_option maxHeartbeats 400000 in
theorem leaf56_walkF (i : Nat) (hi : 4294967296 ≤ i) (hi64 : i < 18446744073709551616) (x : Sealed) (w0 : World) :
    Calls Tryz.prog 56 #[.int .u64 (i : Int), .agg (sealL x).toArray] w0 (Post w0 [] fun v L => v = .tuple #[hv zeroH, .iface 73 (.int .i64 1)] ∧ L = []) := by
  refine Calls.of (L := []) (n := 14) (rs := [.cell 4 49, .tmp 5]) Tryz.func56 rfl rfl rfl (Nat.le_of_ble_eq_true rfl) (Sat.nil _) ?_
  refine TC.seq ?_
  refine TC.region ?_
  refine S.opS rfl rfl (OpV.box (v := .agg (sealL x).toArray) rfl (fun b3 => ?_))
  refine S.opS rfl rfl (OpV.alloc Tryz.zero49 (fun b4 => ?_))
  refine S.q rfl rfl (Qt.assign (by conv => lhs; whnf)) ?_
  refine S.nil ?_
  refine TC.seq ?_
  refine TC.region ?_
  refine S.q rfl rfl (Qt.move (by conv => lhs; whnf)) ?_
  refine S.q rfl rfl (Qt.load rfl (Ld.all (vs := sealL x) (Has.at 1 rfl) Tryz.row136 (by rw [sealL_length]; exact Tryz.cells136))) ?_
  refine S.opS rfl rfl (OpV.con0 Tryz.ent119 rfl (fun w hw => Calls.ret (leaf119_walkF i hi hi64 x w)) ?_)
  refine S.q rfl rfl (Qt.extract rfl rfl) ?_
  refine S.q rfl rfl (Qt.extract rfl rfl) ?_
  refine S.opS rfl rfl (OpV.con0 Tryz.ent118 rfl (fun w hw => Calls.ret (hashed_walkE w)) ?_)
  refine S.q rfl rfl (Qt.extract rfl rfl) ?_
  refine S.q rfl rfl (Qt.extract rfl rfl) ?_
  refine S.opN rfl (OpV.storeV0 (v := hv (_)) rfl rfl (hv_size Tryz.cells49) (hv_all _) (hv_len _) ?_)
  refine S.q rfl rfl (Qt.assign (by conv => lhs; whnf)) ?_
  refine S.nil ?_
  refine TC.ret ?_
  refine finQ.ret (RVs.cell rfl (Ld.all (Has.at 0 rfl) Tryz.row49 (hv_size Tryz.cells49)) (RVs.tmp (by conv => lhs; whnf) RVs.nil)) (Sub.nil _) ?_
  exact ⟨rfl, rfl⟩
end Go.Proofs.YtgdjcmehlhebdaaGreatDoor
namespace Go.Proofs.YtgdjcmehlhebdaaGreatDoor
open Go.E
set_option linter.unusedVariables false
set_option maxRecDepth 4000
theorem Tryz.zero93 : zeroOf Tryz.prog 93 = some ([.bool false] ++ ([.int .u64 0] ++ (List.replicate 32 (.int .u8 0)) ++ (List.replicate 16 (.int .u8 0)))) := by kernel_rfl
theorem Tryz.zero138 : zeroOf Tryz.prog 138 = some ([.bool false] ++ ([.int .u64 0] ++ (List.replicate 32 (.int .u8 0)) ++ (List.replicate 16 (.int .u8 0)))) := by kernel_rfl
theorem Tryz.ent46 : Enters Tryz.prog 46 := ⟨_, Tryz.func46, by kernel_rfl, rfl⟩
theorem Tryz.ent47 : Enters Tryz.prog 47 := ⟨_, Tryz.func47, by kernel_rfl, rfl⟩
theorem Tryz.ent48 : Enters Tryz.prog 48 := ⟨_, Tryz.func48, by kernel_rfl, rfl⟩
theorem Tryz.ent112 : Enters Tryz.prog 112 := ⟨_, Tryz.func112, by kernel_rfl, rfl⟩
theorem Tryz.ent116 : Enters Tryz.prog 116 := ⟨_, Tryz.func116, by kernel_rfl, rfl⟩
theorem Tryz.ent174 : Enters Tryz.prog 174 := ⟨_, Tryz.func174, by kernel_rfl, rfl⟩
theorem Tryz.ent175 : Enters Tryz.prog 175 := ⟨_, Tryz.func175, by kernel_rfl, rfl⟩
theorem Tryz.zv5 : zero1 Tryz.prog 5 = some (.int .u8 0) := by kernel_rfl
theorem Tryz.elem93 : elemT Tryz.prog 93 50 64 := elemT_of (by kernel_rfl)
theorem Tryz.build115 (A : Option Addr) (n c : Nat) (B : Option Addr) (m d : Nat) (w : World) : (Instr.build 115 #[(0, .slice A n c), (1, .slice B m d)]).run Tryz.prog w = .ok (.agg #[.slice A n c, .slice B m d]) w := by kernel_rfl
set_option maxHeartbeats 800000 in
theorem number_walk (n s : Nat) (hs : s = 4 ∨ s = 8) (hn : n < 18446744073709551616) (w0 : World) :
    Calls Tryz.prog 174 #[.int .u64 (n : Int), .int .i64 (s : Int)] w0 (Post w0 [] fun v L => ∃ g, v = .slice (some ⟨g, 0, none⟩) s s ∧ L = [OwnA 5 1 (some ⟨g, 0, none⟩) s s (bytesL (numB n s))]) := by
  refine Calls.of (L := []) (n := 24) (rs := [.tmp 4]) Tryz.func174 rfl rfl rfl (Nat.le_of_ble_eq_true rfl) (Sat.nil _) ?_
  refine TC.seq ?_
  refine TC.region ?_
  refine S.q rfl rfl (Qt.assign (by conv => lhs; whnf)) ?_
  refine S.nil ?_
  refine TC.seq ?_
  refine TC.region ?_
  refine S.q rfl rfl (Qt.move (by conv => lhs; whnf)) ?_
  refine S.opS rfl rfl (OpV.makeS (n := s) (cs := List.replicate s (.int .u8 0)) Tryz.underlying112 Tryz.elem5 Tryz.zv5 rfl rfl (by omega) (by omega) (by omega) (by rcases hs with rfl | rfl <;> kernel_rfl) (fun g8 => ?_))
  refine S.q rfl rfl (Qt.assign (by conv => lhs; whnf)) ?_
  refine S.nil ?_
  refine TC.seq ?_
  refine TC.seq ?_
  refine TC.region ?_
  refine S.q rfl rfl (Qt.move (by conv => lhs; whnf)) ?_
  refine S.q rfl rfl (Qt.subi rfl rfl (IntWalk.i64_in _ (by omega))) ?_
  refine S.q rfl rfl (Qt.assign (by conv => lhs; whnf)) ?_
  refine S.nil ?_
  refine TC.block ?_
  refine TC.loop (γ := Nat) [11, 12, 15, 16, 17, 18, 19, 20, 21, 22, 0, 13, 14, 6] (fun k => [(6, .int .i64 ((s : Int) - 1 - (k : Int))), (0, .int .u64 ((n / 2 ^ (8 * k) : Nat) : Int))]) (fun k => [Blk g8 5 (digL n s k)]) (fun k => k ≤ s) (fun k => s - k) (0)
    (Nat.zero_le _) ⟨Out.refl _ _, (List.forall_mem_cons.2 ⟨(by show Value.int .i64 ((s : Int) - 1) = Value.int .i64 ((s : Int) - 1 - ((0 : Nat) : Int)); congr 1; omega), (List.forall_mem_cons.2 ⟨(by show Value.int .u64 (n : Int) = Value.int .u64 ((n / 2 ^ (8 * 0) : Nat) : Int); rw [Nat.mul_zero, Nat.pow_zero, Nat.div_one]), (fun _ h => nomatch h)⟩)⟩)⟩ ((by rw [digL_zero]; exact Sub.refl _)) ?_
  rintro k u hk
  refine TC.seq ?_
  refine TC.seq ?_
  refine TC.region ?_
  refine S.q rfl rfl (Qt.move (by conv => lhs; whnf)) ?_
  refine S.dec rfl rfl (Qt.gei rfl rfl) (fun h12 => ?_) (fun h12 => ?_)
  · refine S.nil ?_
    refine S.if_t rfl ?_
    refine TC.skip ?_
    refine TC.seq ?_
    refine TC.block ?_
    refine TC.seq ?_
    refine TC.region ?_
    refine S.q rfl rfl (Qt.move (by conv => lhs; whnf)) ?_
    refine S.q rfl rfl (Qt.as (Qt.move rfl) (congrArg (Value.int .i64) (show ((s : Int) - 1 - (k : Int)) = ((s - 1 - k : Nat) : Int) by omega))) ?_
    refine S.q rfl rfl (Qt.move (by conv => lhs; whnf)) ?_
    refine S.q rfl rfl (Qt.rem (b := 256) rfl rfl (by omega)) ?_
    refine S.q rfl rfl (Qt.toByte Tryz.underlying40 Tryz.underlying5 rfl) ?_
    refine S.q rfl rfl (Qt.index1 Tryz.underlying112 Tryz.cells5 rfl rfl (by omega) (Has.blk (Has.at 0 rfl)) (by rw [digL_len _ _ _ (by omega)]; omega)) ?_
    refine S.opN rfl (OpV.storeE0 rfl (by conv => lhs; whnf) Tryz.cells5 rfl rfl (by rw [digL_len _ _ _ (by omega)]; omega) (digL_set (by omega) _ (u8_mod _)) ?_)
    refine S.nil ?_
    refine TC.region ?_
    refine S.q rfl rfl (Qt.move (by conv => lhs; whnf)) ?_
    refine S.q rfl rfl (Qt.as (Qt.quo (b := 256) rfl rfl (by omega) (by have := Nat.div_le_self n (2 ^ (8 * k)); simp only [kmax]; omega)) (by rw [dig_step])) ?_
    refine S.q rfl rfl (Qt.assign (by conv => lhs; whnf)) ?_
    refine S.nil ?_
    refine TC.region ?_
    refine S.q rfl rfl (Qt.move (by conv => lhs; whnf)) ?_
    refine S.q rfl rfl (Qt.subi rfl rfl (IntWalk.i64_in _ (by omega))) ?_
    refine S.q rfl rfl (Qt.assign (by conv => lhs; whnf)) ?_
    refine S.nil ?_
    refine ⟨k + 1, ?_, ?_, ⟨?_, (List.forall_mem_cons.2 ⟨(by show Value.int .i64 ((s : Int) - 1 - (k : Int) - 1) = Value.int .i64 ((s : Int) - 1 - ((k + 1 : Nat) : Int)); congr 1; omega), (List.forall_mem_cons.2 ⟨rfl, (fun _ h => nomatch h)⟩)⟩)⟩, Sub.refl _⟩
    · show _ ≤ _; omega
    · show _ < _; dsimp only; omega
    repeat (first | exact Out.refl _ _ | refine Out.put rfl ?_ | refine Out.puts rfl ?_ | refine Out.scr ?_ | refine Out.scr' rfl ?_)
  · refine S.nil ?_
    refine S.if_f rfl ?_
    refine TC.exit ?_
    refine TC.seq ?_
    refine TC.region ?_
    refine TL.shutOwn (n := s) (c := s) (sz := 1) (by rw [digL_len _ _ _ (by omega)]; omega) (Nat.le_refl _) (by simp only [maxLen]; omega) (List.Perm.refl _) ?_
    rw [List.take_of_length_le (by rw [digL_len _ _ _ (by omega)]; omega), show k = s by omega, digL_all]
    refine S.q rfl rfl (Qt.move (by conv => lhs; whnf)) ?_
    refine S.q rfl rfl (Qt.assign (by conv => lhs; whnf)) ?_
    refine S.nil ?_
    refine TC.ret ?_
    refine finQ.ret (RVs.tmp (by conv => lhs; whnf) RVs.nil) (Sub.refl _) ?_
    exact ⟨g8, rfl, rfl⟩
set_option maxHeartbeats 400000 in
theorem put175_walk (x : Sealed) (w0 : World) :
    Calls Tryz.prog 175 #[.agg (sealL x).toArray] w0 (Post w0 [] fun v L => ∃ O d, v = .slice O (putS x).length d ∧ L = [OwnA 5 1 O (putS x).length d (bytesL (putS x))]) := by
  refine Calls.of (L := []) (n := 15) (rs := [.tmp 2]) Tryz.func175 rfl rfl rfl (Nat.le_of_ble_eq_true rfl) (Sat.nil _) ?_
  refine TC.seq ?_
  refine TC.region ?_
  refine S.opS rfl rfl (OpV.box (v := .agg (sealL x).toArray) rfl (fun b1 => ?_))
  refine S.q rfl rfl (Qt.assign (by conv => lhs; whnf)) ?_
  refine S.nil ?_
  refine TC.seq ?_
  refine TC.region ?_
  refine S.q rfl rfl (Qt.field Tryz.underlying91 rfl Tryz.cells40 rfl) ?_
  refine S.q rfl rfl (Qt.load rfl (Ld.one (v := .int .u64 (x.ep : Int)) (Has.at 0 rfl) Tryz.one40 rfl)) ?_
  refine S.opS rfl rfl (OpV.con (Pre := []) (R := _) Tryz.ent174 rfl (List.Perm.refl _) (fun w hw => number_walk x.ep 8 (.inr rfl) x.lt w) ?_)
  rintro v L' ⟨g6, rfl, rfl⟩
  refine S.q rfl rfl (Qt.assign (by conv => lhs; whnf)) ?_
  refine S.nil ?_
  refine TC.seq ?_
  refine TC.region ?_
  refine S.q rfl rfl (Qt.move (by conv => lhs; whnf)) ?_
  refine S.q rfl rfl (Qt.field Tryz.underlying91 rfl Tryz.cells89 rfl) ?_
  refine S.q rfl rfl (Qt.sliceB_all Tryz.underlying89 Tryz.cells5 rfl) ?_
  refine S.opS rfl rfl (OpV.app0 (bytes := 1) (news := bytesL x.data.1) Tryz.underlying112 Tryz.elem5 rfl rfl (Rd.has (Rd.sealD (Rd.at 1 rfl))) (by rw [bytesL_length, x.data.2]) (bytesL_one _) (by simp only [maxLen]; omega) (by omega) (fun O1 d1 => ?_))
  refine S.q rfl rfl (Qt.assign (by conv => lhs; whnf)) ?_
  refine S.nil ?_
  refine TC.seq ?_
  refine TC.region ?_
  refine S.q rfl rfl (Qt.move (by conv => lhs; whnf)) ?_
  refine S.q rfl rfl (Qt.field Tryz.underlying91 rfl Tryz.cells59 rfl) ?_
  refine S.q rfl rfl (Qt.sliceB_all Tryz.underlying59 Tryz.cells5 rfl) ?_
  refine S.opS rfl rfl (OpV.app0 (bytes := 1) (news := bytesL x.tag.1) Tryz.underlying112 Tryz.elem5 rfl rfl (Rd.has (Rd.sealT (Rd.at 1 rfl))) (by rw [bytesL_length, x.tag.2]) (bytesL_one _) (by simp only [maxLen]; omega) (by omega) (fun O2 d2 => ?_))
  refine S.q rfl rfl (Qt.assign (by conv => lhs; whnf)) ?_
  refine S.nil ?_
  refine TC.ret ?_
  refine finQ.ret (RVs.tmp (by conv => lhs; whnf) RVs.nil) (Sub.keep _ (Sub.drop _ (Sub.nil []))) ?_
  refine ⟨O2, d2, by rw [putS_length]; rfl, ?_⟩
  rw [putS_length, putS, bytesL_append, bytesL_append]
set_option maxHeartbeats 400000 in
theorem leaf116_walk (i : Nat) (hi : i < 18446744073709551616) (x : Sealed) (w0 : World) :
    Calls Tryz.prog 116 #[.int .u64 (i : Int), .agg (sealL x).toArray] w0 (Post w0 [] fun v L => ∃ O d, v = .slice O (leafX i x).length d ∧ L = [OwnA 5 1 O (leafX i x).length d (bytesL (leafX i x))]) := by
  refine Calls.of (L := []) (n := 14) (rs := [.tmp 4]) Tryz.func116 rfl rfl rfl (Nat.le_of_ble_eq_true rfl) (Sat.nil _) ?_
  have hpl := putS_length x
  refine TC.seq ?_
  refine TC.region ?_
  refine S.opS rfl rfl (OpV.box (v := .agg (sealL x).toArray) rfl (fun b3 => ?_))
  refine S.q rfl rfl (Qt.assign (by conv => lhs; whnf)) ?_
  refine S.nil ?_
  refine TC.seq ?_
  refine TC.region ?_
  refine S.opS rfl rfl (OpV.sliceLO (vs := bytesL [1]) Tryz.underlying112 Tryz.elem5 rfl (by decide) rfl (by intro v hv; rw [List.mem_singleton.1 hv]; rfl) (fun g6 => ?_))
  refine S.q rfl rfl (Qt.move (by conv => lhs; whnf)) ?_
  refine S.opS rfl rfl (OpV.con (Pre := []) (R := _) Tryz.ent174 rfl (List.Perm.refl _) (fun w hw => number_walk i 4 (.inl rfl) hi w) ?_)
  rintro v L' ⟨g8, rfl, rfl⟩
  refine S.opS rfl rfl (OpV.app1 (bytes := 1) (news := bytesL (numB i 4)) Tryz.underlying112 Tryz.elem5 rfl rfl (Has.own (Has.at 0 rfl)) (by rw [bytesL_length, numB_length]) (bytesL_one _) (by simp only [maxLen]; omega) (by omega) (fun O1 d1 => ?_))
  refine S.q rfl rfl (Qt.assign (by conv => lhs; whnf)) ?_
  refine S.nil ?_
  refine TC.seq ?_
  refine TC.region ?_
  refine S.q rfl rfl (Qt.move (by conv => lhs; whnf)) ?_
  refine S.q rfl rfl (Qt.load rfl (Ld.all (vs := sealL x) (Has.at 2 rfl) Tryz.row91 (by rw [sealL_length]; exact Tryz.cells91))) ?_
  refine S.opS rfl rfl (OpV.con (Pre := []) (R := _) Tryz.ent175 rfl (List.Perm.refl _) (fun w hw => put175_walk x w) ?_)
  rintro v L' ⟨Op, dp, rfl, rfl⟩
  refine S.opS rfl rfl (OpV.app2 (bytes := 1) (news := bytesL (putS x)) Tryz.underlying112 Tryz.elem5 rfl rfl (Has.own (Has.at 0 rfl)) (by rw [bytesL_length]; omega) (bytesL_one _) (by simp only [maxLen]; omega) (by omega) (fun O2 d2 => ?_))
  refine S.q rfl rfl (Qt.assign (by conv => lhs; whnf)) ?_
  refine S.nil ?_
  refine TC.ret ?_
  refine finQ.ret (RVs.tmp (by conv => lhs; whnf) RVs.nil) (Sub.trans (Sub.keep _ (Sub.drop _ (Sub.drop _ (Sub.drop _ (Sub.nil []))))) (Sub.trans (Sub.keep _ (Sub.refl _)) (Sub.of_perm (List.perm_middle (l₁ := [_, _]))))) ?_
  refine ⟨O2, d2, by rw [leafX_length, putS_length]; rfl, ?_⟩
  rw [leafX_length, putS_length, leafX, bytesL_append, bytesL_append]
  rfl
set_option maxHeartbeats 400000 in
theorem text53_walk (i : Nat) (hi : i < 18446744073709551616) (x : Go.E.Item) (w0 : World) :
    Calls Tryz.prog 53 #[.int .u64 (i : Int), .agg (itemL x).toArray] w0 (Post w0 [] fun v L => ∃ O d, v = .slice O (itemX i x).length d ∧ L = [OwnA 5 1 O (itemX i x).length d (bytesL (itemX i x))]) := by
  refine Calls.of (L := []) (n := 13) (rs := [.tmp 4]) Tryz.func53 rfl rfl rfl (Nat.le_of_ble_eq_true rfl) (Sat.nil _) ?_
  refine TC.seq ?_
  refine TC.region ?_
  refine S.opS rfl rfl (OpV.box (v := .agg (itemL x).toArray) rfl (fun b3 => ?_))
  refine S.q rfl rfl (Qt.assign (by conv => lhs; whnf)) ?_
  refine S.nil ?_
  refine TC.seq ?_
  refine TC.seq ?_
  refine TC.region ?_
  refine S.q rfl rfl (Qt.field Tryz.underlying93 rfl Tryz.cells4 rfl) ?_
  refine S.q rfl rfl (Qt.load rfl (Ld.one (v := .bool x.there) (Has.at 0 rfl) Tryz.one4 rfl)) ?_
  refine S.q rfl rfl (Qt.not rfl) ?_
  refine S.nil ?_
  refine TC.ifb rfl (fun b7 => ?_) (fun b7 => ?_)
  · refine TC.seq ?_
    refine TC.region ?_
    refine S.opS rfl rfl (OpV.sliceLO (vs := bytesL [0]) Tryz.underlying112 Tryz.elem5 rfl (by decide) rfl (by intro v hv; rw [List.mem_singleton.1 hv]; rfl) (fun g8 => ?_))
    refine S.q rfl rfl (Qt.assign (by conv => lhs; whnf)) ?_
    refine S.nil ?_
    refine TC.ret ?_
    refine finQ.ret (RVs.tmp (by conv => lhs; whnf) RVs.nil) (Sub.keep _ (Sub.drop _ (Sub.nil []))) ?_
    have ht : x.there = false := by simpa using b7
    have e : itemX i x = [0] := by rw [itemX, if_neg (by rw [ht]; decide)]
    rw [e]
    exact ⟨some ⟨g8, 0, none⟩, 1, rfl, rfl⟩
  · refine TC.skip ?_
    refine TC.seq ?_
    refine TC.region ?_
    refine S.q rfl rfl (Qt.move (by conv => lhs; whnf)) ?_
    refine S.q rfl rfl (Qt.field Tryz.underlying93 rfl Tryz.cells91 rfl) ?_
    refine S.q rfl rfl (Qt.load rfl (Ld.row (vs := sealL x.s) (Has.at 0 rfl) Tryz.row91 (by rw [sealL_length]; exact Tryz.cells91) (itemL_seal x))) ?_
    refine S.opS rfl rfl (OpV.con (Pre := []) (R := _) Tryz.ent116 rfl (List.Perm.refl _) (fun w hw => leaf116_walk i hi x.s w) ?_)
    rintro v L' ⟨O, d, rfl, rfl⟩
    refine S.q rfl rfl (Qt.assign (by conv => lhs; whnf)) ?_
    refine S.nil ?_
    refine TC.ret ?_
    refine finQ.ret (RVs.tmp (by conv => lhs; whnf) RVs.nil) (Sub.keep _ (Sub.drop _ (Sub.nil []))) ?_
    have ht : x.there = true := by simpa using b7
    have e : itemX i x = leafX i x.s := by rw [itemX, if_pos ht]
    rw [e]
    exact ⟨O, d, rfl, rfl⟩
set_option maxHeartbeats 400000 in
theorem itext112_walk (i : Nat) (hi : i < 4294967296) (x : Go.E.Item) (w0 : World) :
    Calls Tryz.prog 112 #[.int .u64 (i : Int), .agg (itemL x).toArray] w0 (Post w0 [] fun v L => ∃ O d, v = .tuple #[.slice O (itemX i x).length d, .nilIface] ∧ L = [OwnA 5 1 O (itemX i x).length d (bytesL (itemX i x))]) := by
  refine Calls.of (L := []) (n := 16) (rs := [.tmp 4, .tmp 5]) Tryz.func112 rfl rfl rfl (Nat.le_of_ble_eq_true rfl) (Sat.nil _) ?_
  refine TC.seq ?_
  refine TC.region ?_
  refine S.opS rfl rfl (OpV.box (v := .agg (itemL x).toArray) rfl (fun b3 => ?_))
  refine S.q rfl rfl (Qt.assign (by conv => lhs; whnf)) ?_
  refine S.q rfl rfl (Qt.assign (by conv => lhs; whnf)) ?_
  refine S.nil ?_
  refine TC.seq ?_
  refine TC.seq ?_
  refine TC.region ?_
  refine S.q rfl rfl (Qt.field Tryz.underlying138 rfl Tryz.cells4 rfl) ?_
  refine S.q rfl rfl (Qt.load rfl (Ld.one (v := .bool x.there) (Has.at 0 rfl) Tryz.one4 rfl)) ?_
  refine S.q rfl rfl (Qt.not rfl) ?_
  refine S.nil ?_
  refine TC.ifb rfl (fun b8 => ?_) (fun b8 => ?_)
  · refine TC.seq ?_
    refine TC.region ?_
    refine S.opS rfl rfl (OpV.sliceLO (vs := bytesL [0]) Tryz.underlying112 Tryz.elem5 rfl (by decide) rfl (by intro v hv; rw [List.mem_singleton.1 hv]; rfl) (fun g9 => ?_))
    refine S.q rfl rfl (Qt.assign (by conv => lhs; whnf)) ?_
    refine S.q rfl rfl (Qt.assign (by conv => lhs; whnf)) ?_
    refine S.nil ?_
    refine TC.ret ?_
    refine finQ.ret (RVs.tmp (by conv => lhs; whnf) (RVs.tmp (by conv => lhs; whnf) RVs.nil)) (Sub.keep _ (Sub.drop _ (Sub.nil []))) ?_
    have ht : x.there = false := by simpa using b8
    have e : itemX i x = [0] := by rw [itemX, if_neg (by rw [ht]; decide)]
    rw [e]
    exact ⟨some ⟨g9, 0, none⟩, 1, rfl, rfl⟩
  · refine TC.skip ?_
    refine TC.seq ?_
    refine TC.region ?_
    refine S.q rfl rfl (Qt.move (by conv => lhs; whnf)) ?_
    refine S.q rfl rfl (Qt.field Tryz.underlying138 rfl Tryz.cells136 rfl) ?_
    refine S.q rfl rfl (Qt.load rfl (Ld.row (vs := sealL x.s) (Has.at 0 rfl) Tryz.row136 (by rw [sealL_length]; exact Tryz.cells136) (itemL_seal x))) ?_
    refine S.opS rfl rfl (OpV.con (Pre := []) (R := _) Tryz.ent119 rfl (List.Perm.refl _) (fun w hw => leaf119_walk i hi x.s w) ?_)
    rintro v L' ⟨O, d, rfl, rfl⟩
    refine S.q rfl rfl (Qt.extract rfl rfl) ?_
    refine S.q rfl rfl (Qt.extract rfl rfl) ?_
    refine S.q rfl rfl (Qt.assign (by conv => lhs; whnf)) ?_
    refine S.q rfl rfl (Qt.assign (by conv => lhs; whnf)) ?_
    refine S.nil ?_
    refine TC.ret ?_
    refine finQ.ret (RVs.tmp (by conv => lhs; whnf) (RVs.tmp (by conv => lhs; whnf) RVs.nil)) (Sub.keep _ (Sub.drop _ (Sub.nil []))) ?_
    have ht : x.there = true := by simpa using b8
    have e : itemX i x = leafX i x.s := by rw [itemX, if_pos ht]
    rw [e]
    exact ⟨O, d, rfl, rfl⟩
set_option maxHeartbeats 1600000 in
theorem itexts47_walk (A : Option Addr) (c : Nat) (xs : List Nat) (B : Option Addr) (b : Nat) (l : List Go.E.Item) (hn : xs.length ≤ 16384) (w0 : World) (hlow : ∀ x ∈ xs, x < 18446744073709551616) (hR : Ro w0 [] (SlA A (u64s xs))) (hB : Ro w0 [] (SlA B (l.flatMap itemL))) :
    Calls Tryz.prog 47 #[.slice A xs.length c, .slice B l.length b] w0 (Post w0 [] fun v L => TxQ (itemQ xs l) v L) := by
  refine Calls.of (L := []) (n := 45) (rs := [.tmp 4, .tmp 5]) Tryz.func47 rfl rfl rfl (Nat.le_of_ble_eq_true rfl) (Sat.nil _) ?_
  refine TC.seq ?_
  refine TC.region ?_
  refine S.q rfl rfl (Qt.assign (by conv => lhs; whnf)) ?_
  refine S.q rfl rfl (Qt.assign (by conv => lhs; whnf)) ?_
  refine S.nil ?_
  refine TC.seq ?_
  refine TC.seq ?_
  refine TC.region ?_
  refine S.q rfl rfl (Qt.move (by conv => lhs; whnf)) ?_
  refine S.q rfl rfl (Qt.len_slice Tryz.underlying23 rfl) ?_
  refine S.q rfl rfl (Qt.move (by conv => lhs; whnf)) ?_
  refine S.q rfl rfl (Qt.len_slice Tryz.underlying22 rfl) ?_
  refine S.dec rfl rfl (Qt.ne rfl rfl) (fun h15 => ?_) (fun h15 => ?_)
  · refine S.nil ?_
    refine S.if_t rfl ?_
    refine TC.seq ?_
    refine TC.region ?_
    refine S.q rfl rfl (Qt.makeInterface Tryz.underlying73 (fun _ h => nomatch h) (by conv => lhs; whnf)) ?_
    refine S.q rfl rfl (Qt.assign (by conv => lhs; whnf)) ?_
    refine S.q rfl rfl (Qt.assign (by conv => lhs; whnf)) ?_
    refine S.nil ?_
    refine TC.ret ?_
    refine finQ.ret (RVs.tmp (by conv => lhs; whnf) (RVs.tmp (by conv => lhs; whnf) RVs.nil)) (Sub.nil _) ?_
    rw [itemQ_F (fun h => h15 h.1)]
    exact ⟨2, rfl, rfl⟩
  · refine S.nil ?_
    refine S.if_f rfl ?_
    refine TC.skip ?_
    refine TC.seq ?_
    refine TC.region ?_
    refine S.q rfl rfl (Qt.assign (by conv => lhs; whnf)) ?_
    refine S.nil ?_
    refine TC.seq ?_
    refine TC.seq ?_
    refine TC.region ?_
    refine S.q rfl rfl (Qt.move (by conv => lhs; whnf)) ?_
    refine S.q rfl rfl (Qt.len_slice Tryz.underlying22 rfl) ?_
    refine S.q rfl rfl (Qt.move (by conv => lhs; whnf)) ?_
    refine S.nil ?_
    refine TC.block ?_
    refine TC.ownNil 112 1 ?_
    refine TC.manyNil ?_
    refine TC.loop (γ := Nat × Option Addr × List Tx × Nat) [20, 21, 22, 23, 7, 8, 24, 25, 26, 4, 5, 28, 29, 30, 31, 32, 33, 27, 34, 35, 9, 10, 36, 37, 38, 39, 40, 41, 42, 6, 43, 19] (fun g => [(19, .int .i64 ((g.1 : Nat) : Int)), (6, .slice g.2.1 g.2.2.1.length g.2.2.2)]) (fun g => [OwnA 112 1 g.2.1 (g.2.2.1).length g.2.2.2 ((g.2.2.1).flatMap txL), Many ((g.2.2.1).map txOwn)]) (fun g => g.1 ≤ xs.length ∧ g.2.2.1.map (fun t => t.2.2) = (List.range g.1).map (fun i => itemX (xs.getD i 0) (l.getD i item0)) ∧ ∀ j, j < g.1 → xs.getD j 0 < 4294967296) (fun g => xs.length - g.1) ((0, none, [], 0))
      ⟨Nat.zero_le _, rfl, fun j h => absurd h (Nat.not_lt_zero _)⟩ ⟨Out.refl _ _, (List.forall_mem_cons.2 ⟨rfl, (List.forall_mem_cons.2 ⟨rfl, (fun _ h => nomatch h)⟩)⟩)⟩ (Sub.trans (Sub.keep _ (Sub.refl _)) (Sub.of_perm (List.perm_middle (l₁ := [_])))) ?_
    rintro ⟨k, O, tt, d⟩ u ⟨hk, htt, hq⟩
    dsimp only at hk htt hq
    have htl : tt.length = k := by have := congrArg List.length htt; simpa using this
    show TC _ _ _ (puts [(19, .int .i64 (k : Int)), (6, .slice O tt.length d)] (scr _ u _)) [OwnA 112 1 O (tt).length d ((tt).flatMap txL), Many ((tt).map txOwn)]
    refine TC.seq ?_
    refine TC.region ?_
    refine S.dec rfl rfl (Qt.lt rfl rfl) (fun h20 => ?_) (fun h20 => ?_)
    · refine S.nil ?_
      refine TC.seq ?_
      refine S.if_t rfl ?_
      refine TC.skip ?_
      refine TC.seq ?_
      refine TC.block ?_
      refine TC.seq ?_
      refine TC.region ?_
      refine S.q rfl rfl (Qt.move (by conv => lhs; whnf)) ?_
      refine S.q rfl rfl (Qt.index Tryz.underlying22 Tryz.cells40 rfl rfl (by omega) (Has.ro hR) (by rw [u64s_len]; omega)) ?_
      refine S.q rfl rfl (Qt.load rfl (Ld.sl (v := .int .u64 (((xs.getD k 0) : Nat) : Int)) (Has.ro hR) Tryz.one40 (u64s_get1 (by omega)))) ?_
      refine S.q rfl rfl (Qt.assign (by conv => lhs; whnf)) ?_
      refine S.q rfl rfl (Qt.assign (by conv => lhs; whnf)) ?_
      refine S.nil ?_
      refine TC.seq ?_
      refine TC.seq ?_
      refine TC.region ?_
      refine S.q rfl rfl (Qt.move (by conv => lhs; whnf)) ?_
      refine S.dec rfl rfl (Qt.ge (b := 4294967296) rfl rfl) (fun h25 => ?_) (fun h25 => ?_)
      · refine S.nil ?_
        refine S.if_t rfl ?_
        refine TC.seq ?_
        refine TC.region ?_
        refine S.q rfl rfl (Qt.makeInterface Tryz.underlying73 (fun _ h => nomatch h) (by conv => lhs; whnf)) ?_
        refine S.q rfl rfl (Qt.assign (by conv => lhs; whnf)) ?_
        refine S.q rfl rfl (Qt.assign (by conv => lhs; whnf)) ?_
        refine S.nil ?_
        refine TC.ret ?_
        refine finQ.ret (RVs.tmp (by conv => lhs; whnf) (RVs.tmp (by conv => lhs; whnf) RVs.nil)) (Sub.nil _) ?_
        rw [itemQ_F (fun h => absurd (h.2 _ (getD_mem 0 (show k < xs.length by omega))) (by omega))]
        exact ⟨1, rfl, rfl⟩
      · refine S.nil ?_
        refine S.if_f rfl ?_
        refine TC.skip ?_
        refine TC.seq ?_
        refine TC.region ?_
        refine S.q rfl rfl (Qt.move (by conv => lhs; whnf)) ?_
        refine S.q rfl rfl (Qt.move (by conv => lhs; whnf)) ?_
        refine S.q rfl rfl (Qt.move (by conv => lhs; whnf)) ?_
        refine S.q rfl rfl (Qt.index Tryz.underlying23 Tryz.cells138 rfl rfl (by omega) (Has.ro hB) (by rw [items_len]; omega)) ?_
        refine S.q rfl rfl (Qt.load rfl (Ld.slr (vs := itemL (l.getD k item0)) (Has.ro hB) Tryz.row138 (by rw [itemL_length]; exact Tryz.cells138) (by rw [itemL_length]; decide) (items_at (by omega) rfl))) ?_
        refine S.opS rfl rfl (OpV.con (Pre := []) (R := _) Tryz.ent112 rfl (List.Perm.refl _) (fun w hw => itext112_walk (xs.getD k 0) (by omega) (l.getD k item0) w) ?_)
        rintro v L' ⟨Ot, dt, rfl, rfl⟩
        refine TL.manyJoin (List.Perm.cons _ (List.perm_middle (l₁ := [_]))) ?_
        refine S.q rfl rfl (Qt.move (by conv => lhs; whnf)) ?_
        refine S.q rfl rfl (Qt.extract rfl rfl) ?_
        refine S.q rfl rfl (Qt.extract rfl rfl) ?_
        refine S.q rfl rfl (Qt.assign (by conv => lhs; whnf)) ?_
        refine S.q rfl rfl (Qt.assign (by conv => lhs; whnf)) ?_
        refine S.nil ?_
        refine TC.seq ?_
        refine TC.seq ?_
        refine TC.region ?_
        refine S.q rfl rfl (Qt.move (by conv => lhs; whnf)) ?_
        refine S.q rfl rfl (Qt.nenil_nil Tryz.underlying51 rfl) ?_
        refine S.nil ?_
        refine S.if_f rfl ?_
        refine TC.skip ?_
        refine TC.region ?_
        refine S.q rfl rfl (Qt.move (by conv => lhs; whnf)) ?_
        refine S.q rfl rfl (Qt.move (by conv => lhs; whnf)) ?_
        refine S.opS rfl rfl (OpV.slice1 (bytes := 24) (v := .slice Ot (itemX (xs.getD k 0) (l.getD k item0)).length dt) Tryz.underlying111 Tryz.elem112 (by decide) rfl rfl (fun g41 => ?_))
        refine S.opS rfl rfl (OpV.app2 (bytes := 24) (news := [.slice Ot (itemX (xs.getD k 0) (l.getD k item0)).length dt]) Tryz.underlying111 Tryz.elem112 rfl rfl (Has.blk (cs := [.slice Ot (itemX (xs.getD k 0) (l.getD k item0)).length dt]) (Has.at 0 rfl)) rfl (by intro u hu; rw [List.mem_singleton.1 hu]; rfl) (by simp only [maxLen]; omega) (by omega) (fun O3 d3 => ?_))
        refine S.q rfl rfl (Qt.assign (by conv => lhs; whnf)) ?_
        refine S.nil ?_
        refine TC.region ?_
        refine S.q rfl rfl (Qt.add (b := 1) rfl rfl (by simp only [kmax]; omega)) ?_
        refine S.q rfl rfl (Qt.move (by conv => lhs; whnf)) ?_
        refine S.nil ?_
        refine ⟨(k + 1, O3, tt ++ [(Ot, dt, itemX (xs.getD k 0) (l.getD k item0))], d3), ?_, ?_, ⟨?_, (List.forall_mem_cons.2 ⟨rfl, (List.forall_mem_cons.2 ⟨(by show Value.slice O3 (tt.length + 1) d3 = Value.slice O3 (tt ++ [_]).length d3; rw [List.length_append]; rfl), (fun _ h => nomatch h)⟩)⟩)⟩, (by dsimp only; simp only [List.length_append, List.flatMap_append, List.map_append]; exact Sub.trans (Sub.keep _ (Sub.keep _ (Sub.drop _ (Sub.nil [])))) (Sub.trans (Sub.keep _ (Sub.trans (Sub.keep _ (Sub.refl _)) (Sub.of_perm (List.perm_middle (l₁ := [_]))))) (Sub.of_perm (List.perm_middle (l₁ := [_, _])))))⟩
        · exact ⟨by show _ ≤ _; dsimp only; omega, by dsimp only; rw [List.map_append, htt, List.range_succ, List.map_append, List.map_singleton, List.map_singleton], fun j hj => (Nat.lt_or_ge j k).elim (hq j) (fun h => by (obtain rfl : j = k := by omega); exact Nat.lt_of_not_le h25)⟩
        · show _ < _; dsimp only; omega
        repeat (first | exact Out.refl _ _ | refine Out.put rfl ?_ | refine Out.puts rfl ?_ | refine Out.scr ?_ | refine Out.scr' rfl ?_)
    · refine S.nil ?_
      refine TC.seq ?_
      refine S.if_f rfl ?_
      refine TC.exit ?_
      refine TC.seq ?_
      refine TC.region ?_
      refine S.q rfl rfl (Qt.move (by conv => lhs; whnf)) ?_
      refine S.q rfl rfl (Qt.assign (by conv => lhs; whnf)) ?_
      refine S.q rfl rfl (Qt.assign (by conv => lhs; whnf)) ?_
      refine S.nil ?_
      refine TC.ret ?_
      refine finQ.ret (RVs.tmp (by conv => lhs; whnf) (RVs.tmp (by conv => lhs; whnf) RVs.nil)) (Sub.refl _) ?_
      obtain rfl : k = xs.length := by omega
      rw [itemQ_T (Decidable.not_not.1 h15) (low_all rfl hq)]
      exact ⟨O, d, tt, rfl, rfl, htt, by omega⟩
set_option maxHeartbeats 400000 in
theorem pickI_true (A : Option Addr) (n c : Nat) (B : Option Addr) (m d : Nat) (w0 : World) :
    Calls Tryz.prog 48 #[.bool true, .slice A n c, .slice B m d] w0 (Post w0 [] fun v L => v = .slice A n c ∧ L = []) := by
  refine Calls.of (L := []) (n := 10) (rs := [.tmp 6]) Tryz.func48 rfl rfl rfl (Nat.le_of_ble_eq_true rfl) (Sat.nil _) ?_
  refine TC.seq ?_
  refine TC.region ?_
  refine S.q rfl rfl (Qt.assign (by conv => lhs; whnf)) ?_
  refine S.nil ?_
  refine TC.seq ?_
  refine TC.seq ?_
  refine TC.region ?_
  refine S.q rfl rfl (Qt.move (by conv => lhs; whnf)) ?_
  refine S.nil ?_
  refine S.if_t rfl ?_
  refine TC.seq ?_
  refine TC.region ?_
  refine S.q rfl rfl (Qt.move (by conv => lhs; whnf)) ?_
  refine S.q rfl rfl (Qt.assign (by conv => lhs; whnf)) ?_
  refine S.nil ?_
  refine TC.ret ?_
  refine finQ.ret (RVs.tmp (by conv => lhs; whnf) RVs.nil) (Sub.nil _) ?_
  exact ⟨rfl, rfl⟩
set_option maxHeartbeats 400000 in
theorem pickI_false (A : Option Addr) (n c : Nat) (B : Option Addr) (m d : Nat) (w0 : World) :
    Calls Tryz.prog 48 #[.bool false, .slice A n c, .slice B m d] w0 (Post w0 [] fun v L => v = .slice B m d ∧ L = []) := by
  refine Calls.of (L := []) (n := 10) (rs := [.tmp 6]) Tryz.func48 rfl rfl rfl (Nat.le_of_ble_eq_true rfl) (Sat.nil _) ?_
  refine TC.seq ?_
  refine TC.region ?_
  refine S.q rfl rfl (Qt.assign (by conv => lhs; whnf)) ?_
  refine S.nil ?_
  refine TC.seq ?_
  refine TC.seq ?_
  refine TC.region ?_
  refine S.q rfl rfl (Qt.move (by conv => lhs; whnf)) ?_
  refine S.nil ?_
  refine S.if_f rfl ?_
  refine TC.skip ?_
  refine TC.seq ?_
  refine TC.region ?_
  refine S.q rfl rfl (Qt.move (by conv => lhs; whnf)) ?_
  refine S.q rfl rfl (Qt.assign (by conv => lhs; whnf)) ?_
  refine S.nil ?_
  refine TC.ret ?_
  refine finQ.ret (RVs.tmp (by conv => lhs; whnf) RVs.nil) (Sub.nil _) ?_
  exact ⟨rfl, rfl⟩
set_option maxHeartbeats 400000 in
theorem icl_trueN (q1 q2 q3 : Nat) (A : Option Addr) (n c : Nat) (B1 : Option Addr) (n1 a1 : Nat) (B2 : Option Addr) (n2 a2 : Nat) (w0 : World) (h1 : Ro w0 [] (Blk q1 22 [.slice A n c])) (h2 : Ro w0 [] (Blk q2 23 [.slice B1 n1 a1])) (h3 : Ro w0 [] (Blk q3 23 [.slice B2 n2 a2])) (hX : ∀ w, St w0 [] [] w → Calls Tryz.prog 47 #[.slice A n c, .slice B1 n1 a1] w (Post w [] (TxQ none))) :
    Calls Tryz.prog 46 #[.bool true, .pointer (some ⟨q1, 0, none⟩), .pointer (some ⟨q2, 0, none⟩), .pointer (some ⟨q3, 0, none⟩)] w0 (Post w0 [] fun v L => TxQ none v L) := by
  refine Calls.of (L := []) (n := 15) (rs := [.tmp 5, .tmp 6]) Tryz.func46 rfl rfl rfl (Nat.le_of_ble_eq_true rfl) (Sat.nil _) ?_
  refine TC.seq ?_
  refine TC.region ?_
  refine S.q rfl rfl (Qt.assign (by conv => lhs; whnf)) ?_
  refine S.q rfl rfl (Qt.assign (by conv => lhs; whnf)) ?_
  refine S.nil ?_
  refine TC.seq ?_
  refine S.draw ([], [5]) Tryz.mixed (Sub.refl _) ?_
  refine D.qX (k := 0) rfl (by kernel_rfl) (by kernel_rfl) (by kernel_rfl) rfl rfl (Qt.load rfl (Ld.one (v := .slice A n c) (Has.ro h1) Tryz.one22 rfl)) ?_
  refine D.qX (k := 1) rfl (by kernel_rfl) (by kernel_rfl) (by kernel_rfl) rfl rfl (Qt.move (by conv => lhs; whnf)) ?_
  refine D.qX (k := 2) rfl (by kernel_rfl) (by kernel_rfl) (by kernel_rfl) rfl rfl (Qt.load rfl (Ld.one (v := .slice B1 n1 a1) (Has.ro h2) Tryz.one23 rfl)) ?_
  refine D.qX (k := 3) rfl (by kernel_rfl) (by kernel_rfl) (by kernel_rfl) rfl rfl (Qt.load rfl (Ld.one (v := .slice B2 n2 a2) (Has.ro h3) Tryz.one23 rfl)) ?_
  refine D.cX (k := 4) rfl (by kernel_rfl) (by kernel_rfl) (by kernel_rfl) rfl rfl (CalU.con0 Tryz.ent48 rfl (fun w hw => Calls.ret (pickI_true B1 n1 a1 B2 n2 a2 w))) ?_
  refine D.nS (k := 5) (Sub.refl _) rfl (by kernel_rfl) (by kernel_rfl) rfl rfl (OpV.con (Pre := []) (R := _) Tryz.ent47 rfl (List.Perm.refl _) (fun w hw => hX w (hw.sub (Sub.nil _))) ?_)
  rintro v L' ⟨k1, rfl, rfl⟩
  refine ⟨Sub.refl _, ?_⟩
  refine D.qX (k := 6) rfl (by kernel_rfl) (by kernel_rfl) (by kernel_rfl) rfl rfl (Qt.extract rfl rfl) ?_
  refine D.qX (k := 7) rfl (by kernel_rfl) (by kernel_rfl) (by kernel_rfl) rfl rfl (Qt.extract rfl rfl) ?_
  refine D.qX (k := 8) rfl (by kernel_rfl) (by kernel_rfl) (by kernel_rfl) rfl rfl (Qt.assign (by conv => lhs; whnf)) ?_
  refine D.qX (k := 9) rfl (by kernel_rfl) (by kernel_rfl) (by kernel_rfl) rfl rfl (Qt.assign (by conv => lhs; whnf)) ?_
  refine D.done (Sub.refl _) (by kernel_rfl) ?_
  refine TC.ret ?_
  refine finQ.ret (RVs.tmp (by conv => lhs; whnf) (RVs.tmp (by conv => lhs; whnf) RVs.nil)) (Sub.nil _) ?_
  exact ⟨k1, rfl, rfl⟩
set_option maxHeartbeats 400000 in
theorem icl_trueS (q1 q2 q3 : Nat) (A : Option Addr) (n c : Nat) (B1 : Option Addr) (n1 a1 : Nat) (B2 : Option Addr) (n2 a2 : Nat) (a : List (List UInt8)) (w0 : World) (h1 : Ro w0 [] (Blk q1 22 [.slice A n c])) (h2 : Ro w0 [] (Blk q2 23 [.slice B1 n1 a1])) (h3 : Ro w0 [] (Blk q3 23 [.slice B2 n2 a2])) (hX : ∀ w, St w0 [] [] w → Calls Tryz.prog 47 #[.slice A n c, .slice B1 n1 a1] w (Post w [] (TxQ (some a)))) :
    Calls Tryz.prog 46 #[.bool true, .pointer (some ⟨q1, 0, none⟩), .pointer (some ⟨q2, 0, none⟩), .pointer (some ⟨q3, 0, none⟩)] w0 (Post w0 [] fun v L => TxQ (some a) v L) := by
  refine Calls.of (L := []) (n := 15) (rs := [.tmp 5, .tmp 6]) Tryz.func46 rfl rfl rfl (Nat.le_of_ble_eq_true rfl) (Sat.nil _) ?_
  refine TC.seq ?_
  refine TC.region ?_
  refine S.q rfl rfl (Qt.assign (by conv => lhs; whnf)) ?_
  refine S.q rfl rfl (Qt.assign (by conv => lhs; whnf)) ?_
  refine S.nil ?_
  refine TC.seq ?_
  refine S.draw ([], [5]) Tryz.mixed (Sub.refl _) ?_
  refine D.qX (k := 0) rfl (by kernel_rfl) (by kernel_rfl) (by kernel_rfl) rfl rfl (Qt.load rfl (Ld.one (v := .slice A n c) (Has.ro h1) Tryz.one22 rfl)) ?_
  refine D.qX (k := 1) rfl (by kernel_rfl) (by kernel_rfl) (by kernel_rfl) rfl rfl (Qt.move (by conv => lhs; whnf)) ?_
  refine D.qX (k := 2) rfl (by kernel_rfl) (by kernel_rfl) (by kernel_rfl) rfl rfl (Qt.load rfl (Ld.one (v := .slice B1 n1 a1) (Has.ro h2) Tryz.one23 rfl)) ?_
  refine D.qX (k := 3) rfl (by kernel_rfl) (by kernel_rfl) (by kernel_rfl) rfl rfl (Qt.load rfl (Ld.one (v := .slice B2 n2 a2) (Has.ro h3) Tryz.one23 rfl)) ?_
  refine D.cX (k := 4) rfl (by kernel_rfl) (by kernel_rfl) (by kernel_rfl) rfl rfl (CalU.con0 Tryz.ent48 rfl (fun w hw => Calls.ret (pickI_true B1 n1 a1 B2 n2 a2 w))) ?_
  refine D.nS (k := 5) (Sub.refl _) rfl (by kernel_rfl) (by kernel_rfl) rfl rfl (OpV.con (Pre := []) (R := _) Tryz.ent47 rfl (List.Perm.refl _) (fun w hw => hX w (hw.sub (Sub.nil _))) ?_)
  rintro v L' ⟨O1, d1, t1, rfl, rfl, e1, l1⟩
  refine ⟨Sub.nil _, ?_⟩
  refine D.qX (k := 6) rfl (by kernel_rfl) (by kernel_rfl) (by kernel_rfl) rfl rfl (Qt.extract rfl rfl) ?_
  refine D.qX (k := 7) rfl (by kernel_rfl) (by kernel_rfl) (by kernel_rfl) rfl rfl (Qt.extract rfl rfl) ?_
  refine D.qX (k := 8) rfl (by kernel_rfl) (by kernel_rfl) (by kernel_rfl) rfl rfl (Qt.assign (by conv => lhs; whnf)) ?_
  refine D.qX (k := 9) rfl (by kernel_rfl) (by kernel_rfl) (by kernel_rfl) rfl rfl (Qt.assign (by conv => lhs; whnf)) ?_
  refine D.done (Sub.nil _) (by kernel_rfl) ?_
  refine TC.ret ?_
  refine finQ.ret (RVs.tmp (by conv => lhs; whnf) (RVs.tmp (by conv => lhs; whnf) RVs.nil)) (Sub.refl _) ?_
  exact ⟨O1, d1, t1, rfl, rfl, e1, l1⟩
theorem icl_trueC (q1 q2 q3 : Nat) (A : Option Addr) (n c : Nat) (B1 : Option Addr) (n1 a1 : Nat) (B2 : Option Addr) (n2 a2 : Nat) (X : Option (List (List UInt8))) (w0 : World) (h1 : Ro w0 [] (Blk q1 22 [.slice A n c])) (h2 : Ro w0 [] (Blk q2 23 [.slice B1 n1 a1])) (h3 : Ro w0 [] (Blk q3 23 [.slice B2 n2 a2])) (hX : ∀ w, St w0 [] [] w → Calls Tryz.prog 47 #[.slice A n c, .slice B1 n1 a1] w (Post w [] (TxQ X))) :
    Calls Tryz.prog 46 #[.bool true, .pointer (some ⟨q1, 0, none⟩), .pointer (some ⟨q2, 0, none⟩), .pointer (some ⟨q3, 0, none⟩)] w0 (Post w0 [] (TxQ X)) := by
  cases X with
  | none => exact icl_trueN q1 q2 q3 A n c B1 n1 a1 B2 n2 a2 w0 h1 h2 h3 hX
  | some a => exact icl_trueS q1 q2 q3 A n c B1 n1 a1 B2 n2 a2 a w0 h1 h2 h3 hX
theorem items_htrue (b3 b4 b5 : Nat) (A : Option Addr) (c : Nat) (xs : List Nat) (hn : xs.length ≤ 16384) (B1 : Option Addr) (a1 : Nat) (l1 : List Go.E.Item) (B2 : Option Addr) (a2 : Nat) (l2 : List Go.E.Item) (w0 : World) (hlow : ∀ x ∈ xs, x < 18446744073709551616) (hR : Ro w0 [] (SlA A (u64s xs))) (hB1 : Ro w0 [] (SlA B1 (l1.flatMap itemL))) (hB2 : Ro w0 [] (SlA B2 (l2.flatMap itemL))) (h3 : Ro w0 [] (Blk b3 22 [.slice A xs.length c])) (h4 : Ro w0 [] (Blk b4 23 [.slice B1 l1.length a1])) (h5 : Ro w0 [] (Blk b5 23 [.slice B2 l2.length a2])) :
    ∀ w, St w0 [] [] w → Calls Tryz.prog 46 ((([.bool true] : List Value) ++ (#[.pointer (some ⟨b3, 0, none⟩), .pointer (some ⟨b4, 0, none⟩), .pointer (some ⟨b5, 0, none⟩)] : Array Value).toList).toArray) w (Post w [] (TxQ (itemQ xs l1))) := fun w s =>
  icl_trueC b3 b4 b5 A xs.length c B1 l1.length a1 B2 l2.length a2 (itemQ xs l1) w (h3.go s (fun b hb => by cases hb)) (h4.go s (fun b hb => by cases hb)) (h5.go s (fun b hb => by cases hb)) (fun w2 s2 => itexts47_walk A c xs B1 a1 l1 hn w2 hlow ((hR.go s (fun b hb => by cases hb)).go s2 (fun b hb => by cases hb)) ((hB1.go s (fun b hb => by cases hb)).go s2 (fun b hb => by cases hb)))

set_option maxHeartbeats 400000 in
theorem icl_falseN (q1 q2 q3 : Nat) (A : Option Addr) (n c : Nat) (B1 : Option Addr) (n1 a1 : Nat) (B2 : Option Addr) (n2 a2 : Nat) (w0 : World) (h1 : Ro w0 [] (Blk q1 22 [.slice A n c])) (h2 : Ro w0 [] (Blk q2 23 [.slice B1 n1 a1])) (h3 : Ro w0 [] (Blk q3 23 [.slice B2 n2 a2])) (hX : ∀ w, St w0 [] [] w → Calls Tryz.prog 47 #[.slice A n c, .slice B2 n2 a2] w (Post w [] (TxQ none))) :
    Calls Tryz.prog 46 #[.bool false, .pointer (some ⟨q1, 0, none⟩), .pointer (some ⟨q2, 0, none⟩), .pointer (some ⟨q3, 0, none⟩)] w0 (Post w0 [] fun v L => TxQ none v L) := by
  refine Calls.of (L := []) (n := 15) (rs := [.tmp 5, .tmp 6]) Tryz.func46 rfl rfl rfl (Nat.le_of_ble_eq_true rfl) (Sat.nil _) ?_
  refine TC.seq ?_
  refine TC.region ?_
  refine S.q rfl rfl (Qt.assign (by conv => lhs; whnf)) ?_
  refine S.q rfl rfl (Qt.assign (by conv => lhs; whnf)) ?_
  refine S.nil ?_
  refine TC.seq ?_
  refine S.draw ([], [5]) Tryz.mixed (Sub.refl _) ?_
  refine D.qX (k := 0) rfl (by kernel_rfl) (by kernel_rfl) (by kernel_rfl) rfl rfl (Qt.load rfl (Ld.one (v := .slice A n c) (Has.ro h1) Tryz.one22 rfl)) ?_
  refine D.qX (k := 1) rfl (by kernel_rfl) (by kernel_rfl) (by kernel_rfl) rfl rfl (Qt.move (by conv => lhs; whnf)) ?_
  refine D.qX (k := 2) rfl (by kernel_rfl) (by kernel_rfl) (by kernel_rfl) rfl rfl (Qt.load rfl (Ld.one (v := .slice B1 n1 a1) (Has.ro h2) Tryz.one23 rfl)) ?_
  refine D.qX (k := 3) rfl (by kernel_rfl) (by kernel_rfl) (by kernel_rfl) rfl rfl (Qt.load rfl (Ld.one (v := .slice B2 n2 a2) (Has.ro h3) Tryz.one23 rfl)) ?_
  refine D.cX (k := 4) rfl (by kernel_rfl) (by kernel_rfl) (by kernel_rfl) rfl rfl (CalU.con0 Tryz.ent48 rfl (fun w hw => Calls.ret (pickI_false B1 n1 a1 B2 n2 a2 w))) ?_
  refine D.nS (k := 5) (Sub.refl _) rfl (by kernel_rfl) (by kernel_rfl) rfl rfl (OpV.con (Pre := []) (R := _) Tryz.ent47 rfl (List.Perm.refl _) (fun w hw => hX w (hw.sub (Sub.nil _))) ?_)
  rintro v L' ⟨k1, rfl, rfl⟩
  refine ⟨Sub.refl _, ?_⟩
  refine D.qX (k := 6) rfl (by kernel_rfl) (by kernel_rfl) (by kernel_rfl) rfl rfl (Qt.extract rfl rfl) ?_
  refine D.qX (k := 7) rfl (by kernel_rfl) (by kernel_rfl) (by kernel_rfl) rfl rfl (Qt.extract rfl rfl) ?_
  refine D.qX (k := 8) rfl (by kernel_rfl) (by kernel_rfl) (by kernel_rfl) rfl rfl (Qt.assign (by conv => lhs; whnf)) ?_
  refine D.qX (k := 9) rfl (by kernel_rfl) (by kernel_rfl) (by kernel_rfl) rfl rfl (Qt.assign (by conv => lhs; whnf)) ?_
  refine D.done (Sub.refl _) (by kernel_rfl) ?_
  refine TC.ret ?_
  refine finQ.ret (RVs.tmp (by conv => lhs; whnf) (RVs.tmp (by conv => lhs; whnf) RVs.nil)) (Sub.nil _) ?_
  exact ⟨k1, rfl, rfl⟩
set_option maxHeartbeats 400000 in
theorem icl_falseS (q1 q2 q3 : Nat) (A : Option Addr) (n c : Nat) (B1 : Option Addr) (n1 a1 : Nat) (B2 : Option Addr) (n2 a2 : Nat) (a : List (List UInt8)) (w0 : World) (h1 : Ro w0 [] (Blk q1 22 [.slice A n c])) (h2 : Ro w0 [] (Blk q2 23 [.slice B1 n1 a1])) (h3 : Ro w0 [] (Blk q3 23 [.slice B2 n2 a2])) (hX : ∀ w, St w0 [] [] w → Calls Tryz.prog 47 #[.slice A n c, .slice B2 n2 a2] w (Post w [] (TxQ (some a)))) :
    Calls Tryz.prog 46 #[.bool false, .pointer (some ⟨q1, 0, none⟩), .pointer (some ⟨q2, 0, none⟩), .pointer (some ⟨q3, 0, none⟩)] w0 (Post w0 [] fun v L => TxQ (some a) v L) := by
  refine Calls.of (L := []) (n := 15) (rs := [.tmp 5, .tmp 6]) Tryz.func46 rfl rfl rfl (Nat.le_of_ble_eq_true rfl) (Sat.nil _) ?_
  refine TC.seq ?_
  refine TC.region ?_
  refine S.q rfl rfl (Qt.assign (by conv => lhs; whnf)) ?_
  refine S.q rfl rfl (Qt.assign (by conv => lhs; whnf)) ?_
  refine S.nil ?_
  refine TC.seq ?_
  refine S.draw ([], [5]) Tryz.mixed (Sub.refl _) ?_
  refine D.qX (k := 0) rfl (by kernel_rfl) (by kernel_rfl) (by kernel_rfl) rfl rfl (Qt.load rfl (Ld.one (v := .slice A n c) (Has.ro h1) Tryz.one22 rfl)) ?_
  refine D.qX (k := 1) rfl (by kernel_rfl) (by kernel_rfl) (by kernel_rfl) rfl rfl (Qt.move (by conv => lhs; whnf)) ?_
  refine D.qX (k := 2) rfl (by kernel_rfl) (by kernel_rfl) (by kernel_rfl) rfl rfl (Qt.load rfl (Ld.one (v := .slice B1 n1 a1) (Has.ro h2) Tryz.one23 rfl)) ?_
  refine D.qX (k := 3) rfl (by kernel_rfl) (by kernel_rfl) (by kernel_rfl) rfl rfl (Qt.load rfl (Ld.one (v := .slice B2 n2 a2) (Has.ro h3) Tryz.one23 rfl)) ?_
  refine D.cX (k := 4) rfl (by kernel_rfl) (by kernel_rfl) (by kernel_rfl) rfl rfl (CalU.con0 Tryz.ent48 rfl (fun w hw => Calls.ret (pickI_false B1 n1 a1 B2 n2 a2 w))) ?_
  refine D.nS (k := 5) (Sub.refl _) rfl (by kernel_rfl) (by kernel_rfl) rfl rfl (OpV.con (Pre := []) (R := _) Tryz.ent47 rfl (List.Perm.refl _) (fun w hw => hX w (hw.sub (Sub.nil _))) ?_)
  rintro v L' ⟨O1, d1, t1, rfl, rfl, e1, l1⟩
  refine ⟨Sub.nil _, ?_⟩
  refine D.qX (k := 6) rfl (by kernel_rfl) (by kernel_rfl) (by kernel_rfl) rfl rfl (Qt.extract rfl rfl) ?_
  refine D.qX (k := 7) rfl (by kernel_rfl) (by kernel_rfl) (by kernel_rfl) rfl rfl (Qt.extract rfl rfl) ?_
  refine D.qX (k := 8) rfl (by kernel_rfl) (by kernel_rfl) (by kernel_rfl) rfl rfl (Qt.assign (by conv => lhs; whnf)) ?_
  refine D.qX (k := 9) rfl (by kernel_rfl) (by kernel_rfl) (by kernel_rfl) rfl rfl (Qt.assign (by conv => lhs; whnf)) ?_
  refine D.done (Sub.nil _) (by kernel_rfl) ?_
  refine TC.ret ?_
  refine finQ.ret (RVs.tmp (by conv => lhs; whnf) (RVs.tmp (by conv => lhs; whnf) RVs.nil)) (Sub.refl _) ?_
  exact ⟨O1, d1, t1, rfl, rfl, e1, l1⟩
theorem icl_falseC (q1 q2 q3 : Nat) (A : Option Addr) (n c : Nat) (B1 : Option Addr) (n1 a1 : Nat) (B2 : Option Addr) (n2 a2 : Nat) (X : Option (List (List UInt8))) (w0 : World) (h1 : Ro w0 [] (Blk q1 22 [.slice A n c])) (h2 : Ro w0 [] (Blk q2 23 [.slice B1 n1 a1])) (h3 : Ro w0 [] (Blk q3 23 [.slice B2 n2 a2])) (hX : ∀ w, St w0 [] [] w → Calls Tryz.prog 47 #[.slice A n c, .slice B2 n2 a2] w (Post w [] (TxQ X))) :
    Calls Tryz.prog 46 #[.bool false, .pointer (some ⟨q1, 0, none⟩), .pointer (some ⟨q2, 0, none⟩), .pointer (some ⟨q3, 0, none⟩)] w0 (Post w0 [] (TxQ X)) := by
  cases X with
  | none => exact icl_falseN q1 q2 q3 A n c B1 n1 a1 B2 n2 a2 w0 h1 h2 h3 hX
  | some a => exact icl_falseS q1 q2 q3 A n c B1 n1 a1 B2 n2 a2 a w0 h1 h2 h3 hX
theorem items_hfalse (b3 b4 b5 : Nat) (A : Option Addr) (c : Nat) (xs : List Nat) (hn : xs.length ≤ 16384) (B1 : Option Addr) (a1 : Nat) (l1 : List Go.E.Item) (B2 : Option Addr) (a2 : Nat) (l2 : List Go.E.Item) (w0 : World) (hlow : ∀ x ∈ xs, x < 18446744073709551616) (hR : Ro w0 [] (SlA A (u64s xs))) (hB1 : Ro w0 [] (SlA B1 (l1.flatMap itemL))) (hB2 : Ro w0 [] (SlA B2 (l2.flatMap itemL))) (h3 : Ro w0 [] (Blk b3 22 [.slice A xs.length c])) (h4 : Ro w0 [] (Blk b4 23 [.slice B1 l1.length a1])) (h5 : Ro w0 [] (Blk b5 23 [.slice B2 l2.length a2])) :
    ∀ w, St w0 [] [] w → Calls Tryz.prog 46 ((([.bool false] : List Value) ++ (#[.pointer (some ⟨b3, 0, none⟩), .pointer (some ⟨b4, 0, none⟩), .pointer (some ⟨b5, 0, none⟩)] : Array Value).toList).toArray) w (Post w [] (TxQ (itemQ xs l2))) := fun w s =>
  icl_falseC b3 b4 b5 A xs.length c B1 l1.length a1 B2 l2.length a2 (itemQ xs l2) w (h3.go s (fun b hb => by cases hb)) (h4.go s (fun b hb => by cases hb)) (h5.go s (fun b hb => by cases hb)) (fun w2 s2 => itexts47_walk A c xs B2 a2 l2 hn w2 hlow ((hR.go s (fun b hb => by cases hb)).go s2 (fun b hb => by cases hb)) ((hB2.go s (fun b hb => by cases hb)).go s2 (fun b hb => by cases hb)))

set_option maxHeartbeats 800000 in
theorem items9_walk (A : Option Addr) (c : Nat) (xs : List Nat) (hn : xs.length ≤ 16384) (B1 : Option Addr) (a1 : Nat) (l1 : List Go.E.Item) (B2 : Option Addr) (a2 : Nat) (l2 : List Go.E.Item) (w0 : World) (hlow : ∀ x ∈ xs, x < 18446744073709551616) (hR : Ro w0 [] (SlA A (u64s xs))) (hB1 : Ro w0 [] (SlA B1 (l1.flatMap itemL))) (hB2 : Ro w0 [] (SlA B2 (l2.flatMap itemL))) :
    Calls Tryz.prog 9 #[.slice A xs.length c, .slice B1 l1.length a1, .slice B2 l2.length a2] w0 (Post w0 [] fun v L => PxQ 114 (pairX (itemQ xs l1) (itemQ xs l2)) v L) := by
  refine Calls.of (L := []) (n := 9) (rs := [.tmp 6]) Tryz.func9 rfl rfl rfl (Nat.le_of_ble_eq_true rfl) (Sat.nil _) ?_
  refine TC.seq ?_
  refine TC.region ?_
  refine S.opS rfl rfl (OpV.box (v := .slice A xs.length c) rfl (fun b3 => ?_))
  refine S.opS rfl rfl (OpV.box (v := .slice B1 l1.length a1) rfl (fun b4 => ?_))
  refine S.opS rfl rfl (OpV.box (v := .slice B2 l2.length a2) rfl (fun b5 => ?_))
  refine S.q rfl rfl (Qt.assign (by conv => lhs; whnf)) ?_
  refine S.nil ?_
  refine TC.seq ?_
  refine TC.region ?_
  refine S.q rfl rfl (Qt.makeFuncL (fs := []) (cs := [.pointer (some ⟨b3, 0, none⟩), .pointer (some ⟨b4, 0, none⟩), .pointer (some ⟨b5, 0, none⟩)]) rfl rfl) ?_
  refine S.opS rfl rfl (OpV.con (Pre := []) (R := _) Tryz.ent45 rfl (List.Perm.refl _) (fun w hw => both_C 46 #[.pointer (some ⟨b3, 0, none⟩), .pointer (some ⟨b4, 0, none⟩), .pointer (some ⟨b5, 0, none⟩)] Tryz.ent46 (itemQ xs l1) (itemQ xs l2) w (items_htrue b3 b4 b5 A c xs hn B1 a1 l1 B2 a2 l2 w hlow (Rd.ro hR w hw) (Rd.ro hB1 w hw) (Rd.ro hB2 w hw) (Rd.at 2 rfl w hw) (Rd.at 1 rfl w hw) (Rd.at 0 rfl w hw)) (items_hfalse b3 b4 b5 A c xs hn B1 a1 l1 B2 a2 l2 w hlow (Rd.ro hR w hw) (Rd.ro hB1 w hw) (Rd.ro hB2 w hw) (Rd.at 2 rfl w hw) (Rd.at 1 rfl w hw) (Rd.at 0 rfl w hw))) ?_)
  rintro v L' ⟨O, d, pp, Ls, rfl, rfl, q1, q2, q3⟩
  refine S.q rfl rfl (Qt.assign (by conv => lhs; whnf)) ?_
  refine S.nil ?_
  refine TC.ret ?_
  refine finQ.ret (RVs.tmp (by conv => lhs; whnf) RVs.nil) (Sub.keep _ (Sub.keep _ (Sub.drop _ (Sub.drop _ (Sub.drop _ (Sub.nil [])))))) ?_
  exact ⟨O, d, pp, Ls, rfl, rfl, q1, q2, q3⟩
end Go.Proofs.YtgdjcmehlhebdaaGreatDoor
namespace Go.Proofs.YtgdjcmehlhebdaaGreatDoor
open Go.E
set_option linter.unusedVariables false
set_option maxRecDepth 4000
theorem Tryz.ent53 : Enters Tryz.prog 53 := ⟨_, Tryz.func53, by kernel_rfl, rfl⟩
theorem Tryz.ent54 : Enters Tryz.prog 54 := ⟨_, Tryz.func54, by kernel_rfl, rfl⟩
theorem Tryz.ent56 : Enters Tryz.prog 56 := ⟨_, Tryz.func56, by kernel_rfl, rfl⟩
theorem Tryz.seal136 : SealT Tryz.prog 136 := ⟨_, _, _, _, Tryz.underlying136, by kernel_rfl, ⟨by decide, by decide, by decide⟩, ⟨rfl, rfl, rfl⟩, Tryz.underlying40, Tryz.underlying89, Tryz.underlying59, Tryz.underlying5, Tryz.cells5, ⟨by kernel_rfl, by kernel_rfl⟩, by kernel_rfl, by kernel_rfl⟩
set_option maxHeartbeats 800000 in
theorem docs12_walk (B : Option Addr) (b : Nat) (l : List Go.E.Item) (hn : l.length ≤ 65536) (w0 : World) (hB : Ro w0 [] (SlA B (l.flatMap itemL))) :
    Calls Tryz.prog 12 #[.slice B l.length b] w0 (Post w0 [] fun v L => ∃ O d, v = .slice O l.length d ∧ L = [OwnA 93 50 O l.length d (l.flatMap itemL)]) := by
  refine Calls.of (L := []) (n := 23) (rs := [.tmp 2]) Tryz.func12 rfl rfl rfl (Nat.le_of_ble_eq_true rfl) (Sat.nil _) ?_
  refine TC.seq ?_
  refine TC.region ?_
  refine S.q rfl rfl (Qt.assign (by conv => lhs; whnf)) ?_
  refine S.nil ?_
  refine TC.seq ?_
  refine TC.region ?_
  refine S.q rfl rfl (Qt.assign (by conv => lhs; whnf)) ?_
  refine S.nil ?_
  refine TC.seq ?_
  refine TC.seq ?_
  refine TC.region ?_
  refine S.q rfl rfl (Qt.move (by conv => lhs; whnf)) ?_
  refine S.q rfl rfl (Qt.len_slice Tryz.underlying23 rfl) ?_
  refine S.q rfl rfl (Qt.move (by conv => lhs; whnf)) ?_
  refine S.nil ?_
  refine TC.block ?_
  refine TC.ownNil 93 50 ?_
  refine TC.loop (γ := Nat × Option Addr × Nat) [9, 10, 11, 5, 12, 13, 14, 15, 16, 17, 18, 19, 20, 3, 21, 8] (fun g => [(8, .int .i64 ((g.1 : Nat) : Int)), (3, .slice g.2.1 g.1 g.2.2)]) (fun g => [OwnA 93 50 g.2.1 g.1 g.2.2 ((l.take g.1).flatMap itemL)]) (fun g => g.1 ≤ l.length) (fun g => l.length - g.1) ((0, none, 0))
    (Nat.zero_le _) ⟨Out.refl _ _, (List.forall_mem_cons.2 ⟨rfl, (List.forall_mem_cons.2 ⟨rfl, (fun _ h => nomatch h)⟩)⟩)⟩ (Sub.refl _) ?_
  rintro ⟨k, O, d⟩ u hk
  dsimp only at hk
  show TC _ _ _ (puts [(8, .int .i64 (k : Int)), (3, .slice O k d)] (scr _ u _)) [OwnA 93 50 O k d ((l.take k).flatMap itemL)]
  refine TC.seq ?_
  refine TC.region ?_
  refine S.dec rfl rfl (Qt.lt rfl rfl) (fun h9 => ?_) (fun h9 => ?_)
  · refine S.nil ?_
    refine TC.seq ?_
    refine S.if_t rfl ?_
    refine TC.skip ?_
    refine TC.seq ?_
    refine TC.block ?_
    refine TC.seq ?_
    refine TC.region ?_
    refine S.q rfl rfl (Qt.index Tryz.underlying23 Tryz.cells138 rfl rfl (by omega) (Has.ro hB) (by rw [items_len]; omega)) ?_
    refine S.q rfl rfl (Qt.load rfl (Ld.slr (vs := itemL (l.getD k item0)) (Has.ro hB) Tryz.row138 (by rw [itemL_length]; exact Tryz.cells138) (by rw [itemL_length]; decide) (items_at (by omega) rfl))) ?_
    refine S.opS rfl rfl (OpV.alloc Tryz.zero138 (fun b5 => ?_))
    refine S.opN rfl (OpV.storeV0 (v := .agg (itemL (l.getD k item0)).toArray) rfl rfl (by rw [vl_agg, itemL_length]; exact Tryz.cells138) (itemL_one _) (by rw [vl_agg, itemL_length]; rfl) ?_)
    refine S.nil ?_
    refine S.draw ([8], [7]) Tryz.mixed (Sub.keep _ (Sub.drop _ (Sub.nil []))) ?_
    refine D.qX (k := 0) rfl (by kernel_rfl) (by kernel_rfl) (by kernel_rfl) rfl rfl (Qt.move (by conv => lhs; whnf)) ?_
    refine D.qX (k := 1) rfl (by kernel_rfl) (by kernel_rfl) (by kernel_rfl) rfl rfl (Qt.field Tryz.underlying138 rfl Tryz.cells4 rfl) ?_
    refine D.qX (k := 2) rfl (by kernel_rfl) (by kernel_rfl) (by kernel_rfl) rfl rfl (Qt.load rfl (Ld.one (v := .bool (l.getD k item0).there) (Has.at 0 rfl) Tryz.one4 rfl)) ?_
    refine D.qX (k := 3) rfl (by kernel_rfl) (by kernel_rfl) (by kernel_rfl) rfl rfl (Qt.field Tryz.underlying138 rfl Tryz.cells136 rfl) ?_
    refine D.qX (k := 4) rfl (by kernel_rfl) (by kernel_rfl) (by kernel_rfl) rfl rfl (Qt.load rfl (Ld.row (vs := sealL (l.getD k item0).s) (Has.at 0 rfl) Tryz.row136 (by rw [sealL_length]; exact Tryz.cells136) (itemL_seal _))) ?_
    refine D.cX (k := 5) rfl (by kernel_rfl) (by kernel_rfl) (by kernel_rfl) rfl rfl (CalU.con0 Tryz.ent54 rfl (fun w hw => doc54_R (l.getD k item0).s w)) ?_
    refine D.qX (k := 6) rfl (by kernel_rfl) (by kernel_rfl) (by kernel_rfl) rfl rfl (Qt.as (Qt.buildS (vs := [.bool (l.getD k item0).there, .agg (sealL (l.getD k item0).s).toArray]) (pls := #[(0, 1), (1, 49)]) Tryz.underlying93 (fun w => by kernel_rfl) Tryz.zero93 rfl ⟨rfl, (by show some (1, 49) = some (1, (sealL (l.getD k item0).s).length); rw [sealL_length]), trivial⟩ (by rw [item_flat, itemL_length]; rfl)) (by rw [item_flat])) ?_
    refine D.nS (k := 7) (Sub.keep _ (Sub.drop _ (Sub.nil []))) rfl (by kernel_rfl) (by kernel_rfl) rfl rfl (OpV.slice1 (bytes := 64) (v := .agg (itemL (l.getD k item0)).toArray) Tryz.underlying31 Tryz.elem93 (by decide) rfl (by rw [vl_agg, itemL_length]) (fun g19 => ⟨Sub.drop _ (Sub.keep _ (Sub.keep _ (Sub.nil []))), ?_⟩))
    refine D.opS (k := 8) (Sub.drop _ (Sub.keep _ (Sub.drop _ (Sub.nil [])))) rfl (by kernel_rfl) (by kernel_rfl) rfl rfl (OpV.app2 (bytes := 64) (news := itemL (l.getD k item0)) Tryz.underlying31 Tryz.elem93 rfl rfl (Has.blk (cs := itemL (l.getD k item0)) (Has.at 0 rfl)) (by rw [itemL_length]) (List.all_eq_true.1 (itemL_one _)) (by simp only [maxLen]; omega) (by omega) (fun O3 d3 => ⟨Sub.drop _ (Sub.keep _ (Sub.drop _ (Sub.nil []))), ?_⟩))
    refine D.qX (k := 9) rfl (by kernel_rfl) (by kernel_rfl) (by kernel_rfl) rfl rfl (Qt.assign (by conv => lhs; whnf)) ?_
    refine D.done (Sub.drop _ (Sub.keep _ (Sub.drop _ (Sub.nil [])))) (by kernel_rfl) ?_
    refine TC.region ?_
    refine S.q rfl rfl (Qt.add (b := 1) rfl rfl (by simp only [kmax]; omega)) ?_
    refine S.q rfl rfl (Qt.move (by conv => lhs; whnf)) ?_
    refine S.nil ?_
    refine ⟨(k + 1, O3, d3), ?_, ?_, ⟨?_, (List.forall_mem_cons.2 ⟨rfl, (List.forall_mem_cons.2 ⟨rfl, (fun _ h => nomatch h)⟩)⟩)⟩, (by dsimp only; rw [item_take (by omega)]; exact Sub.trans (Sub.keep _ (Sub.drop _ (Sub.drop _ (Sub.nil [])))) (Sub.trans (Sub.keep _ (Sub.refl _)) (Sub.of_perm (List.perm_middle (l₁ := [_, _])))))⟩
    · show _ ≤ _; dsimp only; omega
    · show _ < _; dsimp only; omega
    repeat (first | exact Out.refl _ _ | refine Out.put rfl ?_ | refine Out.puts rfl ?_ | refine Out.scr ?_ | refine Out.scr' rfl ?_)
  · refine S.nil ?_
    refine TC.seq ?_
    refine S.if_f rfl ?_
    refine TC.exit ?_
    refine TC.seq ?_
    refine TC.region ?_
    refine S.q rfl rfl (Qt.move (by conv => lhs; whnf)) ?_
    refine S.q rfl rfl (Qt.assign (by conv => lhs; whnf)) ?_
    refine S.nil ?_
    refine TC.ret ?_
    refine finQ.ret (RVs.tmp (by conv => lhs; whnf) RVs.nil) (Sub.refl _) ?_
    obtain rfl : k = l.length := by omega
    rw [List.take_length]
    exact ⟨O, d, rfl, rfl⟩
set_option maxHeartbeats 1600000 in
theorem alike15_walk (A : Option Addr) (c : Nat) (a : List Go.E.Item) (hn : a.length ≤ 65536) (B : Option Addr) (d : Nat) (b : List Go.E.Item) (w0 : World) (hA : Ro w0 [] (SlA A (a.flatMap itemL))) (hB : Ro w0 [] (SlA B (b.flatMap itemL))) :
    Calls Tryz.prog 15 #[.slice A a.length c, .slice B b.length d] w0 (Post w0 [] fun v L => ∃ r : Bool, v = .bool r ∧ L = [] ∧ (r = true ↔ alikeA a b)) := by
  refine Calls.of (L := []) (n := 42) (rs := [.tmp 4]) Tryz.func15 rfl rfl rfl (Nat.le_of_ble_eq_true rfl) (Sat.nil _) ?_
  refine TC.seq ?_
  refine TC.region ?_
  refine S.q rfl rfl (Qt.assign (by conv => lhs; whnf)) ?_
  refine S.nil ?_
  refine TC.seq ?_
  refine TC.seq ?_
  refine TC.region ?_
  refine S.q rfl rfl (Qt.move (by conv => lhs; whnf)) ?_
  refine S.q rfl rfl (Qt.len_slice Tryz.underlying23 rfl) ?_
  refine S.q rfl rfl (Qt.move (by conv => lhs; whnf)) ?_
  refine S.q rfl rfl (Qt.len_slice Tryz.underlying23 rfl) ?_
  refine S.dec rfl rfl (Qt.ne rfl rfl) (fun h11 => ?_) (fun h11 => ?_)
  · refine S.nil ?_
    refine S.if_t rfl ?_
    refine TC.seq ?_
    refine TC.region ?_
    refine S.q rfl rfl (Qt.assign (by conv => lhs; whnf)) ?_
    refine S.nil ?_
    refine TC.ret ?_
    refine finQ.ret (RVs.tmp (by conv => lhs; whnf) RVs.nil) (Sub.nil _) ?_
    exact ⟨false, rfl, rfl, (fun h => by cases h), fun h => absurd h.1 h11⟩
  · refine S.nil ?_
    refine S.if_f rfl ?_
    refine TC.skip ?_
    refine TC.seq ?_
    refine TC.seq ?_
    refine TC.region ?_
    refine S.q rfl rfl (Qt.move (by conv => lhs; whnf)) ?_
    refine S.q rfl rfl (Qt.len_slice Tryz.underlying23 rfl) ?_
    refine S.q rfl rfl (Qt.move (by conv => lhs; whnf)) ?_
    refine S.nil ?_
    refine TC.block ?_
    refine TC.loop (γ := Nat) [15, 16, 17, 18, 6, 5, 19, 20, 21, 22, 23, 24, 25, 26, 27, 28, 29, 30, 31, 32, 33, 34, 35, 36, 37, 38, 39, 40, 4, 41, 14] (fun k => [(14, .int .i64 (k : Int))]) (fun k => []) (fun k => k ≤ a.length ∧ ∀ i, i < k → alikeI (a.getD i item0) (b.getD i item0)) (fun k => a.length - k) (0)
      ⟨Nat.zero_le _, fun i h => absurd h (Nat.not_lt_zero _)⟩ ⟨Out.refl _ _, (List.forall_mem_cons.2 ⟨rfl, (fun _ h => nomatch h)⟩)⟩ (Sub.nil _) ?_
    rintro k u ⟨hk, hq⟩
    refine TC.seq ?_
    refine TC.region ?_
    refine S.dec rfl rfl (Qt.lt rfl rfl) (fun h15 => ?_) (fun h15 => ?_)
    · refine S.nil ?_
      refine TC.seq ?_
      refine S.if_t rfl ?_
      refine TC.skip ?_
      refine TC.seq ?_
      refine TC.block ?_
      refine TC.seq ?_
      refine TC.region ?_
      refine S.q rfl rfl (Qt.move (by conv => lhs; whnf)) ?_
      refine S.q rfl rfl (Qt.index Tryz.underlying23 Tryz.cells138 rfl rfl (by omega) (Has.ro hA) (by rw [items_len]; omega)) ?_
      refine S.q rfl rfl (Qt.load rfl (Ld.slr (vs := itemL (a.getD k item0)) (Has.ro hA) Tryz.row138 (by rw [itemL_length]; exact Tryz.cells138) (by rw [itemL_length]; decide) (items_at (by omega) rfl))) ?_
      refine S.opS rfl rfl (OpV.alloc Tryz.zero138 (fun b6 => ?_))
      refine S.q rfl rfl (Qt.assign (by conv => lhs; whnf)) ?_
      refine S.opN rfl (OpV.storeV0 (v := .agg (itemL (a.getD k item0)).toArray) rfl rfl (by rw [vl_agg, itemL_length]; exact Tryz.cells138) (itemL_one _) (by rw [vl_agg, itemL_length]; rfl) ?_)
      refine S.nil ?_
      refine TC.seq ?_
      refine S.draw ([], []) Tryz.mixed (Sub.nil _) ?_
      refine D.qX (k := 0) rfl (by kernel_rfl) (by kernel_rfl) (by kernel_rfl) rfl rfl (Qt.field Tryz.underlying138 rfl Tryz.cells4 rfl) ?_
      refine D.qX (k := 1) rfl (by kernel_rfl) (by kernel_rfl) (by kernel_rfl) rfl rfl (Qt.load rfl (Ld.one (v := .bool (a.getD k item0).there) (Has.at 0 rfl) Tryz.one4 rfl)) ?_
      refine D.qX (k := 2) rfl (by kernel_rfl) (by kernel_rfl) (by kernel_rfl) rfl rfl (Qt.move (by conv => lhs; whnf)) ?_
      refine D.qX (k := 3) rfl (by kernel_rfl) (by kernel_rfl) (by kernel_rfl) rfl rfl (Qt.move (by conv => lhs; whnf)) ?_
      refine D.qX (k := 4) rfl (by kernel_rfl) (by kernel_rfl) (by kernel_rfl) rfl rfl (Qt.index Tryz.underlying23 Tryz.cells138 rfl rfl (by omega) (Has.ro hB) (by rw [items_len]; omega)) ?_
      refine D.qX (k := 5) rfl (by kernel_rfl) (by kernel_rfl) (by kernel_rfl) rfl rfl (Qt.fieldS Tryz.underlying138 rfl Tryz.cells4 rfl (Has.ro hB) (by rw [items_len]; omega)) ?_
      refine D.qX (k := 6) rfl (by kernel_rfl) (by kernel_rfl) (by kernel_rfl) rfl rfl (Qt.load rfl (Ld.sl (v := .bool (b.getD k item0).there) (Has.ro hB) Tryz.one4 (items_at (by omega) rfl 0 _ rfl))) ?_
      refine D.decX (k := 7) rfl (by kernel_rfl) (by kernel_rfl) (by kernel_rfl) rfl rfl (Qt.as (Qt.neb (a := (a.getD k item0).there) (b := (b.getD k item0).there) Tryz.underlying4 rfl rfl) (congrArg Value.bool (bne_dec _ _))) (fun h26 => ?_) (fun h26 => ?_)
      · refine D.qX (k := 8) rfl (by kernel_rfl) (by kernel_rfl) (by kernel_rfl) rfl rfl (Qt.move (by conv => lhs; whnf)) ?_
        refine D.pass (k := 9) rfl (by kernel_rfl) (by kernel_rfl) rfl rfl rfl ?_
        refine D.pass (k := 10) rfl (by kernel_rfl) (by kernel_rfl) rfl rfl rfl ?_
        refine D.pass (k := 11) rfl (by kernel_rfl) (by kernel_rfl) rfl rfl rfl ?_
        refine D.pass (k := 12) rfl (by kernel_rfl) (by kernel_rfl) rfl rfl rfl ?_
        refine D.pass (k := 13) rfl (by kernel_rfl) (by kernel_rfl) rfl rfl rfl ?_
        refine D.pass (k := 14) rfl (by kernel_rfl) (by kernel_rfl) rfl rfl rfl ?_
        refine D.pass (k := 15) rfl (by kernel_rfl) (by kernel_rfl) rfl rfl rfl ?_
        refine D.pass (k := 16) rfl (by kernel_rfl) (by kernel_rfl) rfl rfl rfl ?_
        refine D.pass (k := 17) rfl (by kernel_rfl) (by kernel_rfl) rfl rfl rfl ?_
        refine D.pass (k := 18) rfl (by kernel_rfl) (by kernel_rfl) rfl rfl rfl ?_
        refine D.pass (k := 19) rfl (by kernel_rfl) (by kernel_rfl) rfl rfl rfl ?_
        refine D.pass (k := 20) rfl (by kernel_rfl) (by kernel_rfl) rfl rfl rfl ?_
        refine D.qX (k := 21) rfl (by kernel_rfl) (by kernel_rfl) (by kernel_rfl) rfl rfl (Qt.pick_t rfl (by conv => lhs; whnf)) ?_
        refine D.done (Sub.nil _) (by kernel_rfl) ?_
        refine S.if_t rfl ?_
        refine TC.seq ?_
        refine TC.region ?_
        refine S.q rfl rfl (Qt.assign (by conv => lhs; whnf)) ?_
        refine S.nil ?_
        refine TC.ret ?_
        refine finQ.ret (RVs.tmp (by conv => lhs; whnf) RVs.nil) (Sub.nil _) ?_
        exact ⟨false, rfl, rfl, (fun h => by cases h), fun h => absurd (h.2 k (by omega)).1 h26⟩
      · refine D.qX (k := 8) rfl (by kernel_rfl) (by kernel_rfl) (by kernel_rfl) rfl rfl (Qt.move (by conv => lhs; whnf)) ?_
        refine D.qgX (k := 9) rfl (by kernel_rfl) (by kernel_rfl) (by kernel_rfl) rfl rfl rfl (Qt.field Tryz.underlying138 rfl Tryz.cells4 rfl) ?_
        refine D.decgX (k := 10) rfl (by kernel_rfl) (by kernel_rfl) (by kernel_rfl) rfl rfl rfl (Qt.as (Qt.load rfl (Ld.one (v := .bool (a.getD k item0).there) (Has.at 0 rfl) Tryz.one4 rfl)) (there_dec _)) (fun h29 => ?_) (fun h29 => ?_)
        · refine D.qgX (k := 11) rfl (by kernel_rfl) (by kernel_rfl) (by kernel_rfl) rfl rfl rfl (Qt.move (by conv => lhs; whnf)) ?_
          refine D.qgX (k := 12) rfl (by kernel_rfl) (by kernel_rfl) (by kernel_rfl) rfl rfl rfl (Qt.field Tryz.underlying138 rfl Tryz.cells136 rfl) ?_
          refine D.qgX (k := 13) rfl (by kernel_rfl) (by kernel_rfl) (by kernel_rfl) rfl rfl rfl (Qt.load rfl (Ld.row (vs := sealL (a.getD k item0).s) (Has.at 0 rfl) Tryz.row136 (by rw [sealL_length]; exact Tryz.cells136) (itemL_seal _))) ?_
          refine D.qgX (k := 14) rfl (by kernel_rfl) (by kernel_rfl) (by kernel_rfl) rfl rfl rfl (Qt.move (by conv => lhs; whnf)) ?_
          refine D.qgX (k := 15) rfl (by kernel_rfl) (by kernel_rfl) (by kernel_rfl) rfl rfl rfl (Qt.move (by conv => lhs; whnf)) ?_
          refine D.qgX (k := 16) rfl (by kernel_rfl) (by kernel_rfl) (by kernel_rfl) rfl rfl rfl (Qt.index Tryz.underlying23 Tryz.cells138 rfl rfl (by omega) (Has.ro hB) (by rw [items_len]; omega)) ?_
          refine D.qgX (k := 17) rfl (by kernel_rfl) (by kernel_rfl) (by kernel_rfl) rfl rfl rfl (Qt.fieldS Tryz.underlying138 rfl Tryz.cells136 rfl (Has.ro hB) (by rw [items_len]; omega)) ?_
          refine D.qgX (k := 18) rfl (by kernel_rfl) (by kernel_rfl) (by kernel_rfl) rfl rfl rfl (Qt.load rfl (Ld.slr (vs := sealL (b.getD k item0).s) (Has.ro hB) Tryz.row136 (by rw [sealL_length]; exact Tryz.cells136) (by rw [sealL_length]; decide) (items_seal (by omega) rfl))) ?_
          refine D.decgX (k := 19) rfl (by kernel_rfl) (by kernel_rfl) (by kernel_rfl) rfl rfl rfl (Qt.neSeal (a := (a.getD k item0).s) (b := (b.getD k item0).s) (by kernel_rfl) Tryz.seal136 rfl rfl) (fun h38 => ?_) (fun h38 => ?_)
          · refine D.qgX (k := 20) rfl (by kernel_rfl) (by kernel_rfl) (by kernel_rfl) rfl rfl rfl (Qt.pick_t rfl (by conv => lhs; whnf)) ?_
            refine D.qX (k := 21) rfl (by kernel_rfl) (by kernel_rfl) (by kernel_rfl) rfl rfl (Qt.pick_f rfl (by conv => lhs; whnf)) ?_
            refine D.done (Sub.nil _) (by kernel_rfl) ?_
            refine S.if_t rfl ?_
            refine TC.seq ?_
            refine TC.region ?_
            refine S.q rfl rfl (Qt.assign (by conv => lhs; whnf)) ?_
            refine S.nil ?_
            refine TC.ret ?_
            refine finQ.ret (RVs.tmp (by conv => lhs; whnf) RVs.nil) (Sub.nil _) ?_
            exact ⟨false, rfl, rfl, (fun h => by cases h), fun h => absurd ((h.2 k (by omega)).2 h29) h38⟩
          · refine D.qgX (k := 20) rfl (by kernel_rfl) (by kernel_rfl) (by kernel_rfl) rfl rfl rfl (Qt.pick_t rfl (by conv => lhs; whnf)) ?_
            refine D.qX (k := 21) rfl (by kernel_rfl) (by kernel_rfl) (by kernel_rfl) rfl rfl (Qt.pick_f rfl (by conv => lhs; whnf)) ?_
            refine D.done (Sub.nil _) (by kernel_rfl) ?_
            refine S.if_f rfl ?_
            refine TC.skip ?_
            refine TC.region ?_
            refine S.q rfl rfl (Qt.add (b := 1) rfl rfl (by simp only [kmax]; omega)) ?_
            refine S.q rfl rfl (Qt.move (by conv => lhs; whnf)) ?_
            refine S.nil ?_
            refine ⟨k + 1, ?_, ?_, ⟨?_, (List.forall_mem_cons.2 ⟨rfl, (fun _ h => nomatch h)⟩)⟩, Sub.nil _⟩
            · exact ⟨by show _ ≤ _; omega, fun i hi => (Nat.lt_or_ge i k).elim (hq i) (fun h => by (obtain rfl : i = k := by omega); exact ⟨Decidable.not_not.1 h26, fun _ => Decidable.not_not.1 h38⟩)⟩
            · show _ < _; dsimp only; omega
            repeat (first | exact Out.refl _ _ | refine Out.put rfl ?_ | refine Out.puts rfl ?_ | refine Out.scr ?_ | refine Out.scr' rfl ?_)
        · refine D.qgX (k := 11) rfl (by kernel_rfl) (by kernel_rfl) (by kernel_rfl) rfl rfl rfl (Qt.move (by conv => lhs; whnf)) ?_
          refine D.pass (k := 12) rfl (by kernel_rfl) (by kernel_rfl) rfl rfl rfl ?_
          refine D.pass (k := 13) rfl (by kernel_rfl) (by kernel_rfl) rfl rfl rfl ?_
          refine D.pass (k := 14) rfl (by kernel_rfl) (by kernel_rfl) rfl rfl rfl ?_
          refine D.pass (k := 15) rfl (by kernel_rfl) (by kernel_rfl) rfl rfl rfl ?_
          refine D.pass (k := 16) rfl (by kernel_rfl) (by kernel_rfl) rfl rfl rfl ?_
          refine D.pass (k := 17) rfl (by kernel_rfl) (by kernel_rfl) rfl rfl rfl ?_
          refine D.pass (k := 18) rfl (by kernel_rfl) (by kernel_rfl) rfl rfl rfl ?_
          refine D.pass (k := 19) rfl (by kernel_rfl) (by kernel_rfl) rfl rfl rfl ?_
          refine D.qgX (k := 20) rfl (by kernel_rfl) (by kernel_rfl) (by kernel_rfl) rfl rfl rfl (Qt.pick_f rfl (by conv => lhs; whnf)) ?_
          refine D.qX (k := 21) rfl (by kernel_rfl) (by kernel_rfl) (by kernel_rfl) rfl rfl (Qt.pick_f rfl (by conv => lhs; whnf)) ?_
          refine D.done (Sub.nil _) (by kernel_rfl) ?_
          refine S.if_f rfl ?_
          refine TC.skip ?_
          refine TC.region ?_
          refine S.q rfl rfl (Qt.add (b := 1) rfl rfl (by simp only [kmax]; omega)) ?_
          refine S.q rfl rfl (Qt.move (by conv => lhs; whnf)) ?_
          refine S.nil ?_
          refine ⟨k + 1, ?_, ?_, ⟨?_, (List.forall_mem_cons.2 ⟨rfl, (fun _ h => nomatch h)⟩)⟩, Sub.nil _⟩
          · exact ⟨by show _ ≤ _; omega, fun i hi => (Nat.lt_or_ge i k).elim (hq i) (fun h => by (obtain rfl : i = k := by omega); exact ⟨Decidable.not_not.1 h26, fun h => absurd h h29⟩)⟩
          · show _ < _; dsimp only; omega
          repeat (first | exact Out.refl _ _ | refine Out.put rfl ?_ | refine Out.puts rfl ?_ | refine Out.scr ?_ | refine Out.scr' rfl ?_)
    · refine S.nil ?_
      refine TC.seq ?_
      refine S.if_f rfl ?_
      refine TC.exit ?_
      refine TC.seq ?_
      refine TC.region ?_
      refine S.q rfl rfl (Qt.assign (by conv => lhs; whnf)) ?_
      refine S.nil ?_
      refine TC.ret ?_
      refine finQ.ret (RVs.tmp (by conv => lhs; whnf) RVs.nil) (Sub.nil _) ?_
      exact ⟨true, rfl, rfl, fun _ => ⟨Decidable.not_not.1 h11, fun i hi => hq i (by omega)⟩, fun _ => rfl⟩
theorem alike15_T (A : Option Addr) (c : Nat) (a : List Go.E.Item) (hn : a.length ≤ 65536) (B : Option Addr) (d : Nat) (b : List Go.E.Item) (h : alikeA a b) (w0 : World) (hA : Ro w0 [] (SlA A (a.flatMap itemL))) (hB : Ro w0 [] (SlA B (b.flatMap itemL))) : Calls Tryz.prog 15 #[.slice A a.length c, .slice B b.length d] w0 (Ret w0 (.bool true)) :=
  Calls.ret ((alike15_walk A c a hn B d b w0 hA hB).mono fun e w ⟨v, L, h1, h2, r, h3, h4, hr⟩ => ⟨v, L, h1, h2, by rw [h3, show r = true from (hr.2 h)], h4⟩)
theorem alike15_F (A : Option Addr) (c : Nat) (a : List Go.E.Item) (hn : a.length ≤ 65536) (B : Option Addr) (d : Nat) (b : List Go.E.Item) (h : ¬ alikeA a b) (w0 : World) (hA : Ro w0 [] (SlA A (a.flatMap itemL))) (hB : Ro w0 [] (SlA B (b.flatMap itemL))) : Calls Tryz.prog 15 #[.slice A a.length c, .slice B b.length d] w0 (Ret w0 (.bool false)) :=
  Calls.ret ((alike15_walk A c a hn B d b w0 hA hB).mono fun e w ⟨v, L, h1, h2, r, h3, h4, hr⟩ => ⟨v, L, h1, h2, by rw [h3, show r = false from (Bool.eq_false_iff.2 (fun e => h (hr.1 e)))], h4⟩)

set_option maxHeartbeats 1600000 in
theorem leaves13_walk (E : Nat → H32) (hEm : ∀ w, Tabs 3 1 w [] → Calls Tryz.prog 55 #[] w (Ret w (.agg (hcs (emptL E)).toArray))) (hE0 : E 0 = shaH [0]) (A : Option Addr) (c : Nat) (xs : List Nat) (B : Option Addr) (b : Nat) (l : List Go.E.Item) (hle : l.length ≤ xs.length) (hn : l.length ≤ 65536) (w0 : World) (hlow : ∀ x ∈ xs, x < 18446744073709551616) (hR : Ro w0 [] (SlA A (u64s xs))) (hB : Ro w0 [] (SlA B (l.flatMap itemL))) (hT : Tabs 3 1 w0 []) :
    Calls Tryz.prog 13 #[.slice A xs.length c, .slice B l.length b] w0 (Post w0 [] fun v L => (inR xs l l.length ∧ ∃ O d, v = .tuple #[.slice O l.length d, .bool (decide (xs.length = l.length))] ∧ L = [OwnA 49 32 O l.length d (hcs (itemH xs l l.length))]) ∨ (¬ inR xs l l.length ∧ v = .tuple #[.slice none 0 0, .bool false] ∧ L = [])) := by
  refine Calls.of (L := []) (n := 47) (rs := [.tmp 4, .tmp 5]) Tryz.func13 rfl rfl rfl (Nat.le_of_ble_eq_true rfl) (Sat.nil _) ?_
  refine TC.seq ?_
  refine TC.region ?_
  refine S.q rfl rfl (Qt.assign (by conv => lhs; whnf)) ?_
  refine S.q rfl rfl (Qt.assign (by conv => lhs; whnf)) ?_
  refine S.nil ?_
  refine TC.seq ?_
  refine TC.region ?_
  refine S.q rfl rfl (Qt.assign (by conv => lhs; whnf)) ?_
  refine S.nil ?_
  refine TC.seq ?_
  refine TC.seq ?_
  refine TC.region ?_
  refine S.q rfl rfl (Qt.move (by conv => lhs; whnf)) ?_
  refine S.q rfl rfl (Qt.len_slice Tryz.underlying23 rfl) ?_
  refine S.q rfl rfl (Qt.move (by conv => lhs; whnf)) ?_
  refine S.nil ?_
  refine TC.block ?_
  refine TC.ownNil 49 32 ?_
  refine TC.loop (γ := Nat × Option Addr × Nat) [15, 16, 17, 18, 8, 7, 19, 20, 9, 21, 22, 24, 25, 26, 27, 28, 29, 30, 23, 31, 32, 10, 11, 33, 34, 4, 5, 35, 36, 37, 38, 39, 6, 40, 14] (fun g => [(14, .int .i64 ((g.1 : Nat) : Int)), (6, .slice g.2.1 g.1 g.2.2)]) (fun g => [OwnA 49 32 g.2.1 g.1 g.2.2 (hcs (itemH xs l g.1))]) (fun g => g.1 ≤ l.length ∧ inR xs l g.1) (fun g => l.length - g.1) ((0, none, 0))
    ⟨Nat.zero_le _, fun i h => absurd h (Nat.not_lt_zero _)⟩ ⟨Out.refl _ _, (List.forall_mem_cons.2 ⟨rfl, (List.forall_mem_cons.2 ⟨rfl, (fun _ h => nomatch h)⟩)⟩)⟩ (Sub.refl _) ?_
  rintro ⟨k, O, d⟩ u ⟨hk, hq⟩
  dsimp only at hk hq
  show TC _ _ _ (puts [(14, .int .i64 (k : Int)), (6, .slice O k d)] (scr _ u _)) [OwnA 49 32 O k d (hcs (itemH xs l k))]
  refine TC.seq ?_
  refine TC.region ?_
  refine S.dec rfl rfl (Qt.lt rfl rfl) (fun h15 => ?_) (fun h15 => ?_)
  · refine S.nil ?_
    refine TC.seq ?_
    refine S.if_t rfl ?_
    refine TC.skip ?_
    refine TC.seq ?_
    refine TC.block ?_
    refine TC.seq ?_
    refine TC.region ?_
    refine S.q rfl rfl (Qt.move (by conv => lhs; whnf)) ?_
    refine S.q rfl rfl (Qt.index Tryz.underlying23 Tryz.cells138 rfl rfl (by omega) (Has.ro hB) (by rw [items_len]; omega)) ?_
    refine S.q rfl rfl (Qt.load rfl (Ld.slr (vs := itemL (l.getD k item0)) (Has.ro hB) Tryz.row138 (by rw [itemL_length]; exact Tryz.cells138) (by rw [itemL_length]; decide) (items_at (by omega) rfl))) ?_
    refine S.opS rfl rfl (OpV.alloc Tryz.zero138 (fun b8 => ?_))
    refine S.q rfl rfl (Qt.assign (by conv => lhs; whnf)) ?_
    refine S.opN rfl (OpV.storeV0 (v := .agg (itemL (l.getD k item0)).toArray) rfl rfl (by rw [vl_agg, itemL_length]; exact Tryz.cells138) (itemL_one _) (by rw [vl_agg, itemL_length]; rfl) ?_)
    refine S.nil ?_
    refine TC.seq ?_
    refine TC.region ?_
    refine S.opS rfl rfl (OpV.con0 Tryz.ent55 rfl (fun w hw => hEm w (hT.at hw)) ?_)
    refine S.q rfl rfl (Qt.as (Qt.index_row (i := 0) Tryz.underlying140 Tryz.row49 Tryz.cells49 rfl rfl (by decide)) (show _ = hv (E 0) by rw [hcs_part1 (l := emptL E) (i := 0) (by rw [emptL_length]; decide), emptL_get E (by decide)]; rfl)) ?_
    refine S.opS rfl rfl (OpV.alloc Tryz.zero49 (fun b9 => ?_))
    refine S.opN rfl (OpV.storeV0 (v := hv (E 0)) rfl rfl (hv_size Tryz.cells49) (hv_all _) (hv_len _) ?_)
    refine S.nil ?_
    refine TC.seq ?_
    refine TC.seq ?_
    refine TC.region ?_
    refine S.q rfl rfl (Qt.field Tryz.underlying138 rfl Tryz.cells4 rfl) ?_
    refine S.q rfl rfl (Qt.load rfl (Ld.one (v := .bool (l.getD k item0).there) (Has.at 1 rfl) Tryz.one4 rfl)) ?_
    refine S.nil ?_
    refine TC.ifb rfl (fun b22 => ?_) (fun b22 => ?_)
    · refine TC.seq ?_
      refine S.draw ([11], [10]) Tryz.mixed (Sub.refl _) ?_
      refine D.qX (k := 0) rfl (by kernel_rfl) (by kernel_rfl) (by kernel_rfl) rfl rfl (Qt.move (by conv => lhs; whnf)) ?_
      refine D.qX (k := 1) rfl (by kernel_rfl) (by kernel_rfl) (by kernel_rfl) rfl rfl (Qt.move (by conv => lhs; whnf)) ?_
      refine D.qX (k := 2) rfl (by kernel_rfl) (by kernel_rfl) (by kernel_rfl) rfl rfl (Qt.index Tryz.underlying22 Tryz.cells40 rfl rfl (by omega) (Has.ro hR) (by rw [u64s_len]; omega)) ?_
      refine D.qX (k := 3) rfl (by kernel_rfl) (by kernel_rfl) (by kernel_rfl) rfl rfl (Qt.load rfl (Ld.sl (v := .int .u64 (((xs.getD k 0) : Nat) : Int)) (Has.ro hR) Tryz.one40 (u64s_get1 (by omega)))) ?_
      refine D.qX (k := 4) rfl (by kernel_rfl) (by kernel_rfl) (by kernel_rfl) rfl rfl (Qt.field Tryz.underlying138 rfl Tryz.cells136 rfl) ?_
      refine D.qX (k := 5) rfl (by kernel_rfl) (by kernel_rfl) (by kernel_rfl) rfl rfl (Qt.load rfl (Ld.row (vs := sealL (l.getD k item0).s) (Has.at 1 rfl) Tryz.row136 (by rw [sealL_length]; exact Tryz.cells136) (itemL_seal _))) ?_
      by_cases hlt : (xs.getD k 0) < 4294967296
      · refine D.cX (k := 6) rfl (by kernel_rfl) (by kernel_rfl) (by kernel_rfl) rfl rfl (CalU.con0 Tryz.ent56 rfl (fun w hw => Calls.ret (leaf56_walk (xs.getD k 0) hlt (l.getD k item0).s w (hT.at hw)))) ?_
        refine D.qX (k := 7) rfl (by kernel_rfl) (by kernel_rfl) (by kernel_rfl) rfl rfl (Qt.move (by conv => lhs; whnf)) ?_
        refine D.qX (k := 8) rfl (by kernel_rfl) (by kernel_rfl) (by kernel_rfl) rfl rfl (Qt.extract rfl rfl) ?_
        refine D.q (k := 9) rfl (by kernel_rfl) (by kernel_rfl) rfl rfl (Qt.extract rfl rfl) ?_
        refine D.nS (k := 10) (Sub.refl _) rfl (by kernel_rfl) (by kernel_rfl) rfl rfl (OpV.alloc Tryz.zero49 (fun b10 => ⟨Sub.drop _ (Sub.refl _), ?_⟩))
        refine D.opN (k := 11) (Sub.drop _ (Sub.keep _ (Sub.keep _ (Sub.keep _ (Sub.nil []))))) rfl (by kernel_rfl) (by kernel_rfl) rfl (OpV.storeV0 (v := hv (_)) rfl rfl (hv_size Tryz.cells49) (hv_all _) (hv_len _) ⟨Sub.drop _ (Sub.keep _ (Sub.keep _ (Sub.keep _ (Sub.nil [])))), ?_⟩)
        refine D.qX (k := 12) rfl (by kernel_rfl) (by kernel_rfl) (by kernel_rfl) rfl rfl (Qt.assign (by conv => lhs; whnf)) ?_
        refine D.done (Sub.drop _ (Sub.keep _ (Sub.keep _ (Sub.keep _ (Sub.nil []))))) (by kernel_rfl) ?_
        refine TC.seq ?_
        refine TC.seq ?_
        refine TC.region ?_
        refine S.q rfl rfl (Qt.move (by conv => lhs; whnf)) ?_
        refine S.q rfl rfl (Qt.nenil_nil Tryz.underlying51 rfl) ?_
        refine S.nil ?_
        refine S.if_f rfl ?_
        refine TC.skip ?_
        refine TC.region ?_
        refine S.q rfl rfl (Qt.load rfl (Ld.hash1 (x := shaH (leafX (xs.getD k 0) (l.getD k item0).s)) (Has.at 0 rfl) Tryz.row49 Tryz.cells49)) ?_
        refine S.opN rfl (OpV.storeV1 (v := hv (shaH (leafX (xs.getD k 0) (l.getD k item0).s))) rfl rfl (hv_size Tryz.cells49) (hv_all _) (by rw [hv_len, hv_len]) ?_)
        refine S.nil ?_
        refine TC.region ?_
        refine S.q rfl rfl (Qt.move (by conv => lhs; whnf)) ?_
        refine S.q rfl rfl (Qt.load rfl (Ld.hash1 (x := shaH (leafX (xs.getD k 0) (l.getD k item0).s)) (Has.at 1 rfl) Tryz.row49 Tryz.cells49)) ?_
        refine S.opS rfl rfl (OpV.slice1 (bytes := 32) (v := hv (shaH (leafX (xs.getD k 0) (l.getD k item0).s))) Tryz.underlying33 Tryz.elem49 (by decide) rfl (hv_len _) (fun g38 => ?_))
        refine S.opS rfl rfl (OpV.app4 (bytes := 32) (news := hvl (shaH (leafX (xs.getD k 0) (l.getD k item0).s))) Tryz.underlying33 Tryz.elem49 rfl rfl (Has.blk (cs := hvl (shaH (leafX (xs.getD k 0) (l.getD k item0).s))) (Has.at 0 rfl)) (by rw [hvl_length]) (List.all_eq_true.1 (hvl_one _)) (by simp only [maxLen]; omega) (by omega) (fun O3 d3 => ?_))
        refine S.q rfl rfl (Qt.assign (by conv => lhs; whnf)) ?_
        refine S.nil ?_
        refine TC.region ?_
        refine S.q rfl rfl (Qt.add (b := 1) rfl rfl (by simp only [kmax]; omega)) ?_
        refine S.q rfl rfl (Qt.move (by conv => lhs; whnf)) ?_
        refine S.nil ?_
        refine ⟨(k + 1, O3, d3), ?_, ?_, ⟨?_, (List.forall_mem_cons.2 ⟨rfl, (List.forall_mem_cons.2 ⟨rfl, (fun _ h => nomatch h)⟩)⟩)⟩, (by dsimp only; rw [itemH_hcs, (show shaH (itemX (xs.getD k 0) (l.getD k item0)) = shaH (leafX (xs.getD k 0) (l.getD k item0).s) by rw [itemX, if_pos b22])]; exact Sub.trans (Sub.keep _ (Sub.drop _ (Sub.drop _ (Sub.drop _ (Sub.drop _ (Sub.nil [])))))) (Sub.trans (Sub.keep _ (Sub.refl _)) (Sub.of_perm (List.perm_middle (l₁ := [_, _, _, _])))))⟩
        · exact ⟨by show _ ≤ _; dsimp only; omega, inR_succ hq (fun _ => hlt)⟩
        · show _ < _; dsimp only; omega
        repeat (first | exact Out.refl _ _ | refine Out.put rfl ?_ | refine Out.puts rfl ?_ | refine Out.scr ?_ | refine Out.scr' rfl ?_)
      · refine D.cX (k := 6) rfl (by kernel_rfl) (by kernel_rfl) (by kernel_rfl) rfl rfl (CalU.con0 Tryz.ent56 rfl (fun w hw => Calls.ret (leaf56_walkF (xs.getD k 0) (by omega) (hlow _ (getD_mem 0 (by omega))) (l.getD k item0).s w))) ?_
        refine D.qX (k := 7) rfl (by kernel_rfl) (by kernel_rfl) (by kernel_rfl) rfl rfl (Qt.move (by conv => lhs; whnf)) ?_
        refine D.qX (k := 8) rfl (by kernel_rfl) (by kernel_rfl) (by kernel_rfl) rfl rfl (Qt.extract rfl rfl) ?_
        refine D.q (k := 9) rfl (by kernel_rfl) (by kernel_rfl) rfl rfl (Qt.extract rfl rfl) ?_
        refine D.nS (k := 10) (Sub.refl _) rfl (by kernel_rfl) (by kernel_rfl) rfl rfl (OpV.alloc Tryz.zero49 (fun b10 => ⟨Sub.drop _ (Sub.refl _), ?_⟩))
        refine D.opN (k := 11) (Sub.drop _ (Sub.keep _ (Sub.keep _ (Sub.keep _ (Sub.nil []))))) rfl (by kernel_rfl) (by kernel_rfl) rfl (OpV.storeV0 (v := hv (_)) rfl rfl (hv_size Tryz.cells49) (hv_all _) (hv_len _) ⟨Sub.drop _ (Sub.keep _ (Sub.keep _ (Sub.keep _ (Sub.nil [])))), ?_⟩)
        refine D.qX (k := 12) rfl (by kernel_rfl) (by kernel_rfl) (by kernel_rfl) rfl rfl (Qt.assign (by conv => lhs; whnf)) ?_
        refine D.done (Sub.drop _ (Sub.keep _ (Sub.keep _ (Sub.keep _ (Sub.nil []))))) (by kernel_rfl) ?_
        refine TC.seq ?_
        refine TC.seq ?_
        refine TC.region ?_
        refine S.q rfl rfl (Qt.move (by conv => lhs; whnf)) ?_
        refine S.q rfl rfl (Qt.nenil_iface Tryz.underlying51 rfl) ?_
        refine S.nil ?_
        refine S.if_t rfl ?_
        refine TC.seq ?_
        refine TC.region ?_
        refine S.q rfl rfl (Qt.assign (by conv => lhs; whnf)) ?_
        refine S.q rfl rfl (Qt.assign (by conv => lhs; whnf)) ?_
        refine S.nil ?_
        refine TC.ret ?_
        refine finQ.ret (RVs.tmp (by conv => lhs; whnf) (RVs.tmp (by conv => lhs; whnf) RVs.nil)) (Sub.nil _) ?_
        exact .inr ⟨fun h => hlt (h k (by omega) b22), rfl, rfl⟩
    · refine TC.skip ?_
      refine TC.region ?_
      refine S.q rfl rfl (Qt.move (by conv => lhs; whnf)) ?_
      refine S.q rfl rfl (Qt.load rfl (Ld.hash1 (x := E 0) (Has.at 0 rfl) Tryz.row49 Tryz.cells49)) ?_
      refine S.opS rfl rfl (OpV.slice1 (bytes := 32) (v := hv (E 0)) Tryz.underlying33 Tryz.elem49 (by decide) rfl (hv_len _) (fun g38 => ?_))
      refine S.opS rfl rfl (OpV.app3 (bytes := 32) (news := hvl (E 0)) Tryz.underlying33 Tryz.elem49 rfl rfl (Has.blk (cs := hvl (E 0)) (Has.at 0 rfl)) (by rw [hvl_length]) (List.all_eq_true.1 (hvl_one _)) (by simp only [maxLen]; omega) (by omega) (fun O3 d3 => ?_))
      refine S.q rfl rfl (Qt.assign (by conv => lhs; whnf)) ?_
      refine S.nil ?_
      refine TC.region ?_
      refine S.q rfl rfl (Qt.add (b := 1) rfl rfl (by simp only [kmax]; omega)) ?_
      refine S.q rfl rfl (Qt.move (by conv => lhs; whnf)) ?_
      refine S.nil ?_
      refine ⟨(k + 1, O3, d3), ?_, ?_, ⟨?_, (List.forall_mem_cons.2 ⟨rfl, (List.forall_mem_cons.2 ⟨rfl, (fun _ h => nomatch h)⟩)⟩)⟩, (by dsimp only; rw [itemH_hcs, (show shaH (itemX (xs.getD k 0) (l.getD k item0)) = E 0 by rw [itemX, if_neg (by rw [b22]; decide), hE0])]; exact Sub.trans (Sub.keep _ (Sub.drop _ (Sub.drop _ (Sub.drop _ (Sub.nil []))))) (Sub.trans (Sub.keep _ (Sub.refl _)) (Sub.of_perm (List.perm_middle (l₁ := [_, _, _])))))⟩
      · exact ⟨by show _ ≤ _; dsimp only; omega, inR_succ hq (fun h => by rw [b22] at h; cases h)⟩
      · show _ < _; dsimp only; omega
      repeat (first | exact Out.refl _ _ | refine Out.put rfl ?_ | refine Out.puts rfl ?_ | refine Out.scr ?_ | refine Out.scr' rfl ?_)
  · refine S.nil ?_
    refine TC.seq ?_
    refine S.if_f rfl ?_
    refine TC.exit ?_
    refine TC.seq ?_
    refine TC.region ?_
    refine S.q rfl rfl (Qt.move (by conv => lhs; whnf)) ?_
    refine S.q rfl rfl (Qt.move (by conv => lhs; whnf)) ?_
    refine S.q rfl rfl (Qt.len_slice Tryz.underlying22 rfl) ?_
    refine S.q rfl rfl (Qt.move (by conv => lhs; whnf)) ?_
    refine S.q rfl rfl (Qt.len_slice Tryz.underlying23 rfl) ?_
    refine S.dec rfl rfl (Qt.eq rfl rfl) (fun h46 => ?_) (fun h46 => ?_)
    · refine S.q rfl rfl (Qt.assign (by conv => lhs; whnf)) ?_
      refine S.q rfl rfl (Qt.assign (by conv => lhs; whnf)) ?_
      refine S.nil ?_
      refine TC.ret ?_
      refine finQ.ret (RVs.tmp (by conv => lhs; whnf) (RVs.tmp (by conv => lhs; whnf) RVs.nil)) (Sub.refl _) ?_
      obtain rfl : k = l.length := by omega
      exact .inl ⟨hq, O, d, by rw [decide_eq_true h46]; rfl, rfl⟩
    · refine S.q rfl rfl (Qt.assign (by conv => lhs; whnf)) ?_
      refine S.q rfl rfl (Qt.assign (by conv => lhs; whnf)) ?_
      refine S.nil ?_
      refine TC.ret ?_
      refine finQ.ret (RVs.tmp (by conv => lhs; whnf) (RVs.tmp (by conv => lhs; whnf) RVs.nil)) (Sub.refl _) ?_
      obtain rfl : k = l.length := by omega
      exact .inl ⟨hq, O, d, by rw [decide_eq_false h46]; rfl, rfl⟩
theorem leaves13_T (E : Nat → H32) (hEm : ∀ w, Tabs 3 1 w [] → Calls Tryz.prog 55 #[] w (Ret w (.agg (hcs (emptL E)).toArray))) (hE0 : E 0 = shaH [0]) (A : Option Addr) (c : Nat) (xs : List Nat) (B : Option Addr) (b : Nat) (l : List Go.E.Item) (hle : l.length ≤ xs.length) (hn : l.length ≤ 65536) (hi : inR xs l l.length) (hl : xs.length = l.length) (w0 : World) (hlow : ∀ x ∈ xs, x < 18446744073709551616) (hR : Ro w0 [] (SlA A (u64s xs))) (hB : Ro w0 [] (SlA B (l.flatMap itemL))) (hT : Tabs 3 1 w0 []) : Calls Tryz.prog 13 #[.slice A xs.length c, .slice B l.length b] w0 (Post w0 [] fun v L => ∃ O d, v = .tuple #[.slice O l.length d, .bool true] ∧ L = [OwnA 49 32 O l.length d (hcs (itemH xs l l.length))]) :=
  (leaves13_walk E hEm hE0 A c xs B b l hle hn w0 hlow hR hB hT).mono fun e w ⟨v, L, h1, h2, hc⟩ => ⟨v, L, h1, h2, (hc.elim (fun ⟨_, O, d, h3, h4⟩ => ⟨O, d, by rw [h3, decide_eq_true hl], h4⟩) (fun h => absurd hi h.1))⟩
theorem leaves13_U (E : Nat → H32) (hEm : ∀ w, Tabs 3 1 w [] → Calls Tryz.prog 55 #[] w (Ret w (.agg (hcs (emptL E)).toArray))) (hE0 : E 0 = shaH [0]) (A : Option Addr) (c : Nat) (xs : List Nat) (B : Option Addr) (b : Nat) (l : List Go.E.Item) (hle : l.length ≤ xs.length) (hn : l.length ≤ 65536) (hi : inR xs l l.length) (hl : xs.length ≠ l.length) (w0 : World) (hlow : ∀ x ∈ xs, x < 18446744073709551616) (hR : Ro w0 [] (SlA A (u64s xs))) (hB : Ro w0 [] (SlA B (l.flatMap itemL))) (hT : Tabs 3 1 w0 []) : Calls Tryz.prog 13 #[.slice A xs.length c, .slice B l.length b] w0 (Post w0 [] fun v L => ∃ O d, v = .tuple #[.slice O l.length d, .bool false] ∧ L = [OwnA 49 32 O l.length d (hcs (itemH xs l l.length))]) :=
  (leaves13_walk E hEm hE0 A c xs B b l hle hn w0 hlow hR hB hT).mono fun e w ⟨v, L, h1, h2, hc⟩ => ⟨v, L, h1, h2, (hc.elim (fun ⟨_, O, d, h3, h4⟩ => ⟨O, d, by rw [h3, decide_eq_false hl], h4⟩) (fun h => absurd hi h.1))⟩
theorem leaves13_F (E : Nat → H32) (hEm : ∀ w, Tabs 3 1 w [] → Calls Tryz.prog 55 #[] w (Ret w (.agg (hcs (emptL E)).toArray))) (hE0 : E 0 = shaH [0]) (A : Option Addr) (c : Nat) (xs : List Nat) (B : Option Addr) (b : Nat) (l : List Go.E.Item) (hle : l.length ≤ xs.length) (hn : l.length ≤ 65536) (hi : ¬ inR xs l l.length) (w0 : World) (hlow : ∀ x ∈ xs, x < 18446744073709551616) (hR : Ro w0 [] (SlA A (u64s xs))) (hB : Ro w0 [] (SlA B (l.flatMap itemL))) (hT : Tabs 3 1 w0 []) : Calls Tryz.prog 13 #[.slice A xs.length c, .slice B l.length b] w0 (Post w0 [] fun v L => v = .tuple #[.slice none 0 0, .bool false] ∧ L = []) :=
  (leaves13_walk E hEm hE0 A c xs B b l hle hn w0 hlow hR hB hT).mono fun e w ⟨v, L, h1, h2, hc⟩ => ⟨v, L, h1, h2, (hc.elim (fun h => absurd h.1 hi) (fun h => ⟨h.2.1, h.2.2⟩))⟩

set_option maxHeartbeats 3200000 in
theorem ritems11_walk (A : Option Addr) (c : Nat) (xs : List Nat) (hn : xs.length ≤ 16384) (B1 : Option Addr) (a1 : Nat) (a : List Go.E.Item) (B2 : Option Addr) (a2 : Nat) (b : List Go.E.Item) (w0 : World) (hlow : ∀ x ∈ xs, x < 18446744073709551616) (hR : Ro w0 [] (SlA A (u64s xs))) (hB1 : Ro w0 [] (SlA B1 (a.flatMap itemL))) (hB2 : Ro w0 [] (SlA B2 (b.flatMap itemL))) :
    Calls Tryz.prog 11 #[.slice A xs.length c, .slice B1 a.length a1, .slice B2 b.length a2] w0 (Post w0 [] fun v L => PxQ 115 (pairX (itemQ xs a) (itemQ xs b)) v L) := by
  refine Calls.of (L := []) (n := 55) (rs := [.tmp 6]) Tryz.func11 rfl rfl rfl (Nat.le_of_ble_eq_true rfl) (Sat.nil _) ?_
  refine TC.ownNil 115 2 ?_
  refine TC.manyNil ?_
  refine TC.seq ?_
  refine TC.region ?_
  refine S.q rfl rfl (Qt.assign (by conv => lhs; whnf)) ?_
  refine S.nil ?_
  refine TC.seq ?_
  refine TC.seq ?_
  refine TC.region ?_
  refine S.q rfl rfl (Qt.move (by conv => lhs; whnf)) ?_
  refine S.q rfl rfl (Qt.len_slice Tryz.underlying31 rfl) ?_
  refine S.q rfl rfl (Qt.move (by conv => lhs; whnf)) ?_
  refine S.q rfl rfl (Qt.len_slice Tryz.underlying22 rfl) ?_
  refine S.dec rfl rfl (Qt.ne rfl rfl) (fun h13 => ?_) (fun h13 => ?_)
  · refine S.q rfl rfl (Qt.move (by conv => lhs; whnf)) ?_
    refine S.pass rfl rfl ?_
    refine S.pass rfl rfl ?_
    refine S.pass rfl rfl ?_
    refine S.pass rfl rfl ?_
    refine S.pass rfl rfl ?_
    refine S.q rfl rfl (Qt.pick_t rfl (by conv => lhs; whnf)) ?_
    refine S.nil ?_
    refine S.if_t rfl ?_
    refine TC.seq ?_
    refine TC.region ?_
    refine S.q rfl rfl (Qt.assign (by conv => lhs; whnf)) ?_
    refine S.nil ?_
    refine TC.ret ?_
    refine finQ.ret (RVs.tmp (by conv => lhs; whnf) RVs.nil) (Sub.trans (Sub.keep _ (Sub.refl _)) (Sub.of_perm (List.perm_middle (l₁ := [_])))) ?_
    exact ⟨none, 0, [], [], rfl, rfl, (itemP_none (fun q => h13 q.1)).symm, Nat.zero_le _, fun p hp => nomatch hp⟩
  · refine S.q rfl rfl (Qt.move (by conv => lhs; whnf)) ?_
    refine S.qg rfl rfl rfl (Qt.move (by conv => lhs; whnf)) ?_
    refine S.qg rfl rfl rfl (Qt.len_slice Tryz.underlying31 rfl) ?_
    refine S.qg rfl rfl rfl (Qt.move (by conv => lhs; whnf)) ?_
    refine S.qg rfl rfl rfl (Qt.len_slice Tryz.underlying22 rfl) ?_
    refine S.decg rfl rfl rfl (Qt.ne rfl rfl) (fun h19 => ?_) (fun h19 => ?_)
    · refine S.q rfl rfl (Qt.pick_f rfl (by conv => lhs; whnf)) ?_
      refine S.nil ?_
      refine S.if_t rfl ?_
      refine TC.seq ?_
      refine TC.region ?_
      refine S.q rfl rfl (Qt.assign (by conv => lhs; whnf)) ?_
      refine S.nil ?_
      refine TC.ret ?_
      refine finQ.ret (RVs.tmp (by conv => lhs; whnf) RVs.nil) (Sub.trans (Sub.keep _ (Sub.refl _)) (Sub.of_perm (List.perm_middle (l₁ := [_])))) ?_
      exact ⟨none, 0, [], [], rfl, rfl, (itemP_none (fun q => h19 q.2.1)).symm, Nat.zero_le _, fun p hp => nomatch hp⟩
    · refine S.q rfl rfl (Qt.pick_f rfl (by conv => lhs; whnf)) ?_
      refine S.nil ?_
      refine S.if_f rfl ?_
      refine TC.skip ?_
      refine TC.seq ?_
      refine TC.region ?_
      refine S.q rfl rfl (Qt.assign (by conv => lhs; whnf)) ?_
      refine S.nil ?_
      refine TC.seq ?_
      refine TC.seq ?_
      refine TC.region ?_
      refine S.q rfl rfl (Qt.assign (by conv => lhs; whnf)) ?_
      refine S.nil ?_
      refine TC.block ?_
      refine TC.ownNil 115 2 ?_
      refine TC.manyNil ?_
      refine TC.loop (γ := Nat × Option Addr × Nat × List Px × List Assn) [21, 22, 23, 24, 27, 28, 29, 30, 31, 6, 32, 33, 34, 35, 36, 37, 38, 39, 40, 41, 42, 43, 44, 45, 46, 47, 48, 49, 50, 51, 52, 53, 7, 25, 26, 8] (fun g => [(8, .int .i64 ((g.1 : Nat) : Int)), (7, .slice g.2.1 g.2.2.2.1.length g.2.2.1)]) (fun g => [OwnA 115 2 g.2.1 (g.2.2.2.1).length g.2.2.1 ((g.2.2.2.1).flatMap pxL), Many (g.2.2.2.2), Many [], OwnA 115 2 none 0 0 []]) (fun g => g.1 ≤ xs.length ∧ g.2.2.2.1.map pxT = (List.range g.1).map (itemPr xs a b) ∧ (∀ p ∈ g.2.2.2.1, txOwn p.1 ∈ g.2.2.2.2 ∧ txOwn p.2 ∈ g.2.2.2.2) ∧ ∀ j, j < g.1 → xs.getD j 0 < 4294967296) (fun g => xs.length - g.1) ((0, none, 0, [], []))
        ⟨Nat.zero_le _, rfl, (fun p hp => by cases hp), fun j h => absurd h (Nat.not_lt_zero _)⟩ ⟨Out.refl _ _, (List.forall_mem_cons.2 ⟨rfl, (List.forall_mem_cons.2 ⟨rfl, (fun _ h => nomatch h)⟩)⟩)⟩ (Sub.trans (Sub.keep _ (Sub.refl _)) (Sub.of_perm (List.perm_middle (l₁ := [_])))) ?_
      rintro ⟨k, O, d, ps, Ls⟩ u ⟨hk, hps, hmm, hq⟩
      dsimp only at hk hps hmm hq
      have hpl : ps.length = k := by have := congrArg List.length hps; simpa using this
      show TC _ _ _ (puts [(8, .int .i64 (k : Int)), (7, .slice O ps.length d)] (scr _ u _)) [OwnA 115 2 O (ps).length d ((ps).flatMap pxL), Many (Ls), Many [], OwnA 115 2 none 0 0 []]
      refine TC.seq ?_
      refine TC.seq ?_
      refine TC.region ?_
      refine S.q rfl rfl (Qt.move (by conv => lhs; whnf)) ?_
      refine S.q rfl rfl (Qt.move (by conv => lhs; whnf)) ?_
      refine S.q rfl rfl (Qt.len_slice Tryz.underlying22 rfl) ?_
      refine S.dec rfl rfl (Qt.lt rfl rfl) (fun h24 => ?_) (fun h24 => ?_)
      · refine S.nil ?_
        refine S.if_t rfl ?_
        refine TC.skip ?_
        refine TC.seq ?_
        refine TC.block ?_
        refine TC.seq ?_
        refine TC.seq ?_
        refine TC.region ?_
        refine S.q rfl rfl (Qt.move (by conv => lhs; whnf)) ?_
        refine S.q rfl rfl (Qt.move (by conv => lhs; whnf)) ?_
        refine S.q rfl rfl (Qt.index Tryz.underlying22 Tryz.cells40 rfl rfl (by omega) (Has.ro hR) (by rw [u64s_len]; omega)) ?_
        refine S.q rfl rfl (Qt.load rfl (Ld.sl (v := .int .u64 (((xs.getD k 0) : Nat) : Int)) (Has.ro hR) Tryz.one40 (u64s_get1 (by omega)))) ?_
        refine S.dec rfl rfl (Qt.gt (b := 4294967295) rfl rfl) (fun h31 => ?_) (fun h31 => ?_)
        · refine S.nil ?_
          refine S.if_t rfl ?_
          refine TC.seq ?_
          refine TC.region ?_
          refine S.q rfl rfl (Qt.assign (by conv => lhs; whnf)) ?_
          refine S.nil ?_
          refine TC.ret ?_
          refine finQ.ret (RVs.tmp (by conv => lhs; whnf) RVs.nil) (Sub.trans (Sub.keep _ (Sub.keep _ (Sub.drop _ (Sub.drop _ (Sub.nil []))))) (Sub.trans (Sub.keep _ (Sub.trans (Sub.keep _ (Sub.refl _)) (Sub.of_perm (List.perm_middle (l₁ := [_, _]))))) (Sub.of_perm (List.perm_middle (l₁ := [_, _, _]))))) ?_
          exact ⟨none, 0, [], [], rfl, rfl, (itemP_none (fun q => absurd (q.2.2 _ (getD_mem 0 (show k < xs.length by omega))) (by omega))).symm, Nat.zero_le _, fun p hp => nomatch hp⟩
        · refine S.nil ?_
          refine S.if_f rfl ?_
          refine TC.skip ?_
          refine S.draw ([21], [9, 18, 20]) Tryz.mixed (Sub.drop _ (Sub.keep _ (Sub.keep _ (Sub.keep _ (Sub.nil []))))) ?_
          refine D.qX (k := 0) rfl (by kernel_rfl) (by kernel_rfl) (by kernel_rfl) rfl rfl (Qt.move (by conv => lhs; whnf)) ?_
          refine D.qX (k := 1) rfl (by kernel_rfl) (by kernel_rfl) (by kernel_rfl) rfl rfl (Qt.move (by conv => lhs; whnf)) ?_
          refine D.qX (k := 2) rfl (by kernel_rfl) (by kernel_rfl) (by kernel_rfl) rfl rfl (Qt.move (by conv => lhs; whnf)) ?_
          refine D.qX (k := 3) rfl (by kernel_rfl) (by kernel_rfl) (by kernel_rfl) rfl rfl (Qt.index Tryz.underlying22 Tryz.cells40 rfl rfl (by omega) (Has.ro hR) (by rw [u64s_len]; omega)) ?_
          refine D.qX (k := 4) rfl (by kernel_rfl) (by kernel_rfl) (by kernel_rfl) rfl rfl (Qt.load rfl (Ld.sl (v := .int .u64 (((xs.getD k 0) : Nat) : Int)) (Has.ro hR) Tryz.one40 (u64s_get1 (by omega)))) ?_
          refine D.qX (k := 5) rfl (by kernel_rfl) (by kernel_rfl) (by kernel_rfl) rfl rfl (Qt.move (by conv => lhs; whnf)) ?_
          refine D.qX (k := 6) rfl (by kernel_rfl) (by kernel_rfl) (by kernel_rfl) rfl rfl (Qt.move (by conv => lhs; whnf)) ?_
          refine D.qX (k := 7) rfl (by kernel_rfl) (by kernel_rfl) (by kernel_rfl) rfl rfl (Qt.index Tryz.underlying31 Tryz.cells93 rfl rfl (by omega) (Has.ro hB1) (by rw [items_len]; omega)) ?_
          refine D.qX (k := 8) rfl (by kernel_rfl) (by kernel_rfl) (by kernel_rfl) rfl rfl (Qt.load rfl (Ld.slr (vs := itemL (a.getD k item0)) (Has.ro hB1) Tryz.row93 (by rw [itemL_length]; exact Tryz.cells93) (by rw [itemL_length]; decide) (items_at (by omega) rfl))) ?_
          refine D.qX (k := 10) rfl (by kernel_rfl) (by kernel_rfl) (by kernel_rfl) rfl rfl (Qt.move (by conv => lhs; whnf)) ?_
          refine D.qX (k := 11) rfl (by kernel_rfl) (by kernel_rfl) (by kernel_rfl) rfl rfl (Qt.move (by conv => lhs; whnf)) ?_
          refine D.qX (k := 12) rfl (by kernel_rfl) (by kernel_rfl) (by kernel_rfl) rfl rfl (Qt.index Tryz.underlying22 Tryz.cells40 rfl rfl (by omega) (Has.ro hR) (by rw [u64s_len]; omega)) ?_
          refine D.qX (k := 13) rfl (by kernel_rfl) (by kernel_rfl) (by kernel_rfl) rfl rfl (Qt.load rfl (Ld.sl (v := .int .u64 (((xs.getD k 0) : Nat) : Int)) (Has.ro hR) Tryz.one40 (u64s_get1 (by omega)))) ?_
          refine D.qX (k := 14) rfl (by kernel_rfl) (by kernel_rfl) (by kernel_rfl) rfl rfl (Qt.move (by conv => lhs; whnf)) ?_
          refine D.qX (k := 15) rfl (by kernel_rfl) (by kernel_rfl) (by kernel_rfl) rfl rfl (Qt.move (by conv => lhs; whnf)) ?_
          refine D.qX (k := 16) rfl (by kernel_rfl) (by kernel_rfl) (by kernel_rfl) rfl rfl (Qt.index Tryz.underlying31 Tryz.cells93 rfl rfl (by omega) (Has.ro hB2) (by rw [items_len]; omega)) ?_
          refine D.qX (k := 17) rfl (by kernel_rfl) (by kernel_rfl) (by kernel_rfl) rfl rfl (Qt.load rfl (Ld.slr (vs := itemL (b.getD k item0)) (Has.ro hB2) Tryz.row93 (by rw [itemL_length]; exact Tryz.cells93) (by rw [itemL_length]; decide) (items_at (by omega) rfl))) ?_
          refine D.nS (k := 9) (Sub.drop _ (Sub.keep _ (Sub.keep _ (Sub.keep _ (Sub.nil []))))) rfl (by kernel_rfl) (by kernel_rfl) rfl rfl (OpV.con (Pre := []) (R := _) Tryz.ent53 rfl (List.Perm.refl _) (fun w hw => text53_walk (xs.getD k 0) (by omega) (a.getD k item0) w) ?_)
          rintro v L' ⟨O1, d1, rfl, rfl⟩
          refine ⟨Sub.drop _ (Sub.keep _ (Sub.keep _ (Sub.keep _ (Sub.keep _ (Sub.nil []))))), ?_⟩
          refine D.nS (k := 18) (Sub.drop _ (Sub.drop _ (Sub.keep _ (Sub.keep _ (Sub.keep _ (Sub.nil [])))))) rfl (by kernel_rfl) (by kernel_rfl) rfl rfl (OpV.con (Pre := []) (R := _) Tryz.ent53 rfl (List.Perm.refl _) (fun w hw => text53_walk (xs.getD k 0) (by omega) (b.getD k item0) w) ?_)
          rintro v L' ⟨O2, d2, rfl, rfl⟩
          refine ⟨Sub.drop _ (Sub.keep _ (Sub.keep _ (Sub.keep _ (Sub.keep _ (Sub.keep _ (Sub.nil [])))))), ?_⟩
          refine D.qX (k := 19) rfl (by kernel_rfl) (by kernel_rfl) (by kernel_rfl) rfl rfl (Qt.build2 (a := .slice O1 (itemX (xs.getD k 0) (a.getD k item0)).length d1) (b := .slice O2 (itemX (xs.getD k 0) (b.getD k item0)).length d2) rfl rfl (Tryz.build115 _ _ _ _ _ _)) ?_
          refine D.nS (k := 20) (Sub.drop _ (Sub.drop _ (Sub.drop _ (Sub.keep _ (Sub.keep _ (Sub.keep _ (Sub.nil []))))))) rfl (by kernel_rfl) (by kernel_rfl) rfl rfl (OpV.slice1 (bytes := 48) (v := .agg #[.slice O1 (itemX (xs.getD k 0) (a.getD k item0)).length d1, .slice O2 (itemX (xs.getD k 0) (b.getD k item0)).length d2]) Tryz.underlying29 Tryz.elem115 (by decide) rfl rfl (fun g52 => ⟨Sub.drop _ (Sub.keep _ (Sub.keep _ (Sub.keep _ (Sub.keep _ (Sub.keep _ (Sub.keep _ (Sub.nil []))))))), ?_⟩))
          refine D.opS (k := 21) (Sub.drop _ (Sub.drop _ (Sub.drop _ (Sub.drop _ (Sub.keep _ (Sub.keep _ (Sub.keep _ (Sub.nil [])))))))) rfl (by kernel_rfl) (by kernel_rfl) rfl rfl (OpV.app3 (bytes := 48) (news := [.slice O1 (itemX (xs.getD k 0) (a.getD k item0)).length d1, .slice O2 (itemX (xs.getD k 0) (b.getD k item0)).length d2]) Tryz.underlying29 Tryz.elem115 rfl rfl (Has.blk (cs := [.slice O1 (itemX (xs.getD k 0) (a.getD k item0)).length d1, .slice O2 (itemX (xs.getD k 0) (b.getD k item0)).length d2]) (Has.at 0 rfl)) rfl two_one (by simp only [maxLen]; omega) (by omega) (fun O3 d3 => ⟨Sub.drop _ (Sub.drop _ (Sub.drop _ (Sub.drop _ (Sub.keep _ (Sub.keep _ (Sub.keep _ (Sub.nil []))))))), ?_⟩))
          refine D.qX (k := 22) rfl (by kernel_rfl) (by kernel_rfl) (by kernel_rfl) rfl rfl (Qt.assign (by conv => lhs; whnf)) ?_
          refine D.done (Sub.drop _ (Sub.drop _ (Sub.drop _ (Sub.drop _ (Sub.keep _ (Sub.keep _ (Sub.keep _ (Sub.nil [])))))))) (by kernel_rfl) ?_
          refine TC.region ?_
          refine TL.manyJoin ((List.perm_middle (l₁ := [_, _])).trans (List.Perm.cons _ (List.perm_middle (l₁ := [_, _, _])))) ?_
          refine TL.manyJoin (List.perm_middle (l₁ := [_, _])) ?_
          refine S.q rfl rfl (Qt.move (by conv => lhs; whnf)) ?_
          refine S.q rfl rfl (Qt.add (b := 1) rfl rfl (by simp only [kmax]; omega)) ?_
          refine S.q rfl rfl (Qt.assign (by conv => lhs; whnf)) ?_
          refine S.nil ?_
          refine ⟨(k + 1, O3, d3, ps ++ [((O1, d1, (itemX (xs.getD k 0) (a.getD k item0))), (O2, d2, (itemX (xs.getD k 0) (b.getD k item0))))], Ls ++ [txOwn ((O1, d1, (itemX (xs.getD k 0) (a.getD k item0))), (O2, d2, (itemX (xs.getD k 0) (b.getD k item0)))).1] ++ [txOwn ((O1, d1, (itemX (xs.getD k 0) (a.getD k item0))), (O2, d2, (itemX (xs.getD k 0) (b.getD k item0)))).2]), ?_, ?_, ⟨?_, (List.forall_mem_cons.2 ⟨rfl, (List.forall_mem_cons.2 ⟨(by show Value.slice O3 (ps.length + 1) d3 = Value.slice O3 (ps ++ [_]).length d3; rw [List.length_append]; rfl), (fun _ h => nomatch h)⟩)⟩)⟩, (by dsimp only; simp only [List.length_append, List.flatMap_append]; exact Sub.trans (Sub.keep _ (Sub.keep _ (Sub.keep _ (Sub.keep _ (Sub.drop _ (Sub.nil [])))))) (Sub.trans (Sub.keep _ (Sub.keep _ (Sub.trans (Sub.keep _ (Sub.trans (Sub.keep _ (Sub.refl _)) (Sub.of_perm (List.perm_middle (l₁ := [_]))))) (Sub.of_perm (List.perm_middle (l₁ := [_])))))) (Sub.of_perm (List.perm_middle (l₁ := [_, _])))))⟩
          · refine ⟨by show _ ≤ _; dsimp only; omega, ?_, fun p hp => ?_, fun j hj => (Nat.lt_or_ge j k).elim (hq j) (fun h => by (obtain rfl : j = k := by omega); omega)⟩
            · dsimp only; rw [List.map_append, hps, List.range_succ, List.map_append]; rfl
            · dsimp only at hp ⊢
              rcases List.mem_append.1 hp with hp | hp
              · exact ⟨List.mem_append.2 (.inl (List.mem_append.2 (.inl (hmm p hp).1))), List.mem_append.2 (.inl (List.mem_append.2 (.inl (hmm p hp).2)))⟩
              · rw [List.mem_singleton.1 hp]; exact ⟨List.mem_append.2 (.inl (List.mem_append.2 (.inr (List.mem_singleton.2 rfl)))), List.mem_append.2 (.inr (List.mem_singleton.2 rfl))⟩
          · show _ < _; dsimp only; omega
          repeat (first | exact Out.refl _ _ | refine Out.put rfl ?_ | refine Out.puts rfl ?_ | refine Out.scr ?_ | refine Out.scr' rfl ?_)
      · refine S.nil ?_
        refine S.if_f rfl ?_
        refine TC.exit ?_
        refine TC.seq ?_
        refine TC.region ?_
        refine S.q rfl rfl (Qt.move (by conv => lhs; whnf)) ?_
        refine S.q rfl rfl (Qt.assign (by conv => lhs; whnf)) ?_
        refine S.nil ?_
        refine TC.ret ?_
        refine finQ.ret (RVs.tmp (by conv => lhs; whnf) RVs.nil) (Sub.keep _ (Sub.keep _ (Sub.drop _ (Sub.drop _ (Sub.nil []))))) ?_
        obtain rfl : k = xs.length := by omega
        exact ⟨O, d, ps, Ls, rfl, rfl, by rw [hps, itemP_all (Decidable.not_not.1 h13) (Decidable.not_not.1 h19) (low_all rfl hq)], by omega, hmm⟩
end Go.Proofs.YtgdjcmehlhebdaaGreatDoor
