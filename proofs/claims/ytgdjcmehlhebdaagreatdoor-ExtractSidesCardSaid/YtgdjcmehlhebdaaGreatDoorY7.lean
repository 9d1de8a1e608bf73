/-
  Walks: bytes compared, one of two. Printed by a program of ours. Walks: texts of paths, pairs of two sources. Printed by a program of ours.
-/
import Derived.Test.YtgdjcmehlhebdaaGreatDoorY6
import Derived.Test.YtgdjcmehlhebdaaGreatDoorO1
import Derived.Test.YtgdjcmehlhebdaaGreatDoorXP
import Derived.Test.YtgdjcmehlhebdaaGreatDoorYZTJ
namespace Go.Proofs.YtgdjcmehlhebdaaGreatDoor
open Go.E
set_option linter.unusedVariables false
set_option maxRecDepth 4000
set_option maxHeartbeats 400000 in
theorem equal_walk (A : Option Addr) (c : Nat) (t1 : List UInt8) (B : Option Addr) (d : Nat) (t2 : List UInt8) (w0 : World) (hA : Ro w0 [] (SlA A (bytesL t1))) (hB : Ro w0 [] (SlA B (bytesL t2))) :
    Calls Tryz.prog 113 #[.slice A t1.length c, .slice B t2.length d] w0 (Post w0 [] fun v L => v = .bool (decide (t1 = t2)) ∧ L = []) := by
  refine Calls.of (L := []) (n := 10) (rs := [.tmp 4]) Tryz.func113 rfl rfl rfl (Nat.le_of_ble_eq_true rfl) (Sat.nil _) ?_
  refine TC.seq ?_
  refine TC.region ?_
  refine S.as ?_
  refine S.nil ?_
  refine TC.seq ?_
  refine TC.region ?_
  refine S.mv ?_
  refine S.q rfl rfl (Qt.bytesStrA (bs := t1) Tryz.underlying112 Tryz.underlying5 Tryz.underlying9 rfl rfl (Has.ro hA)) ?_
  refine S.mv ?_
  refine S.q rfl rfl (Qt.bytesStrA (bs := t2) Tryz.underlying112 Tryz.underlying5 Tryz.underlying9 rfl rfl (Has.ro hB)) ?_
  refine S.q rfl rfl (Qt.eqStrD (s := t1) (t := t2) rfl rfl) ?_
  refine S.as ?_
  refine S.nil ?_
  refine TC.ret ?_
  refine finQ.ret (RVs.tmp (by conv => lhs; whnf) RVs.nil) (Sub.nil _) ?_
  exact ⟨rfl, rfl⟩
theorem equal_R (A : Option Addr) (c : Nat) (t1 : List UInt8) (B : Option Addr) (d : Nat) (t2 : List UInt8) (w0 : World) (hA : Ro w0 [] (SlA A (bytesL t1))) (hB : Ro w0 [] (SlA B (bytesL t2))) : Calls Tryz.prog 113 #[.slice A t1.length c, .slice B t2.length d] w0 (Ret w0 (.bool (decide (t1 = t2)))) := Calls.ret (equal_walk A c t1 B d t2 w0 hA hB)

set_option maxHeartbeats 400000 in
theorem bytesD_walk (A : Option Addr) (c : Nat) (t1 : List UInt8) (B : Option Addr) (d : Nat) (t2 : List UInt8) (w0 : World) (hA : Ro w0 [] (SlA A (bytesL t1))) (hB : Ro w0 [] (SlA B (bytesL t2))) :
    Calls Tryz.prog 49 #[.slice A t1.length c, .slice B t2.length d] w0 (Post w0 [] fun v L => v = .bool (decide (t1 = t2)) ∧ L = []) := by
  refine Calls.of (L := []) (n := 10) (rs := [.tmp 4]) Tryz.func49 rfl rfl rfl (Nat.le_of_ble_eq_true rfl) (Sat.nil _) ?_
  refine TC.seq ?_
  refine TC.region ?_
  refine S.as ?_
  refine S.nil ?_
  refine TC.seq ?_
  refine TC.region ?_
  refine S.mv ?_
  refine S.q rfl rfl (Qt.bytesStrA (bs := t1) Tryz.underlying112 Tryz.underlying5 Tryz.underlying9 rfl rfl (Has.ro hA)) ?_
  refine S.mv ?_
  refine S.q rfl rfl (Qt.bytesStrA (bs := t2) Tryz.underlying112 Tryz.underlying5 Tryz.underlying9 rfl rfl (Has.ro hB)) ?_
  refine S.q rfl rfl (Qt.eqStrD (s := t1) (t := t2) rfl rfl) ?_
  refine S.as ?_
  refine S.nil ?_
  refine TC.ret ?_
  refine finQ.ret (RVs.tmp (by conv => lhs; whnf) RVs.nil) (Sub.nil _) ?_
  exact ⟨rfl, rfl⟩
theorem bytesD_R (A : Option Addr) (c : Nat) (t1 : List UInt8) (B : Option Addr) (d : Nat) (t2 : List UInt8) (w0 : World) (hA : Ro w0 [] (SlA A (bytesL t1))) (hB : Ro w0 [] (SlA B (bytesL t2))) : Calls Tryz.prog 49 #[.slice A t1.length c, .slice B t2.length d] w0 (Ret w0 (.bool (decide (t1 = t2)))) := Calls.ret (bytesD_walk A c t1 B d t2 w0 hA hB)

set_option maxHeartbeats 400000 in
theorem pickO_true (A1 : Option Addr) (n1 a1 : Nat) (B1 : Option Addr) (m1 b1 : Nat) (A2 : Option Addr) (n2 a2 : Nat) (B2 : Option Addr) (m2 b2 : Nat) (w0 : World) :
    Calls Tryz.prog 143 #[.bool true, .agg #[.slice A1 n1 a1, .slice B1 m1 b1], .agg #[.slice A2 n2 a2, .slice B2 m2 b2]] w0 (Post w0 [] fun v L => v = .agg #[.slice A1 n1 a1, .slice B1 m1 b1] ∧ L = []) := by
  refine Calls.of (L := []) (n := 10) (rs := [.cell 6 182]) Tryz.func143 rfl rfl rfl (Nat.le_of_ble_eq_true rfl) (Sat.nil _) ?_
  refine TC.seq ?_
  refine TC.region ?_
  refine S.opS rfl rfl (OpV.box (v := .agg #[.slice A1 n1 a1, .slice B1 m1 b1]) rfl (fun b4 => ?_))
  refine S.opS rfl rfl (OpV.box (v := .agg #[.slice A2 n2 a2, .slice B2 m2 b2]) rfl (fun b5 => ?_))
  refine S.opS rfl rfl (OpV.alloc Tryz.zero182 (fun b6 => ?_))
  refine S.nil ?_
  refine TC.seq ?_
  refine TC.seq ?_
  refine TC.region ?_
  refine S.mv ?_
  refine S.nil ?_
  refine S.if_t rfl ?_
  refine TC.seq ?_
  refine TC.region ?_
  refine S.q rfl rfl (Qt.load rfl (Ld.all (vs := vl (.agg #[.slice A1 n1 a1, .slice B1 m1 b1])) (Has.at 2 rfl) Tryz.row182 Tryz.cells182)) ?_
  refine S.opN rfl (OpV.storeV0 rfl (by conv => lhs; whnf) (by exact Tryz.cells182) (by rfl) (by rfl) ?_)
  refine S.nil ?_
  refine TC.ret ?_
  refine finQ.ret (RVs.cell rfl (Ld.all (Has.at 0 rfl) Tryz.row182 (Tryz.cells182)) RVs.nil) (Sub.nil _) ?_
  exact ⟨rfl, rfl⟩
set_option maxHeartbeats 400000 in
theorem pickO_false (A1 : Option Addr) (n1 a1 : Nat) (B1 : Option Addr) (m1 b1 : Nat) (A2 : Option Addr) (n2 a2 : Nat) (B2 : Option Addr) (m2 b2 : Nat) (w0 : World) :
    Calls Tryz.prog 143 #[.bool false, .agg #[.slice A1 n1 a1, .slice B1 m1 b1], .agg #[.slice A2 n2 a2, .slice B2 m2 b2]] w0 (Post w0 [] fun v L => v = .agg #[.slice A2 n2 a2, .slice B2 m2 b2] ∧ L = []) := by
  refine Calls.of (L := []) (n := 10) (rs := [.cell 6 182]) Tryz.func143 rfl rfl rfl (Nat.le_of_ble_eq_true rfl) (Sat.nil _) ?_
  refine TC.seq ?_
  refine TC.region ?_
  refine S.opS rfl rfl (OpV.box (v := .agg #[.slice A1 n1 a1, .slice B1 m1 b1]) rfl (fun b4 => ?_))
  refine S.opS rfl rfl (OpV.box (v := .agg #[.slice A2 n2 a2, .slice B2 m2 b2]) rfl (fun b5 => ?_))
  refine S.opS rfl rfl (OpV.alloc Tryz.zero182 (fun b6 => ?_))
  refine S.nil ?_
  refine TC.seq ?_
  refine TC.seq ?_
  refine TC.region ?_
  refine S.mv ?_
  refine S.nil ?_
  refine S.if_f rfl ?_
  refine TC.skip ?_
  refine TC.seq ?_
  refine TC.region ?_
  refine S.q rfl rfl (Qt.load rfl (Ld.all (vs := vl (.agg #[.slice A2 n2 a2, .slice B2 m2 b2])) (Has.at 1 rfl) Tryz.row182 Tryz.cells182)) ?_
  refine S.opN rfl (OpV.storeV0 rfl (by conv => lhs; whnf) (by exact Tryz.cells182) (by rfl) (by rfl) ?_)
  refine S.nil ?_
  refine TC.ret ?_
  refine finQ.ret (RVs.cell rfl (Ld.all (Has.at 0 rfl) Tryz.row182 (Tryz.cells182)) RVs.nil) (Sub.nil _) ?_
  exact ⟨rfl, rfl⟩
set_option maxHeartbeats 400000 in
theorem bclone_walk (A : Option Addr) (c : Nat) (b : List UInt8) (w0 : World) (hR : Ro w0 [] (SlA A (bytesL b))) (hl : b.length ≤ 70368744177664) :
    Calls Tryz.prog 111 #[.slice A b.length c] w0 (Post w0 [] fun v L => ∃ O d, v = .slice O b.length d ∧ L = [OwnA 5 1 O b.length d (bytesL b)]) := by
  refine Calls.of (L := []) (n := 8) (rs := [.tmp 2]) Tryz.func111 rfl rfl rfl (Nat.le_of_ble_eq_true rfl) (Sat.nil _) ?_
  refine TC.ownNil 5 1 ?_
  refine TC.seq ?_
  refine TC.region ?_
  refine S.as ?_
  refine S.nil ?_
  refine TC.seq ?_
  refine TC.seq ?_
  refine TC.region ?_
  refine S.mv ?_
  refine S.q rfl rfl (Qt.eqsl Tryz.underlying112 rfl) ?_
  refine S.nil ?_
  refine TC.ifb rfl (fun hn => ?_) (fun hn => ?_)
  · refine TC.seq ?_
    refine TC.region ?_
    refine S.as ?_
    refine S.nil ?_
    refine TC.ret ?_
    refine finQ.ret (RVs.tmp (by conv => lhs; whnf) RVs.nil) (Sub.refl _) ?_
    obtain rfl : A = none := Option.isNone_iff_eq_none.1 hn
    obtain rfl : b = [] := bytesL_nil (SlA.none_nil hR.1)
    exact ⟨none, 0, rfl, rfl⟩
  · refine TC.skip ?_
    refine TC.seq ?_
    refine TC.region ?_
    refine S.opS rfl rfl (OpV.slice0 Tryz.underlying112 ⟨_, Tryz.elem5⟩ (fun g5 => ?_))
    refine S.mv ?_
    refine S.opS rfl rfl (OpV.app0 (bytes := 1) (news := bytesL b) Tryz.underlying112 Tryz.elem5 rfl rfl (Has.ro hR) (by rw [bytesL_length]; omega) (bytesL_one _) (by simp only [maxLen]; omega) (by omega) (fun O d => ?_))
    refine S.as ?_
    refine S.nil ?_
    refine TC.ret ?_
    refine finQ.ret (RVs.tmp (by conv => lhs; whnf) RVs.nil) (Sub.keep _ (Sub.drop _ (Sub.nil _))) ?_
    exact ⟨O, d, by rw [Nat.zero_add]; rfl, by rw [Nat.zero_add, List.nil_append]⟩
set_option maxHeartbeats 800000 in
theorem is25_walk (A : Option Addr) (c : Nat) (t1 : List UInt8) (B : Option Addr) (d : Nat) (t2 : List UInt8) (w0 : World) (hA : Ro w0 [] (SlA A (bytesL t1))) (hB : Ro w0 [] (SlA B (bytesL t2))) (h1 : t1.length ≤ 70368744177664) (h2 : t2.length ≤ 70368744177664) (hT : Tabs 3 1 w0 []) :
    Calls Tryz.prog 50 #[.agg #[.slice A t1.length c, .slice B t2.length d]] w0 (Post w0 [] fun v L => v = .bool (isF (t1, t2)) ∧ L = []) := by
  refine Calls.of (L := []) (n := 18) (rs := [.tmp 2]) Tryz.func50 rfl rfl rfl (Nat.le_of_ble_eq_true rfl) (Sat.nil _) ?_
  refine TC.seq ?_
  refine TC.region ?_
  refine S.opS rfl rfl (OpV.box (v := .agg #[.slice A t1.length c, .slice B t2.length d]) rfl (fun b1 => ?_))
  refine S.as ?_
  refine S.nil ?_
  refine TC.seq ?_
  refine S.draw ([], []) Tryz.mixed (Sub.nil _) ?_
  refine D.qY 0 rfl (Qt.field Tryz.underlying114 rfl Tryz.cells112 rfl) ?_
  refine D.qY 1 rfl (Qt.load rfl (Ld.one (v := .slice A t1.length c) (Has.at 0 rfl) Tryz.one112 rfl)) ?_
  refine D.qY 2 rfl (Qt.field Tryz.underlying114 rfl Tryz.cells112 rfl) ?_
  refine D.qY 3 rfl (Qt.load rfl (Ld.one (v := .slice B t2.length d) (Has.at 0 rfl) Tryz.one112 rfl)) ?_
  by_cases he : t1 = t2
  · refine D.cX (k := 4) rfl (by kernel_rfl) (by kernel_rfl) (by kernel_rfl) rfl rfl (CalU.con0 Tryz.ent113 rfl (fun w hw => (by have h := equal_R A c t1 B d t2 w (Rd.ro hA w hw) (Rd.ro hB w hw); rw [decide_eq_true he] at h; exact h))) ?_
    refine D.qY 5 rfl (Qt.not_t rfl) ?_
    refine D.qY 6 rfl (Qt.move (by conv => lhs; whnf)) ?_
    refine D.pass (k := 7) rfl (by kernel_rfl) (by kernel_rfl) rfl rfl rfl ?_
    refine D.pass (k := 8) rfl (by kernel_rfl) (by kernel_rfl) rfl rfl rfl ?_
    refine D.pass (k := 9) rfl (by kernel_rfl) (by kernel_rfl) rfl rfl rfl ?_
    refine D.pass (k := 10) rfl (by kernel_rfl) (by kernel_rfl) rfl rfl rfl ?_
    refine D.pass (k := 11) rfl (by kernel_rfl) (by kernel_rfl) rfl rfl rfl ?_
    refine D.pass (k := 12) rfl (by kernel_rfl) (by kernel_rfl) rfl rfl rfl ?_
    refine D.pass (k := 13) rfl (by kernel_rfl) (by kernel_rfl) rfl rfl rfl ?_
    refine D.qY 14 rfl (Qt.pick_f rfl (by conv => lhs; whnf)) ?_
    refine D.qY 15 rfl (Qt.assign (by conv => lhs; whnf)) ?_
    refine D.done (Sub.nil _) (by kernel_rfl) ?_
    refine TC.ret ?_
    refine finQ.ret (RVs.tmp (by conv => lhs; whnf) RVs.nil) (Sub.nil _) ?_
    exact ⟨by rw [isF, decide_eq_false (fun h => h he)]; rfl, rfl⟩
  · refine D.cX (k := 4) rfl (by kernel_rfl) (by kernel_rfl) (by kernel_rfl) rfl rfl (CalU.con0 Tryz.ent113 rfl (fun w hw => (by have h := equal_R A c t1 B d t2 w (Rd.ro hA w hw) (Rd.ro hB w hw); rw [decide_eq_false he] at h; exact h))) ?_
    refine D.qY 5 rfl (Qt.not_f rfl) ?_
    refine D.qY 6 rfl (Qt.move (by conv => lhs; whnf)) ?_
    refine D.qgX (k := 7) rfl (by kernel_rfl) (by kernel_rfl) (by kernel_rfl) rfl rfl rfl (Qt.field Tryz.underlying114 rfl Tryz.cells112 rfl) ?_
    refine D.qgX (k := 8) rfl (by kernel_rfl) (by kernel_rfl) (by kernel_rfl) rfl rfl rfl (Qt.load rfl (Ld.one (v := .slice A t1.length c) (Has.at 0 rfl) Tryz.one112 rfl)) ?_
    refine D.cgX (k := 9) rfl (by kernel_rfl) (by kernel_rfl) (by kernel_rfl) rfl rfl rfl (CalU.con0 Tryz.ent114 rfl (fun w hw => Calls.ret (sum_walk A c t1 w (Rd.ro hA w hw) h1 (hT.at hw)))) ?_
    refine D.qgX (k := 10) rfl (by kernel_rfl) (by kernel_rfl) (by kernel_rfl) rfl rfl rfl (Qt.field Tryz.underlying114 rfl Tryz.cells112 rfl) ?_
    refine D.qgX (k := 11) rfl (by kernel_rfl) (by kernel_rfl) (by kernel_rfl) rfl rfl rfl (Qt.load rfl (Ld.one (v := .slice B t2.length d) (Has.at 0 rfl) Tryz.one112 rfl)) ?_
    refine D.cgX (k := 12) rfl (by kernel_rfl) (by kernel_rfl) (by kernel_rfl) rfl rfl rfl (CalU.con0 Tryz.ent114 rfl (fun w hw => Calls.ret (sum_walk B d t2 w (Rd.ro hB w hw) h2 (hT.at hw)))) ?_
    refine D.qgX (k := 13) rfl (by kernel_rfl) (by kernel_rfl) (by kernel_rfl) rfl rfl rfl (Qt.eqH (a := shaH t1) (b := shaH t2) Tryz.guard49 Tryz.underlying49 Tryz.underlying5 Tryz.cells5 rfl rfl) ?_
    refine D.qY 14 rfl (Qt.pick_t rfl (by conv => lhs; whnf)) ?_
    refine D.qY 15 rfl (Qt.assign (by conv => lhs; whnf)) ?_
    refine D.done (Sub.nil _) (by kernel_rfl) ?_
    refine TC.ret ?_
    refine finQ.ret (RVs.tmp (by conv => lhs; whnf) RVs.nil) (Sub.nil _) ?_
    exact ⟨by rw [isF, decide_eq_true he, Bool.true_and]; rfl, rfl⟩
set_option maxHeartbeats 800000 in
theorem is26_walk (A : Option Addr) (c : Nat) (t1 : List UInt8) (B : Option Addr) (d : Nat) (t2 : List UInt8) (w0 : World) (hA : Ro w0 [] (SlA A (bytesL t1))) (hB : Ro w0 [] (SlA B (bytesL t2))) (h1 : t1.length ≤ 70368744177664) (h2 : t2.length ≤ 70368744177664) (hT : Tabs 2 0 w0 []) :
    Calls Tryz.prog 51 #[.agg #[.slice A t1.length c, .slice B t2.length d]] w0 (Post w0 [] fun v L => v = .bool (isF (t1, t2)) ∧ L = []) := by
  refine Calls.of (L := []) (n := 19) (rs := [.tmp 2]) Tryz.func51 rfl rfl rfl (Nat.le_of_ble_eq_true rfl) (Sat.nil _) ?_
  refine TC.seq ?_
  refine TC.region ?_
  refine S.opS rfl rfl (OpV.box (v := .agg #[.slice A t1.length c, .slice B t2.length d]) rfl (fun b1 => ?_))
  refine S.as ?_
  refine S.nil ?_
  refine TC.seq ?_
  refine S.draw ([], []) Tryz.mixed (Sub.nil _) ?_
  refine D.qY 0 rfl (Qt.field Tryz.underlying115 rfl Tryz.cells112 rfl) ?_
  refine D.qY 1 rfl (Qt.load rfl (Ld.one (v := .slice A t1.length c) (Has.at 0 rfl) Tryz.one112 rfl)) ?_
  refine D.qY 2 rfl (Qt.bytesStrA (bs := t1) Tryz.underlying112 Tryz.underlying5 Tryz.underlying9 rfl rfl (Has.ro hA)) ?_
  refine D.qY 3 rfl (Qt.field Tryz.underlying115 rfl Tryz.cells112 rfl) ?_
  refine D.qY 4 rfl (Qt.load rfl (Ld.one (v := .slice B t2.length d) (Has.at 0 rfl) Tryz.one112 rfl)) ?_
  refine D.qY 5 rfl (Qt.bytesStrA (bs := t2) Tryz.underlying112 Tryz.underlying5 Tryz.underlying9 rfl rfl (Has.ro hB)) ?_
  refine D.decX (k := 6) rfl (by kernel_rfl) (by kernel_rfl) (by kernel_rfl) rfl rfl (Qt.neStr (s := t1) (t := t2) rfl rfl) (fun he => ?_) (fun he => ?_)
  · refine D.qY 7 rfl (Qt.move (by conv => lhs; whnf)) ?_
    refine D.qgX (k := 8) rfl (by kernel_rfl) (by kernel_rfl) (by kernel_rfl) rfl rfl rfl (Qt.field Tryz.underlying115 rfl Tryz.cells112 rfl) ?_
    refine D.qgX (k := 9) rfl (by kernel_rfl) (by kernel_rfl) (by kernel_rfl) rfl rfl rfl (Qt.load rfl (Ld.one (v := .slice A t1.length c) (Has.at 0 rfl) Tryz.one112 rfl)) ?_
    refine D.cgX (k := 10) rfl (by kernel_rfl) (by kernel_rfl) (by kernel_rfl) rfl rfl rfl (CalU.con0 Tryz.ent57 rfl (fun w hw => Calls.ret (rsum_walk A c t1 w (Rd.ro hA w hw) h1 (hT.at hw)))) ?_
    refine D.qgX (k := 11) rfl (by kernel_rfl) (by kernel_rfl) (by kernel_rfl) rfl rfl rfl (Qt.field Tryz.underlying115 rfl Tryz.cells112 rfl) ?_
    refine D.qgX (k := 12) rfl (by kernel_rfl) (by kernel_rfl) (by kernel_rfl) rfl rfl rfl (Qt.load rfl (Ld.one (v := .slice B t2.length d) (Has.at 0 rfl) Tryz.one112 rfl)) ?_
    refine D.cgX (k := 13) rfl (by kernel_rfl) (by kernel_rfl) (by kernel_rfl) rfl rfl rfl (CalU.con0 Tryz.ent57 rfl (fun w hw => Calls.ret (rsum_walk B d t2 w (Rd.ro hB w hw) h2 (hT.at hw)))) ?_
    refine D.qgX (k := 14) rfl (by kernel_rfl) (by kernel_rfl) (by kernel_rfl) rfl rfl rfl (Qt.eqH (a := shaH t1) (b := shaH t2) Tryz.guard49 Tryz.underlying49 Tryz.underlying5 Tryz.cells5 rfl rfl) ?_
    refine D.qY 15 rfl (Qt.pick_t rfl (by conv => lhs; whnf)) ?_
    refine D.qY 16 rfl (Qt.assign (by conv => lhs; whnf)) ?_
    refine D.done (Sub.nil _) (by kernel_rfl) ?_
    refine TC.ret ?_
    refine finQ.ret (RVs.tmp (by conv => lhs; whnf) RVs.nil) (Sub.nil _) ?_
    exact ⟨by rw [isF, decide_eq_true he, Bool.true_and]; rfl, rfl⟩
  · refine D.qY 7 rfl (Qt.move (by conv => lhs; whnf)) ?_
    refine D.pass (k := 8) rfl (by kernel_rfl) (by kernel_rfl) rfl rfl rfl ?_
    refine D.pass (k := 9) rfl (by kernel_rfl) (by kernel_rfl) rfl rfl rfl ?_
    refine D.pass (k := 10) rfl (by kernel_rfl) (by kernel_rfl) rfl rfl rfl ?_
    refine D.pass (k := 11) rfl (by kernel_rfl) (by kernel_rfl) rfl rfl rfl ?_
    refine D.pass (k := 12) rfl (by kernel_rfl) (by kernel_rfl) rfl rfl rfl ?_
    refine D.pass (k := 13) rfl (by kernel_rfl) (by kernel_rfl) rfl rfl rfl ?_
    refine D.pass (k := 14) rfl (by kernel_rfl) (by kernel_rfl) rfl rfl rfl ?_
    refine D.qY 15 rfl (Qt.pick_f rfl (by conv => lhs; whnf)) ?_
    refine D.qY 16 rfl (Qt.assign (by conv => lhs; whnf)) ?_
    refine D.done (Sub.nil _) (by kernel_rfl) ?_
    refine TC.ret ?_
    refine finQ.ret (RVs.tmp (by conv => lhs; whnf) RVs.nil) (Sub.nil _) ?_
    exact ⟨by rw [isF, decide_eq_false he]; rfl, rfl⟩
end Go.Proofs.YtgdjcmehlhebdaaGreatDoor
namespace Go.Proofs.YtgdjcmehlhebdaaGreatDoor
open Go.E
set_option linter.unusedVariables false
set_option maxRecDepth 4000
theorem Tryz.build66 (A : Option Addr) (n c : Nat) (B : Option Addr) (m d : Nat) (w : World) : (Instr.build 114 #[(0, .slice A n c), (1, .slice B m d)]).run Tryz.prog w = .ok (.agg #[.slice A n c, .slice B m d]) w := by kernel_rfl
theorem Tryz.build77 (A : Option Addr) (n c : Nat) (B : Option Addr) (m d : Nat) (w : World) : (Instr.build 115 #[(0, .slice A n c), (1, .slice B m d)]).run Tryz.prog w = .ok (.agg #[.slice A n c, .slice B m d]) w := by kernel_rfl
/-- What a source of texts gives: texts, or an error. -/
def TxQ (X : Option (List (List UInt8))) (v : Value) (L : List Assn) : Prop := match X with
  | none => ∃ k : Int, v = .tuple #[.slice none 0 0, .iface 73 (.int .i64 k)] ∧ L = []
  | some xs => ∃ (O : Option Addr) (d : Nat) (tt : List Tx), v = .tuple #[.slice O tt.length d, .nilIface] ∧ L = [OwnA 112 1 O tt.length d (tt.flatMap txL), Many (tt.map txOwn)] ∧ tt.map (fun t => t.2.2) = xs ∧ tt.length ≤ 16384
/-- What the document's source of texts gives. -/
def TxR (X : Option (List (List UInt8))) (v : Value) (L : List Assn) : Prop := match X with
  | none => v = .tuple #[.slice none 0 0, .bool false] ∧ L = []
  | some xs => ∃ (O : Option Addr) (d : Nat) (tt : List Tx), v = .tuple #[.slice O tt.length d, .bool true] ∧ L = [OwnA 112 1 O tt.length d (tt.flatMap txL), Many (tt.map txOwn)] ∧ tt.map (fun t => t.2.2) = xs ∧ tt.length ≤ 16384
/-- Pairs that lie in blocks of their own. -/
def PxQ (T : TypeId) (E : List Pr) (v : Value) (L : List Assn) : Prop := ∃ (O : Option Addr) (d : Nat) (ps : List Px) (Ls : List Assn), v = .slice O ps.length d ∧ L = [OwnA T 2 O ps.length d (ps.flatMap pxL), Many Ls] ∧ ps.map pxT = E ∧ ps.length ≤ 16384 ∧ ∀ p ∈ ps, txOwn p.1 ∈ Ls ∧ txOwn p.2 ∈ Ls
set_option maxHeartbeats 400000 in
theorem pickC_true (cs ds : List Value) (hc : cs.length = 33) (hd : ds.length = 33) (hc1 : cs.all (·.oneCell') = true) (hd1 : ds.all (·.oneCell') = true) (w0 : World) :
    Calls Tryz.prog 156 #[.bool true, .agg cs.toArray, .agg ds.toArray] w0 (Post w0 [] fun v L => v = .agg cs.toArray ∧ L = []) := by
  refine Calls.of (L := []) (n := 10) (rs := [.cell 6 198]) Tryz.func156 rfl rfl rfl (Nat.le_of_ble_eq_true rfl) (Sat.nil _) ?_
  refine TC.seq ?_
  refine TC.region ?_
  refine S.opS rfl rfl (OpV.box (v := .agg cs.toArray) rfl (fun b4 => ?_))
  refine S.opS rfl rfl (OpV.box (v := .agg ds.toArray) rfl (fun b5 => ?_))
  refine S.opS rfl rfl (OpV.alloc Tryz.zero198 (fun b6 => ?_))
  refine S.nil ?_
  refine TC.seq ?_
  refine TC.seq ?_
  refine TC.region ?_
  refine S.mv ?_
  refine S.nil ?_
  refine S.if_t rfl ?_
  refine TC.seq ?_
  refine TC.region ?_
  refine S.q rfl rfl (Qt.load rfl (Ld.all (vs := cs) (Has.at 2 rfl) Tryz.row198 (by rw [hc]; exact Tryz.cells198))) ?_
  refine S.opN rfl (OpV.storeV0 (v := .agg cs.toArray) rfl rfl (by rw [vl_agg, hc]; exact Tryz.cells198) (hc1) (by rw [vl_agg, hc]; rfl) ?_)
  refine S.nil ?_
  refine TC.ret ?_
  refine finQ.ret (RVs.cell rfl (Ld.all (Has.at 0 rfl) Tryz.row198 (by rw [vl_agg, hc]; exact Tryz.cells198)) RVs.nil) (Sub.nil _) ?_
  exact ⟨rfl, rfl⟩
set_option maxHeartbeats 400000 in
theorem pickC_false (cs ds : List Value) (hc : cs.length = 33) (hd : ds.length = 33) (hc1 : cs.all (·.oneCell') = true) (hd1 : ds.all (·.oneCell') = true) (w0 : World) :
    Calls Tryz.prog 156 #[.bool false, .agg cs.toArray, .agg ds.toArray] w0 (Post w0 [] fun v L => v = .agg ds.toArray ∧ L = []) := by
  refine Calls.of (L := []) (n := 10) (rs := [.cell 6 198]) Tryz.func156 rfl rfl rfl (Nat.le_of_ble_eq_true rfl) (Sat.nil _) ?_
  refine TC.seq ?_
  refine TC.region ?_
  refine S.opS rfl rfl (OpV.box (v := .agg cs.toArray) rfl (fun b4 => ?_))
  refine S.opS rfl rfl (OpV.box (v := .agg ds.toArray) rfl (fun b5 => ?_))
  refine S.opS rfl rfl (OpV.alloc Tryz.zero198 (fun b6 => ?_))
  refine S.nil ?_
  refine TC.seq ?_
  refine TC.seq ?_
  refine TC.region ?_
  refine S.mv ?_
  refine S.nil ?_
  refine S.if_f rfl ?_
  refine TC.skip ?_
  refine TC.seq ?_
  refine TC.region ?_
  refine S.q rfl rfl (Qt.load rfl (Ld.all (vs := ds) (Has.at 1 rfl) Tryz.row198 (by rw [hd]; exact Tryz.cells198))) ?_
  refine S.opN rfl (OpV.storeV0 (v := .agg ds.toArray) rfl rfl (by rw [vl_agg, hd]; exact Tryz.cells198) (hd1) (by rw [vl_agg, hd]; rfl) ?_)
  refine S.nil ?_
  refine TC.ret ?_
  refine finQ.ret (RVs.cell rfl (Ld.all (Has.at 0 rfl) Tryz.row198 (by rw [vl_agg, hd]; exact Tryz.cells198)) RVs.nil) (Sub.nil _) ?_
  exact ⟨rfl, rfl⟩
set_option maxHeartbeats 400000 in
theorem join45_walk (cb : Nat) (O : Option Addr) (tt : List Tx) (d l : Nat) (h1 : 1 ≤ l) (h2 : l ≤ 32) (a b : H32) (hn : tt.length < 16384) (w0 : World) (h0 : Sat w0 [Blk cb 229 [.slice O (tt).length d], OwnA 112 1 O (tt).length d ((tt).flatMap txL), Many ((tt).map txOwn)]) (hT : Tabs 3 1 w0 (fps [Blk cb 229 [.slice O (tt).length d], OwnA 112 1 O (tt).length d ((tt).flatMap txL), Many ((tt).map txOwn)])) :
    Calls Tryz.prog 183 #[.pointer (some ⟨cb, 0, none⟩), .int .i64 (l : Int), hv a, hv b] w0 (Post w0 (fps [Blk cb 229 [.slice O (tt).length d], OwnA 112 1 O (tt).length d ((tt).flatMap txL), Many ((tt).map txOwn)]) fun v L => ∃ O' d' t, v = .tuple #[hv (joinH l a b), .nilIface] ∧ L = [Blk cb 229 [.slice O' (tt ++ [t]).length d'], OwnA 112 1 O' (tt ++ [t]).length d' ((tt ++ [t]).flatMap txL), Many ((tt ++ [t]).map txOwn)] ∧ t.2.2 = joinT l a b) := by
  refine Calls.of (L := [Blk cb 229 [.slice O (tt).length d], OwnA 112 1 O (tt).length d ((tt).flatMap txL), Many ((tt).map txOwn)]) (n := 35) (rs := [.cell 8 49, .tmp 9]) Tryz.func183 rfl rfl rfl (Nat.le_of_ble_eq_true rfl) (h0) ?_
  refine TC.seq ?_
  refine TC.region ?_
  refine S.opS rfl rfl (OpV.box (v := hv a) rfl (fun b6 => ?_))
  refine S.opS rfl rfl (OpV.box (v := hv b) rfl (fun b7 => ?_))
  refine S.opS rfl rfl (OpV.alloc Tryz.zero49 (fun b8 => ?_))
  refine S.as ?_
  refine S.nil ?_
  refine TC.seq ?_
  refine TC.region ?_
  refine S.mv ?_
  refine S.q rfl rfl (Qt.load rfl (Ld.hash1 (x := a) (Has.at 2 rfl) Tryz.row49 Tryz.cells49)) ?_
  refine S.q rfl rfl (Qt.load rfl (Ld.hash1 (x := b) (Has.at 1 rfl) Tryz.row49 Tryz.cells49)) ?_
  refine S.opS rfl rfl (OpV.con (Pre := []) (R := _) Tryz.ent176 rfl (List.Perm.refl _) (fun w hw => jointext_walk l h1 h2 a b w) ?_)
  rintro v L' ⟨Ot, dt, rfl, rfl⟩
  refine TL.manyJoin (List.Perm.cons _ (List.perm_middle (l₁ := [_, _, _, _, _]))) ?_
  refine S.mv ?_
  refine S.q rfl rfl (Qt.extract rfl rfl) ?_
  refine S.q rfl rfl (Qt.extract rfl rfl) ?_
  refine S.as ?_
  refine S.as ?_
  refine S.nil ?_
  refine TC.seq ?_
  refine TC.seq ?_
  refine TC.region ?_
  refine S.mv ?_
  refine S.q rfl rfl (Qt.nenil_nil Tryz.underlying51 rfl) ?_
  refine S.nil ?_
  refine S.if_f rfl ?_
  refine TC.skip ?_
  refine TC.seq ?_
  refine TC.region ?_
  refine S.mv ?_
  refine S.mv ?_
  refine S.q rfl rfl (Qt.nilCheck rfl) ?_
  refine S.q rfl rfl (Qt.field Tryz.underlying229 rfl Tryz.cells111 rfl) ?_
  refine S.q rfl rfl (Qt.load rfl (Ld.one (v := .slice O tt.length d) (Has.at 4 rfl) Tryz.one111 rfl)) ?_
  refine S.mv ?_
  refine S.opS rfl rfl (OpV.slice1 (bytes := 24) (v := .slice Ot (joinT l a b).length dt) Tryz.underlying111 Tryz.elem112 (by decide) rfl rfl (fun g29 => ?_))
  refine S.opS rfl rfl (OpV.app6 (bytes := 24) (news := [.slice Ot (joinT l a b).length dt]) Tryz.underlying111 Tryz.elem112 rfl rfl (Has.blk (cs := [.slice Ot (joinT l a b).length dt]) (Has.at 0 rfl)) rfl (by intro u hu; rw [List.mem_singleton.1 hu]; rfl) (by simp only [maxLen]; omega) (by omega) (fun O3 d3 => ?_))
  refine S.q rfl rfl (Qt.nilCheck rfl) ?_
  refine S.q rfl rfl (Qt.field Tryz.underlying229 rfl Tryz.cells111 rfl) ?_
  refine S.opN rfl (OpV.storeC5 rfl (by conv => lhs; whnf) Tryz.cells111 rfl rfl (Nat.le_of_ble_eq_true rfl) ?_)
  refine S.nil ?_
  refine TC.seq ?_
  refine TC.region ?_
  refine S.mv ?_
  refine S.opS rfl rfl (OpV.con0 Tryz.ent114 rfl (fun w hw => Calls.ret (sum_walk Ot dt (joinT l a b) w (Rd.own (e := 5) (sz := 1) (Rd.many (A := OwnA 5 1 Ot (joinT l a b).length dt (bytesL (joinT l a b))) (Rd.at 1 rfl) (List.mem_append.2 (.inr (List.mem_singleton.2 rfl)))) w hw) (by rw [joinT_length]; decide) (hT.at hw))) ?_)
  refine S.opN rfl (OpV.storeV2 (v := hv (_)) rfl rfl (hv_size Tryz.cells49) (hv_all _) (hv_len _) ?_)
  refine S.as ?_
  refine S.nil ?_
  refine TC.ret ?_
  refine finQ.ret (RVs.cell rfl (Ld.all (Has.at 2 rfl) Tryz.row49 (hv_size Tryz.cells49)) (RVs.tmp (by conv => lhs; whnf) RVs.nil)) (Sub.trans (Sub.keep _ (Sub.keep _ (Sub.keep _ (Sub.drop _ (Sub.drop _ (Sub.drop _ (Sub.drop _ (Sub.nil [])))))))) (Sub.trans (Sub.keep _ (Sub.trans (Sub.keep _ (Sub.trans (Sub.keep _ (Sub.refl _)) (Sub.of_perm (List.perm_middle (l₁ := [_]))))) (Sub.of_perm (List.perm_middle (l₁ := [_, _, _, _, _]))))) (Sub.of_perm (List.perm_middle (l₁ := [_, _, _, _, _]))))) ?_
  refine ⟨O3, d3, (Ot, dt, joinT l a b), rfl, ?_, rfl⟩
  simp only [List.length_append, List.flatMap_append, List.map_append]
  rfl
set_option maxHeartbeats 400000 in
theorem path22_walkF (x : H32) (i : Nat) (A : Option Addr) (c : Nat) (ps : List H32) (hi : i < 18446744073709551616) (hf : ¬ fitsP i ps.length) (w0 : World) :
    Calls Tryz.prog 155 #[.int .u64 (i : Int), .agg (hvl x ++ [Value.slice A ps.length c]).toArray] w0 (Post w0 [] fun v L => TxQ none v L) := by
  refine Calls.of (L := []) (n := 67) (rs := [.tmp 4, .tmp 5]) Tryz.func155 rfl rfl rfl (Nat.le_of_ble_eq_true rfl) (Sat.nil _) ?_
  refine TC.seq ?_
  refine TC.region ?_
  refine S.opS rfl rfl (OpV.box (v := .agg (hvl x ++ [Value.slice A ps.length c]).toArray) rfl (fun b3 => ?_))
  refine S.as ?_
  refine S.as ?_
  refine S.nil ?_
  refine TC.seq ?_
  refine TC.seq ?_
  refine TC.region ?_
  refine S.q rfl rfl (Qt.field Tryz.underlying198 rfl Tryz.cells49 rfl) ?_
  refine S.q rfl rfl (Qt.load rfl (Ld.row (vs := hvl x) (Has.at 0 rfl) Tryz.row49 (by rw [hvl_length]; exact Tryz.cells49) (cut_leaf x _))) ?_
  refine S.mv ?_
  refine S.q rfl rfl (Qt.field Tryz.underlying198 rfl Tryz.cells33 rfl) ?_
  refine S.q rfl rfl (Qt.load rfl (Ld.one (v := .slice A ps.length c) (Has.at 0 rfl) Tryz.one33 (cut_path x _))) ?_
  refine S.opS rfl rfl (OpV.con0 Tryz.ent170 rfl (fun w hw => climbF_R x i A ps.length c hi hf w) ?_)
  refine S.mv ?_
  refine S.q rfl rfl (Qt.extract rfl rfl) ?_
  refine S.q rfl rfl (Qt.extract rfl rfl) ?_
  refine S.opS rfl rfl (OpV.alloc Tryz.zero49 (fun b6 => ?_))
  refine S.opN rfl (OpV.storeV0 (v := hv (_)) rfl rfl (hv_size Tryz.cells49) (hv_all _) (hv_len _) ?_)
  refine S.as ?_
  refine S.nil ?_
  refine TC.seq ?_
  refine TC.region ?_
  refine S.mv ?_
  refine S.q rfl rfl (Qt.nenil_iface Tryz.underlying51 rfl) ?_
  refine S.nil ?_
  refine S.if_t rfl ?_
  refine TC.seq ?_
  refine TC.region ?_
  refine S.mv ?_
  refine S.as ?_
  refine S.as ?_
  refine S.nil ?_
  refine TC.ret ?_
  refine finQ.ret (RVs.tmp (by conv => lhs; whnf) (RVs.tmp (by conv => lhs; whnf) RVs.nil)) (Sub.nil _) ?_
  exact ⟨1, rfl, rfl⟩
set_option maxHeartbeats 1600000 in
theorem path22_walk (x : H32) (i : Nat) (A : Option Addr) (c : Nat) (ps : List H32) (hi : i < 18446744073709551616) (hf : fitsP i ps.length) (w0 : World) (hR : Ro w0 [] (SlA A (hcs ps))) (hT : Tabs 3 1 w0 []) :
    Calls Tryz.prog 155 #[.int .u64 (i : Int), .agg (hvl x ++ [Value.slice A ps.length c]).toArray] w0 (Post w0 [] fun v L => TxQ (some (pathX x i ps)) v L) := by
  refine Calls.of (L := []) (n := 67) (rs := [.tmp 4, .tmp 5]) Tryz.func155 rfl rfl rfl (Nat.le_of_ble_eq_true rfl) (Sat.nil _) ?_
  have hf1 := hf.1
  refine TC.seq ?_
  refine TC.region ?_
  refine S.opS rfl rfl (OpV.box (v := .agg (hvl x ++ [Value.slice A ps.length c]).toArray) rfl (fun b3 => ?_))
  refine S.as ?_
  refine S.as ?_
  refine S.nil ?_
  refine TC.seq ?_
  refine TC.seq ?_
  refine TC.region ?_
  refine S.q rfl rfl (Qt.field Tryz.underlying198 rfl Tryz.cells49 rfl) ?_
  refine S.q rfl rfl (Qt.load rfl (Ld.row (vs := hvl x) (Has.at 0 rfl) Tryz.row49 (by rw [hvl_length]; exact Tryz.cells49) (cut_leaf x _))) ?_
  refine S.mv ?_
  refine S.q rfl rfl (Qt.field Tryz.underlying198 rfl Tryz.cells33 rfl) ?_
  refine S.q rfl rfl (Qt.load rfl (Ld.one (v := .slice A ps.length c) (Has.at 0 rfl) Tryz.one33 (cut_path x _))) ?_
  refine S.opS rfl rfl (OpV.con0 Tryz.ent170 rfl (fun w hw => climb_R x i A ps.length c ps rfl hi hf w (Rd.ro hR w hw) (hT.at hw)) ?_)
  refine S.mv ?_
  refine S.q rfl rfl (Qt.extract rfl rfl) ?_
  refine S.q rfl rfl (Qt.extract rfl rfl) ?_
  refine S.opS rfl rfl (OpV.alloc Tryz.zero49 (fun b6 => ?_))
  refine S.opN rfl (OpV.storeV0 (v := hv (_)) rfl rfl (hv_size Tryz.cells49) (hv_all _) (hv_len _) ?_)
  refine S.as ?_
  refine S.nil ?_
  refine TC.seq ?_
  refine TC.region ?_
  refine S.mv ?_
  refine S.q rfl rfl (Qt.nenil_nil Tryz.underlying51 rfl) ?_
  refine S.nil ?_
  refine S.if_f rfl ?_
  refine TC.skip ?_
  refine TC.seq ?_
  refine TC.region ?_
  refine S.q rfl rfl (Qt.build (v := .agg #[.slice none 0 0]) rfl (fun _ => by kernel_rfl)) ?_
  refine S.opS rfl rfl (OpV.box (v := .agg #[.slice none 0 0]) rfl (fun b29 => ?_))
  refine S.as ?_
  refine S.nil ?_
  refine TC.seq ?_
  refine TC.region ?_
  refine S.q rfl rfl (Qt.field Tryz.underlying198 rfl Tryz.cells49 rfl) ?_
  refine S.q rfl rfl (Qt.load rfl (Ld.row (vs := hvl x) (Has.at 2 rfl) Tryz.row49 (by rw [hvl_length]; exact Tryz.cells49) (cut_leaf x _))) ?_
  refine S.opS rfl rfl (OpV.alloc Tryz.zero49 (fun b9 => ?_))
  refine S.opN rfl (OpV.storeV0 (v := hv (x)) rfl rfl (hv_size Tryz.cells49) (hv_all _) (hv_len _) ?_)
  refine S.nil ?_
  refine TC.seq ?_
  refine TC.seq ?_
  refine TC.region ?_
  refine S.q rfl rfl (Qt.field Tryz.underlying198 rfl Tryz.cells33 rfl) ?_
  refine S.q rfl rfl (Qt.load rfl (Ld.one (v := .slice A ps.length c) (Has.at 3 rfl) Tryz.one33 (cut_path x _))) ?_
  refine S.q rfl rfl (Qt.len_slice Tryz.underlying33 rfl) ?_
  refine S.mv ?_
  refine S.nil ?_
  refine TC.block ?_
  refine TC.ownNil 112 1 ?_
  refine TC.manyNil ?_
  refine TC.loop (γ := Nat × Option Addr × List Tx × Nat) [36, 37, 38, 39, 11, 10, 40, 41, 12, 13, 42, 43, 44, 45, 46, 47, 48, 50, 51, 52, 53, 54, 55, 49, 56, 57, 14, 15, 58, 59, 60, 4, 5, 61, 62, 35] (fun g => [(35, .int .i64 ((g.1 : Nat) : Int))]) (fun g => [Blk b29 229 [.slice g.2.1 g.2.2.1.length g.2.2.2], OwnA 112 1 g.2.1 (g.2.2.1).length g.2.2.2 ((g.2.2.1).flatMap txL), Many ((g.2.2.1).map txOwn), Blk b9 49 (hvl (climbK x i ps g.1)), Blk b3 198 (vl (.agg (hvl x ++ [Value.slice A ps.length c]).toArray))]) (fun g => g.1 ≤ ps.length ∧ g.2.2.1.map (fun t => t.2.2) = (List.range g.1).map (stepX x i ps)) (fun g => ps.length - g.1) ((0, none, [], 0))
    ⟨Nat.zero_le _, rfl⟩ ⟨Out.refl _ _, (List.forall_mem_cons.2 ⟨rfl, (fun _ h => nomatch h)⟩)⟩ (Sub.trans (Sub.keep _ (Sub.keep _ (Sub.keep _ (Sub.keep _ (Sub.keep _ (Sub.drop _ (Sub.nil []))))))) (Sub.trans (Sub.keep _ (Sub.trans (Sub.keep _ (Sub.keep _ (Sub.keep _ (Sub.trans (Sub.keep _ (Sub.refl _)) (Sub.of_perm (List.perm_middle (l₁ := [_]))))))) (Sub.of_perm (List.perm_middle (l₁ := [_]))))) (Sub.of_perm (List.perm_middle (l₁ := [_, _, _]))))) ?_
  rintro ⟨k, O, tt, d⟩ u ⟨hk, htt⟩
  dsimp only at hk htt
  have htl : tt.length = k := by have := congrArg List.length htt; simpa using this
  show TC _ _ _ (puts [(35, .int .i64 (k : Int))] (scr _ u _)) [Blk b29 229 [.slice O tt.length d], OwnA 112 1 O (tt).length d ((tt).flatMap txL), Many ((tt).map txOwn), Blk b9 49 (hvl (climbK x i ps k)), Blk b3 198 (vl (.agg (hvl x ++ [Value.slice A ps.length c]).toArray))]
  refine TC.seq ?_
  refine TC.region ?_
  refine S.dec rfl rfl (Qt.lt rfl rfl) (fun h36 => ?_) (fun h36 => ?_)
  · refine S.nil ?_
    refine TC.seq ?_
    refine S.if_t rfl ?_
    refine TC.skip ?_
    refine TC.seq ?_
    refine TC.block ?_
    refine TC.seq ?_
    refine TC.region ?_
    refine S.mv ?_
    refine S.q rfl rfl (Qt.index Tryz.underlying33 Tryz.cells49 rfl rfl (by omega) (Has.ro hR) (by rw [hcs_length]; omega)) ?_
    refine S.q rfl rfl (Qt.load rfl (Ld.hashS (Has.ro hR) k Tryz.row49 Tryz.cells49 (by omega) rfl)) ?_
    refine S.opS rfl rfl (OpV.alloc Tryz.zero49 (fun b11 => ?_))
    refine S.as ?_
    refine S.opN rfl (OpV.storeV0 (v := hv (ps.getD k zeroH)) rfl rfl (hv_size Tryz.cells49) (hv_all _) (hv_len _) ?_)
    refine S.nil ?_
    refine TC.seq ?_
    refine S.draw ([4, 5], [2, 3]) Tryz.mixed (Sub.refl _) ?_
    refine D.qY 0 rfl (Qt.load rfl (Ld.hash1 (x := climbK x i ps k) (Has.at 4 rfl) Tryz.row49 Tryz.cells49)) ?_
    refine D.q (k := 1) rfl (by kernel_rfl) (by kernel_rfl) rfl rfl (Qt.load rfl (Ld.hash1 (x := ps.getD k zeroH) (Has.at 0 rfl) Tryz.row49 Tryz.cells49)) ?_
    refine D.two (k1 := 2) (k2 := 3) (Sub.refl _) rfl rfl (by kernel_rfl) (by kernel_rfl) (by kernel_rfl) (by kernel_rfl) (by kernel_rfl) (by kernel_rfl) rfl rfl rfl Tryz.zero49 Tryz.zero49 (fun b12 b13 => ?_)
    refine D.opN (k := 4) (Sub.drop _ (Sub.drop _ (Sub.keep _ (Sub.keep _ (Sub.keep _ (Sub.keep _ (Sub.keep _ (Sub.keep _ (Sub.nil []))))))))) rfl (by kernel_rfl) (by kernel_rfl) rfl (OpV.storeV1 (v := hv (climbK x i ps k)) rfl rfl (hv_size Tryz.cells49) (hv_all _) (hv_len _) ⟨Sub.drop _ (Sub.drop _ (Sub.keep _ (Sub.keep _ (Sub.keep _ (Sub.keep _ (Sub.keep _ (Sub.keep _ (Sub.nil [])))))))), ?_⟩)
    refine D.opN (k := 5) (Sub.drop _ (Sub.drop _ (Sub.keep _ (Sub.keep _ (Sub.keep _ (Sub.keep _ (Sub.keep _ (Sub.keep _ (Sub.nil []))))))))) rfl (by kernel_rfl) (by kernel_rfl) rfl (OpV.storeV0 (v := hv (ps.getD k zeroH)) rfl rfl (hv_size Tryz.cells49) (hv_all _) (hv_len _) ⟨Sub.drop _ (Sub.drop _ (Sub.keep _ (Sub.keep _ (Sub.keep _ (Sub.keep _ (Sub.keep _ (Sub.keep _ (Sub.nil [])))))))), ?_⟩)
    refine D.done (Sub.drop _ (Sub.drop _ (Sub.keep _ (Sub.keep _ (Sub.keep _ (Sub.keep _ (Sub.keep _ (Sub.keep _ (Sub.nil []))))))))) (by kernel_rfl) ?_
    refine TC.seq ?_
    refine TC.seq ?_
    refine TC.region ?_
    refine S.mv ?_
    refine S.mv ?_
    refine S.q rfl rfl (Qt.shrN rfl rfl (by simp only [kmax]; omega)) ?_
    refine S.q rfl rfl (Qt.as (Qt.andN (b := 1) rfl rfl (by have := Nat.div_le_self i (2 ^ k); simp only [kmax]; omega) (by simp only [kmax]; omega)) (by rw [Nat.and_one_is_mod])) ?_
    refine S.dec rfl rfl (Qt.eq (b := 1) rfl rfl) (fun h46 => ?_) (fun h46 => ?_)
    · refine S.nil ?_
      refine S.if_t rfl ?_
      refine S.draw ([2, 3], []) Tryz.mixed (Sub.drop _ (Sub.drop _ (Sub.keep _ (Sub.keep _ (Sub.keep _ (Sub.keep _ (Sub.keep _ (Sub.keep _ (Sub.nil []))))))))) ?_
      refine D.qY 0 rfl (Qt.load rfl (Ld.hash1 (x := ps.getD k zeroH) (Has.at 2 rfl) Tryz.row49 Tryz.cells49)) ?_
      refine D.q (k := 1) rfl (by kernel_rfl) (by kernel_rfl) rfl rfl (Qt.load rfl (Ld.hash1 (x := climbK x i ps k) (Has.at 4 rfl) Tryz.row49 Tryz.cells49)) ?_
      refine D.opN (k := 2) (Sub.drop _ (Sub.drop _ (Sub.keep _ (Sub.keep _ (Sub.keep _ (Sub.keep _ (Sub.keep _ (Sub.keep _ (Sub.nil []))))))))) rfl (by kernel_rfl) (by kernel_rfl) rfl (OpV.storeV1 (v := hv (ps.getD k zeroH)) rfl rfl (hv_size Tryz.cells49) (hv_all _) (by rw [hv_len, hv_len]) ⟨Sub.drop _ (Sub.drop _ (Sub.keep _ (Sub.keep _ (Sub.keep _ (Sub.keep _ (Sub.keep _ (Sub.keep _ (Sub.nil [])))))))), ?_⟩)
      refine D.opN (k := 3) (Sub.drop _ (Sub.drop _ (Sub.keep _ (Sub.keep _ (Sub.keep _ (Sub.keep _ (Sub.keep _ (Sub.keep _ (Sub.nil []))))))))) rfl (by kernel_rfl) (by kernel_rfl) rfl (OpV.storeV0 (v := hv (climbK x i ps k)) rfl rfl (hv_size Tryz.cells49) (hv_all _) (by rw [hv_len, hv_len]) ⟨Sub.drop _ (Sub.drop _ (Sub.keep _ (Sub.keep _ (Sub.keep _ (Sub.keep _ (Sub.keep _ (Sub.keep _ (Sub.nil [])))))))), ?_⟩)
      refine D.done (Sub.drop _ (Sub.drop _ (Sub.keep _ (Sub.keep _ (Sub.keep _ (Sub.keep _ (Sub.keep _ (Sub.keep _ (Sub.nil []))))))))) (by kernel_rfl) ?_
      refine TC.seq ?_
      refine TC.region ?_
      refine S.mv ?_
      refine S.mv ?_
      refine S.q rfl rfl (Qt.add (b := 1) rfl rfl (by simp only [kmax]; omega)) ?_
      refine S.q rfl rfl (Qt.load rfl (Ld.hash1 (x := ps.getD k zeroH) (Has.at 1 rfl) Tryz.row49 Tryz.cells49)) ?_
      refine S.q rfl rfl (Qt.load rfl (Ld.hash1 (x := climbK x i ps k) (Has.at 0 rfl) Tryz.row49 Tryz.cells49)) ?_
      refine S.opS rfl rfl (OpV.con (Pre := [Blk b29 229 [.slice O tt.length d], OwnA 112 1 O (tt).length d ((tt).flatMap txL), Many ((tt).map txOwn)]) (R := _) Tryz.ent183 rfl ((List.perm_middle (l₁ := [_, _, _])).trans (List.Perm.cons _ ((List.perm_middle (l₁ := [_, _, _])).trans (List.Perm.cons _ (List.perm_middle (l₁ := [_, _, _])))))) (fun w hw => join45_walk b29 O tt d (k + 1) (by omega) (by omega) (ps.getD k zeroH) (climbK x i ps k) (by omega) w hw.sat.left (hT.pre hw)) ?_)
      rintro v L' ⟨O', d', t, rfl, rfl, et⟩
      have hst : joinH (k + 1) (ps.getD k zeroH) (climbK x i ps k) = climbK x i ps (k + 1) := (climb_odd h46).symm
      have hx2 : joinT (k + 1) (ps.getD k zeroH) (climbK x i ps k) = stepX x i ps k := by unfold stepX; rw [if_pos h46]
      rw [hst]
      refine S.mv ?_
      refine S.q rfl rfl (Qt.extract rfl rfl) ?_
      refine S.q rfl rfl (Qt.extract rfl rfl) ?_
      refine S.opS rfl rfl (OpV.alloc Tryz.zero49 (fun b14 => ?_))
      refine S.opN rfl (OpV.storeV0 (v := hv (climbK x i ps (k + 1))) rfl rfl (hv_size Tryz.cells49) (hv_all _) (hv_len _) ?_)
      refine S.as ?_
      refine S.nil ?_
      refine TC.seq ?_
      refine TC.seq ?_
      refine TC.region ?_
      refine S.mv ?_
      refine S.q rfl rfl (Qt.nenil_nil Tryz.underlying51 rfl) ?_
      refine S.nil ?_
      refine S.if_f rfl ?_
      refine TC.skip ?_
      refine TC.region ?_
      refine S.q rfl rfl (Qt.load rfl (Ld.hash1 (x := climbK x i ps (k + 1)) (Has.at 0 rfl) Tryz.row49 Tryz.cells49)) ?_
      refine S.opN rfl (OpV.storeV7 (v := hv (climbK x i ps (k + 1))) rfl rfl (hv_size Tryz.cells49) (hv_all _) (by rw [hv_len, hvl_length]) ?_)
      refine S.nil ?_
      refine TC.region ?_
      refine S.q rfl rfl (Qt.add (b := 1) rfl rfl (by simp only [kmax]; omega)) ?_
      refine S.mv ?_
      refine S.nil ?_
      refine ⟨(k + 1, O', tt ++ [t], d'), ?_, ?_, ⟨?_, (List.forall_mem_cons.2 ⟨rfl, (fun _ h => nomatch h)⟩)⟩, Sub.trans (Sub.keep _ (Sub.keep _ (Sub.keep _ (Sub.keep _ (Sub.keep _ (Sub.drop _ (Sub.drop _ (Sub.drop _ (Sub.drop _ (Sub.nil [])))))))))) (Sub.trans (Sub.keep _ (Sub.trans (Sub.keep _ (Sub.trans (Sub.keep _ (Sub.trans (Sub.keep _ (Sub.trans (Sub.keep _ (Sub.refl _)) (Sub.of_perm (List.perm_middle (l₁ := [_, _, _, _]))))) (Sub.of_perm (List.perm_middle (l₁ := [_, _, _, _]))))) (Sub.of_perm (List.perm_middle (l₁ := [_]))))) (Sub.of_perm (List.perm_middle (l₁ := [_]))))) (Sub.of_perm (List.perm_middle (l₁ := [_]))))⟩
      · exact ⟨by show _ ≤ _; dsimp only; omega, by dsimp only; rw [List.map_append, htt, List.range_succ, List.map_append, List.map_singleton, List.map_singleton, et, hx2]⟩
      · show _ < _; dsimp only; omega
      repeat (first | exact Out.refl _ _ | refine Out.put rfl ?_ | refine Out.puts rfl ?_ | refine Out.scr ?_ | refine Out.scr' rfl ?_)
    · refine S.nil ?_
      refine S.if_f rfl ?_
      refine TC.skip ?_
      refine TC.seq ?_
      refine TC.region ?_
      refine S.mv ?_
      refine S.mv ?_
      refine S.q rfl rfl (Qt.add (b := 1) rfl rfl (by simp only [kmax]; omega)) ?_
      refine S.q rfl rfl (Qt.load rfl (Ld.hash1 (x := climbK x i ps k) (Has.at 1 rfl) Tryz.row49 Tryz.cells49)) ?_
      refine S.q rfl rfl (Qt.load rfl (Ld.hash1 (x := ps.getD k zeroH) (Has.at 0 rfl) Tryz.row49 Tryz.cells49)) ?_
      refine S.opS rfl rfl (OpV.con (Pre := [Blk b29 229 [.slice O tt.length d], OwnA 112 1 O (tt).length d ((tt).flatMap txL), Many ((tt).map txOwn)]) (R := _) Tryz.ent183 rfl ((List.perm_middle (l₁ := [_, _, _])).trans (List.Perm.cons _ ((List.perm_middle (l₁ := [_, _, _])).trans (List.Perm.cons _ (List.perm_middle (l₁ := [_, _, _])))))) (fun w hw => join45_walk b29 O tt d (k + 1) (by omega) (by omega) (climbK x i ps k) (ps.getD k zeroH) (by omega) w hw.sat.left (hT.pre hw)) ?_)
      rintro v L' ⟨O', d', t, rfl, rfl, et⟩
      have hst : joinH (k + 1) (climbK x i ps k) (ps.getD k zeroH) = climbK x i ps (k + 1) := (climb_even h46).symm
      have hx2 : joinT (k + 1) (climbK x i ps k) (ps.getD k zeroH) = stepX x i ps k := by unfold stepX; rw [if_neg h46]
      rw [hst]
      refine S.mv ?_
      refine S.q rfl rfl (Qt.extract rfl rfl) ?_
      refine S.q rfl rfl (Qt.extract rfl rfl) ?_
      refine S.opS rfl rfl (OpV.alloc Tryz.zero49 (fun b14 => ?_))
      refine S.opN rfl (OpV.storeV0 (v := hv (climbK x i ps (k + 1))) rfl rfl (hv_size Tryz.cells49) (hv_all _) (hv_len _) ?_)
      refine S.as ?_
      refine S.nil ?_
      refine TC.seq ?_
      refine TC.seq ?_
      refine TC.region ?_
      refine S.mv ?_
      refine S.q rfl rfl (Qt.nenil_nil Tryz.underlying51 rfl) ?_
      refine S.nil ?_
      refine S.if_f rfl ?_
      refine TC.skip ?_
      refine TC.region ?_
      refine S.q rfl rfl (Qt.load rfl (Ld.hash1 (x := climbK x i ps (k + 1)) (Has.at 0 rfl) Tryz.row49 Tryz.cells49)) ?_
      refine S.opN rfl (OpV.storeV7 (v := hv (climbK x i ps (k + 1))) rfl rfl (hv_size Tryz.cells49) (hv_all _) (by rw [hv_len, hvl_length]) ?_)
      refine S.nil ?_
      refine TC.region ?_
      refine S.q rfl rfl (Qt.add (b := 1) rfl rfl (by simp only [kmax]; omega)) ?_
      refine S.mv ?_
      refine S.nil ?_
      refine ⟨(k + 1, O', tt ++ [t], d'), ?_, ?_, ⟨?_, (List.forall_mem_cons.2 ⟨rfl, (fun _ h => nomatch h)⟩)⟩, Sub.trans (Sub.keep _ (Sub.keep _ (Sub.keep _ (Sub.keep _ (Sub.keep _ (Sub.drop _ (Sub.drop _ (Sub.drop _ (Sub.drop _ (Sub.nil [])))))))))) (Sub.trans (Sub.keep _ (Sub.trans (Sub.keep _ (Sub.trans (Sub.keep _ (Sub.trans (Sub.keep _ (Sub.trans (Sub.keep _ (Sub.refl _)) (Sub.of_perm (List.perm_middle (l₁ := [_, _, _, _]))))) (Sub.of_perm (List.perm_middle (l₁ := [_, _, _, _]))))) (Sub.of_perm (List.perm_middle (l₁ := [_]))))) (Sub.of_perm (List.perm_middle (l₁ := [_]))))) (Sub.of_perm (List.perm_middle (l₁ := [_]))))⟩
      · exact ⟨by show _ ≤ _; dsimp only; omega, by dsimp only; rw [List.map_append, htt, List.range_succ, List.map_append, List.map_singleton, List.map_singleton, et, hx2]⟩
      · show _ < _; dsimp only; omega
      repeat (first | exact Out.refl _ _ | refine Out.put rfl ?_ | refine Out.puts rfl ?_ | refine Out.scr ?_ | refine Out.scr' rfl ?_)
  · refine S.nil ?_
    refine TC.seq ?_
    refine S.if_f rfl ?_
    refine TC.exit ?_
    refine TC.seq ?_
    refine TC.region ?_
    refine S.mv ?_
    refine S.q rfl rfl (Qt.nilCheck rfl) ?_
    refine S.q rfl rfl (Qt.field Tryz.underlying229 rfl Tryz.cells111 rfl) ?_
    refine S.q rfl rfl (Qt.load rfl (Ld.one (v := .slice O tt.length d) (Has.at 0 rfl) Tryz.one111 rfl)) ?_
    refine S.as ?_
    refine S.as ?_
    refine S.nil ?_
    refine TC.ret ?_
    refine finQ.ret (RVs.tmp (by conv => lhs; whnf) (RVs.tmp (by conv => lhs; whnf) RVs.nil)) (Sub.trans (Sub.keep _ (Sub.keep _ (Sub.drop _ (Sub.drop _ (Sub.drop _ (Sub.nil [])))))) (Sub.trans (Sub.keep _ (Sub.trans (Sub.keep _ (Sub.refl _)) (Sub.of_perm (List.perm_middle (l₁ := [_]))))) (Sub.of_perm (List.perm_middle (l₁ := [_]))))) ?_
    obtain rfl : k = ps.length := by omega
    exact ⟨O, d, tt, rfl, rfl, htt, by omega⟩
end Go.Proofs.YtgdjcmehlhebdaaGreatDoor
