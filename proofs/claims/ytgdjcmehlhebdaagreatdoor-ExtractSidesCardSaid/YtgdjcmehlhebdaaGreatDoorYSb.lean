/-
  Walks: pairs of sides. Printed by a program of ours. Walks: the document's texts of a side, its pairs of sides. Printed by a program of ours. Walks: the law of sides. Printed by a program of ours.
-/
import Derived.Test.YtgdjcmehlhebdaaGreatDoorYSa
import Derived.Test.YtgdjcmehlhebdaaGreatDoorY8
import Derived.Test.YtgdjcmehlhebdaaGreatDoorXR
import Derived.Test.YtgdjcmehlhebdaaGreatDoorYD
import Derived.Test.YtgdjcmehlhebdaaGreatDoorO1
namespace Go.Proofs.YtgdjcmehlhebdaaGreatDoor
open Go.E
set_option linter.unusedVariables false
set_option maxRecDepth 4000
theorem Tryz.ent58 : Enters Tryz.prog 58 := ⟨_, Tryz.func58, by kernel_rfl, rfl⟩
theorem Tryz.ent59 : Enters Tryz.prog 59 := ⟨_, Tryz.func59, by kernel_rfl, rfl⟩
theorem Tryz.ent60 : Enters Tryz.prog 60 := ⟨_, Tryz.func60, by kernel_rfl, rfl⟩
theorem side59_C (z : Int) (f : Nat) (hf64 : f < 18446744073709551616) (A : Option Addr) (c : Nat) (ls : List H32) (Bl : Option Addr) (cl : Nat) (left : List H32) (Br : Option Addr) (cr : Nat) (right : List H32) (hc : ls.length ≤ c) (hcm : c ≤ maxLen) (hcl : left.length ≤ cl) (hcr : right.length ≤ cr) (w0 : World) (hR : Ro w0 [] (SlA A (hcs ls))) (hl : Ro w0 [] (SlA Bl (hcs left))) (hr : Ro w0 [] (SlA Br (hcs right))) (hT : Tabs 3 1 w0 []) : Calls Tryz.prog 59 #[.int .i64 z, .int .u64 (f : Int), .agg #[.slice A ls.length c, .slice Bl left.length cl, .slice Br right.length cr]] w0 (Post w0 [] fun v L => TxQ (sideQ z f ls left right) v L) := by
  by_cases hz : (spanR z f ls left right).2 = 0
  · obtain ⟨h, rfl, hh, h2, ctx, _⟩ := spanR_ok hz
    rw [show sideQ (h : Int) f ls left right = some (sideX f ls.length h ls left right h) by rw [sideQ, if_pos hz, Int.toNat_natCast]]
    exact side59_walk h f hh hf64 A c ls Bl cl left Br cr right hc hcm hcl hcr h2 ctx hz w0 hR hl hr hT
  · rw [show sideQ z f ls left right = none from if_neg hz]
    exact side59_walkF z f hf64 A c ls Bl cl left Br cr right hc hcm hcl hcr hz w0 hR hl hr hT
set_option maxHeartbeats 400000 in
theorem scl_trueN (q1 q2 q3 q4 : Nat) (z : Int) (f : Nat) (A1 : Option Addr) (c1 : Nat) (l1 : List H32) (B1 : Option Addr) (d1 : Nat) (a1 : List H32) (Z1 : Option Addr) (e1 : Nat) (b1 : List H32) (A2 : Option Addr) (c2 : Nat) (l2 : List H32) (B2 : Option Addr) (d2 : Nat) (a2 : List H32) (Z2 : Option Addr) (e2 : Nat) (b2 : List H32) (w0 : World) (h1 : Ro w0 [] (Blk q1 3 [.int .i64 z])) (h2 : Ro w0 [] (Blk q2 40 [.int .u64 (f : Int)])) (h3 : Ro w0 [] (Blk q3 46 (vl (.agg #[.slice A1 l1.length c1, .slice B1 a1.length d1, .slice Z1 b1.length e1])))) (h4 : Ro w0 [] (Blk q4 46 (vl (.agg #[.slice A2 l2.length c2, .slice B2 a2.length d2, .slice Z2 b2.length e2])))) (hX : ∀ w, St w0 [] [] w → Calls Tryz.prog 59 #[.int .i64 z, .int .u64 (f : Int), .agg #[.slice A1 l1.length c1, .slice B1 a1.length d1, .slice Z1 b1.length e1]] w (Post w [] (TxQ none))) :
    Calls Tryz.prog 58 #[.bool true, .pointer (some ⟨q1, 0, none⟩), .pointer (some ⟨q2, 0, none⟩), .pointer (some ⟨q3, 0, none⟩), .pointer (some ⟨q4, 0, none⟩)] w0 (Post w0 [] fun v L => TxQ none v L) := by
  refine Calls.of (L := []) (n := 17) (rs := [.tmp 6, .tmp 7]) Tryz.func58 rfl rfl rfl (Nat.le_of_ble_eq_true rfl) (Sat.nil _) ?_
  refine TC.seq ?_
  refine TC.region ?_
  refine S.as ?_
  refine S.as ?_
  refine S.nil ?_
  refine TC.seq ?_
  refine S.draw ([], [6]) Tryz.mixed (Sub.refl _) ?_
  refine D.qY 0 rfl (Qt.load rfl (Ld.one (v := .int .i64 z) (Has.ro h1) Tryz.one3 rfl)) ?_
  refine D.qY 1 rfl (Qt.load rfl (Ld.one (v := .int .u64 (f : Int)) (Has.ro h2) Tryz.one40 rfl)) ?_
  refine D.qY 2 rfl (Qt.move (by conv => lhs; whnf)) ?_
  refine D.qY 3 rfl (Qt.load rfl (Ld.all (vs := vl (.agg #[.slice A1 l1.length c1, .slice B1 a1.length d1, .slice Z1 b1.length e1])) (Has.ro h3) Tryz.row46 Tryz.cells46)) ?_
  refine D.qY 4 rfl (Qt.load rfl (Ld.all (vs := vl (.agg #[.slice A2 l2.length c2, .slice B2 a2.length d2, .slice Z2 b2.length e2])) (Has.ro h4) Tryz.row46 Tryz.cells46)) ?_
  refine D.cX (k := 5) rfl (by kernel_rfl) (by kernel_rfl) (by kernel_rfl) rfl rfl (CalU.con0 Tryz.ent60 rfl (fun w hw => Calls.ret (pickS_true A1 c1 l1 B1 d1 a1 Z1 e1 b1 A2 c2 l2 B2 d2 a2 Z2 e2 b2 w))) ?_
  refine D.nS (k := 6) (Sub.refl _) rfl (by kernel_rfl) (by kernel_rfl) rfl rfl (OpV.con (Pre := []) (R := _) Tryz.ent59 rfl (List.Perm.refl _) (fun w hw => hX w (hw.sub (Sub.nil _))) ?_)
  rintro v L' ⟨k1, rfl, rfl⟩
  refine ⟨Sub.refl _, ?_⟩
  refine D.qY 7 rfl (Qt.extract rfl rfl) ?_
  refine D.qY 8 rfl (Qt.extract rfl rfl) ?_
  refine D.qY 9 rfl (Qt.assign (by conv => lhs; whnf)) ?_
  refine D.qY 10 rfl (Qt.assign (by conv => lhs; whnf)) ?_
  refine D.done (Sub.refl _) (by kernel_rfl) ?_
  refine TC.ret ?_
  refine finQ.ret (RVs.tmp (by conv => lhs; whnf) (RVs.tmp (by conv => lhs; whnf) RVs.nil)) (Sub.nil _) ?_
  exact ⟨k1, rfl, rfl⟩
set_option maxHeartbeats 400000 in
theorem scl_trueS (q1 q2 q3 q4 : Nat) (z : Int) (f : Nat) (A1 : Option Addr) (c1 : Nat) (l1 : List H32) (B1 : Option Addr) (d1 : Nat) (a1 : List H32) (Z1 : Option Addr) (e1 : Nat) (b1 : List H32) (A2 : Option Addr) (c2 : Nat) (l2 : List H32) (B2 : Option Addr) (d2 : Nat) (a2 : List H32) (Z2 : Option Addr) (e2 : Nat) (b2 : List H32) (a : List (List UInt8)) (w0 : World) (h1 : Ro w0 [] (Blk q1 3 [.int .i64 z])) (h2 : Ro w0 [] (Blk q2 40 [.int .u64 (f : Int)])) (h3 : Ro w0 [] (Blk q3 46 (vl (.agg #[.slice A1 l1.length c1, .slice B1 a1.length d1, .slice Z1 b1.length e1])))) (h4 : Ro w0 [] (Blk q4 46 (vl (.agg #[.slice A2 l2.length c2, .slice B2 a2.length d2, .slice Z2 b2.length e2])))) (hX : ∀ w, St w0 [] [] w → Calls Tryz.prog 59 #[.int .i64 z, .int .u64 (f : Int), .agg #[.slice A1 l1.length c1, .slice B1 a1.length d1, .slice Z1 b1.length e1]] w (Post w [] (TxQ (some a)))) :
    Calls Tryz.prog 58 #[.bool true, .pointer (some ⟨q1, 0, none⟩), .pointer (some ⟨q2, 0, none⟩), .pointer (some ⟨q3, 0, none⟩), .pointer (some ⟨q4, 0, none⟩)] w0 (Post w0 [] fun v L => TxQ (some a) v L) := by
  refine Calls.of (L := []) (n := 17) (rs := [.tmp 6, .tmp 7]) Tryz.func58 rfl rfl rfl (Nat.le_of_ble_eq_true rfl) (Sat.nil _) ?_
  refine TC.seq ?_
  refine TC.region ?_
  refine S.as ?_
  refine S.as ?_
  refine S.nil ?_
  refine TC.seq ?_
  refine S.draw ([], [6]) Tryz.mixed (Sub.refl _) ?_
  refine D.qY 0 rfl (Qt.load rfl (Ld.one (v := .int .i64 z) (Has.ro h1) Tryz.one3 rfl)) ?_
  refine D.qY 1 rfl (Qt.load rfl (Ld.one (v := .int .u64 (f : Int)) (Has.ro h2) Tryz.one40 rfl)) ?_
  refine D.qY 2 rfl (Qt.move (by conv => lhs; whnf)) ?_
  refine D.qY 3 rfl (Qt.load rfl (Ld.all (vs := vl (.agg #[.slice A1 l1.length c1, .slice B1 a1.length d1, .slice Z1 b1.length e1])) (Has.ro h3) Tryz.row46 Tryz.cells46)) ?_
  refine D.qY 4 rfl (Qt.load rfl (Ld.all (vs := vl (.agg #[.slice A2 l2.length c2, .slice B2 a2.length d2, .slice Z2 b2.length e2])) (Has.ro h4) Tryz.row46 Tryz.cells46)) ?_
  refine D.cX (k := 5) rfl (by kernel_rfl) (by kernel_rfl) (by kernel_rfl) rfl rfl (CalU.con0 Tryz.ent60 rfl (fun w hw => Calls.ret (pickS_true A1 c1 l1 B1 d1 a1 Z1 e1 b1 A2 c2 l2 B2 d2 a2 Z2 e2 b2 w))) ?_
  refine D.nS (k := 6) (Sub.refl _) rfl (by kernel_rfl) (by kernel_rfl) rfl rfl (OpV.con (Pre := []) (R := _) Tryz.ent59 rfl (List.Perm.refl _) (fun w hw => hX w (hw.sub (Sub.nil _))) ?_)
  rintro v L' ⟨O1, d1x, t1, rfl, rfl, e1x, l1x⟩
  refine ⟨Sub.nil _, ?_⟩
  refine D.qY 7 rfl (Qt.extract rfl rfl) ?_
  refine D.qY 8 rfl (Qt.extract rfl rfl) ?_
  refine D.qY 9 rfl (Qt.assign (by conv => lhs; whnf)) ?_
  refine D.qY 10 rfl (Qt.assign (by conv => lhs; whnf)) ?_
  refine D.done (Sub.nil _) (by kernel_rfl) ?_
  refine TC.ret ?_
  refine finQ.ret (RVs.tmp (by conv => lhs; whnf) (RVs.tmp (by conv => lhs; whnf) RVs.nil)) (Sub.refl _) ?_
  exact ⟨O1, d1x, t1, rfl, rfl, e1x, l1x⟩
theorem scl_trueC (q1 q2 q3 q4 : Nat) (z : Int) (f : Nat) (A1 : Option Addr) (c1 : Nat) (l1 : List H32) (B1 : Option Addr) (d1 : Nat) (a1 : List H32) (Z1 : Option Addr) (e1 : Nat) (b1 : List H32) (A2 : Option Addr) (c2 : Nat) (l2 : List H32) (B2 : Option Addr) (d2 : Nat) (a2 : List H32) (Z2 : Option Addr) (e2 : Nat) (b2 : List H32) (X : Option (List (List UInt8))) (w0 : World) (h1 : Ro w0 [] (Blk q1 3 [.int .i64 z])) (h2 : Ro w0 [] (Blk q2 40 [.int .u64 (f : Int)])) (h3 : Ro w0 [] (Blk q3 46 (vl (.agg #[.slice A1 l1.length c1, .slice B1 a1.length d1, .slice Z1 b1.length e1])))) (h4 : Ro w0 [] (Blk q4 46 (vl (.agg #[.slice A2 l2.length c2, .slice B2 a2.length d2, .slice Z2 b2.length e2])))) (hX : ∀ w, St w0 [] [] w → Calls Tryz.prog 59 #[.int .i64 z, .int .u64 (f : Int), .agg #[.slice A1 l1.length c1, .slice B1 a1.length d1, .slice Z1 b1.length e1]] w (Post w [] (TxQ X))) :
    Calls Tryz.prog 58 #[.bool true, .pointer (some ⟨q1, 0, none⟩), .pointer (some ⟨q2, 0, none⟩), .pointer (some ⟨q3, 0, none⟩), .pointer (some ⟨q4, 0, none⟩)] w0 (Post w0 [] (TxQ X)) := by
  cases X with
  | none => exact scl_trueN q1 q2 q3 q4 z f A1 c1 l1 B1 d1 a1 Z1 e1 b1 A2 c2 l2 B2 d2 a2 Z2 e2 b2 w0 h1 h2 h3 h4 hX
  | some a => exact scl_trueS q1 q2 q3 q4 z f A1 c1 l1 B1 d1 a1 Z1 e1 b1 A2 c2 l2 B2 d2 a2 Z2 e2 b2 a w0 h1 h2 h3 h4 hX
theorem sides_htrue (b4 b5 b6 b7 : Nat) (z : Int) (f : Nat) (hf64 : f < 18446744073709551616) (A1 : Option Addr) (c1 : Nat) (l1 : List H32) (B1 : Option Addr) (d1 : Nat) (a1 : List H32) (Z1 : Option Addr) (e1 : Nat) (b1 : List H32) (A2 : Option Addr) (c2 : Nat) (l2 : List H32) (B2 : Option Addr) (d2 : Nat) (a2 : List H32) (Z2 : Option Addr) (e2 : Nat) (b2 : List H32) (hc1 : l1.length ≤ c1) (hm1 : c1 ≤ maxLen) (hd1 : a1.length ≤ d1) (he1 : b1.length ≤ e1) (hc2 : l2.length ≤ c2) (hm2 : c2 ≤ maxLen) (hd2 : a2.length ≤ d2) (he2 : b2.length ≤ e2) (w0 : World) (hR1 : Ro w0 [] (SlA A1 (hcs l1))) (hL1 : Ro w0 [] (SlA B1 (hcs a1))) (hZ1 : Ro w0 [] (SlA Z1 (hcs b1))) (hR2 : Ro w0 [] (SlA A2 (hcs l2))) (hL2 : Ro w0 [] (SlA B2 (hcs a2))) (hZ2 : Ro w0 [] (SlA Z2 (hcs b2))) (hT : Tabs 3 1 w0 []) (k4 : Ro w0 [] (Blk b4 3 [.int .i64 z])) (k5 : Ro w0 [] (Blk b5 40 [.int .u64 (f : Int)])) (k6 : Ro w0 [] (Blk b6 46 (vl (.agg #[.slice A1 l1.length c1, .slice B1 a1.length d1, .slice Z1 b1.length e1])))) (k7 : Ro w0 [] (Blk b7 46 (vl (.agg #[.slice A2 l2.length c2, .slice B2 a2.length d2, .slice Z2 b2.length e2])))) :
    ∀ w, St w0 [] [] w → Calls Tryz.prog 58 ((([.bool true] : List Value) ++ (#[.pointer (some ⟨b4, 0, none⟩), .pointer (some ⟨b5, 0, none⟩), .pointer (some ⟨b6, 0, none⟩), .pointer (some ⟨b7, 0, none⟩)] : Array Value).toList).toArray) w (Post w [] (TxQ (sideQ z f l1 a1 b1))) := fun w s =>
  scl_trueC b4 b5 b6 b7 z f A1 c1 l1 B1 d1 a1 Z1 e1 b1 A2 c2 l2 B2 d2 a2 Z2 e2 b2 (sideQ z f l1 a1 b1) w (k4.go s (fun b hb => by cases hb)) (k5.go s (fun b hb => by cases hb)) (k6.go s (fun b hb => by cases hb)) (k7.go s (fun b hb => by cases hb)) (fun w2 s2 => side59_C z f hf64 A1 c1 l1 B1 d1 a1 Z1 e1 b1 hc1 hm1 hd1 he1 w2 ((hR1.go s (fun b hb => by cases hb)).go s2 (fun b hb => by cases hb)) ((hL1.go s (fun b hb => by cases hb)).go s2 (fun b hb => by cases hb)) ((hZ1.go s (fun b hb => by cases hb)).go s2 (fun b hb => by cases hb)) ((hT.of_go s (fun b hb => by cases hb)).of_go s2 (fun b hb => by cases hb)))

set_option maxHeartbeats 400000 in
theorem scl_falseN (q1 q2 q3 q4 : Nat) (z : Int) (f : Nat) (A1 : Option Addr) (c1 : Nat) (l1 : List H32) (B1 : Option Addr) (d1 : Nat) (a1 : List H32) (Z1 : Option Addr) (e1 : Nat) (b1 : List H32) (A2 : Option Addr) (c2 : Nat) (l2 : List H32) (B2 : Option Addr) (d2 : Nat) (a2 : List H32) (Z2 : Option Addr) (e2 : Nat) (b2 : List H32) (w0 : World) (h1 : Ro w0 [] (Blk q1 3 [.int .i64 z])) (h2 : Ro w0 [] (Blk q2 40 [.int .u64 (f : Int)])) (h3 : Ro w0 [] (Blk q3 46 (vl (.agg #[.slice A1 l1.length c1, .slice B1 a1.length d1, .slice Z1 b1.length e1])))) (h4 : Ro w0 [] (Blk q4 46 (vl (.agg #[.slice A2 l2.length c2, .slice B2 a2.length d2, .slice Z2 b2.length e2])))) (hX : ∀ w, St w0 [] [] w → Calls Tryz.prog 59 #[.int .i64 z, .int .u64 (f : Int), .agg #[.slice A2 l2.length c2, .slice B2 a2.length d2, .slice Z2 b2.length e2]] w (Post w [] (TxQ none))) :
    Calls Tryz.prog 58 #[.bool false, .pointer (some ⟨q1, 0, none⟩), .pointer (some ⟨q2, 0, none⟩), .pointer (some ⟨q3, 0, none⟩), .pointer (some ⟨q4, 0, none⟩)] w0 (Post w0 [] fun v L => TxQ none v L) := by
  refine Calls.of (L := []) (n := 17) (rs := [.tmp 6, .tmp 7]) Tryz.func58 rfl rfl rfl (Nat.le_of_ble_eq_true rfl) (Sat.nil _) ?_
  refine TC.seq ?_
  refine TC.region ?_
  refine S.as ?_
  refine S.as ?_
  refine S.nil ?_
  refine TC.seq ?_
  refine S.draw ([], [6]) Tryz.mixed (Sub.refl _) ?_
  refine D.qY 0 rfl (Qt.load rfl (Ld.one (v := .int .i64 z) (Has.ro h1) Tryz.one3 rfl)) ?_
  refine D.qY 1 rfl (Qt.load rfl (Ld.one (v := .int .u64 (f : Int)) (Has.ro h2) Tryz.one40 rfl)) ?_
  refine D.qY 2 rfl (Qt.move (by conv => lhs; whnf)) ?_
  refine D.qY 3 rfl (Qt.load rfl (Ld.all (vs := vl (.agg #[.slice A1 l1.length c1, .slice B1 a1.length d1, .slice Z1 b1.length e1])) (Has.ro h3) Tryz.row46 Tryz.cells46)) ?_
  refine D.qY 4 rfl (Qt.load rfl (Ld.all (vs := vl (.agg #[.slice A2 l2.length c2, .slice B2 a2.length d2, .slice Z2 b2.length e2])) (Has.ro h4) Tryz.row46 Tryz.cells46)) ?_
  refine D.cX (k := 5) rfl (by kernel_rfl) (by kernel_rfl) (by kernel_rfl) rfl rfl (CalU.con0 Tryz.ent60 rfl (fun w hw => Calls.ret (pickS_false A1 c1 l1 B1 d1 a1 Z1 e1 b1 A2 c2 l2 B2 d2 a2 Z2 e2 b2 w))) ?_
  refine D.nS (k := 6) (Sub.refl _) rfl (by kernel_rfl) (by kernel_rfl) rfl rfl (OpV.con (Pre := []) (R := _) Tryz.ent59 rfl (List.Perm.refl _) (fun w hw => hX w (hw.sub (Sub.nil _))) ?_)
  rintro v L' ⟨k1, rfl, rfl⟩
  refine ⟨Sub.refl _, ?_⟩
  refine D.qY 7 rfl (Qt.extract rfl rfl) ?_
  refine D.qY 8 rfl (Qt.extract rfl rfl) ?_
  refine D.qY 9 rfl (Qt.assign (by conv => lhs; whnf)) ?_
  refine D.qY 10 rfl (Qt.assign (by conv => lhs; whnf)) ?_
  refine D.done (Sub.refl _) (by kernel_rfl) ?_
  refine TC.ret ?_
  refine finQ.ret (RVs.tmp (by conv => lhs; whnf) (RVs.tmp (by conv => lhs; whnf) RVs.nil)) (Sub.nil _) ?_
  exact ⟨k1, rfl, rfl⟩
set_option maxHeartbeats 400000 in
theorem scl_falseS (q1 q2 q3 q4 : Nat) (z : Int) (f : Nat) (A1 : Option Addr) (c1 : Nat) (l1 : List H32) (B1 : Option Addr) (d1 : Nat) (a1 : List H32) (Z1 : Option Addr) (e1 : Nat) (b1 : List H32) (A2 : Option Addr) (c2 : Nat) (l2 : List H32) (B2 : Option Addr) (d2 : Nat) (a2 : List H32) (Z2 : Option Addr) (e2 : Nat) (b2 : List H32) (a : List (List UInt8)) (w0 : World) (h1 : Ro w0 [] (Blk q1 3 [.int .i64 z])) (h2 : Ro w0 [] (Blk q2 40 [.int .u64 (f : Int)])) (h3 : Ro w0 [] (Blk q3 46 (vl (.agg #[.slice A1 l1.length c1, .slice B1 a1.length d1, .slice Z1 b1.length e1])))) (h4 : Ro w0 [] (Blk q4 46 (vl (.agg #[.slice A2 l2.length c2, .slice B2 a2.length d2, .slice Z2 b2.length e2])))) (hX : ∀ w, St w0 [] [] w → Calls Tryz.prog 59 #[.int .i64 z, .int .u64 (f : Int), .agg #[.slice A2 l2.length c2, .slice B2 a2.length d2, .slice Z2 b2.length e2]] w (Post w [] (TxQ (some a)))) :
    Calls Tryz.prog 58 #[.bool false, .pointer (some ⟨q1, 0, none⟩), .pointer (some ⟨q2, 0, none⟩), .pointer (some ⟨q3, 0, none⟩), .pointer (some ⟨q4, 0, none⟩)] w0 (Post w0 [] fun v L => TxQ (some a) v L) := by
  refine Calls.of (L := []) (n := 17) (rs := [.tmp 6, .tmp 7]) Tryz.func58 rfl rfl rfl (Nat.le_of_ble_eq_true rfl) (Sat.nil _) ?_
  refine TC.seq ?_
  refine TC.region ?_
  refine S.as ?_
  refine S.as ?_
  refine S.nil ?_
  refine TC.seq ?_
  refine S.draw ([], [6]) Tryz.mixed (Sub.refl _) ?_
  refine D.qY 0 rfl (Qt.load rfl (Ld.one (v := .int .i64 z) (Has.ro h1) Tryz.one3 rfl)) ?_
  refine D.qY 1 rfl (Qt.load rfl (Ld.one (v := .int .u64 (f : Int)) (Has.ro h2) Tryz.one40 rfl)) ?_
  refine D.qY 2 rfl (Qt.move (by conv => lhs; whnf)) ?_
  refine D.qY 3 rfl (Qt.load rfl (Ld.all (vs := vl (.agg #[.slice A1 l1.length c1, .slice B1 a1.length d1, .slice Z1 b1.length e1])) (Has.ro h3) Tryz.row46 Tryz.cells46)) ?_
  refine D.qY 4 rfl (Qt.load rfl (Ld.all (vs := vl (.agg #[.slice A2 l2.length c2, .slice B2 a2.length d2, .slice Z2 b2.length e2])) (Has.ro h4) Tryz.row46 Tryz.cells46)) ?_
  refine D.cX (k := 5) rfl (by kernel_rfl) (by kernel_rfl) (by kernel_rfl) rfl rfl (CalU.con0 Tryz.ent60 rfl (fun w hw => Calls.ret (pickS_false A1 c1 l1 B1 d1 a1 Z1 e1 b1 A2 c2 l2 B2 d2 a2 Z2 e2 b2 w))) ?_
  refine D.nS (k := 6) (Sub.refl _) rfl (by kernel_rfl) (by kernel_rfl) rfl rfl (OpV.con (Pre := []) (R := _) Tryz.ent59 rfl (List.Perm.refl _) (fun w hw => hX w (hw.sub (Sub.nil _))) ?_)
  rintro v L' ⟨O1, d1x, t1, rfl, rfl, e1x, l1x⟩
  refine ⟨Sub.nil _, ?_⟩
  refine D.qY 7 rfl (Qt.extract rfl rfl) ?_
  refine D.qY 8 rfl (Qt.extract rfl rfl) ?_
  refine D.qY 9 rfl (Qt.assign (by conv => lhs; whnf)) ?_
  refine D.qY 10 rfl (Qt.assign (by conv => lhs; whnf)) ?_
  refine D.done (Sub.nil _) (by kernel_rfl) ?_
  refine TC.ret ?_
  refine finQ.ret (RVs.tmp (by conv => lhs; whnf) (RVs.tmp (by conv => lhs; whnf) RVs.nil)) (Sub.refl _) ?_
  exact ⟨O1, d1x, t1, rfl, rfl, e1x, l1x⟩
theorem scl_falseC (q1 q2 q3 q4 : Nat) (z : Int) (f : Nat) (A1 : Option Addr) (c1 : Nat) (l1 : List H32) (B1 : Option Addr) (d1 : Nat) (a1 : List H32) (Z1 : Option Addr) (e1 : Nat) (b1 : List H32) (A2 : Option Addr) (c2 : Nat) (l2 : List H32) (B2 : Option Addr) (d2 : Nat) (a2 : List H32) (Z2 : Option Addr) (e2 : Nat) (b2 : List H32) (X : Option (List (List UInt8))) (w0 : World) (h1 : Ro w0 [] (Blk q1 3 [.int .i64 z])) (h2 : Ro w0 [] (Blk q2 40 [.int .u64 (f : Int)])) (h3 : Ro w0 [] (Blk q3 46 (vl (.agg #[.slice A1 l1.length c1, .slice B1 a1.length d1, .slice Z1 b1.length e1])))) (h4 : Ro w0 [] (Blk q4 46 (vl (.agg #[.slice A2 l2.length c2, .slice B2 a2.length d2, .slice Z2 b2.length e2])))) (hX : ∀ w, St w0 [] [] w → Calls Tryz.prog 59 #[.int .i64 z, .int .u64 (f : Int), .agg #[.slice A2 l2.length c2, .slice B2 a2.length d2, .slice Z2 b2.length e2]] w (Post w [] (TxQ X))) :
    Calls Tryz.prog 58 #[.bool false, .pointer (some ⟨q1, 0, none⟩), .pointer (some ⟨q2, 0, none⟩), .pointer (some ⟨q3, 0, none⟩), .pointer (some ⟨q4, 0, none⟩)] w0 (Post w0 [] (TxQ X)) := by
  cases X with
  | none => exact scl_falseN q1 q2 q3 q4 z f A1 c1 l1 B1 d1 a1 Z1 e1 b1 A2 c2 l2 B2 d2 a2 Z2 e2 b2 w0 h1 h2 h3 h4 hX
  | some a => exact scl_falseS q1 q2 q3 q4 z f A1 c1 l1 B1 d1 a1 Z1 e1 b1 A2 c2 l2 B2 d2 a2 Z2 e2 b2 a w0 h1 h2 h3 h4 hX
theorem sides_hfalse (b4 b5 b6 b7 : Nat) (z : Int) (f : Nat) (hf64 : f < 18446744073709551616) (A1 : Option Addr) (c1 : Nat) (l1 : List H32) (B1 : Option Addr) (d1 : Nat) (a1 : List H32) (Z1 : Option Addr) (e1 : Nat) (b1 : List H32) (A2 : Option Addr) (c2 : Nat) (l2 : List H32) (B2 : Option Addr) (d2 : Nat) (a2 : List H32) (Z2 : Option Addr) (e2 : Nat) (b2 : List H32) (hc1 : l1.length ≤ c1) (hm1 : c1 ≤ maxLen) (hd1 : a1.length ≤ d1) (he1 : b1.length ≤ e1) (hc2 : l2.length ≤ c2) (hm2 : c2 ≤ maxLen) (hd2 : a2.length ≤ d2) (he2 : b2.length ≤ e2) (w0 : World) (hR1 : Ro w0 [] (SlA A1 (hcs l1))) (hL1 : Ro w0 [] (SlA B1 (hcs a1))) (hZ1 : Ro w0 [] (SlA Z1 (hcs b1))) (hR2 : Ro w0 [] (SlA A2 (hcs l2))) (hL2 : Ro w0 [] (SlA B2 (hcs a2))) (hZ2 : Ro w0 [] (SlA Z2 (hcs b2))) (hT : Tabs 3 1 w0 []) (k4 : Ro w0 [] (Blk b4 3 [.int .i64 z])) (k5 : Ro w0 [] (Blk b5 40 [.int .u64 (f : Int)])) (k6 : Ro w0 [] (Blk b6 46 (vl (.agg #[.slice A1 l1.length c1, .slice B1 a1.length d1, .slice Z1 b1.length e1])))) (k7 : Ro w0 [] (Blk b7 46 (vl (.agg #[.slice A2 l2.length c2, .slice B2 a2.length d2, .slice Z2 b2.length e2])))) :
    ∀ w, St w0 [] [] w → Calls Tryz.prog 58 ((([.bool false] : List Value) ++ (#[.pointer (some ⟨b4, 0, none⟩), .pointer (some ⟨b5, 0, none⟩), .pointer (some ⟨b6, 0, none⟩), .pointer (some ⟨b7, 0, none⟩)] : Array Value).toList).toArray) w (Post w [] (TxQ (sideQ z f l2 a2 b2))) := fun w s =>
  scl_falseC b4 b5 b6 b7 z f A1 c1 l1 B1 d1 a1 Z1 e1 b1 A2 c2 l2 B2 d2 a2 Z2 e2 b2 (sideQ z f l2 a2 b2) w (k4.go s (fun b hb => by cases hb)) (k5.go s (fun b hb => by cases hb)) (k6.go s (fun b hb => by cases hb)) (k7.go s (fun b hb => by cases hb)) (fun w2 s2 => side59_C z f hf64 A2 c2 l2 B2 d2 a2 Z2 e2 b2 hc2 hm2 hd2 he2 w2 ((hR2.go s (fun b hb => by cases hb)).go s2 (fun b hb => by cases hb)) ((hL2.go s (fun b hb => by cases hb)).go s2 (fun b hb => by cases hb)) ((hZ2.go s (fun b hb => by cases hb)).go s2 (fun b hb => by cases hb)) ((hT.of_go s (fun b hb => by cases hb)).of_go s2 (fun b hb => by cases hb)))

set_option maxHeartbeats 400000 in
theorem sides17_walkN (z : Int) (f : Nat) (hf64 : f < 18446744073709551616) (A1 : Option Addr) (c1 : Nat) (l1 : List H32) (B1 : Option Addr) (d1 : Nat) (a1 : List H32) (Z1 : Option Addr) (e1 : Nat) (b1 : List H32) (A2 : Option Addr) (c2 : Nat) (l2 : List H32) (B2 : Option Addr) (d2 : Nat) (a2 : List H32) (Z2 : Option Addr) (e2 : Nat) (b2 : List H32) (hc1 : l1.length ≤ c1) (hm1 : c1 ≤ maxLen) (hd1 : a1.length ≤ d1) (he1 : b1.length ≤ e1) (hc2 : l2.length ≤ c2) (hm2 : c2 ≤ maxLen) (hd2 : a2.length ≤ d2) (he2 : b2.length ≤ e2) (hne : l1.length ≠ l2.length) (w0 : World) :
    Calls Tryz.prog 17 #[.int .i64 z, .int .u64 (f : Int), .agg #[.slice A1 l1.length c1, .slice B1 a1.length d1, .slice Z1 b1.length e1], .agg #[.slice A2 l2.length c2, .slice B2 a2.length d2, .slice Z2 b2.length e2]] w0 (Post w0 [] fun v L => v = .slice none 0 0 ∧ L = []) := by
  refine Calls.of (L := []) (n := 18) (rs := [.tmp 8]) Tryz.func17 rfl rfl rfl (Nat.le_of_ble_eq_true rfl) (Sat.nil _) ?_
  refine TC.seq ?_
  refine TC.region ?_
  refine S.opS rfl rfl (OpV.box (v := .int .i64 z) rfl (fun b4 => ?_))
  refine S.opS rfl rfl (OpV.box (v := .int .u64 (f : Int)) rfl (fun b5 => ?_))
  refine S.opS rfl rfl (OpV.box (v := .agg #[.slice A1 l1.length c1, .slice B1 a1.length d1, .slice Z1 b1.length e1]) rfl (fun b6 => ?_))
  refine S.opS rfl rfl (OpV.box (v := .agg #[.slice A2 l2.length c2, .slice B2 a2.length d2, .slice Z2 b2.length e2]) rfl (fun b7 => ?_))
  refine S.as ?_
  refine S.nil ?_
  refine TC.seq ?_
  refine TC.seq ?_
  refine TC.region ?_
  refine S.q rfl rfl (Qt.field Tryz.underlying46 rfl Tryz.cells33 rfl) ?_
  refine S.q rfl rfl (Qt.load rfl (Ld.one (v := .slice A1 l1.length c1) (Has.at 1 rfl) Tryz.one33 rfl)) ?_
  refine S.q rfl rfl (Qt.len_slice Tryz.underlying33 rfl) ?_
  refine S.q rfl rfl (Qt.field Tryz.underlying46 rfl Tryz.cells33 rfl) ?_
  refine S.q rfl rfl (Qt.load rfl (Ld.one (v := .slice A2 l2.length c2) (Has.at 0 rfl) Tryz.one33 rfl)) ?_
  refine S.q rfl rfl (Qt.len_slice Tryz.underlying33 rfl) ?_
  refine S.q rfl rfl (Qt.dT (Qt.ne rfl rfl) (hne)) ?_
  refine S.nil ?_
  refine S.if_t rfl ?_
  refine TC.seq ?_
  refine TC.region ?_
  refine S.as ?_
  refine S.nil ?_
  refine TC.ret ?_
  refine finQ.ret (RVs.tmp (by conv => lhs; whnf) RVs.nil) (Sub.nil _) ?_
  exact ⟨rfl, rfl⟩
set_option maxHeartbeats 800000 in
theorem sides17_walk (z : Int) (f : Nat) (hf64 : f < 18446744073709551616) (A1 : Option Addr) (c1 : Nat) (l1 : List H32) (B1 : Option Addr) (d1 : Nat) (a1 : List H32) (Z1 : Option Addr) (e1 : Nat) (b1 : List H32) (A2 : Option Addr) (c2 : Nat) (l2 : List H32) (B2 : Option Addr) (d2 : Nat) (a2 : List H32) (Z2 : Option Addr) (e2 : Nat) (b2 : List H32) (hc1 : l1.length ≤ c1) (hm1 : c1 ≤ maxLen) (hd1 : a1.length ≤ d1) (he1 : b1.length ≤ e1) (hc2 : l2.length ≤ c2) (hm2 : c2 ≤ maxLen) (hd2 : a2.length ≤ d2) (he2 : b2.length ≤ e2) (heq : l1.length = l2.length) (w0 : World) (hR1 : Ro w0 [] (SlA A1 (hcs l1))) (hL1 : Ro w0 [] (SlA B1 (hcs a1))) (hZ1 : Ro w0 [] (SlA Z1 (hcs b1))) (hR2 : Ro w0 [] (SlA A2 (hcs l2))) (hL2 : Ro w0 [] (SlA B2 (hcs a2))) (hZ2 : Ro w0 [] (SlA Z2 (hcs b2))) (hT : Tabs 3 1 w0 []) :
    Calls Tryz.prog 17 #[.int .i64 z, .int .u64 (f : Int), .agg #[.slice A1 l1.length c1, .slice B1 a1.length d1, .slice Z1 b1.length e1], .agg #[.slice A2 l2.length c2, .slice B2 a2.length d2, .slice Z2 b2.length e2]] w0 (Post w0 [] fun v L => PxQ 114 (pairX (sideQ z f l1 a1 b1) (sideQ z f l2 a2 b2)) v L) := by
  refine Calls.of (L := []) (n := 18) (rs := [.tmp 8]) Tryz.func17 rfl rfl rfl (Nat.le_of_ble_eq_true rfl) (Sat.nil _) ?_
  refine TC.seq ?_
  refine TC.region ?_
  refine S.opS rfl rfl (OpV.box (v := .int .i64 z) rfl (fun b4 => ?_))
  refine S.opS rfl rfl (OpV.box (v := .int .u64 (f : Int)) rfl (fun b5 => ?_))
  refine S.opS rfl rfl (OpV.box (v := .agg #[.slice A1 l1.length c1, .slice B1 a1.length d1, .slice Z1 b1.length e1]) rfl (fun b6 => ?_))
  refine S.opS rfl rfl (OpV.box (v := .agg #[.slice A2 l2.length c2, .slice B2 a2.length d2, .slice Z2 b2.length e2]) rfl (fun b7 => ?_))
  refine S.as ?_
  refine S.nil ?_
  refine TC.seq ?_
  refine TC.seq ?_
  refine TC.region ?_
  refine S.q rfl rfl (Qt.field Tryz.underlying46 rfl Tryz.cells33 rfl) ?_
  refine S.q rfl rfl (Qt.load rfl (Ld.one (v := .slice A1 l1.length c1) (Has.at 1 rfl) Tryz.one33 rfl)) ?_
  refine S.q rfl rfl (Qt.len_slice Tryz.underlying33 rfl) ?_
  refine S.q rfl rfl (Qt.field Tryz.underlying46 rfl Tryz.cells33 rfl) ?_
  refine S.q rfl rfl (Qt.load rfl (Ld.one (v := .slice A2 l2.length c2) (Has.at 0 rfl) Tryz.one33 rfl)) ?_
  refine S.q rfl rfl (Qt.len_slice Tryz.underlying33 rfl) ?_
  refine S.q rfl rfl (Qt.dF (Qt.ne rfl rfl) (fun e => e heq)) ?_
  refine S.nil ?_
  refine S.if_f rfl ?_
  refine TC.skip ?_
  refine TC.seq ?_
  refine TC.region ?_
  refine S.q rfl rfl (Qt.makeFuncL (fs := []) (cs := [.pointer (some ⟨b4, 0, none⟩), .pointer (some ⟨b5, 0, none⟩), .pointer (some ⟨b6, 0, none⟩), .pointer (some ⟨b7, 0, none⟩)]) rfl rfl) ?_
  refine S.opS rfl rfl (OpV.con (Pre := []) (R := _) Tryz.ent45 rfl (List.Perm.refl _) (fun w hw => both_C 58 #[.pointer (some ⟨b4, 0, none⟩), .pointer (some ⟨b5, 0, none⟩), .pointer (some ⟨b6, 0, none⟩), .pointer (some ⟨b7, 0, none⟩)] Tryz.ent58 (sideQ z f l1 a1 b1) (sideQ z f l2 a2 b2) w (sides_htrue b4 b5 b6 b7 z f hf64 A1 c1 l1 B1 d1 a1 Z1 e1 b1 A2 c2 l2 B2 d2 a2 Z2 e2 b2 hc1 hm1 hd1 he1 hc2 hm2 hd2 he2 w (Rd.ro hR1 w hw) (Rd.ro hL1 w hw) (Rd.ro hZ1 w hw) (Rd.ro hR2 w hw) (Rd.ro hL2 w hw) (Rd.ro hZ2 w hw) (hT.at hw) (Rd.at 3 rfl w hw) (Rd.at 2 rfl w hw) (Rd.at 1 rfl w hw) (Rd.at 0 rfl w hw)) (sides_hfalse b4 b5 b6 b7 z f hf64 A1 c1 l1 B1 d1 a1 Z1 e1 b1 A2 c2 l2 B2 d2 a2 Z2 e2 b2 hc1 hm1 hd1 he1 hc2 hm2 hd2 he2 w (Rd.ro hR1 w hw) (Rd.ro hL1 w hw) (Rd.ro hZ1 w hw) (Rd.ro hR2 w hw) (Rd.ro hL2 w hw) (Rd.ro hZ2 w hw) (hT.at hw) (Rd.at 3 rfl w hw) (Rd.at 2 rfl w hw) (Rd.at 1 rfl w hw) (Rd.at 0 rfl w hw))) ?_)
  rintro v L' ⟨O, d, pp, Ls, rfl, rfl, q1, q2, q3⟩
  refine S.as ?_
  refine S.nil ?_
  refine TC.ret ?_
  refine finQ.ret (RVs.tmp (by conv => lhs; whnf) RVs.nil) (Sub.keep _ (Sub.keep _ (Sub.drop _ (Sub.drop _ (Sub.drop _ (Sub.drop _ (Sub.nil []))))))) ?_
  exact ⟨O, d, pp, Ls, rfl, rfl, q1, q2, q3⟩
theorem sides17_C (z : Int) (f : Nat) (hf64 : f < 18446744073709551616) (A1 : Option Addr) (c1 : Nat) (l1 : List H32) (B1 : Option Addr) (d1 : Nat) (a1 : List H32) (Z1 : Option Addr) (e1 : Nat) (b1 : List H32) (A2 : Option Addr) (c2 : Nat) (l2 : List H32) (B2 : Option Addr) (d2 : Nat) (a2 : List H32) (Z2 : Option Addr) (e2 : Nat) (b2 : List H32) (hc1 : l1.length ≤ c1) (hm1 : c1 ≤ maxLen) (hd1 : a1.length ≤ d1) (he1 : b1.length ≤ e1) (hc2 : l2.length ≤ c2) (hm2 : c2 ≤ maxLen) (hd2 : a2.length ≤ d2) (he2 : b2.length ≤ e2) (w0 : World) (hR1 : Ro w0 [] (SlA A1 (hcs l1))) (hL1 : Ro w0 [] (SlA B1 (hcs a1))) (hZ1 : Ro w0 [] (SlA Z1 (hcs b1))) (hR2 : Ro w0 [] (SlA A2 (hcs l2))) (hL2 : Ro w0 [] (SlA B2 (hcs a2))) (hZ2 : Ro w0 [] (SlA Z2 (hcs b2))) (hT : Tabs 3 1 w0 []) : Calls Tryz.prog 17 #[.int .i64 z, .int .u64 (f : Int), .agg #[.slice A1 l1.length c1, .slice B1 a1.length d1, .slice Z1 b1.length e1], .agg #[.slice A2 l2.length c2, .slice B2 a2.length d2, .slice Z2 b2.length e2]] w0 (Post w0 [] fun v L => PxQ 114 (if l1.length = l2.length then pairX (sideQ z f l1 a1 b1) (sideQ z f l2 a2 b2) else []) v L) := by
  by_cases heq : l1.length = l2.length
  · rw [if_pos heq]; exact sides17_walk z f hf64 A1 c1 l1 B1 d1 a1 Z1 e1 b1 A2 c2 l2 B2 d2 a2 Z2 e2 b2 hc1 hm1 hd1 he1 hc2 hm2 hd2 he2 heq w0 hR1 hL1 hZ1 hR2 hL2 hZ2 hT
  · rw [if_neg heq]
    exact (sides17_walkN z f hf64 A1 c1 l1 B1 d1 a1 Z1 e1 b1 A2 c2 l2 B2 d2 a2 Z2 e2 b2 hc1 hm1 hd1 he1 hc2 hm2 hd2 he2 heq w0).mono fun e w' ⟨v, L', h1, h2, h3, h4⟩ => ⟨v, [OwnA 114 2 none 0 0 [], Many []], h1, by subst h4; exact (St.many.2 h2).ownNil 114 2, none, 0, [], [], h3, rfl, rfl, Nat.zero_le _, fun p hp => by cases hp⟩

end Go.Proofs.YtgdjcmehlhebdaaGreatDoor
namespace Go.Proofs.YtgdjcmehlhebdaaGreatDoor
open Go.E
set_option linter.unusedVariables false
set_option maxRecDepth 4000
theorem Tryz.ent61 : Enters Tryz.prog 61 := ⟨_, Tryz.func61, by kernel_rfl, rfl⟩
theorem Tryz.ent124 : Enters Tryz.prog 124 := ⟨_, Tryz.func124, by kernel_rfl, rfl⟩

set_option maxHeartbeats 400000 in
theorem rside61_walkF (z : Int) (f : Nat) (hf64 : f < 18446744073709551616) (A : Option Addr) (c : Nat) (ls : List H32) (Bl : Option Addr) (cl : Nat) (left : List H32) (Br : Option Addr) (cr : Nat) (right : List H32) (hz : (spanR z f ls left right).2 ≠ 0) (w0 : World) (hR : Ro w0 [] (SlA A (hcs ls))) (hl : Ro w0 [] (SlA Bl (hcs left))) (hr : Ro w0 [] (SlA Br (hcs right))) (hT : Tabs 2 0 w0 []) :
    Calls Tryz.prog 61 #[.int .i64 z, .int .u64 (f : Int), .slice A ls.length c, .slice Bl left.length cl, .slice Br right.length cr] w0 (Post w0 [] fun v L => TxR none v L) := by
  refine Calls.of (L := []) (n := 95) (rs := [.tmp 10, .tmp 11]) Tryz.func61 rfl rfl rfl (Nat.le_of_ble_eq_true rfl) (Sat.nil _) ?_
  refine TC.seq ?_
  refine TC.region ?_
  refine S.as ?_
  refine S.as ?_
  refine S.nil ?_
  refine TC.seq ?_
  refine TC.seq ?_
  refine TC.region ?_
  refine S.mv ?_
  refine S.mv ?_
  refine S.mv ?_
  refine S.mv ?_
  refine S.mv ?_
  refine S.opS rfl rfl (OpV.con0 Tryz.ent124 rfl (fun w hw => (by have h := rroot11_R z f hf64 A c ls Bl cl left Br cr right w (Rd.ro hR w hw) (Rd.ro hl w hw) (Rd.ro hr w hw) (hT.at hw); exact h : Calls Tryz.prog 124 #[.int .i64 z, .int .u64 (f : Int), .slice A ls.length c, .slice Bl left.length cl, .slice Br right.length cr] w (Ret w (.tuple #[hv (spanR z f ls left right).1, .int .i64 (((spanR z f ls left right).2 : Nat) : Int)])))) ?_)
  refine S.mv ?_
  refine S.q rfl rfl (Qt.extract rfl rfl) ?_
  refine S.q rfl rfl (Qt.extract rfl rfl) ?_
  refine S.opS rfl rfl (OpV.alloc Tryz.zero49 (fun b12 => ?_))
  refine S.opN rfl (OpV.storeV0 (v := hv (_)) rfl rfl (hv_size Tryz.cells49) (hv_all _) (hv_len _) ?_)
  refine S.as ?_
  refine S.nil ?_
  refine TC.seq ?_
  refine TC.region ?_
  refine S.mv ?_
  refine S.q rfl rfl (Qt.dT (Qt.ne (b := 0) rfl rfl) (hz)) ?_
  refine S.nil ?_
  refine S.if_t rfl ?_
  refine TC.seq ?_
  refine TC.region ?_
  refine S.as ?_
  refine S.as ?_
  refine S.nil ?_
  refine TC.ret ?_
  refine finQ.ret (RVs.tmp (by conv => lhs; whnf) (RVs.tmp (by conv => lhs; whnf) RVs.nil)) (Sub.nil _) ?_
  exact ⟨rfl, rfl⟩
set_option maxHeartbeats 6400000 in
theorem rside61_walk (h f : Nat) (hh : h ≤ 32) (hf64 : f < 18446744073709551616) (A : Option Addr) (c : Nat) (ls : List H32) (Bl : Option Addr) (cl : Nat) (left : List H32) (Br : Option Addr) (cr : Nat) (right : List H32) (h2 : ls.length ≤ 256) (ctx : RowCtx f ls.length h ls left right) (hz : (spanR (h : Int) f ls left right).2 = 0) (w0 : World) (hR : Ro w0 [] (SlA A (hcs ls))) (hl : Ro w0 [] (SlA Bl (hcs left))) (hr : Ro w0 [] (SlA Br (hcs right))) (hT : Tabs 2 0 w0 []) :
    Calls Tryz.prog 61 #[.int .i64 (h : Int), .int .u64 (f : Int), .slice A ls.length c, .slice Bl left.length cl, .slice Br right.length cr] w0 (Post w0 [] fun v L => TxR (some (sideX f ls.length h ls left right h)) v L) := by
  refine Calls.of (L := []) (n := 95) (rs := [.tmp 10, .tmp 11]) Tryz.func61 rfl rfl rfl (Nat.le_of_ble_eq_true rfl) (Sat.nil _) ?_
  have hpw : 2 ^ h ≤ 4294967296 := (show 2 ^ h ≤ 2 ^ 32 from Nat.pow_le_pow_right (by decide) hh)
  have h1 := ctx.n1
  have hfit := ctx.fit
  refine TC.seq ?_
  refine TC.region ?_
  refine S.as ?_
  refine S.as ?_
  refine S.nil ?_
  refine TC.seq ?_
  refine TC.seq ?_
  refine TC.region ?_
  refine S.mv ?_
  refine S.mv ?_
  refine S.mv ?_
  refine S.mv ?_
  refine S.mv ?_
  refine S.opS rfl rfl (OpV.con0 Tryz.ent124 rfl (fun w hw => (by have hq := rroot11_R (h : Int) f hf64 A c ls Bl cl left Br cr right w (Rd.ro hR w hw) (Rd.ro hl w hw) (Rd.ro hr w hw) (hT.at hw); rw [hz] at hq; exact hq : Calls Tryz.prog 124 #[.int .i64 (h : Int), .int .u64 (f : Int), .slice A ls.length c, .slice Bl left.length cl, .slice Br right.length cr] w (Ret w (.tuple #[hv (spanR (h : Int) f ls left right).1, .int .i64 ((0 : Nat) : Int)])))) ?_)
  refine S.mv ?_
  refine S.q rfl rfl (Qt.extract rfl rfl) ?_
  refine S.q rfl rfl (Qt.extract rfl rfl) ?_
  refine S.opS rfl rfl (OpV.alloc Tryz.zero49 (fun b12 => ?_))
  refine S.opN rfl (OpV.storeV0 (v := hv (_)) rfl rfl (hv_size Tryz.cells49) (hv_all _) (hv_len _) ?_)
  refine S.as ?_
  refine S.nil ?_
  refine TC.seq ?_
  refine TC.region ?_
  refine S.mv ?_
  refine S.q rfl rfl (Qt.dF (Qt.ne (b := 0) rfl rfl) (fun h => h rfl)) ?_
  refine S.nil ?_
  refine S.if_f rfl ?_
  refine TC.skip ?_
  refine TC.seq ?_
  refine TC.region ?_
  refine S.mv ?_
  refine S.mv ?_
  refine S.mv ?_
  refine S.q rfl rfl (Qt.len_slice Tryz.underlying33 rfl) ?_
  refine S.opS rfl rfl (OpV.con (Pre := []) (R := _) Tryz.ent91 rfl (List.Perm.refl _) (fun w hw => rsides_walk h f ls.length hh hfit h1 h2 w) ?_)
  rintro v L' ⟨A1, e1, A2, e2, rfl, rfl⟩
  refine S.mv ?_
  refine S.q rfl rfl (Qt.extract rfl rfl) ?_
  refine S.q rfl rfl (Qt.extract rfl rfl) ?_
  refine S.as ?_
  refine S.as ?_
  refine S.nil ?_
  refine TC.seq ?_
  refine TC.region ?_
  refine S.mv ?_
  refine S.mv ?_
  refine S.q rfl rfl (Qt.len_slice Tryz.underlying33 rfl) ?_
  refine S.q rfl rfl (Qt.convert Tryz.underlying3 Tryz.underlying40 rfl (by simp only [kmax]; omega)) ?_
  refine S.q rfl rfl (Qt.add rfl rfl (by simp only [kmax]; omega)) ?_
  refine S.q rfl rfl (Qt.sub (b := 1) rfl rfl (by omega) (by simp only [kmax]; omega)) ?_
  refine S.as ?_
  refine S.nil ?_
  refine TC.seq ?_
  refine TC.region ?_
  refine S.as ?_
  refine S.nil ?_
  refine TC.seq ?_
  refine TC.seq ?_
  refine TC.region ?_
  refine S.as ?_
  refine S.nil ?_
  refine TC.block ?_
  refine TC.ownNil 112 1 ?_
  refine TC.manyNil ?_
  refine TC.loop (γ := Nat × Option Addr × List Tx × Nat) [47, 48, 49, 52, 53, 54, 55, 19, 56, 57, 58, 59, 60, 61, 64, 65, 66, 67, 68, 69, 70, 71, 72, 73, 74, 20, 75, 76, 77, 78, 79, 80, 81, 82, 83, 84, 85, 86, 21, 87, 88, 89, 90, 91, 92, 93, 17, 62, 63, 50, 51, 18] (fun g => [(18, .int .i64 ((g.1 + 1 : Nat) : Int)), (17, .slice g.2.1 g.2.2.1.length g.2.2.2)]) (fun g => [OwnA 112 1 g.2.1 (g.2.2.1).length g.2.2.2 ((g.2.2.1).flatMap txL), Many ((g.2.2.1).map txOwn), OwnA 265 2 A1 (sideL f h).length e1 (sdL (sideL f h)), OwnA 265 2 A2 (sideR (f + ls.length - 1) h).length e2 (sdL (sideR (f + ls.length - 1) h)), Blk b12 49 (hvl (spanR (h : Int) f ls left right).1)]) (fun g => g.1 ≤ h ∧ g.2.2.1.map (fun t => t.2.2) = (sideX f ls.length h ls left right g.1)) (fun g => h - g.1) ((0, none, [], 0))
    ⟨Nat.zero_le _, rfl⟩ ⟨Out.refl _ _, (List.forall_mem_cons.2 ⟨rfl, (List.forall_mem_cons.2 ⟨rfl, (fun _ h => nomatch h)⟩)⟩)⟩ (Sub.trans (Sub.keep _ (Sub.refl _)) (Sub.of_perm (List.perm_middle (l₁ := [_])))) ?_
  rintro ⟨k, O, tt, d⟩ u ⟨hk, htt⟩
  dsimp only at hk htt
  refine TC.seq ?_
  refine TC.seq ?_
  refine TC.region ?_
  refine S.mv ?_
  refine S.mv ?_
  refine S.dec rfl rfl (Qt.le rfl rfl) (fun h49 => ?_) (fun h49 => ?_)
  · refine S.nil ?_
    refine S.if_t rfl ?_
    refine TC.skip ?_
    refine TC.seq ?_
    refine TC.block ?_
    refine TC.seq ?_
    refine TC.region ?_
    refine S.mv ?_
    refine S.mv ?_
    refine S.q rfl rfl (Qt.convert Tryz.underlying3 Tryz.underlying226 rfl (by simp only [kmax]; omega)) ?_
    refine S.q rfl rfl (Qt.shrN rfl rfl (by simp only [kmax]; omega)) ?_
    refine S.as ?_
    refine S.nil ?_
    refine TC.block ?_
    refine TC.loop (γ := Nat × Option Addr × List Tx × Nat) [56, 57, 58, 59, 60, 61, 64, 65, 66, 67, 68, 69, 70, 71, 72, 73, 74, 20, 75, 76, 77, 78, 79, 80, 81, 82, 83, 84, 85, 86, 21, 87, 88, 89, 90, 91, 92, 93, 17, 62, 63, 19] (fun g => [(19, .int .u64 ((f / 2 ^ (k + 1) + g.1 : Nat) : Int)), (17, .slice g.2.1 g.2.2.1.length g.2.2.2)]) (fun g => [OwnA 112 1 g.2.1 (g.2.2.1).length g.2.2.2 ((g.2.2.1).flatMap txL), Many ((g.2.2.1).map txOwn), OwnA 265 2 A1 (sideL f h).length e1 (sdL (sideL f h)), OwnA 265 2 A2 (sideR (f + ls.length - 1) h).length e2 (sdL (sideR (f + ls.length - 1) h)), Blk b12 49 (hvl (spanR (h : Int) f ls left right).1)]) (fun g => g.1 ≤ (f + ls.length - 1) / 2 ^ (k + 1) + 1 - f / 2 ^ (k + 1) ∧ g.2.2.1.map (fun t => t.2.2) = (sideX f ls.length h ls left right k) ++ rowXi f ls.length h ls left right k g.1) (fun g => (f + ls.length - 1) / 2 ^ (k + 1) + 1 - f / 2 ^ (k + 1) - g.1) ((0, O, tt, d))
      ⟨Nat.zero_le _, by rw [htt]; exact (List.append_nil _).symm⟩ ⟨Out.refl _ _, (List.forall_mem_cons.2 ⟨rfl, (List.forall_mem_cons.2 ⟨rfl, (fun _ h => nomatch h)⟩)⟩)⟩ (Sub.refl _) ?_
    rintro ⟨i, O, tt, d⟩ u ⟨hi2, htt2⟩
    dsimp only at hi2 htt2
    have hcnt := side_count ctx h2 hh (show k < h by omega) hi2 htt2
    have hsb : f / 2 ^ (k + 1) + i ≤ (f + ls.length - 1) / 2 ^ (k + 1) → f / 2 ^ (k + 1) + i < 4294967296 := fun q => Nat.lt_of_lt_of_le (side_bound ctx q) hpw
    refine TC.seq ?_
    refine TC.seq ?_
    refine TC.region ?_
    refine S.mv ?_
    refine S.mv ?_
    refine S.mv ?_
    refine S.q rfl rfl (Qt.convert Tryz.underlying3 Tryz.underlying226 rfl (by simp only [kmax]; omega)) ?_
    refine S.q rfl rfl (Qt.shrN rfl rfl (by simp only [kmax]; omega)) ?_
    refine S.dec rfl rfl (Qt.le rfl rfl) (fun h61 => ?_) (fun h61 => ?_)
    · refine S.nil ?_
      refine S.if_t rfl ?_
      refine TC.skip ?_
      refine TC.seq ?_
      refine TC.block ?_
      refine TC.seq ?_
      refine TC.region ?_
      have hsb2 := hsb h61
      refine S.mv ?_
      refine S.q rfl rfl (Qt.as (v' := .int .i64 ((k : Nat) : Int)) (Qt.sub (b := 1) rfl rfl (by omega) (by simp only [kmax]; omega)) (by rw [Nat.add_sub_cancel])) ?_
      refine S.mv ?_
      refine S.q rfl rfl (Qt.mul (a := 2) rfl rfl (by simp only [kmax]; omega)) ?_
      refine S.mv ?_
      refine S.mv ?_
      refine S.mv ?_
      refine S.mv ?_
      refine S.mv ?_
      refine S.mv ?_
      refine S.opS rfl rfl (OpV.con0 Tryz.ent125 rfl (fun w hw => (by have q := rnode11_C h hh f A c ls A1 e1 A2 e2 Bl cl left Br cr right ctx h2 k (by omega) (2 * (f / 2 ^ (k + 1) + i)) w (side_ok ctx (show k < h by omega) h61).1 (side_nodes ctx (show k < h by omega) h61).1 (Rd.ro hR w hw) (Rd.own (Rd.at 2 rfl) w hw) (Rd.own (Rd.at 3 rfl) w hw) (Rd.ro hl w hw) (Rd.ro hr w hw) (hT.at hw); rw [(side_mid ctx (show k < h by omega) h61).1] at q; exact q : Calls Tryz.prog 125 #[.int .i64 ((k : Nat) : Int), .int .u64 ((2 * (f / 2 ^ (k + 1) + i) : Nat) : Int), .int .u64 (f : Int), .slice A ls.length c, .slice A1 (sideL f h).length e1, .slice A2 (sideR (f + ls.length - 1) h).length e2, .slice Bl left.length cl, .slice Br right.length cr] w (Ret w (hv ((rowMd f ls.length h ls left right k).getD (2 * i) zeroH))))) ?_)
      refine S.opS rfl rfl (OpV.alloc Tryz.zero49 (fun b20 => ?_))
      refine S.opN rfl (OpV.storeV0 (v := hv (((rowMd f ls.length h ls left right k).getD (2 * i) zeroH))) rfl rfl (hv_size Tryz.cells49) (hv_all _) (hv_len _) ?_)
      refine S.nil ?_
      refine TC.seq ?_
      refine TC.region ?_
      refine S.mv ?_
      refine S.q rfl rfl (Qt.as (v' := .int .i64 ((k : Nat) : Int)) (Qt.sub (b := 1) rfl rfl (by omega) (by simp only [kmax]; omega)) (by rw [Nat.add_sub_cancel])) ?_
      refine S.mv ?_
      refine S.q rfl rfl (Qt.mul (a := 2) rfl rfl (by simp only [kmax]; omega)) ?_
      refine S.q rfl rfl (Qt.add (b := 1) rfl rfl (by simp only [kmax]; omega)) ?_
      refine S.mv ?_
      refine S.mv ?_
      refine S.mv ?_
      refine S.mv ?_
      refine S.mv ?_
      refine S.mv ?_
      refine S.opS rfl rfl (OpV.con0 Tryz.ent125 rfl (fun w hw => (by have q := rnode11_C h hh f A c ls A1 e1 A2 e2 Bl cl left Br cr right ctx h2 k (by omega) (2 * (f / 2 ^ (k + 1) + i) + 1) w (side_ok ctx (show k < h by omega) h61).2 (side_nodes ctx (show k < h by omega) h61).2 (Rd.ro hR w hw) (Rd.own (Rd.at 3 rfl) w hw) (Rd.own (Rd.at 4 rfl) w hw) (Rd.ro hl w hw) (Rd.ro hr w hw) (hT.at hw); rw [(side_mid ctx (show k < h by omega) h61).2] at q; exact q : Calls Tryz.prog 125 #[.int .i64 ((k : Nat) : Int), .int .u64 ((2 * (f / 2 ^ (k + 1) + i) + 1 : Nat) : Int), .int .u64 (f : Int), .slice A ls.length c, .slice A1 (sideL f h).length e1, .slice A2 (sideR (f + ls.length - 1) h).length e2, .slice Bl left.length cl, .slice Br right.length cr] w (Ret w (hv ((rowMd f ls.length h ls left right k).getD (2 * i + 1) zeroH))))) ?_)
      refine S.opS rfl rfl (OpV.alloc Tryz.zero49 (fun b21 => ?_))
      refine S.opN rfl (OpV.storeV0 (v := hv (((rowMd f ls.length h ls left right k).getD (2 * i + 1) zeroH))) rfl rfl (hv_size Tryz.cells49) (hv_all _) (hv_len _) ?_)
      refine S.nil ?_
      refine TC.region ?_
      refine S.mv ?_
      refine S.mv ?_
      refine S.q rfl rfl (Qt.load rfl (Ld.hash1 (x := ((rowMd f ls.length h ls left right k).getD (2 * i) zeroH)) (Has.at 1 rfl) Tryz.row49 Tryz.cells49)) ?_
      refine S.q rfl rfl (Qt.load rfl (Ld.hash1 (x := ((rowMd f ls.length h ls left right k).getD (2 * i + 1) zeroH)) (Has.at 0 rfl) Tryz.row49 Tryz.cells49)) ?_
      refine S.opS rfl rfl (OpV.con (Pre := []) (R := _) Tryz.ent126 rfl (List.Perm.refl _) (fun w hw => rjointext_walk (k + 1) (by omega) ((rowMd f ls.length h ls left right k).getD (2 * i) zeroH) ((rowMd f ls.length h ls left right k).getD (2 * i + 1) zeroH) w) ?_)
      rintro v L' ⟨Oj, dj, rfl, rfl⟩
      refine TL.manyJoin (List.Perm.cons _ (List.perm_middle (l₁ := [_, _, _]))) ?_
      refine S.opS rfl rfl (OpV.slice1 (bytes := 24) (v := .slice Oj (joinT (k + 1) ((rowMd f ls.length h ls left right k).getD (2 * i) zeroH) ((rowMd f ls.length h ls left right k).getD (2 * i + 1) zeroH)).length dj) Tryz.underlying111 Tryz.elem112 (by decide) rfl rfl (fun g92 => ?_))
      refine S.opS rfl rfl (OpV.app4 (bytes := 24) (news := [.slice Oj (joinT (k + 1) ((rowMd f ls.length h ls left right k).getD (2 * i) zeroH) ((rowMd f ls.length h ls left right k).getD (2 * i + 1) zeroH)).length dj]) Tryz.underlying111 Tryz.elem112 rfl rfl (Has.blk (cs := [.slice Oj (joinT (k + 1) ((rowMd f ls.length h ls left right k).getD (2 * i) zeroH) ((rowMd f ls.length h ls left right k).getD (2 * i + 1) zeroH)).length dj]) (Has.at 0 rfl)) rfl (by intro u hu; rw [List.mem_singleton.1 hu]; rfl) (by simp only [maxLen]; omega) (by show (tt.length + 1) * 24 ≤ 140737488355328; omega) (fun O3 d3 => ?_))
      refine S.as ?_
      refine S.nil ?_
      refine TC.region ?_
      refine S.mv ?_
      refine S.q rfl rfl (Qt.add (b := 1) rfl rfl (by simp only [kmax]; omega)) ?_
      refine S.as ?_
      refine S.nil ?_
      refine ⟨(i + 1, O3, tt ++ [(Oj, dj, joinT (k + 1) ((rowMd f ls.length h ls left right k).getD (2 * i) zeroH) ((rowMd f ls.length h ls left right k).getD (2 * i + 1) zeroH))], d3), ?_, ?_, ⟨?_, (List.forall_mem_cons.2 ⟨rfl, (List.forall_mem_cons.2 ⟨(by show Value.slice O3 (tt.length + 1) d3 = Value.slice O3 (tt ++ [_]).length d3; rw [List.length_append]; rfl), (fun _ h => nomatch h)⟩)⟩)⟩, (by dsimp only; simp only [List.length_append, List.flatMap_append, List.map_append]; exact Sub.trans (Sub.keep _ (Sub.keep _ (Sub.keep _ (Sub.keep _ (Sub.keep _ (Sub.drop _ (Sub.drop _ (Sub.drop _ (Sub.nil []))))))))) (Sub.trans (Sub.keep _ (Sub.trans (Sub.keep _ (Sub.trans (Sub.keep _ (Sub.trans (Sub.keep _ (Sub.trans (Sub.keep _ (Sub.refl _)) (Sub.of_perm (List.perm_middle (l₁ := [_, _, _]))))) (Sub.of_perm (List.perm_middle (l₁ := [_, _, _]))))) (Sub.of_perm (List.perm_middle (l₁ := [_, _, _]))))) (Sub.of_perm (List.perm_middle (l₁ := [_]))))) (Sub.of_perm (List.perm_middle (l₁ := [_, _, _, _])))))⟩
      · exact ⟨side_step h61, by dsimp only; rw [List.map_append, htt2, rowXi_succ, List.append_assoc]; rfl⟩
      · exact side_dec h61
      repeat (first | exact Out.refl _ _ | refine Out.put rfl ?_ | refine Out.puts rfl ?_ | refine Out.scr ?_ | refine Out.scr' rfl ?_)
    · refine S.nil ?_
      refine S.if_f rfl ?_
      refine TC.exit ?_
      refine TC.region ?_
      refine S.mv ?_
      refine S.q rfl rfl (Qt.add (b := 1) rfl rfl (by simp only [kmax]; omega)) ?_
      refine S.as ?_
      refine S.nil ?_
      refine ⟨(k + 1, O, tt, d), ?_, ?_, ⟨?_, (List.forall_mem_cons.2 ⟨rfl, (List.forall_mem_cons.2 ⟨rfl, (fun _ h => nomatch h)⟩)⟩)⟩, (by dsimp only; exact Sub.refl _)⟩
      · exact ⟨by show _ ≤ _; dsimp only; omega, by dsimp only; rw [htt2, sideX_succ, rowXi_full ctx h61 hi2]⟩
      · show _ < _; dsimp only; omega
      repeat (first | exact Out.refl _ _ | refine Out.put rfl ?_ | refine Out.puts rfl ?_ | refine Out.scr ?_ | refine Out.scr' rfl ?_)
  · refine S.nil ?_
    refine S.if_f rfl ?_
    refine TC.exit ?_
    refine TC.seq ?_
    refine TC.region ?_
    refine S.mv ?_
    refine S.as ?_
    refine S.as ?_
    refine S.nil ?_
    refine TC.ret ?_
    refine finQ.ret (RVs.tmp (by conv => lhs; whnf) (RVs.tmp (by conv => lhs; whnf) RVs.nil)) (Sub.keep _ (Sub.keep _ (Sub.drop _ (Sub.drop _ (Sub.drop _ (Sub.nil [])))))) ?_
    obtain rfl : k = h := by omega
    exact ⟨O, d, tt, rfl, rfl, htt, by have := side_texts_len h1 h2 hh htt; omega⟩
theorem rside61_C (z : Int) (f : Nat) (hf64 : f < 18446744073709551616) (A : Option Addr) (c : Nat) (ls : List H32) (Bl : Option Addr) (cl : Nat) (left : List H32) (Br : Option Addr) (cr : Nat) (right : List H32) (w0 : World) (hR : Ro w0 [] (SlA A (hcs ls))) (hl : Ro w0 [] (SlA Bl (hcs left))) (hr : Ro w0 [] (SlA Br (hcs right))) (hT : Tabs 2 0 w0 []) : Calls Tryz.prog 61 #[.int .i64 z, .int .u64 (f : Int), .slice A ls.length c, .slice Bl left.length cl, .slice Br right.length cr] w0 (Post w0 [] fun v L => TxR (sideQ z f ls left right) v L) := by
  by_cases hz : (spanR z f ls left right).2 = 0
  · obtain ⟨h, rfl, hh, h2, ctx, _⟩ := spanR_ok hz
    rw [show sideQ (h : Int) f ls left right = some (sideX f ls.length h ls left right h) by rw [sideQ, if_pos hz, Int.toNat_natCast]]
    exact rside61_walk h f hh hf64 A c ls Bl cl left Br cr right h2 ctx hz w0 hR hl hr hT
  · rw [show sideQ z f ls left right = none from if_neg hz]
    exact rside61_walkF z f hf64 A c ls Bl cl left Br cr right hz w0 hR hl hr hT

set_option maxHeartbeats 400000 in
theorem rsides18_walkN (z : Int) (f : Nat) (A1 : Option Addr) (c1 : Nat) (l1 : List H32) (B1 : Option Addr) (d1 : Nat) (a1 : List H32) (Z1 : Option Addr) (e1 : Nat) (b1 : List H32) (A2 : Option Addr) (c2 : Nat) (l2 : List H32) (B2 : Option Addr) (d2 : Nat) (a2 : List H32) (Z2 : Option Addr) (e2 : Nat) (b2 : List H32) (x : Option (List (List UInt8))) (w0 : World) (h1 : ∀ w, St w0 [] [] w → Calls Tryz.prog 61 #[.int .i64 z, .int .u64 (f : Int), .slice A1 l1.length c1, .slice B1 a1.length d1, .slice Z1 b1.length e1] w (Post w [] (TxR none))) (h2 : ∀ w, St w0 [] [] w → Calls Tryz.prog 61 #[.int .i64 z, .int .u64 (f : Int), .slice A2 l2.length c2, .slice B2 a2.length d2, .slice Z2 b2.length e2] w (Post w [] (TxR x))) :
    Calls Tryz.prog 18 #[.int .i64 z, .int .u64 (f : Int), .agg #[.slice A1 l1.length c1, .slice B1 a1.length d1, .slice Z1 b1.length e1, .slice A2 l2.length c2, .slice B2 a2.length d2, .slice Z2 b2.length e2]] w0 (Post w0 [] fun v L => PxQ 115 [] v L) := by
  refine Calls.of (L := []) (n := 53) (rs := [.tmp 6]) Tryz.func18 rfl rfl rfl (Nat.le_of_ble_eq_true rfl) (Sat.nil _) ?_
  refine TC.ownNil 115 2 ?_
  refine TC.manyNil ?_
  refine TC.seq ?_
  refine TC.region ?_
  refine S.opS rfl rfl (OpV.box (v := .agg #[.slice A1 l1.length c1, .slice B1 a1.length d1, .slice Z1 b1.length e1, .slice A2 l2.length c2, .slice B2 a2.length d2, .slice Z2 b2.length e2]) rfl (fun b5 => ?_))
  refine S.as ?_
  refine S.nil ?_
  refine TC.seq ?_
  refine TC.region ?_
  refine S.mv ?_
  refine S.mv ?_
  refine S.q rfl rfl (Qt.indexB (i := 0) Tryz.underlying41 Tryz.cells33 rfl rfl (by omega)) ?_
  refine S.q rfl rfl (Qt.load rfl (Ld.one (v := .slice A1 l1.length c1) (Has.at 0 rfl) Tryz.one33 rfl)) ?_
  refine S.q rfl rfl (Qt.indexB (i := 1) Tryz.underlying41 Tryz.cells33 rfl rfl (by omega)) ?_
  refine S.q rfl rfl (Qt.load rfl (Ld.one (v := .slice B1 a1.length d1) (Has.at 0 rfl) Tryz.one33 rfl)) ?_
  refine S.q rfl rfl (Qt.indexB (i := 2) Tryz.underlying41 Tryz.cells33 rfl rfl (by omega)) ?_
  refine S.q rfl rfl (Qt.load rfl (Ld.one (v := .slice Z1 b1.length e1) (Has.at 0 rfl) Tryz.one33 rfl)) ?_
  refine S.opS rfl rfl (OpV.con (Pre := []) (R := _) Tryz.ent61 rfl (List.Perm.refl _) (fun w hw => h1 w (hw.sub (Sub.nil _))) ?_)
  rintro v L' ⟨rfl, rfl⟩
  refine S.mv ?_
  refine S.q rfl rfl (Qt.extract rfl rfl) ?_
  refine S.q rfl rfl (Qt.extract rfl rfl) ?_
  refine S.as ?_
  refine S.as ?_
  refine S.nil ?_
  refine TC.seq ?_
  refine TC.region ?_
  refine S.mv ?_
  refine S.mv ?_
  refine S.q rfl rfl (Qt.indexB (i := 3) Tryz.underlying41 Tryz.cells33 rfl rfl (by omega)) ?_
  refine S.q rfl rfl (Qt.load rfl (Ld.one (v := .slice A2 l2.length c2) (Has.at 0 rfl) Tryz.one33 rfl)) ?_
  refine S.q rfl rfl (Qt.indexB (i := 4) Tryz.underlying41 Tryz.cells33 rfl rfl (by omega)) ?_
  refine S.q rfl rfl (Qt.load rfl (Ld.one (v := .slice B2 a2.length d2) (Has.at 0 rfl) Tryz.one33 rfl)) ?_
  refine S.q rfl rfl (Qt.indexB (i := 5) Tryz.underlying41 Tryz.cells33 rfl rfl (by omega)) ?_
  refine S.q rfl rfl (Qt.load rfl (Ld.one (v := .slice Z2 b2.length e2) (Has.at 0 rfl) Tryz.one33 rfl)) ?_
  cases x
  · refine S.opS rfl rfl (OpV.con (Pre := []) (R := _) Tryz.ent61 rfl (List.Perm.refl _) (fun w hw => h2 w (hw.sub (Sub.nil _))) ?_)
    rintro v L' ⟨rfl, rfl⟩
    refine S.mv ?_
    refine S.q rfl rfl (Qt.extract rfl rfl) ?_
    refine S.q rfl rfl (Qt.extract rfl rfl) ?_
    refine S.as ?_
    refine S.as ?_
    refine S.nil ?_
    refine TC.seq ?_
    refine TC.seq ?_
    refine TC.region ?_
    refine S.mv ?_
    refine S.q rfl rfl (Qt.not_f rfl) ?_
    refine S.mv ?_
    refine S.pass rfl rfl ?_
    refine S.pass rfl rfl ?_
    refine S.q rfl rfl (Qt.pick_t rfl (by conv => lhs; whnf)) ?_
    refine S.mv ?_
    refine S.pass rfl rfl ?_
    refine S.pass rfl rfl ?_
    refine S.pass rfl rfl ?_
    refine S.pass rfl rfl ?_
    refine S.pass rfl rfl ?_
    refine S.pass rfl rfl ?_
    refine S.pass rfl rfl ?_
    refine S.q rfl rfl (Qt.pick_t rfl (by conv => lhs; whnf)) ?_
    refine S.nil ?_
    refine S.if_t rfl ?_
    refine TC.seq ?_
    refine TC.region ?_
    refine S.as ?_
    refine S.nil ?_
    refine TC.ret ?_
    refine finQ.ret (RVs.tmp (by conv => lhs; whnf) RVs.nil) (Sub.trans (Sub.keep _ (Sub.keep _ (Sub.drop _ (Sub.nil [])))) (Sub.trans (Sub.keep _ (Sub.trans (Sub.keep _ (Sub.refl _)) (Sub.of_perm (List.perm_middle (l₁ := [_]))))) (Sub.of_perm (List.perm_middle (l₁ := [_, _]))))) ?_
    exact ⟨none, 0, [], [], rfl, rfl, rfl, Nat.zero_le _, fun p hp => nomatch hp⟩
  · refine S.opS rfl rfl (OpV.con (Pre := []) (R := _) Tryz.ent61 rfl (List.Perm.refl _) (fun w hw => h2 w (hw.sub (Sub.nil _))) ?_)
    rintro v L' ⟨O2, y2, t2, rfl, rfl, u2, k2⟩
    refine S.mv ?_
    refine S.q rfl rfl (Qt.extract rfl rfl) ?_
    refine S.q rfl rfl (Qt.extract rfl rfl) ?_
    refine S.as ?_
    refine S.as ?_
    refine S.nil ?_
    refine TC.seq ?_
    refine TC.seq ?_
    refine TC.region ?_
    refine S.mv ?_
    refine S.q rfl rfl (Qt.not_f rfl) ?_
    refine S.mv ?_
    refine S.pass rfl rfl ?_
    refine S.pass rfl rfl ?_
    refine S.q rfl rfl (Qt.pick_t rfl (by conv => lhs; whnf)) ?_
    refine S.mv ?_
    refine S.pass rfl rfl ?_
    refine S.pass rfl rfl ?_
    refine S.pass rfl rfl ?_
    refine S.pass rfl rfl ?_
    refine S.pass rfl rfl ?_
    refine S.pass rfl rfl ?_
    refine S.pass rfl rfl ?_
    refine S.q rfl rfl (Qt.pick_t rfl (by conv => lhs; whnf)) ?_
    refine S.nil ?_
    refine S.if_t rfl ?_
    refine TC.seq ?_
    refine TC.region ?_
    refine S.as ?_
    refine S.nil ?_
    refine TC.ret ?_
    refine finQ.ret (RVs.tmp (by conv => lhs; whnf) RVs.nil) (Sub.trans (Sub.keep _ (Sub.keep _ (Sub.drop _ (Sub.drop _ (Sub.drop _ (Sub.nil [])))))) (Sub.trans (Sub.keep _ (Sub.trans (Sub.keep _ (Sub.refl _)) (Sub.of_perm (List.perm_middle (l₁ := [_, _, _]))))) (Sub.of_perm (List.perm_middle (l₁ := [_, _, _, _]))))) ?_
    exact ⟨none, 0, [], [], rfl, rfl, rfl, Nat.zero_le _, fun p hp => nomatch hp⟩
set_option maxHeartbeats 400000 in
theorem rsides18_walkN2 (z : Int) (f : Nat) (A1 : Option Addr) (c1 : Nat) (l1 : List H32) (B1 : Option Addr) (d1 : Nat) (a1 : List H32) (Z1 : Option Addr) (e1 : Nat) (b1 : List H32) (A2 : Option Addr) (c2 : Nat) (l2 : List H32) (B2 : Option Addr) (d2 : Nat) (a2 : List H32) (Z2 : Option Addr) (e2 : Nat) (b2 : List H32) (x : List (List UInt8)) (w0 : World) (h1 : ∀ w, St w0 [] [] w → Calls Tryz.prog 61 #[.int .i64 z, .int .u64 (f : Int), .slice A1 l1.length c1, .slice B1 a1.length d1, .slice Z1 b1.length e1] w (Post w [] (TxR (some x)))) (h2 : ∀ w, St w0 [] [] w → Calls Tryz.prog 61 #[.int .i64 z, .int .u64 (f : Int), .slice A2 l2.length c2, .slice B2 a2.length d2, .slice Z2 b2.length e2] w (Post w [] (TxR none))) :
    Calls Tryz.prog 18 #[.int .i64 z, .int .u64 (f : Int), .agg #[.slice A1 l1.length c1, .slice B1 a1.length d1, .slice Z1 b1.length e1, .slice A2 l2.length c2, .slice B2 a2.length d2, .slice Z2 b2.length e2]] w0 (Post w0 [] fun v L => PxQ 115 [] v L) := by
  refine Calls.of (L := []) (n := 53) (rs := [.tmp 6]) Tryz.func18 rfl rfl rfl (Nat.le_of_ble_eq_true rfl) (Sat.nil _) ?_
  refine TC.ownNil 115 2 ?_
  refine TC.manyNil ?_
  refine TC.seq ?_
  refine TC.region ?_
  refine S.opS rfl rfl (OpV.box (v := .agg #[.slice A1 l1.length c1, .slice B1 a1.length d1, .slice Z1 b1.length e1, .slice A2 l2.length c2, .slice B2 a2.length d2, .slice Z2 b2.length e2]) rfl (fun b5 => ?_))
  refine S.as ?_
  refine S.nil ?_
  refine TC.seq ?_
  refine TC.region ?_
  refine S.mv ?_
  refine S.mv ?_
  refine S.q rfl rfl (Qt.indexB (i := 0) Tryz.underlying41 Tryz.cells33 rfl rfl (by omega)) ?_
  refine S.q rfl rfl (Qt.load rfl (Ld.one (v := .slice A1 l1.length c1) (Has.at 0 rfl) Tryz.one33 rfl)) ?_
  refine S.q rfl rfl (Qt.indexB (i := 1) Tryz.underlying41 Tryz.cells33 rfl rfl (by omega)) ?_
  refine S.q rfl rfl (Qt.load rfl (Ld.one (v := .slice B1 a1.length d1) (Has.at 0 rfl) Tryz.one33 rfl)) ?_
  refine S.q rfl rfl (Qt.indexB (i := 2) Tryz.underlying41 Tryz.cells33 rfl rfl (by omega)) ?_
  refine S.q rfl rfl (Qt.load rfl (Ld.one (v := .slice Z1 b1.length e1) (Has.at 0 rfl) Tryz.one33 rfl)) ?_
  refine S.opS rfl rfl (OpV.con (Pre := []) (R := _) Tryz.ent61 rfl (List.Perm.refl _) (fun w hw => h1 w (hw.sub (Sub.nil _))) ?_)
  rintro v L' ⟨O1, y1, t1, rfl, rfl, u1, k1⟩
  refine S.mv ?_
  refine S.q rfl rfl (Qt.extract rfl rfl) ?_
  refine S.q rfl rfl (Qt.extract rfl rfl) ?_
  refine S.as ?_
  refine S.as ?_
  refine S.nil ?_
  refine TC.seq ?_
  refine TC.region ?_
  refine S.mv ?_
  refine S.mv ?_
  refine S.q rfl rfl (Qt.indexB (i := 3) Tryz.underlying41 Tryz.cells33 rfl rfl (by omega)) ?_
  refine S.q rfl rfl (Qt.load rfl (Ld.one (v := .slice A2 l2.length c2) (Has.at 2 rfl) Tryz.one33 rfl)) ?_
  refine S.q rfl rfl (Qt.indexB (i := 4) Tryz.underlying41 Tryz.cells33 rfl rfl (by omega)) ?_
  refine S.q rfl rfl (Qt.load rfl (Ld.one (v := .slice B2 a2.length d2) (Has.at 2 rfl) Tryz.one33 rfl)) ?_
  refine S.q rfl rfl (Qt.indexB (i := 5) Tryz.underlying41 Tryz.cells33 rfl rfl (by omega)) ?_
  refine S.q rfl rfl (Qt.load rfl (Ld.one (v := .slice Z2 b2.length e2) (Has.at 2 rfl) Tryz.one33 rfl)) ?_
  refine S.opS rfl rfl (OpV.con (Pre := []) (R := _) Tryz.ent61 rfl (List.Perm.refl _) (fun w hw => h2 w (hw.sub (Sub.nil _))) ?_)
  rintro v L' ⟨rfl, rfl⟩
  refine S.mv ?_
  refine S.q rfl rfl (Qt.extract rfl rfl) ?_
  refine S.q rfl rfl (Qt.extract rfl rfl) ?_
  refine S.as ?_
  refine S.as ?_
  refine S.nil ?_
  refine TC.seq ?_
  refine TC.seq ?_
  refine TC.region ?_
  refine S.mv ?_
  refine S.q rfl rfl (Qt.not_t rfl) ?_
  refine S.mv ?_
  refine S.qg rfl rfl rfl (Qt.move (by conv => lhs; whnf)) ?_
  refine S.qg rfl rfl rfl (Qt.not_f rfl) ?_
  refine S.q rfl rfl (Qt.pick_f rfl (by conv => lhs; whnf)) ?_
  refine S.mv ?_
  refine S.pass rfl rfl ?_
  refine S.pass rfl rfl ?_
  refine S.pass rfl rfl ?_
  refine S.pass rfl rfl ?_
  refine S.pass rfl rfl ?_
  refine S.pass rfl rfl ?_
  refine S.pass rfl rfl ?_
  refine S.q rfl rfl (Qt.pick_t rfl (by conv => lhs; whnf)) ?_
  refine S.nil ?_
  refine S.if_t rfl ?_
  refine TC.seq ?_
  refine TC.region ?_
  refine S.as ?_
  refine S.nil ?_
  refine TC.ret ?_
  refine finQ.ret (RVs.tmp (by conv => lhs; whnf) RVs.nil) (Sub.trans (Sub.keep _ (Sub.keep _ (Sub.drop _ (Sub.drop _ (Sub.drop _ (Sub.nil [])))))) (Sub.trans (Sub.keep _ (Sub.trans (Sub.keep _ (Sub.refl _)) (Sub.of_perm (List.perm_middle (l₁ := [_, _, _]))))) (Sub.of_perm (List.perm_middle (l₁ := [_, _, _, _]))))) ?_
  exact ⟨none, 0, [], [], rfl, rfl, rfl, Nat.zero_le _, fun p hp => nomatch hp⟩
set_option maxHeartbeats 400000 in
theorem rsides18_walkL (z : Int) (f : Nat) (A1 : Option Addr) (c1 : Nat) (l1 : List H32) (B1 : Option Addr) (d1 : Nat) (a1 : List H32) (Z1 : Option Addr) (e1 : Nat) (b1 : List H32) (A2 : Option Addr) (c2 : Nat) (l2 : List H32) (B2 : Option Addr) (d2 : Nat) (a2 : List H32) (Z2 : Option Addr) (e2 : Nat) (b2 : List H32) (x y : List (List UInt8)) (hne : l1.length ≠ l2.length) (w0 : World) (h1 : ∀ w, St w0 [] [] w → Calls Tryz.prog 61 #[.int .i64 z, .int .u64 (f : Int), .slice A1 l1.length c1, .slice B1 a1.length d1, .slice Z1 b1.length e1] w (Post w [] (TxR (some x)))) (h2 : ∀ w, St w0 [] [] w → Calls Tryz.prog 61 #[.int .i64 z, .int .u64 (f : Int), .slice A2 l2.length c2, .slice B2 a2.length d2, .slice Z2 b2.length e2] w (Post w [] (TxR (some y)))) :
    Calls Tryz.prog 18 #[.int .i64 z, .int .u64 (f : Int), .agg #[.slice A1 l1.length c1, .slice B1 a1.length d1, .slice Z1 b1.length e1, .slice A2 l2.length c2, .slice B2 a2.length d2, .slice Z2 b2.length e2]] w0 (Post w0 [] fun v L => PxQ 115 [] v L) := by
  refine Calls.of (L := []) (n := 53) (rs := [.tmp 6]) Tryz.func18 rfl rfl rfl (Nat.le_of_ble_eq_true rfl) (Sat.nil _) ?_
  refine TC.ownNil 115 2 ?_
  refine TC.manyNil ?_
  refine TC.seq ?_
  refine TC.region ?_
  refine S.opS rfl rfl (OpV.box (v := .agg #[.slice A1 l1.length c1, .slice B1 a1.length d1, .slice Z1 b1.length e1, .slice A2 l2.length c2, .slice B2 a2.length d2, .slice Z2 b2.length e2]) rfl (fun b5 => ?_))
  refine S.as ?_
  refine S.nil ?_
  refine TC.seq ?_
  refine TC.region ?_
  refine S.mv ?_
  refine S.mv ?_
  refine S.q rfl rfl (Qt.indexB (i := 0) Tryz.underlying41 Tryz.cells33 rfl rfl (by omega)) ?_
  refine S.q rfl rfl (Qt.load rfl (Ld.one (v := .slice A1 l1.length c1) (Has.at 0 rfl) Tryz.one33 rfl)) ?_
  refine S.q rfl rfl (Qt.indexB (i := 1) Tryz.underlying41 Tryz.cells33 rfl rfl (by omega)) ?_
  refine S.q rfl rfl (Qt.load rfl (Ld.one (v := .slice B1 a1.length d1) (Has.at 0 rfl) Tryz.one33 rfl)) ?_
  refine S.q rfl rfl (Qt.indexB (i := 2) Tryz.underlying41 Tryz.cells33 rfl rfl (by omega)) ?_
  refine S.q rfl rfl (Qt.load rfl (Ld.one (v := .slice Z1 b1.length e1) (Has.at 0 rfl) Tryz.one33 rfl)) ?_
  refine S.opS rfl rfl (OpV.con (Pre := []) (R := _) Tryz.ent61 rfl (List.Perm.refl _) (fun w hw => h1 w (hw.sub (Sub.nil _))) ?_)
  rintro v L' ⟨O1, y1, t1, rfl, rfl, u1, k1⟩
  refine S.mv ?_
  refine S.q rfl rfl (Qt.extract rfl rfl) ?_
  refine S.q rfl rfl (Qt.extract rfl rfl) ?_
  refine S.as ?_
  refine S.as ?_
  refine S.nil ?_
  refine TC.seq ?_
  refine TC.region ?_
  refine S.mv ?_
  refine S.mv ?_
  refine S.q rfl rfl (Qt.indexB (i := 3) Tryz.underlying41 Tryz.cells33 rfl rfl (by omega)) ?_
  refine S.q rfl rfl (Qt.load rfl (Ld.one (v := .slice A2 l2.length c2) (Has.at 2 rfl) Tryz.one33 rfl)) ?_
  refine S.q rfl rfl (Qt.indexB (i := 4) Tryz.underlying41 Tryz.cells33 rfl rfl (by omega)) ?_
  refine S.q rfl rfl (Qt.load rfl (Ld.one (v := .slice B2 a2.length d2) (Has.at 2 rfl) Tryz.one33 rfl)) ?_
  refine S.q rfl rfl (Qt.indexB (i := 5) Tryz.underlying41 Tryz.cells33 rfl rfl (by omega)) ?_
  refine S.q rfl rfl (Qt.load rfl (Ld.one (v := .slice Z2 b2.length e2) (Has.at 2 rfl) Tryz.one33 rfl)) ?_
  refine S.opS rfl rfl (OpV.con (Pre := []) (R := _) Tryz.ent61 rfl (List.Perm.refl _) (fun w hw => h2 w (hw.sub (Sub.nil _))) ?_)
  rintro v L' ⟨O2, y2, t2, rfl, rfl, u2, k2⟩
  refine S.mv ?_
  refine S.q rfl rfl (Qt.extract rfl rfl) ?_
  refine S.q rfl rfl (Qt.extract rfl rfl) ?_
  refine S.as ?_
  refine S.as ?_
  refine S.nil ?_
  refine TC.seq ?_
  refine TC.seq ?_
  refine TC.region ?_
  refine S.mv ?_
  refine S.q rfl rfl (Qt.not_t rfl) ?_
  refine S.mv ?_
  refine S.qg rfl rfl rfl (Qt.move (by conv => lhs; whnf)) ?_
  refine S.qg rfl rfl rfl (Qt.not_t rfl) ?_
  refine S.q rfl rfl (Qt.pick_f rfl (by conv => lhs; whnf)) ?_
  refine S.mv ?_
  refine S.qg rfl rfl rfl (Qt.indexB (i := 0) Tryz.underlying41 Tryz.cells33 rfl rfl (by omega)) ?_
  refine S.qg rfl rfl rfl (Qt.load rfl (Ld.one (v := .slice A1 l1.length c1) (Has.at 4 rfl) Tryz.one33 rfl)) ?_
  refine S.qg rfl rfl rfl (Qt.len_slice Tryz.underlying33 rfl) ?_
  refine S.qg rfl rfl rfl (Qt.indexB (i := 3) Tryz.underlying41 Tryz.cells33 rfl rfl (by omega)) ?_
  refine S.qg rfl rfl rfl (Qt.load rfl (Ld.one (v := .slice A2 l2.length c2) (Has.at 4 rfl) Tryz.one33 rfl)) ?_
  refine S.qg rfl rfl rfl (Qt.len_slice Tryz.underlying33 rfl) ?_
  refine S.qg rfl rfl rfl (Qt.dT (Qt.ne rfl rfl) (hne)) ?_
  refine S.q rfl rfl (Qt.pick_f rfl (by conv => lhs; whnf)) ?_
  refine S.nil ?_
  refine S.if_t rfl ?_
  refine TC.seq ?_
  refine TC.region ?_
  refine S.as ?_
  refine S.nil ?_
  refine TC.ret ?_
  refine finQ.ret (RVs.tmp (by conv => lhs; whnf) RVs.nil) (Sub.trans (Sub.keep _ (Sub.keep _ (Sub.drop _ (Sub.drop _ (Sub.drop _ (Sub.drop _ (Sub.drop _ (Sub.nil [])))))))) (Sub.trans (Sub.keep _ (Sub.trans (Sub.keep _ (Sub.refl _)) (Sub.of_perm (List.perm_middle (l₁ := [_, _, _, _, _]))))) (Sub.of_perm (List.perm_middle (l₁ := [_, _, _, _, _, _]))))) ?_
  exact ⟨none, 0, [], [], rfl, rfl, rfl, Nat.zero_le _, fun p hp => nomatch hp⟩
set_option maxHeartbeats 400000 in
theorem rsides18_walk0 (z : Int) (f : Nat) (A1 : Option Addr) (c1 : Nat) (l1 : List H32) (B1 : Option Addr) (d1 : Nat) (a1 : List H32) (Z1 : Option Addr) (e1 : Nat) (b1 : List H32) (A2 : Option Addr) (c2 : Nat) (l2 : List H32) (B2 : Option Addr) (d2 : Nat) (a2 : List H32) (Z2 : Option Addr) (e2 : Nat) (b2 : List H32) (x y : List (List UInt8)) (heq : l1.length = l2.length) (w0 : World) (h1 : ∀ w, St w0 [] [] w → Calls Tryz.prog 61 #[.int .i64 z, .int .u64 (f : Int), .slice A1 l1.length c1, .slice B1 a1.length d1, .slice Z1 b1.length e1] w (Post w [] (TxR (some x)))) (h2 : ∀ w, St w0 [] [] w → Calls Tryz.prog 61 #[.int .i64 z, .int .u64 (f : Int), .slice A2 l2.length c2, .slice B2 a2.length d2, .slice Z2 b2.length e2] w (Post w [] (TxR (some y)))) :
    Calls Tryz.prog 18 #[.int .i64 z, .int .u64 (f : Int), .agg #[.slice A1 l1.length c1, .slice B1 a1.length d1, .slice Z1 b1.length e1, .slice A2 l2.length c2, .slice B2 a2.length d2, .slice Z2 b2.length e2]] w0 (Post w0 [] fun v L => PxQ 115 (pairX (some x) (some y)) v L) := by
  refine Calls.of (L := []) (n := 53) (rs := [.tmp 6]) Tryz.func18 rfl rfl rfl (Nat.le_of_ble_eq_true rfl) (Sat.nil _) ?_
  refine TC.seq ?_
  refine TC.region ?_
  refine S.opS rfl rfl (OpV.box (v := .agg #[.slice A1 l1.length c1, .slice B1 a1.length d1, .slice Z1 b1.length e1, .slice A2 l2.length c2, .slice B2 a2.length d2, .slice Z2 b2.length e2]) rfl (fun b5 => ?_))
  refine S.as ?_
  refine S.nil ?_
  refine TC.seq ?_
  refine TC.region ?_
  refine S.mv ?_
  refine S.mv ?_
  refine S.q rfl rfl (Qt.indexB (i := 0) Tryz.underlying41 Tryz.cells33 rfl rfl (by omega)) ?_
  refine S.q rfl rfl (Qt.load rfl (Ld.one (v := .slice A1 l1.length c1) (Has.at 0 rfl) Tryz.one33 rfl)) ?_
  refine S.q rfl rfl (Qt.indexB (i := 1) Tryz.underlying41 Tryz.cells33 rfl rfl (by omega)) ?_
  refine S.q rfl rfl (Qt.load rfl (Ld.one (v := .slice B1 a1.length d1) (Has.at 0 rfl) Tryz.one33 rfl)) ?_
  refine S.q rfl rfl (Qt.indexB (i := 2) Tryz.underlying41 Tryz.cells33 rfl rfl (by omega)) ?_
  refine S.q rfl rfl (Qt.load rfl (Ld.one (v := .slice Z1 b1.length e1) (Has.at 0 rfl) Tryz.one33 rfl)) ?_
  refine S.opS rfl rfl (OpV.con (Pre := []) (R := _) Tryz.ent61 rfl (List.Perm.refl _) (fun w hw => h1 w (hw.sub (Sub.nil _))) ?_)
  rintro v L' ⟨O1, y1, t1, rfl, rfl, u1, k1⟩
  refine S.mv ?_
  refine S.q rfl rfl (Qt.extract rfl rfl) ?_
  refine S.q rfl rfl (Qt.extract rfl rfl) ?_
  refine S.as ?_
  refine S.as ?_
  refine S.nil ?_
  refine TC.seq ?_
  refine TC.region ?_
  refine S.mv ?_
  refine S.mv ?_
  refine S.q rfl rfl (Qt.indexB (i := 3) Tryz.underlying41 Tryz.cells33 rfl rfl (by omega)) ?_
  refine S.q rfl rfl (Qt.load rfl (Ld.one (v := .slice A2 l2.length c2) (Has.at 2 rfl) Tryz.one33 rfl)) ?_
  refine S.q rfl rfl (Qt.indexB (i := 4) Tryz.underlying41 Tryz.cells33 rfl rfl (by omega)) ?_
  refine S.q rfl rfl (Qt.load rfl (Ld.one (v := .slice B2 a2.length d2) (Has.at 2 rfl) Tryz.one33 rfl)) ?_
  refine S.q rfl rfl (Qt.indexB (i := 5) Tryz.underlying41 Tryz.cells33 rfl rfl (by omega)) ?_
  refine S.q rfl rfl (Qt.load rfl (Ld.one (v := .slice Z2 b2.length e2) (Has.at 2 rfl) Tryz.one33 rfl)) ?_
  refine S.opS rfl rfl (OpV.con (Pre := []) (R := _) Tryz.ent61 rfl (List.Perm.refl _) (fun w hw => h2 w (hw.sub (Sub.nil _))) ?_)
  rintro v L' ⟨O2, y2, t2, rfl, rfl, u2, k2⟩
  refine S.mv ?_
  refine S.q rfl rfl (Qt.extract rfl rfl) ?_
  refine S.q rfl rfl (Qt.extract rfl rfl) ?_
  refine S.as ?_
  refine S.as ?_
  refine S.nil ?_
  refine TC.seq ?_
  refine TC.seq ?_
  refine TC.region ?_
  refine S.mv ?_
  refine S.q rfl rfl (Qt.not_t rfl) ?_
  refine S.mv ?_
  refine S.qg rfl rfl rfl (Qt.move (by conv => lhs; whnf)) ?_
  refine S.qg rfl rfl rfl (Qt.not_t rfl) ?_
  refine S.q rfl rfl (Qt.pick_f rfl (by conv => lhs; whnf)) ?_
  refine S.mv ?_
  refine S.qg rfl rfl rfl (Qt.indexB (i := 0) Tryz.underlying41 Tryz.cells33 rfl rfl (by omega)) ?_
  refine S.qg rfl rfl rfl (Qt.load rfl (Ld.one (v := .slice A1 l1.length c1) (Has.at 4 rfl) Tryz.one33 rfl)) ?_
  refine S.qg rfl rfl rfl (Qt.len_slice Tryz.underlying33 rfl) ?_
  refine S.qg rfl rfl rfl (Qt.indexB (i := 3) Tryz.underlying41 Tryz.cells33 rfl rfl (by omega)) ?_
  refine S.qg rfl rfl rfl (Qt.load rfl (Ld.one (v := .slice A2 l2.length c2) (Has.at 4 rfl) Tryz.one33 rfl)) ?_
  refine S.qg rfl rfl rfl (Qt.len_slice Tryz.underlying33 rfl) ?_
  refine S.qg rfl rfl rfl (Qt.dF (Qt.ne rfl rfl) (fun e => e heq)) ?_
  refine S.q rfl rfl (Qt.pick_f rfl (by conv => lhs; whnf)) ?_
  refine S.nil ?_
  refine S.if_f rfl ?_
  refine TC.skip ?_
  refine TC.seq ?_
  refine TC.region ?_
  refine S.mv ?_
  refine S.mv ?_
  refine S.opS rfl rfl (OpV.con (Pre := []) (R := _) Tryz.ent62 rfl (List.Perm.refl _) (fun w hw => pairs_C O1 y1 t1 O2 y2 t2 k1 w (Rd.own (Rd.at 2 rfl) w hw) (Rd.own (Rd.at 0 rfl) w hw)) ?_)
  rintro v L' ⟨O, d, rfl, rfl⟩
  refine TL.manyTwo ((List.perm_middle (l₁ := [_, _, _, _])).trans (List.Perm.cons _ (List.perm_middle (l₁ := [_, _])))) ?_
  refine S.as ?_
  refine S.nil ?_
  refine TC.ret ?_
  refine finQ.ret (RVs.tmp (by conv => lhs; whnf) RVs.nil) (Sub.trans (Sub.keep _ (Sub.keep _ (Sub.drop _ (Sub.drop _ (Sub.drop _ (Sub.nil [])))))) (Sub.trans (Sub.keep _ (Sub.refl _)) (Sub.of_perm (List.perm_middle (l₁ := [_]))))) ?_
  have hl := zipE_len t1 t2
  refine ⟨O, d, zipE t1 t2, t1.map txOwn ++ t2.map txOwn, rfl, rfl, ?_, by omega, zipE_own⟩
  rw [zipE_T, u1, u2]; rfl
theorem rsides18_C (z : Int) (f : Nat) (A1 : Option Addr) (c1 : Nat) (l1 : List H32) (B1 : Option Addr) (d1 : Nat) (a1 : List H32) (Z1 : Option Addr) (e1 : Nat) (b1 : List H32) (A2 : Option Addr) (c2 : Nat) (l2 : List H32) (B2 : Option Addr) (d2 : Nat) (a2 : List H32) (Z2 : Option Addr) (e2 : Nat) (b2 : List H32) (hf64 : f < 18446744073709551616) (w0 : World) (hR1 : Ro w0 [] (SlA A1 (hcs l1))) (hL1 : Ro w0 [] (SlA B1 (hcs a1))) (hZ1 : Ro w0 [] (SlA Z1 (hcs b1))) (hR2 : Ro w0 [] (SlA A2 (hcs l2))) (hL2 : Ro w0 [] (SlA B2 (hcs a2))) (hZ2 : Ro w0 [] (SlA Z2 (hcs b2))) (hT : Tabs 2 0 w0 []) : Calls Tryz.prog 18 #[.int .i64 z, .int .u64 (f : Int), .agg #[.slice A1 l1.length c1, .slice B1 a1.length d1, .slice Z1 b1.length e1, .slice A2 l2.length c2, .slice B2 a2.length d2, .slice Z2 b2.length e2]] w0 (Post w0 [] fun v L => PxQ 115 (if l1.length = l2.length then pairX (sideQ z f l1 a1 b1) (sideQ z f l2 a2 b2) else []) v L) := by
  have h1 : ∀ w, St w0 [] [] w → Calls Tryz.prog 61 #[.int .i64 z, .int .u64 (f : Int), .slice A1 l1.length c1, .slice B1 a1.length d1, .slice Z1 b1.length e1] w (Post w [] (TxR (sideQ z f l1 a1 b1))) := fun w s => rside61_C z f hf64 A1 c1 l1 B1 d1 a1 Z1 e1 b1 w (hR1.go s (fun b hb => by cases hb)) (hL1.go s (fun b hb => by cases hb)) (hZ1.go s (fun b hb => by cases hb)) (hT.of_go s (fun b hb => by cases hb))
  have h2 : ∀ w, St w0 [] [] w → Calls Tryz.prog 61 #[.int .i64 z, .int .u64 (f : Int), .slice A2 l2.length c2, .slice B2 a2.length d2, .slice Z2 b2.length e2] w (Post w [] (TxR (sideQ z f l2 a2 b2))) := fun w s => rside61_C z f hf64 A2 c2 l2 B2 d2 a2 Z2 e2 b2 w (hR2.go s (fun b hb => by cases hb)) (hL2.go s (fun b hb => by cases hb)) (hZ2.go s (fun b hb => by cases hb)) (hT.of_go s (fun b hb => by cases hb))
  cases hx : (sideQ z f l1 a1 b1) with
  | none =>
    rw [hx] at h1
    rw [show (if l1.length = l2.length then pairX none (sideQ z f l2 a2 b2) else []) = [] by split <;> rfl]
    exact rsides18_walkN z f A1 c1 l1 B1 d1 a1 Z1 e1 b1 A2 c2 l2 B2 d2 a2 Z2 e2 b2 _ w0 h1 h2
  | some x => rw [hx] at h1; cases hy : (sideQ z f l2 a2 b2) with
    | none =>
      rw [hy] at h2
      rw [show (if l1.length = l2.length then pairX (some x) none else []) = [] by split <;> rfl]
      exact rsides18_walkN2 z f A1 c1 l1 B1 d1 a1 Z1 e1 b1 A2 c2 l2 B2 d2 a2 Z2 e2 b2 x w0 h1 h2
    | some y =>
      rw [hy] at h2
      by_cases heq : l1.length = l2.length
      · rw [if_pos heq]; exact rsides18_walk0 z f A1 c1 l1 B1 d1 a1 Z1 e1 b1 A2 c2 l2 B2 d2 a2 Z2 e2 b2 x y heq w0 h1 h2
      · rw [if_neg heq]; exact rsides18_walkL z f A1 c1 l1 B1 d1 a1 Z1 e1 b1 A2 c2 l2 B2 d2 a2 Z2 e2 b2 x y heq w0 h1 h2

end Go.Proofs.YtgdjcmehlhebdaaGreatDoor
namespace Go.Proofs.YtgdjcmehlhebdaaGreatDoor
open Go.E
set_option linter.unusedVariables false
set_option maxRecDepth 4000
theorem Tryz.cells41 : (Tryz.prog.info? 41).map (·.size) = some 6 := by kernel_rfl
theorem Tryz.row41 : rowT Tryz.prog 41 = true := by kernel_rfl
theorem Tryz.ent17 : Enters Tryz.prog 17 := ⟨_, Tryz.func17, by kernel_rfl, rfl⟩
theorem Tryz.ent18 : Enters Tryz.prog 18 := ⟨_, Tryz.func18, by kernel_rfl, rfl⟩
theorem Tryz.build43 (A : Option Addr) (n c : Nat) (B : Option Addr) (m d : Nat) (w : World) : (Instr.build 43 #[(0, .slice A n c), (1, .slice B m d)]).run Tryz.prog w = .ok (.agg #[.slice A n c, .slice B m d]) w := by kernel_rfl
theorem Tryz.build46 (A : Option Addr) (n c : Nat) (B : Option Addr) (m d : Nat) (Z : Option Addr) (k e : Nat) (w : World) : (Instr.build 46 #[(0, .slice A n c), (1, .agg #[.slice B m d, .slice Z k e])]).run Tryz.prog w = .ok (.agg #[.slice A n c, .slice B m d, .slice Z k e]) w := by kernel_rfl
set_option maxHeartbeats 12800000 in
theorem law4_walk (E : Nat → H32) (hEm : ∀ w, Tabs 3 1 w [] → Calls Tryz.prog 55 #[] w (Ret w (.agg (hcs (emptL E)).toArray))) (hE0 : E 0 = shaH [0]) (z : Int) (f : Nat) (hf64 : f < 18446744073709551616) (A1 : Option Addr) (c1 : Nat) (l1 : List H32) (B1 : Option Addr) (d1 : Nat) (a1 : List H32) (Z1 : Option Addr) (e1 : Nat) (b1 : List H32) (A2 : Option Addr) (c2 : Nat) (l2 : List H32) (B2 : Option Addr) (d2 : Nat) (a2 : List H32) (Z2 : Option Addr) (e2 : Nat) (b2 : List H32) (hc1 : l1.length ≤ c1) (hm1 : c1 ≤ maxLen) (hd1 : a1.length ≤ d1) (he1 : b1.length ≤ e1) (hc2 : l2.length ≤ c2) (hm2 : c2 ≤ maxLen) (hd2 : a2.length ≤ d2) (he2 : b2.length ≤ e2) (w0 : World) (hR1 : Ro w0 [] (SlA A1 (hcs l1))) (hL1 : Ro w0 [] (SlA B1 (hcs a1))) (hZ1 : Ro w0 [] (SlA Z1 (hcs b1))) (hR2 : Ro w0 [] (SlA A2 (hcs l2))) (hL2 : Ro w0 [] (SlA B2 (hcs a2))) (hZ2 : Ro w0 [] (SlA Z2 (hcs b2))) (hT : Tabs 3 1 w0 []) (hT2 : Tabs 2 0 w0 []) :
    Calls Tryz.prog 4 #[.int .i64 z, .int .u64 (f : Int), .agg #[.slice A1 l1.length c1, .slice B1 a1.length d1, .slice Z1 b1.length e1, .slice A2 l2.length c2, .slice B2 a2.length d2, .slice Z2 b2.length e2]] w0 (Post w0 [] fun v L => v = .bool true ∧ L = []) := by
  refine Calls.of (L := []) (n := 117) (rs := [.tmp 6]) Tryz.func4 rfl rfl rfl (Nat.le_of_ble_eq_true rfl) (Sat.nil _) ?_
  refine TC.seq ?_
  refine TC.region ?_
  refine S.opS rfl rfl (OpV.box (v := .agg #[.slice A1 l1.length c1, .slice B1 a1.length d1, .slice Z1 b1.length e1, .slice A2 l2.length c2, .slice B2 a2.length d2, .slice Z2 b2.length e2]) rfl (fun b5 => ?_))
  refine S.as ?_
  refine S.nil ?_
  refine TC.seq ?_
  refine TC.seq ?_
  refine TC.region ?_
  refine S.opS rfl rfl (OpV.con0 Tryz.ent8 rfl (fun w hw => Calls.ret (alive5_walk E hEm w (hT.at hw))) ?_)
  refine S.q rfl rfl (Qt.not_t rfl) ?_
  refine S.nil ?_
  refine S.if_f rfl ?_
  refine TC.skip ?_
  refine TC.seq ?_
  refine TC.seq ?_
  refine TC.region ?_
  refine S.q rfl rfl (Qt.load rfl (Ld.all (vs := (vl (.agg #[.slice A1 l1.length c1, .slice B1 a1.length d1, .slice Z1 b1.length e1, .slice A2 l2.length c2, .slice B2 a2.length d2, .slice Z2 b2.length e2]))) (Has.at 0 rfl) Tryz.row41 Tryz.cells41)) ?_
  refine S.mv ?_
  refine S.nil ?_
  refine TC.block ?_
  refine TC.loop (γ := Nat) [21, 22, 8, 23, 24, 25, 6, 26, 20] (fun k => [(20, .int .i64 (k : Int))]) (fun k => [Blk b5 41 (vl (.agg #[.slice A1 l1.length c1, .slice B1 a1.length d1, .slice Z1 b1.length e1, .slice A2 l2.length c2, .slice B2 a2.length d2, .slice Z2 b2.length e2]))]) (fun k => k ≤ 6 ∧ ∀ i, i < k → ([(A1, c1, l1), (B1, d1, a1), (Z1, e1, b1), (A2, c2, l2), (B2, d2, a2), (Z2, e2, b2)].getD i hx0).2.2.length ≤ 60) (fun k => 6 - k) (0)
    ⟨Nat.zero_le _, fun i h => absurd h (Nat.not_lt_zero _)⟩ ⟨Out.refl _ _, (List.forall_mem_cons.2 ⟨rfl, (fun _ h => nomatch h)⟩)⟩ (Sub.refl _) ?_
  rintro k u ⟨hk, hq⟩
  refine TC.seq ?_
  refine TC.region ?_
  refine S.dec rfl rfl (Qt.lt (b := 6) rfl rfl) (fun h21 => ?_) (fun h21 => ?_)
  · refine S.nil ?_
    refine TC.seq ?_
    refine S.if_t rfl ?_
    refine TC.skip ?_
    refine TC.seq ?_
    refine TC.block ?_
    refine TC.seq ?_
    refine TC.region ?_
    refine S.q rfl rfl (Qt.index_aggS (i := k) (v := .slice ([(A1, c1, l1), (B1, d1, a1), (Z1, e1, b1), (A2, c2, l2), (B2, d2, a2), (Z2, e2, b2)].getD k hx0).1 ([(A1, c1, l1), (B1, d1, a1), (Z1, e1, b1), (A2, c2, l2), (B2, d2, a2), (Z2, e2, b2)].getD k hx0).2.2.length ([(A1, c1, l1), (B1, d1, a1), (Z1, e1, b1), (A2, c2, l2), (B2, d2, a2), (Z2, e2, b2)].getD k hx0).2.1) Tryz.underlying41 Tryz.cells33 Tryz.underlying33 rfl rfl (by omega) (by have q := hx_at (ss := [(A1, c1, l1), (B1, d1, a1), (Z1, e1, b1), (A2, c2, l2), (B2, d2, a2), (Z2, e2, b2)]) (k := k) (by show k < 6; omega); rw [Nat.mul_one] at q; first | exact q | (rw [List.getElem?_toArray]; exact q) | (simp only [List.getElem?_toArray]; exact q))) ?_
    refine S.as ?_
    refine S.nil ?_
    refine TC.seq ?_
    refine TC.region ?_
    refine S.mv ?_
    refine S.q rfl rfl (Qt.len_slice Tryz.underlying33 rfl) ?_
    refine S.dec rfl rfl (Qt.gt (b := 60) rfl rfl) (fun h25 => ?_) (fun h25 => ?_)
    · refine S.nil ?_
      refine S.if_t rfl ?_
      refine TC.seq ?_
      refine TC.region ?_
      refine S.as ?_
      refine S.nil ?_
      refine TC.ret ?_
      refine finQ.ret (RVs.tmp (by conv => lhs; whnf) RVs.nil) (Sub.nil _) ?_
      exact ⟨rfl, rfl⟩
    · refine S.nil ?_
      refine S.if_f rfl ?_
      refine TC.skip ?_
      refine TC.region ?_
      refine S.q rfl rfl (Qt.add (b := 1) rfl rfl (by simp only [kmax]; omega)) ?_
      refine S.mv ?_
      refine S.nil ?_
      refine ⟨k + 1, ?_, ?_, ⟨?_, (List.forall_mem_cons.2 ⟨rfl, (fun _ h => nomatch h)⟩)⟩, Sub.refl _⟩
      · exact ⟨by show _ ≤ _; omega, fun i hi => (Nat.lt_or_ge i k).elim (hq i) (fun h => by (obtain rfl : i = k := by omega); omega)⟩
      · show _ < _; dsimp only; omega
      repeat (first | exact Out.refl _ _ | refine Out.put rfl ?_ | refine Out.puts rfl ?_ | refine Out.scr ?_ | refine Out.scr' rfl ?_)
  · refine S.nil ?_
    refine TC.seq ?_
    refine S.if_f rfl ?_
    refine TC.exit ?_
    refine TC.seq ?_
    refine S.draw ([12, 13], [10, 11]) Tryz.mixed (Sub.refl _) ?_
    obtain rfl : k = 6 := by omega
    have s1 : l1.length ≤ 60 := hq 0 (by decide)
    have s2 : a1.length ≤ 60 := hq 1 (by decide)
    have s3 : b1.length ≤ 60 := hq 2 (by decide)
    have s4 : l2.length ≤ 60 := hq 3 (by decide)
    have s5 : a2.length ≤ 60 := hq 4 (by decide)
    have s6 : b2.length ≤ 60 := hq 5 (by decide)
    refine D.qY 0 rfl (Qt.indexB (i := 1) Tryz.underlying41 Tryz.cells33 rfl rfl (by omega)) ?_
    refine D.qY 1 rfl (Qt.load rfl (Ld.one (v := .slice B1 a1.length d1) (Has.at 0 rfl) Tryz.one33 rfl)) ?_
    refine D.qY 2 rfl (Qt.indexB (i := 2) Tryz.underlying41 Tryz.cells33 rfl rfl (by omega)) ?_
    refine D.qY 3 rfl (Qt.load rfl (Ld.one (v := .slice Z1 b1.length e1) (Has.at 0 rfl) Tryz.one33 rfl)) ?_
    refine D.qY 4 rfl (Qt.build2 (a := .slice B1 a1.length d1) (b := .slice Z1 b1.length e1) rfl rfl (Tryz.build43 _ _ _ _ _ _)) ?_
    refine D.q (k := 5) rfl (by kernel_rfl) (by kernel_rfl) rfl rfl (Qt.indexB (i := 4) Tryz.underlying41 Tryz.cells33 rfl rfl (by omega)) ?_
    refine D.q (k := 6) rfl (by kernel_rfl) (by kernel_rfl) rfl rfl (Qt.load rfl (Ld.one (v := .slice B2 a2.length d2) (Has.at 0 rfl) Tryz.one33 rfl)) ?_
    refine D.q (k := 7) rfl (by kernel_rfl) (by kernel_rfl) rfl rfl (Qt.indexB (i := 5) Tryz.underlying41 Tryz.cells33 rfl rfl (by omega)) ?_
    refine D.q (k := 8) rfl (by kernel_rfl) (by kernel_rfl) rfl rfl (Qt.load rfl (Ld.one (v := .slice Z2 b2.length e2) (Has.at 0 rfl) Tryz.one33 rfl)) ?_
    refine D.q (k := 9) rfl (by kernel_rfl) (by kernel_rfl) rfl rfl (Qt.build2 (a := .slice B2 a2.length d2) (b := .slice Z2 b2.length e2) rfl rfl (Tryz.build43 _ _ _ _ _ _)) ?_
    refine D.two (k1 := 10) (k2 := 11) (Sub.refl _) rfl rfl (by kernel_rfl) (by kernel_rfl) (by kernel_rfl) (by kernel_rfl) (by kernel_rfl) (by kernel_rfl) rfl rfl rfl Tryz.zero43 Tryz.zero43 (fun b9 b10 => ?_)
    refine D.opN (k := 12) (Sub.drop _ (Sub.drop _ (Sub.keep _ (Sub.nil [])))) rfl (by kernel_rfl) (by kernel_rfl) rfl (OpV.storeV1 (v := .agg #[.slice B1 a1.length d1, .slice Z1 b1.length e1]) rfl rfl (by exact Tryz.cells43) (rfl) (by rfl) ⟨Sub.drop _ (Sub.drop _ (Sub.keep _ (Sub.nil []))), ?_⟩)
    refine D.opN (k := 13) (Sub.drop _ (Sub.drop _ (Sub.keep _ (Sub.nil [])))) rfl (by kernel_rfl) (by kernel_rfl) rfl (OpV.storeV0 (v := .agg #[.slice B2 a2.length d2, .slice Z2 b2.length e2]) rfl rfl (by exact Tryz.cells43) (rfl) (by rfl) ⟨Sub.drop _ (Sub.drop _ (Sub.keep _ (Sub.nil []))), ?_⟩)
    refine D.done (Sub.drop _ (Sub.drop _ (Sub.keep _ (Sub.nil [])))) (by kernel_rfl) ?_
    refine TC.seq ?_
    refine TC.region ?_
    refine S.mv ?_
    refine S.mv ?_
    refine S.q rfl rfl (Qt.indexB (i := 0) Tryz.underlying41 Tryz.cells33 rfl rfl (by omega)) ?_
    refine S.q rfl rfl (Qt.load rfl (Ld.one (v := .slice A1 l1.length c1) (Has.at 2 rfl) Tryz.one33 rfl)) ?_
    refine S.q rfl rfl (Qt.load rfl (Ld.all (vs := [.slice B1 a1.length d1, .slice Z1 b1.length e1]) (Has.at 1 rfl) Tryz.row43 Tryz.cells43)) ?_
    refine S.q rfl rfl (Qt.build2 (a := .slice A1 l1.length c1) (b := .agg #[.slice B1 a1.length d1, .slice Z1 b1.length e1]) rfl rfl (Tryz.build46 _ _ _ _ _ _ _ _ _)) ?_
    refine S.q rfl rfl (Qt.indexB (i := 3) Tryz.underlying41 Tryz.cells33 rfl rfl (by omega)) ?_
    refine S.q rfl rfl (Qt.load rfl (Ld.one (v := .slice A2 l2.length c2) (Has.at 2 rfl) Tryz.one33 rfl)) ?_
    refine S.q rfl rfl (Qt.load rfl (Ld.all (vs := [.slice B2 a2.length d2, .slice Z2 b2.length e2]) (Has.at 0 rfl) Tryz.row43 Tryz.cells43)) ?_
    refine S.q rfl rfl (Qt.build2 (a := .slice A2 l2.length c2) (b := .agg #[.slice B2 a2.length d2, .slice Z2 b2.length e2]) rfl rfl (Tryz.build46 _ _ _ _ _ _ _ _ _)) ?_
    refine S.opS rfl rfl (OpV.con (Pre := []) (R := _) Tryz.ent17 rfl (List.Perm.refl _) (fun w hw => sides17_C z f hf64 A1 c1 l1 B1 d1 a1 Z1 e1 b1 A2 c2 l2 B2 d2 a2 Z2 e2 b2 hc1 hm1 hd1 he1 hc2 hm2 hd2 he2 w (Rd.ro hR1 w hw) (Rd.ro hL1 w hw) (Rd.ro hZ1 w hw) (Rd.ro hR2 w hw) (Rd.ro hL2 w hw) (Rd.ro hZ2 w hw) (hT.at hw)) ?_)
    rintro v L' ⟨O1, y1, p1, M1, rfl, rfl, u1, k1, m1⟩
    refine S.as ?_
    refine S.nil ?_
    refine TC.seq ?_
    refine TC.seq ?_
    refine TC.region ?_
    refine S.mv ?_
    refine S.mv ?_
    refine S.mv ?_
    refine S.q rfl rfl (Qt.load rfl (Ld.all (vs := (vl (.agg #[.slice A1 l1.length c1, .slice B1 a1.length d1, .slice Z1 b1.length e1, .slice A2 l2.length c2, .slice B2 a2.length d2, .slice Z2 b2.length e2]))) (Has.at 4 rfl) Tryz.row41 Tryz.cells41)) ?_
    refine S.opS rfl rfl (OpV.con (Pre := []) (R := _) Tryz.ent18 rfl (List.Perm.refl _) (fun w hw => rsides18_C z f A1 c1 l1 B1 d1 a1 Z1 e1 b1 A2 c2 l2 B2 d2 a2 Z2 e2 b2 hf64 w (Rd.ro hR1 w hw) (Rd.ro hL1 w hw) (Rd.ro hZ1 w hw) (Rd.ro hR2 w hw) (Rd.ro hL2 w hw) (Rd.ro hZ2 w hw) (hT2.at hw)) ?_)
    rintro v L' ⟨O2, y2, p2, M2, rfl, rfl, u2, k2, m2⟩
    refine S.opS rfl rfl (OpV.con0 Tryz.ent10 rfl (fun w hw => same_R O1 y1 p1 O2 y2 p2 k1 (u1.trans u2.symm) w (Rd.own (Rd.at 2 rfl) w hw) (PxRo.many (Rd.at 3 rfl) m1 hw) (PxLe.of u1 sides_le) (Rd.own (Rd.at 0 rfl) w hw) (PxRo.many (Rd.at 1 rfl) m2 hw) (PxLe.of u2 sides_le) (hT.at hw) (hT2.at hw)) ?_)
    refine S.q rfl rfl (Qt.not_t rfl) ?_
    refine S.nil ?_
    refine S.if_f rfl ?_
    refine TC.skip ?_
    refine TC.seq ?_
    refine TC.region ?_
    refine S.mv ?_
    refine S.mv ?_
    refine S.q rfl rfl (Qt.indexB (i := 0) Tryz.underlying41 Tryz.cells33 rfl rfl (by omega)) ?_
    refine S.q rfl rfl (Qt.load rfl (Ld.one (v := .slice A1 l1.length c1) (Has.at 6 rfl) Tryz.one33 rfl)) ?_
    refine S.q rfl rfl (Qt.load rfl (Ld.all (vs := [.slice B1 a1.length d1, .slice Z1 b1.length e1]) (Has.at 5 rfl) Tryz.row43 Tryz.cells43)) ?_
    by_cases r1 : (spanR z f l1 a1 b1).2 = 0
    · refine S.opS rfl rfl (OpV.con0 Tryz.ent19 rfl (fun w hw => (by have k := sroot_R z f hf64 A1 c1 l1 B1 d1 a1 Z1 e1 b1 hd1 he1 w (Rd.ro hR1 w hw) (Rd.ro hL1 w hw) (Rd.ro hZ1 w hw) (hT.at hw); rw [r1, errv_zero] at k; exact k : Calls Tryz.prog 19 #[.int .i64 z, .int .u64 (f : Int), .slice A1 l1.length c1, .agg #[.slice B1 a1.length d1, .slice Z1 b1.length e1]] w (Ret w (.tuple #[hv (spanR z f l1 a1 b1).1, .nilIface])))) ?_)
      refine S.mv ?_
      refine S.q rfl rfl (Qt.extract rfl rfl) ?_
      refine S.q rfl rfl (Qt.extract rfl rfl) ?_
      refine S.opS rfl rfl (OpV.alloc Tryz.zero49 (fun b12 => ?_))
      refine S.opN rfl (OpV.storeV0 (v := hv (_)) rfl rfl (hv_size Tryz.cells49) (hv_all _) (hv_len _) ?_)
      refine S.as ?_
      refine S.nil ?_
      refine TC.seq ?_
      refine TC.region ?_
      refine S.mv ?_
      refine S.mv ?_
      refine S.q rfl rfl (Qt.indexB (i := 3) Tryz.underlying41 Tryz.cells33 rfl rfl (by omega)) ?_
      refine S.q rfl rfl (Qt.load rfl (Ld.one (v := .slice A2 l2.length c2) (Has.at 7 rfl) Tryz.one33 rfl)) ?_
      refine S.q rfl rfl (Qt.load rfl (Ld.all (vs := [.slice B2 a2.length d2, .slice Z2 b2.length e2]) (Has.at 5 rfl) Tryz.row43 Tryz.cells43)) ?_
      by_cases r2 : (spanR z f l2 a2 b2).2 = 0
      · refine S.opS rfl rfl (OpV.con0 Tryz.ent19 rfl (fun w hw => (by have k := sroot_R z f hf64 A2 c2 l2 B2 d2 a2 Z2 e2 b2 hd2 he2 w (Rd.ro hR2 w hw) (Rd.ro hL2 w hw) (Rd.ro hZ2 w hw) (hT.at hw); rw [r2, errv_zero] at k; exact k : Calls Tryz.prog 19 #[.int .i64 z, .int .u64 (f : Int), .slice A2 l2.length c2, .agg #[.slice B2 a2.length d2, .slice Z2 b2.length e2]] w (Ret w (.tuple #[hv (spanR z f l2 a2 b2).1, .nilIface])))) ?_)
        refine S.mv ?_
        refine S.q rfl rfl (Qt.extract rfl rfl) ?_
        refine S.q rfl rfl (Qt.extract rfl rfl) ?_
        refine S.opS rfl rfl (OpV.alloc Tryz.zero49 (fun b14 => ?_))
        refine S.opN rfl (OpV.storeV0 (v := hv (_)) rfl rfl (hv_size Tryz.cells49) (hv_all _) (hv_len _) ?_)
        refine S.as ?_
        refine S.nil ?_
        refine TC.seq ?_
        refine TC.seq ?_
        refine TC.region ?_
        refine S.mv ?_
        refine S.q rfl rfl (Qt.nenil_nil Tryz.underlying51 rfl) ?_
        refine S.mv ?_
        refine S.qg rfl rfl rfl (Qt.move (by conv => lhs; whnf)) ?_
        refine S.qg rfl rfl rfl (Qt.nenil_nil Tryz.underlying51 rfl) ?_
        refine S.q rfl rfl (Qt.pick_f rfl (by conv => lhs; whnf)) ?_
        refine S.mv ?_
        refine S.qg rfl rfl rfl (Qt.load rfl (Ld.hash1 (x := (spanR z f l1 a1 b1).1) (Has.at 1 rfl) Tryz.row49 Tryz.cells49)) ?_
        refine S.qg rfl rfl rfl (Qt.load rfl (Ld.hash1 (x := (spanR z f l2 a2 b2).1) (Has.at 0 rfl) Tryz.row49 Tryz.cells49)) ?_
        refine S.decg rfl rfl rfl (Qt.neH (a := (spanR z f l1 a1 b1).1) (b := (spanR z f l2 a2 b2).1) Tryz.guard49 Tryz.underlying49 Tryz.underlying5 Tryz.cells5 rfl rfl) (fun h82 => ?_) (fun h82 => ?_)
        · refine S.q rfl rfl (Qt.pick_f rfl (by conv => lhs; whnf)) ?_
          refine S.mv ?_
          refine S.pass rfl rfl ?_
          refine S.pass rfl rfl ?_
          refine S.pass rfl rfl ?_
          refine S.pass rfl rfl ?_
          refine S.pass rfl rfl ?_
          refine S.pass rfl rfl ?_
          refine S.pass rfl rfl ?_
          refine S.q rfl rfl (Qt.pick_t rfl (by conv => lhs; whnf)) ?_
          refine S.nil ?_
          refine S.if_t rfl ?_
          refine TC.seq ?_
          refine TC.region ?_
          refine S.as ?_
          refine S.nil ?_
          refine TC.ret ?_
          refine finQ.ret (RVs.tmp (by conv => lhs; whnf) RVs.nil) (Sub.nil _) ?_
          exact ⟨rfl, rfl⟩
        · refine S.q rfl rfl (Qt.pick_f rfl (by conv => lhs; whnf)) ?_
          refine S.mv ?_
          refine S.qg rfl rfl rfl (Qt.indexB (i := 0) Tryz.underlying41 Tryz.cells33 rfl rfl (by omega)) ?_
          refine S.qg rfl rfl rfl (Qt.load rfl (Ld.one (v := .slice A1 l1.length c1) (Has.at 8 rfl) Tryz.one33 rfl)) ?_
          refine S.qg rfl rfl rfl (Qt.len_slice Tryz.underlying33 rfl) ?_
          refine S.qg rfl rfl rfl (Qt.indexB (i := 3) Tryz.underlying41 Tryz.cells33 rfl rfl (by omega)) ?_
          refine S.qg rfl rfl rfl (Qt.load rfl (Ld.one (v := .slice A2 l2.length c2) (Has.at 8 rfl) Tryz.one33 rfl)) ?_
          refine S.qg rfl rfl rfl (Qt.len_slice Tryz.underlying33 rfl) ?_
          refine S.decg rfl rfl rfl (Qt.ne rfl rfl) (fun h91 => ?_) (fun h91 => ?_)
          · refine S.q rfl rfl (Qt.pick_f rfl (by conv => lhs; whnf)) ?_
            refine S.nil ?_
            refine S.if_t rfl ?_
            refine TC.seq ?_
            refine TC.region ?_
            refine S.as ?_
            refine S.nil ?_
            refine TC.ret ?_
            refine finQ.ret (RVs.tmp (by conv => lhs; whnf) RVs.nil) (Sub.nil _) ?_
            exact ⟨rfl, rfl⟩
          · refine S.q rfl rfl (Qt.pick_f rfl (by conv => lhs; whnf)) ?_
            refine S.nil ?_
            refine S.if_f rfl ?_
            refine TC.skip ?_
            refine TC.seq ?_
            refine TC.region ?_
            refine S.q rfl rfl (Qt.indexB (i := 0) Tryz.underlying41 Tryz.cells33 rfl rfl (by omega)) ?_
            refine S.q rfl rfl (Qt.load rfl (Ld.one (v := .slice A1 l1.length c1) (Has.at 8 rfl) Tryz.one33 rfl)) ?_
            refine S.q rfl rfl (Qt.indexB (i := 3) Tryz.underlying41 Tryz.cells33 rfl rfl (by omega)) ?_
            refine S.q rfl rfl (Qt.load rfl (Ld.one (v := .slice A2 l2.length c2) (Has.at 8 rfl) Tryz.one33 rfl)) ?_
            by_cases h97 : l1 = l2
            · refine S.opS rfl rfl (OpV.con0 Tryz.ent14 rfl (fun w hw => (by have h := hashesD_R A1 c1 l1 A2 c2 l2 (by omega) (by omega) w (Rd.ro hR1 w hw) (Rd.ro hR2 w hw); rw [decide_eq_true h97] at h; exact h : Calls Tryz.prog 14 #[.slice A1 l1.length c1, .slice A2 l2.length c2] w (Ret w (.bool true)))) ?_)
              refine S.mv ?_
              refine S.qg rfl rfl rfl (Qt.indexB (i := 1) Tryz.underlying41 Tryz.cells33 rfl rfl (by omega)) ?_
              refine S.qg rfl rfl rfl (Qt.load rfl (Ld.one (v := .slice B1 a1.length d1) (Has.at 8 rfl) Tryz.one33 rfl)) ?_
              refine S.qg rfl rfl rfl (Qt.indexB (i := 4) Tryz.underlying41 Tryz.cells33 rfl rfl (by omega)) ?_
              refine S.qg rfl rfl rfl (Qt.load rfl (Ld.one (v := .slice B2 a2.length d2) (Has.at 8 rfl) Tryz.one33 rfl)) ?_
              by_cases h103 : a1 = a2
              · refine S.opg rfl rfl rfl (OpV.con0 Tryz.ent14 rfl (fun w hw => (by have h := hashesD_R B1 d1 a1 B2 d2 a2 (by omega) (by omega) w (Rd.ro hL1 w hw) (Rd.ro hL2 w hw); rw [decide_eq_true h103] at h; exact h : Calls Tryz.prog 14 #[.slice B1 a1.length d1, .slice B2 a2.length d2] w (Ret w (.bool true)))) ?_)
                refine S.q rfl rfl (Qt.pick_t rfl (by conv => lhs; whnf)) ?_
                refine S.mv ?_
                refine S.qg rfl rfl rfl (Qt.indexB (i := 2) Tryz.underlying41 Tryz.cells33 rfl rfl (by omega)) ?_
                refine S.qg rfl rfl rfl (Qt.load rfl (Ld.one (v := .slice Z1 b1.length e1) (Has.at 8 rfl) Tryz.one33 rfl)) ?_
                refine S.qg rfl rfl rfl (Qt.indexB (i := 5) Tryz.underlying41 Tryz.cells33 rfl rfl (by omega)) ?_
                refine S.qg rfl rfl rfl (Qt.load rfl (Ld.one (v := .slice Z2 b2.length e2) (Has.at 8 rfl) Tryz.one33 rfl)) ?_
                by_cases h110 : b1 = b2
                · refine S.opg rfl rfl rfl (OpV.con0 Tryz.ent14 rfl (fun w hw => (by have h := hashesD_R Z1 e1 b1 Z2 e2 b2 (by omega) (by omega) w (Rd.ro hZ1 w hw) (Rd.ro hZ2 w hw); rw [decide_eq_true h110] at h; exact h : Calls Tryz.prog 14 #[.slice Z1 b1.length e1, .slice Z2 b2.length e2] w (Ret w (.bool true)))) ?_)
                  refine S.q rfl rfl (Qt.pick_t rfl (by conv => lhs; whnf)) ?_
                  refine S.as ?_
                  refine S.nil ?_
                  refine TC.seq ?_
                  refine TC.region ?_
                  refine S.mv ?_
                  refine S.mv ?_
                  refine S.pass rfl rfl ?_
                  refine S.pass rfl rfl ?_
                  refine S.q rfl rfl (Qt.pick_t rfl (by conv => lhs; whnf)) ?_
                  refine S.as ?_
                  refine S.nil ?_
                  refine TC.ret ?_
                  refine finQ.ret (RVs.tmp (by conv => lhs; whnf) RVs.nil) (Sub.nil _) ?_
                  exact ⟨rfl, rfl⟩
                · refine S.opg rfl rfl rfl (OpV.con0 Tryz.ent14 rfl (fun w hw => (by have h := hashesD_R Z1 e1 b1 Z2 e2 b2 (by omega) (by omega) w (Rd.ro hZ1 w hw) (Rd.ro hZ2 w hw); rw [decide_eq_false h110] at h; exact h : Calls Tryz.prog 14 #[.slice Z1 b1.length e1, .slice Z2 b2.length e2] w (Ret w (.bool false)))) ?_)
                  refine S.q rfl rfl (Qt.pick_t rfl (by conv => lhs; whnf)) ?_
                  refine S.as ?_
                  refine S.nil ?_
                  refine TC.seq ?_
                  refine TC.region ?_
                  refine S.mv ?_
                  refine S.mv ?_
                  refine S.qg rfl rfl rfl (Qt.move (by conv => lhs; whnf)) ?_
                  refine S.opg rfl rfl rfl (OpV.con0 Tryz.ent16 rfl (fun w hw => Calls.ret (right11_walk O1 y1 p1 k1 (sides_find r1 r2 (Decidable.not_not.1 h82) (Decidable.not_not.1 h91) (fun q => h110 q.2.2) u1) w (Rd.own (Rd.at 4 rfl) w hw) (PxRo.many (Rd.at 5 rfl) m1 hw) (PxLe.of u1 sides_le) (hT.at hw) (hT2.at hw))) ?_)
                  refine S.q rfl rfl (Qt.pick_f rfl (by conv => lhs; whnf)) ?_
                  refine S.as ?_
                  refine S.nil ?_
                  refine TC.ret ?_
                  refine finQ.ret (RVs.tmp (by conv => lhs; whnf) RVs.nil) (Sub.nil _) ?_
                  exact ⟨rfl, rfl⟩
              · refine S.opg rfl rfl rfl (OpV.con0 Tryz.ent14 rfl (fun w hw => (by have h := hashesD_R B1 d1 a1 B2 d2 a2 (by omega) (by omega) w (Rd.ro hL1 w hw) (Rd.ro hL2 w hw); rw [decide_eq_false h103] at h; exact h : Calls Tryz.prog 14 #[.slice B1 a1.length d1, .slice B2 a2.length d2] w (Ret w (.bool false)))) ?_)
                refine S.q rfl rfl (Qt.pick_t rfl (by conv => lhs; whnf)) ?_
                refine S.mv ?_
                refine S.pass rfl rfl ?_
                refine S.pass rfl rfl ?_
                refine S.pass rfl rfl ?_
                refine S.pass rfl rfl ?_
                refine S.pass rfl rfl ?_
                refine S.q rfl rfl (Qt.pick_f rfl (by conv => lhs; whnf)) ?_
                refine S.as ?_
                refine S.nil ?_
                refine TC.seq ?_
                refine TC.region ?_
                refine S.mv ?_
                refine S.mv ?_
                refine S.qg rfl rfl rfl (Qt.move (by conv => lhs; whnf)) ?_
                refine S.opg rfl rfl rfl (OpV.con0 Tryz.ent16 rfl (fun w hw => Calls.ret (right11_walk O1 y1 p1 k1 (sides_find r1 r2 (Decidable.not_not.1 h82) (Decidable.not_not.1 h91) (fun q => h103 q.2.1) u1) w (Rd.own (Rd.at 4 rfl) w hw) (PxRo.many (Rd.at 5 rfl) m1 hw) (PxLe.of u1 sides_le) (hT.at hw) (hT2.at hw))) ?_)
                refine S.q rfl rfl (Qt.pick_f rfl (by conv => lhs; whnf)) ?_
                refine S.as ?_
                refine S.nil ?_
                refine TC.ret ?_
                refine finQ.ret (RVs.tmp (by conv => lhs; whnf) RVs.nil) (Sub.nil _) ?_
                exact ⟨rfl, rfl⟩
            · refine S.opS rfl rfl (OpV.con0 Tryz.ent14 rfl (fun w hw => (by have h := hashesD_R A1 c1 l1 A2 c2 l2 (by omega) (by omega) w (Rd.ro hR1 w hw) (Rd.ro hR2 w hw); rw [decide_eq_false h97] at h; exact h : Calls Tryz.prog 14 #[.slice A1 l1.length c1, .slice A2 l2.length c2] w (Ret w (.bool false)))) ?_)
              refine S.mv ?_
              refine S.pass rfl rfl ?_
              refine S.pass rfl rfl ?_
              refine S.pass rfl rfl ?_
              refine S.pass rfl rfl ?_
              refine S.pass rfl rfl ?_
              refine S.q rfl rfl (Qt.pick_f rfl (by conv => lhs; whnf)) ?_
              refine S.mv ?_
              refine S.pass rfl rfl ?_
              refine S.pass rfl rfl ?_
              refine S.pass rfl rfl ?_
              refine S.pass rfl rfl ?_
              refine S.pass rfl rfl ?_
              refine S.q rfl rfl (Qt.pick_f rfl (by conv => lhs; whnf)) ?_
              refine S.as ?_
              refine S.nil ?_
              refine TC.seq ?_
              refine TC.region ?_
              refine S.mv ?_
              refine S.mv ?_
              refine S.qg rfl rfl rfl (Qt.move (by conv => lhs; whnf)) ?_
              refine S.opg rfl rfl rfl (OpV.con0 Tryz.ent16 rfl (fun w hw => Calls.ret (right11_walk O1 y1 p1 k1 (sides_find r1 r2 (Decidable.not_not.1 h82) (Decidable.not_not.1 h91) (fun q => h97 q.1) u1) w (Rd.own (Rd.at 4 rfl) w hw) (PxRo.many (Rd.at 5 rfl) m1 hw) (PxLe.of u1 sides_le) (hT.at hw) (hT2.at hw))) ?_)
              refine S.q rfl rfl (Qt.pick_f rfl (by conv => lhs; whnf)) ?_
              refine S.as ?_
              refine S.nil ?_
              refine TC.ret ?_
              refine finQ.ret (RVs.tmp (by conv => lhs; whnf) RVs.nil) (Sub.nil _) ?_
              exact ⟨rfl, rfl⟩
      · refine S.opS rfl rfl (OpV.con0 Tryz.ent19 rfl (fun w hw => (by have k := sroot_R z f hf64 A2 c2 l2 B2 d2 a2 Z2 e2 b2 hd2 he2 w (Rd.ro hR2 w hw) (Rd.ro hL2 w hw) (Rd.ro hZ2 w hw) (hT.at hw); rw [errv_pos r2] at k; exact k : Calls Tryz.prog 19 #[.int .i64 z, .int .u64 (f : Int), .slice A2 l2.length c2, .agg #[.slice B2 a2.length d2, .slice Z2 b2.length e2]] w (Ret w (.tuple #[hv (spanR z f l2 a2 b2).1, .iface 73 (.int .i64 ((spanR z f l2 a2 b2).2 : Int))])))) ?_)
        refine S.mv ?_
        refine S.q rfl rfl (Qt.extract rfl rfl) ?_
        refine S.q rfl rfl (Qt.extract rfl rfl) ?_
        refine S.opS rfl rfl (OpV.alloc Tryz.zero49 (fun b14 => ?_))
        refine S.opN rfl (OpV.storeV0 (v := hv (_)) rfl rfl (hv_size Tryz.cells49) (hv_all _) (hv_len _) ?_)
        refine S.as ?_
        refine S.nil ?_
        refine TC.seq ?_
        refine TC.seq ?_
        refine TC.region ?_
        refine S.mv ?_
        refine S.q rfl rfl (Qt.nenil_nil Tryz.underlying51 rfl) ?_
        refine S.mv ?_
        refine S.qg rfl rfl rfl (Qt.move (by conv => lhs; whnf)) ?_
        refine S.qg rfl rfl rfl (Qt.nenil_iface Tryz.underlying51 rfl) ?_
        refine S.q rfl rfl (Qt.pick_f rfl (by conv => lhs; whnf)) ?_
        refine S.mv ?_
        refine S.pass rfl rfl ?_
        refine S.pass rfl rfl ?_
        refine S.pass rfl rfl ?_
        refine S.q rfl rfl (Qt.pick_t rfl (by conv => lhs; whnf)) ?_
        refine S.mv ?_
        refine S.pass rfl rfl ?_
        refine S.pass rfl rfl ?_
        refine S.pass rfl rfl ?_
        refine S.pass rfl rfl ?_
        refine S.pass rfl rfl ?_
        refine S.pass rfl rfl ?_
        refine S.pass rfl rfl ?_
        refine S.q rfl rfl (Qt.pick_t rfl (by conv => lhs; whnf)) ?_
        refine S.nil ?_
        refine S.if_t rfl ?_
        refine TC.seq ?_
        refine TC.region ?_
        refine S.as ?_
        refine S.nil ?_
        refine TC.ret ?_
        refine finQ.ret (RVs.tmp (by conv => lhs; whnf) RVs.nil) (Sub.nil _) ?_
        exact ⟨rfl, rfl⟩
    · refine S.opS rfl rfl (OpV.con0 Tryz.ent19 rfl (fun w hw => (by have k := sroot_R z f hf64 A1 c1 l1 B1 d1 a1 Z1 e1 b1 hd1 he1 w (Rd.ro hR1 w hw) (Rd.ro hL1 w hw) (Rd.ro hZ1 w hw) (hT.at hw); rw [errv_pos r1] at k; exact k : Calls Tryz.prog 19 #[.int .i64 z, .int .u64 (f : Int), .slice A1 l1.length c1, .agg #[.slice B1 a1.length d1, .slice Z1 b1.length e1]] w (Ret w (.tuple #[hv (spanR z f l1 a1 b1).1, .iface 73 (.int .i64 ((spanR z f l1 a1 b1).2 : Int))])))) ?_)
      refine S.mv ?_
      refine S.q rfl rfl (Qt.extract rfl rfl) ?_
      refine S.q rfl rfl (Qt.extract rfl rfl) ?_
      refine S.opS rfl rfl (OpV.alloc Tryz.zero49 (fun b12 => ?_))
      refine S.opN rfl (OpV.storeV0 (v := hv (_)) rfl rfl (hv_size Tryz.cells49) (hv_all _) (hv_len _) ?_)
      refine S.as ?_
      refine S.nil ?_
      refine TC.seq ?_
      refine TC.region ?_
      refine S.mv ?_
      refine S.mv ?_
      refine S.q rfl rfl (Qt.indexB (i := 3) Tryz.underlying41 Tryz.cells33 rfl rfl (by omega)) ?_
      refine S.q rfl rfl (Qt.load rfl (Ld.one (v := .slice A2 l2.length c2) (Has.at 7 rfl) Tryz.one33 rfl)) ?_
      refine S.q rfl rfl (Qt.load rfl (Ld.all (vs := [.slice B2 a2.length d2, .slice Z2 b2.length e2]) (Has.at 5 rfl) Tryz.row43 Tryz.cells43)) ?_
      by_cases r2 : (spanR z f l2 a2 b2).2 = 0
      · refine S.opS rfl rfl (OpV.con0 Tryz.ent19 rfl (fun w hw => (by have k := sroot_R z f hf64 A2 c2 l2 B2 d2 a2 Z2 e2 b2 hd2 he2 w (Rd.ro hR2 w hw) (Rd.ro hL2 w hw) (Rd.ro hZ2 w hw) (hT.at hw); rw [r2, errv_zero] at k; exact k : Calls Tryz.prog 19 #[.int .i64 z, .int .u64 (f : Int), .slice A2 l2.length c2, .agg #[.slice B2 a2.length d2, .slice Z2 b2.length e2]] w (Ret w (.tuple #[hv (spanR z f l2 a2 b2).1, .nilIface])))) ?_)
        refine S.mv ?_
        refine S.q rfl rfl (Qt.extract rfl rfl) ?_
        refine S.q rfl rfl (Qt.extract rfl rfl) ?_
        refine S.opS rfl rfl (OpV.alloc Tryz.zero49 (fun b14 => ?_))
        refine S.opN rfl (OpV.storeV0 (v := hv (_)) rfl rfl (hv_size Tryz.cells49) (hv_all _) (hv_len _) ?_)
        refine S.as ?_
        refine S.nil ?_
        refine TC.seq ?_
        refine TC.seq ?_
        refine TC.region ?_
        refine S.mv ?_
        refine S.q rfl rfl (Qt.nenil_iface Tryz.underlying51 rfl) ?_
        refine S.mv ?_
        refine S.pass rfl rfl ?_
        refine S.pass rfl rfl ?_
        refine S.q rfl rfl (Qt.pick_t rfl (by conv => lhs; whnf)) ?_
        refine S.mv ?_
        refine S.pass rfl rfl ?_
        refine S.pass rfl rfl ?_
        refine S.pass rfl rfl ?_
        refine S.q rfl rfl (Qt.pick_t rfl (by conv => lhs; whnf)) ?_
        refine S.mv ?_
        refine S.pass rfl rfl ?_
        refine S.pass rfl rfl ?_
        refine S.pass rfl rfl ?_
        refine S.pass rfl rfl ?_
        refine S.pass rfl rfl ?_
        refine S.pass rfl rfl ?_
        refine S.pass rfl rfl ?_
        refine S.q rfl rfl (Qt.pick_t rfl (by conv => lhs; whnf)) ?_
        refine S.nil ?_
        refine S.if_t rfl ?_
        refine TC.seq ?_
        refine TC.region ?_
        refine S.as ?_
        refine S.nil ?_
        refine TC.ret ?_
        refine finQ.ret (RVs.tmp (by conv => lhs; whnf) RVs.nil) (Sub.nil _) ?_
        exact ⟨rfl, rfl⟩
      · refine S.opS rfl rfl (OpV.con0 Tryz.ent19 rfl (fun w hw => (by have k := sroot_R z f hf64 A2 c2 l2 B2 d2 a2 Z2 e2 b2 hd2 he2 w (Rd.ro hR2 w hw) (Rd.ro hL2 w hw) (Rd.ro hZ2 w hw) (hT.at hw); rw [errv_pos r2] at k; exact k : Calls Tryz.prog 19 #[.int .i64 z, .int .u64 (f : Int), .slice A2 l2.length c2, .agg #[.slice B2 a2.length d2, .slice Z2 b2.length e2]] w (Ret w (.tuple #[hv (spanR z f l2 a2 b2).1, .iface 73 (.int .i64 ((spanR z f l2 a2 b2).2 : Int))])))) ?_)
        refine S.mv ?_
        refine S.q rfl rfl (Qt.extract rfl rfl) ?_
        refine S.q rfl rfl (Qt.extract rfl rfl) ?_
        refine S.opS rfl rfl (OpV.alloc Tryz.zero49 (fun b14 => ?_))
        refine S.opN rfl (OpV.storeV0 (v := hv (_)) rfl rfl (hv_size Tryz.cells49) (hv_all _) (hv_len _) ?_)
        refine S.as ?_
        refine S.nil ?_
        refine TC.seq ?_
        refine TC.seq ?_
        refine TC.region ?_
        refine S.mv ?_
        refine S.q rfl rfl (Qt.nenil_iface Tryz.underlying51 rfl) ?_
        refine S.mv ?_
        refine S.pass rfl rfl ?_
        refine S.pass rfl rfl ?_
        refine S.q rfl rfl (Qt.pick_t rfl (by conv => lhs; whnf)) ?_
        refine S.mv ?_
        refine S.pass rfl rfl ?_
        refine S.pass rfl rfl ?_
        refine S.pass rfl rfl ?_
        refine S.q rfl rfl (Qt.pick_t rfl (by conv => lhs; whnf)) ?_
        refine S.mv ?_
        refine S.pass rfl rfl ?_
        refine S.pass rfl rfl ?_
        refine S.pass rfl rfl ?_
        refine S.pass rfl rfl ?_
        refine S.pass rfl rfl ?_
        refine S.pass rfl rfl ?_
        refine S.pass rfl rfl ?_
        refine S.q rfl rfl (Qt.pick_t rfl (by conv => lhs; whnf)) ?_
        refine S.nil ?_
        refine S.if_t rfl ?_
        refine TC.seq ?_
        refine TC.region ?_
        refine S.as ?_
        refine S.nil ?_
        refine TC.ret ?_
        refine finQ.ret (RVs.tmp (by conv => lhs; whnf) RVs.nil) (Sub.nil _) ?_
        exact ⟨rfl, rfl⟩
theorem extractSides_R (z : Int) (f : Nat) (hf64 : f < 18446744073709551616) (A1 : Option Addr) (c1 : Nat) (l1 : List H32) (B1 : Option Addr) (d1 : Nat) (a1 : List H32) (Z1 : Option Addr) (e1 : Nat) (b1 : List H32) (A2 : Option Addr) (c2 : Nat) (l2 : List H32) (B2 : Option Addr) (d2 : Nat) (a2 : List H32) (Z2 : Option Addr) (e2 : Nat) (b2 : List H32) (hc1 : l1.length ≤ c1) (hm1 : c1 ≤ maxLen) (hd1 : a1.length ≤ d1) (he1 : b1.length ≤ e1) (hc2 : l2.length ≤ c2) (hm2 : c2 ≤ maxLen) (hd2 : a2.length ≤ d2) (he2 : b2.length ≤ e2) (w0 : World) (hR1 : Ro w0 [] (SlA A1 (hcs l1))) (hL1 : Ro w0 [] (SlA B1 (hcs a1))) (hZ1 : Ro w0 [] (SlA Z1 (hcs b1))) (hR2 : Ro w0 [] (SlA A2 (hcs l2))) (hL2 : Ro w0 [] (SlA B2 (hcs a2))) (hZ2 : Ro w0 [] (SlA Z2 (hcs b2))) (hT : Tabs 3 1 w0 []) (hT2 : Tabs 2 0 w0 []) : Calls Tryz.prog 4 #[.int .i64 z, .int .u64 (f : Int), .agg #[.slice A1 l1.length c1, .slice B1 a1.length d1, .slice Z1 b1.length e1, .slice A2 l2.length c2, .slice B2 a2.length d2, .slice Z2 b2.length e2]] w0 (Post w0 [] fun v L => v = .bool true ∧ L = []) :=
  law4_walk emptyH (fun w h => empties_R w h) rfl z f hf64 A1 c1 l1 B1 d1 a1 Z1 e1 b1 A2 c2 l2 B2 d2 a2 Z2 e2 b2 hc1 hm1 hd1 he1 hc2 hm2 hd2 he2 w0 hR1 hL1 hZ1 hR2 hL2 hZ2 hT hT2

end Go.Proofs.YtgdjcmehlhebdaaGreatDoor
