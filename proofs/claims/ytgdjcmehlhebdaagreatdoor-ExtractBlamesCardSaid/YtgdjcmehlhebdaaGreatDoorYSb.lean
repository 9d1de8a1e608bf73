/- Walks: pairs of sides -/
import Derived.Test.YtgdjcmehlhebdaaGreatDoorYSa
set_option maxHeartbeats 25600000
namespace Go.Proofs.YtgdjcmehlhebdaaGreatDoor
open _root_.Go.Proofs.Tryz
open Go.E
set_option maxRecDepth 4000
theorem J58 : zae prog 58 := ⟨_, func58, by kernel_rfl, rfl⟩
theorem J59 : zae prog 59 := ⟨_, func59, by kernel_rfl, rfl⟩
theorem J60 : zae prog 60 := ⟨_, func60, by kernel_rfl, rfl⟩
theorem zmp (z : Int) (f : Nat) (hf64 : f < 18446744073709551616) (A : OAd) (c : Nat) (ls : List H32) (Bl : OAd) (cl : Nat) (left : List H32) (Br : OAd) (cr : Nat) (right : List H32) (hc : ls.length ≤ c) (hcm : c ≤ maxLen) (hcl : left.length ≤ cl) (hcr : right.length ≤ cr) (w0 : World) (hR : Ro w0 [] (SlA A (hcs ls))) (hl : Ro w0 [] (SlA Bl (hcs left))) (hr : Ro w0 [] (SlA Br (hcs right))) (hT : Tabs 3 1 w0 []) : Calls prog 59 #[.int .i64 z, .int .u64 (f : Int), .agg #[.slice A ls.length c, .slice Bl left.length cl, .slice Br right.length cr]] w0 (Post w0 [] fun v L => TxQ (zbY z f ls left right) v L) := by
 by_cases hz : (zbM z f ls left right).2 = 0
 ·obtain ⟨h, rfl, hh, h2, ctx, _⟩ := zf6 hz
  rw [show zbY (h : Int) f ls left right = some (zdt f ls.length h ls left right h) by rw [zbY, if_pos hz, Int.toNat_natCast]]
  exact zls h f hh hf64 A c ls Bl cl left Br cr right hc hcm hcl hcr h2 ctx hz w0 hR hl hr hT
 ·rw [show zbY z f ls left right = none from if_neg hz]
  exact zkc z f hf64 A c ls Bl cl left Br cr right hc hcm hcl hcr hz w0 hR hl hr hT
theorem zp6 (q1 q2 q3 q4 : Nat) (z : Int) (f : Nat) (A1 : OAd) (c1 : Nat) (l1 : List H32) (B1 : OAd) (d1 : Nat) (a1 : List H32) (Z1 : OAd) (e1 : Nat) (b1 : List H32) (A2 : OAd) (c2 : Nat) (l2 : List H32) (B2 : OAd) (d2 : Nat) (a2 : List H32) (Z2 : OAd) (e2 : Nat) (b2 : List H32) (w0 : World) (h1 : Ro w0 [] (Blk q1 3 [.int .i64 z])) (h2 : Ro w0 [] (Blk q2 40 [.int .u64 (f : Int)])) (h3 : Ro w0 [] (Blk q3 46 (vl (.agg #[.slice A1 l1.length c1, .slice B1 a1.length d1, .slice Z1 b1.length e1])))) (h4 : Ro w0 [] (Blk q4 46 (vl (.agg #[.slice A2 l2.length c2, .slice B2 a2.length d2, .slice Z2 b2.length e2])))) (hX : ∀ w, St w0 [] [] w → Calls prog 59 #[.int .i64 z, .int .u64 (f : Int), .agg #[.slice A1 l1.length c1, .slice B1 a1.length d1, .slice Z1 b1.length e1]] w (Post w [] (TxQ none))) :
  Calls prog 58 #[.bool true, .pointer (some ⟨q1, 0, none⟩), .pointer (some ⟨q2, 0, none⟩), .pointer (some ⟨q3, 0, none⟩), .pointer (some ⟨q4, 0, none⟩)] w0 (Post w0 [] fun v L => TxQ none v L) := by
 refine co 17 [.tmp 6, .tmp 7] func58 ?_
 refine gw ?_
 refine dr ([], [6]) (gw ?_)
 refine D.qY 3 rfl (Qt.load rfl (Ld.all (vs := vl (.agg #[.slice A1 l1.length c1, .slice B1 a1.length d1, .slice Z1 b1.length e1])) (Has.ro h3) rT ce46)) ?_
 refine D.qY 4 rfl (Qt.load rfl (Ld.all (vs := vl (.agg #[.slice A2 l2.length c2, .slice B2 a2.length d2, .slice Z2 b2.length e2])) (Has.ro h4) rT ce46)) ?_
 refine D.c0 5 rfl J60 (fun w hw => Calls.ret (zh8 A1 c1 l1 B1 d1 a1 Z1 e1 b1 A2 c2 l2 B2 d2 a2 Z2 e2 b2 w)) ?_
 refine D.nZ 6 rfl J59 (fun w hw => hX w (hw.sub sn)) ?_
 rintro v L' ⟨k1, rfl, rfl⟩
 refine gw ?_
 refine D.fi ?_
 refine TC.ret (fR ?_)
 exact ⟨k1, rfl, rfl⟩
theorem zp7 (q1 q2 q3 q4 : Nat) (z : Int) (f : Nat) (A1 : OAd) (c1 : Nat) (l1 : List H32) (B1 : OAd) (d1 : Nat) (a1 : List H32) (Z1 : OAd) (e1 : Nat) (b1 : List H32) (A2 : OAd) (c2 : Nat) (l2 : List H32) (B2 : OAd) (d2 : Nat) (a2 : List H32) (Z2 : OAd) (e2 : Nat) (b2 : List H32) (a : List (List UInt8)) (w0 : World) (h1 : Ro w0 [] (Blk q1 3 [.int .i64 z])) (h2 : Ro w0 [] (Blk q2 40 [.int .u64 (f : Int)])) (h3 : Ro w0 [] (Blk q3 46 (vl (.agg #[.slice A1 l1.length c1, .slice B1 a1.length d1, .slice Z1 b1.length e1])))) (h4 : Ro w0 [] (Blk q4 46 (vl (.agg #[.slice A2 l2.length c2, .slice B2 a2.length d2, .slice Z2 b2.length e2])))) (hX : ∀ w, St w0 [] [] w → Calls prog 59 #[.int .i64 z, .int .u64 (f : Int), .agg #[.slice A1 l1.length c1, .slice B1 a1.length d1, .slice Z1 b1.length e1]] w (Post w [] (TxQ (some a)))) :
  Calls prog 58 #[.bool true, .pointer (some ⟨q1, 0, none⟩), .pointer (some ⟨q2, 0, none⟩), .pointer (some ⟨q3, 0, none⟩), .pointer (some ⟨q4, 0, none⟩)] w0 (Post w0 [] fun v L => TxQ (some a) v L) := by
 refine co 17 [.tmp 6, .tmp 7] func58 ?_
 refine gw ?_
 refine dr ([], [6]) (gw ?_)
 refine D.qY 3 rfl (Qt.load rfl (Ld.all (vs := vl (.agg #[.slice A1 l1.length c1, .slice B1 a1.length d1, .slice Z1 b1.length e1])) (Has.ro h3) rT ce46)) ?_
 refine D.qY 4 rfl (Qt.load rfl (Ld.all (vs := vl (.agg #[.slice A2 l2.length c2, .slice B2 a2.length d2, .slice Z2 b2.length e2])) (Has.ro h4) rT ce46)) ?_
 refine D.c0 5 rfl J60 (fun w hw => Calls.ret (zh8 A1 c1 l1 B1 d1 a1 Z1 e1 b1 A2 c2 l2 B2 d2 a2 Z2 e2 b2 w)) ?_
 refine D.nZ 6 rfl J59 (fun w hw => hX w (hw.sub sn)) ?_
 rintro v L' ⟨O1, d1x, t1, rfl, rfl, e1x, l1x⟩
 refine gw ?_
 refine D.fi ?_
 refine TC.ret (finQ.ret rv sr ?_)
 exact ⟨O1, d1x, t1, rfl, rfl, e1x, l1x⟩
theorem zp8 (q1 q2 q3 q4 : Nat) (z : Int) (f : Nat) (A1 : OAd) (c1 : Nat) (l1 : List H32) (B1 : OAd) (d1 : Nat) (a1 : List H32) (Z1 : OAd) (e1 : Nat) (b1 : List H32) (A2 : OAd) (c2 : Nat) (l2 : List H32) (B2 : OAd) (d2 : Nat) (a2 : List H32) (Z2 : OAd) (e2 : Nat) (b2 : List H32) (X : Option (List (List UInt8))) (w0 : World) (h1 : Ro w0 [] (Blk q1 3 [.int .i64 z])) (h2 : Ro w0 [] (Blk q2 40 [.int .u64 (f : Int)])) (h3 : Ro w0 [] (Blk q3 46 (vl (.agg #[.slice A1 l1.length c1, .slice B1 a1.length d1, .slice Z1 b1.length e1])))) (h4 : Ro w0 [] (Blk q4 46 (vl (.agg #[.slice A2 l2.length c2, .slice B2 a2.length d2, .slice Z2 b2.length e2])))) (hX : ∀ w, St w0 [] [] w → Calls prog 59 #[.int .i64 z, .int .u64 (f : Int), .agg #[.slice A1 l1.length c1, .slice B1 a1.length d1, .slice Z1 b1.length e1]] w (Post w [] (TxQ X))) :
  Calls prog 58 #[.bool true, .pointer (some ⟨q1, 0, none⟩), .pointer (some ⟨q2, 0, none⟩), .pointer (some ⟨q3, 0, none⟩), .pointer (some ⟨q4, 0, none⟩)] w0 (Post w0 [] (TxQ X)) := by
 cases X with
 | none => exact zp6 q1 q2 q3 q4 z f A1 c1 l1 B1 d1 a1 Z1 e1 b1 A2 c2 l2 B2 d2 a2 Z2 e2 b2 w0 h1 h2 h3 h4 hX
 | some a => exact zp7 q1 q2 q3 q4 z f A1 c1 l1 B1 d1 a1 Z1 e1 b1 A2 c2 l2 B2 d2 a2 Z2 e2 b2 a w0 h1 h2 h3 h4 hX
theorem zlt (b4 b5 b6 b7 : Nat) (z : Int) (f : Nat) (hf64 : f < 18446744073709551616) (A1 : OAd) (c1 : Nat) (l1 : List H32) (B1 : OAd) (d1 : Nat) (a1 : List H32) (Z1 : OAd) (e1 : Nat) (b1 : List H32) (A2 : OAd) (c2 : Nat) (l2 : List H32) (B2 : OAd) (d2 : Nat) (a2 : List H32) (Z2 : OAd) (e2 : Nat) (b2 : List H32) (hc1 : l1.length ≤ c1) (hm1 : c1 ≤ maxLen) (hd1 : a1.length ≤ d1) (he1 : b1.length ≤ e1) (hc2 : l2.length ≤ c2) (hm2 : c2 ≤ maxLen) (hd2 : a2.length ≤ d2) (he2 : b2.length ≤ e2) (w0 : World) (hR1 : Ro w0 [] (SlA A1 (hcs l1))) (hL1 : Ro w0 [] (SlA B1 (hcs a1))) (hZ1 : Ro w0 [] (SlA Z1 (hcs b1))) (hR2 : Ro w0 [] (SlA A2 (hcs l2))) (hL2 : Ro w0 [] (SlA B2 (hcs a2))) (hZ2 : Ro w0 [] (SlA Z2 (hcs b2))) (hT : Tabs 3 1 w0 []) (k4 : Ro w0 [] (Blk b4 3 [.int .i64 z])) (k5 : Ro w0 [] (Blk b5 40 [.int .u64 (f : Int)])) (k6 : Ro w0 [] (Blk b6 46 (vl (.agg #[.slice A1 l1.length c1, .slice B1 a1.length d1, .slice Z1 b1.length e1])))) (k7 : Ro w0 [] (Blk b7 46 (vl (.agg #[.slice A2 l2.length c2, .slice B2 a2.length d2, .slice Z2 b2.length e2])))) :
  ∀ w, St w0 [] [] w → Calls prog 58 ((([.bool true] : List Value) ++ (#[.pointer (some ⟨b4, 0, none⟩), .pointer (some ⟨b5, 0, none⟩), .pointer (some ⟨b6, 0, none⟩), .pointer (some ⟨b7, 0, none⟩)] : Array Value).toList).toArray) w (Post w [] (TxQ (zbY z f l1 a1 b1))) := fun w s =>
 zp8 b4 b5 b6 b7 z f A1 c1 l1 B1 d1 a1 Z1 e1 b1 A2 c2 l2 B2 d2 a2 Z2 e2 b2 (zbY z f l1 a1 b1) w (k4.go s (fun b hb => by cases hb)) (k5.go s (fun b hb => by cases hb)) (k6.go s (fun b hb => by cases hb)) (k7.go s (fun b hb => by cases hb)) (fun w2 s2 => zmp z f hf64 A1 c1 l1 B1 d1 a1 Z1 e1 b1 hc1 hm1 hd1 he1 w2 ((hR1.go s (fun b hb => by cases hb)).go s2 (fun b hb => by cases hb)) ((hL1.go s (fun b hb => by cases hb)).go s2 (fun b hb => by cases hb)) ((hZ1.go s (fun b hb => by cases hb)).go s2 (fun b hb => by cases hb)) ((hT.of_go s (fun b hb => by cases hb)).of_go s2 (fun b hb => by cases hb)))
theorem znz (q1 q2 q3 q4 : Nat) (z : Int) (f : Nat) (A1 : OAd) (c1 : Nat) (l1 : List H32) (B1 : OAd) (d1 : Nat) (a1 : List H32) (Z1 : OAd) (e1 : Nat) (b1 : List H32) (A2 : OAd) (c2 : Nat) (l2 : List H32) (B2 : OAd) (d2 : Nat) (a2 : List H32) (Z2 : OAd) (e2 : Nat) (b2 : List H32) (w0 : World) (h1 : Ro w0 [] (Blk q1 3 [.int .i64 z])) (h2 : Ro w0 [] (Blk q2 40 [.int .u64 (f : Int)])) (h3 : Ro w0 [] (Blk q3 46 (vl (.agg #[.slice A1 l1.length c1, .slice B1 a1.length d1, .slice Z1 b1.length e1])))) (h4 : Ro w0 [] (Blk q4 46 (vl (.agg #[.slice A2 l2.length c2, .slice B2 a2.length d2, .slice Z2 b2.length e2])))) (hX : ∀ w, St w0 [] [] w → Calls prog 59 #[.int .i64 z, .int .u64 (f : Int), .agg #[.slice A2 l2.length c2, .slice B2 a2.length d2, .slice Z2 b2.length e2]] w (Post w [] (TxQ none))) :
  Calls prog 58 #[.bool false, .pointer (some ⟨q1, 0, none⟩), .pointer (some ⟨q2, 0, none⟩), .pointer (some ⟨q3, 0, none⟩), .pointer (some ⟨q4, 0, none⟩)] w0 (Post w0 [] fun v L => TxQ none v L) := by
 refine co 17 [.tmp 6, .tmp 7] func58 ?_
 refine gw ?_
 refine dr ([], [6]) (gw ?_)
 refine D.qY 3 rfl (Qt.load rfl (Ld.all (vs := vl (.agg #[.slice A1 l1.length c1, .slice B1 a1.length d1, .slice Z1 b1.length e1])) (Has.ro h3) rT ce46)) ?_
 refine D.qY 4 rfl (Qt.load rfl (Ld.all (vs := vl (.agg #[.slice A2 l2.length c2, .slice B2 a2.length d2, .slice Z2 b2.length e2])) (Has.ro h4) rT ce46)) ?_
 refine D.c0 5 rfl J60 (fun w hw => Calls.ret (zhc A1 c1 l1 B1 d1 a1 Z1 e1 b1 A2 c2 l2 B2 d2 a2 Z2 e2 b2 w)) ?_
 refine D.nZ 6 rfl J59 (fun w hw => hX w (hw.sub sn)) ?_
 rintro v L' ⟨k1, rfl, rfl⟩
 refine gw ?_
 refine D.fi ?_
 refine TC.ret (fR ?_)
 exact ⟨k1, rfl, rfl⟩
theorem znA (q1 q2 q3 q4 : Nat) (z : Int) (f : Nat) (A1 : OAd) (c1 : Nat) (l1 : List H32) (B1 : OAd) (d1 : Nat) (a1 : List H32) (Z1 : OAd) (e1 : Nat) (b1 : List H32) (A2 : OAd) (c2 : Nat) (l2 : List H32) (B2 : OAd) (d2 : Nat) (a2 : List H32) (Z2 : OAd) (e2 : Nat) (b2 : List H32) (a : List (List UInt8)) (w0 : World) (h1 : Ro w0 [] (Blk q1 3 [.int .i64 z])) (h2 : Ro w0 [] (Blk q2 40 [.int .u64 (f : Int)])) (h3 : Ro w0 [] (Blk q3 46 (vl (.agg #[.slice A1 l1.length c1, .slice B1 a1.length d1, .slice Z1 b1.length e1])))) (h4 : Ro w0 [] (Blk q4 46 (vl (.agg #[.slice A2 l2.length c2, .slice B2 a2.length d2, .slice Z2 b2.length e2])))) (hX : ∀ w, St w0 [] [] w → Calls prog 59 #[.int .i64 z, .int .u64 (f : Int), .agg #[.slice A2 l2.length c2, .slice B2 a2.length d2, .slice Z2 b2.length e2]] w (Post w [] (TxQ (some a)))) :
  Calls prog 58 #[.bool false, .pointer (some ⟨q1, 0, none⟩), .pointer (some ⟨q2, 0, none⟩), .pointer (some ⟨q3, 0, none⟩), .pointer (some ⟨q4, 0, none⟩)] w0 (Post w0 [] fun v L => TxQ (some a) v L) := by
 refine co 17 [.tmp 6, .tmp 7] func58 ?_
 refine gw ?_
 refine dr ([], [6]) (gw ?_)
 refine D.qY 3 rfl (Qt.load rfl (Ld.all (vs := vl (.agg #[.slice A1 l1.length c1, .slice B1 a1.length d1, .slice Z1 b1.length e1])) (Has.ro h3) rT ce46)) ?_
 refine D.qY 4 rfl (Qt.load rfl (Ld.all (vs := vl (.agg #[.slice A2 l2.length c2, .slice B2 a2.length d2, .slice Z2 b2.length e2])) (Has.ro h4) rT ce46)) ?_
 refine D.c0 5 rfl J60 (fun w hw => Calls.ret (zhc A1 c1 l1 B1 d1 a1 Z1 e1 b1 A2 c2 l2 B2 d2 a2 Z2 e2 b2 w)) ?_
 refine D.nZ 6 rfl J59 (fun w hw => hX w (hw.sub sn)) ?_
 rintro v L' ⟨O1, d1x, t1, rfl, rfl, e1x, l1x⟩
 refine gw ?_
 refine D.fi ?_
 refine TC.ret (finQ.ret rv sr ?_)
 exact ⟨O1, d1x, t1, rfl, rfl, e1x, l1x⟩
theorem znB (q1 q2 q3 q4 : Nat) (z : Int) (f : Nat) (A1 : OAd) (c1 : Nat) (l1 : List H32) (B1 : OAd) (d1 : Nat) (a1 : List H32) (Z1 : OAd) (e1 : Nat) (b1 : List H32) (A2 : OAd) (c2 : Nat) (l2 : List H32) (B2 : OAd) (d2 : Nat) (a2 : List H32) (Z2 : OAd) (e2 : Nat) (b2 : List H32) (X : Option (List (List UInt8))) (w0 : World) (h1 : Ro w0 [] (Blk q1 3 [.int .i64 z])) (h2 : Ro w0 [] (Blk q2 40 [.int .u64 (f : Int)])) (h3 : Ro w0 [] (Blk q3 46 (vl (.agg #[.slice A1 l1.length c1, .slice B1 a1.length d1, .slice Z1 b1.length e1])))) (h4 : Ro w0 [] (Blk q4 46 (vl (.agg #[.slice A2 l2.length c2, .slice B2 a2.length d2, .slice Z2 b2.length e2])))) (hX : ∀ w, St w0 [] [] w → Calls prog 59 #[.int .i64 z, .int .u64 (f : Int), .agg #[.slice A2 l2.length c2, .slice B2 a2.length d2, .slice Z2 b2.length e2]] w (Post w [] (TxQ X))) :
  Calls prog 58 #[.bool false, .pointer (some ⟨q1, 0, none⟩), .pointer (some ⟨q2, 0, none⟩), .pointer (some ⟨q3, 0, none⟩), .pointer (some ⟨q4, 0, none⟩)] w0 (Post w0 [] (TxQ X)) := by
 cases X with
 | none => exact znz q1 q2 q3 q4 z f A1 c1 l1 B1 d1 a1 Z1 e1 b1 A2 c2 l2 B2 d2 a2 Z2 e2 b2 w0 h1 h2 h3 h4 hX
 | some a => exact znA q1 q2 q3 q4 z f A1 c1 l1 B1 d1 a1 Z1 e1 b1 A2 c2 l2 B2 d2 a2 Z2 e2 b2 a w0 h1 h2 h3 h4 hX
theorem zkd (b4 b5 b6 b7 : Nat) (z : Int) (f : Nat) (hf64 : f < 18446744073709551616) (A1 : OAd) (c1 : Nat) (l1 : List H32) (B1 : OAd) (d1 : Nat) (a1 : List H32) (Z1 : OAd) (e1 : Nat) (b1 : List H32) (A2 : OAd) (c2 : Nat) (l2 : List H32) (B2 : OAd) (d2 : Nat) (a2 : List H32) (Z2 : OAd) (e2 : Nat) (b2 : List H32) (hc1 : l1.length ≤ c1) (hm1 : c1 ≤ maxLen) (hd1 : a1.length ≤ d1) (he1 : b1.length ≤ e1) (hc2 : l2.length ≤ c2) (hm2 : c2 ≤ maxLen) (hd2 : a2.length ≤ d2) (he2 : b2.length ≤ e2) (w0 : World) (hR1 : Ro w0 [] (SlA A1 (hcs l1))) (hL1 : Ro w0 [] (SlA B1 (hcs a1))) (hZ1 : Ro w0 [] (SlA Z1 (hcs b1))) (hR2 : Ro w0 [] (SlA A2 (hcs l2))) (hL2 : Ro w0 [] (SlA B2 (hcs a2))) (hZ2 : Ro w0 [] (SlA Z2 (hcs b2))) (hT : Tabs 3 1 w0 []) (k4 : Ro w0 [] (Blk b4 3 [.int .i64 z])) (k5 : Ro w0 [] (Blk b5 40 [.int .u64 (f : Int)])) (k6 : Ro w0 [] (Blk b6 46 (vl (.agg #[.slice A1 l1.length c1, .slice B1 a1.length d1, .slice Z1 b1.length e1])))) (k7 : Ro w0 [] (Blk b7 46 (vl (.agg #[.slice A2 l2.length c2, .slice B2 a2.length d2, .slice Z2 b2.length e2])))) :
  ∀ w, St w0 [] [] w → Calls prog 58 ((([.bool false] : List Value) ++ (#[.pointer (some ⟨b4, 0, none⟩), .pointer (some ⟨b5, 0, none⟩), .pointer (some ⟨b6, 0, none⟩), .pointer (some ⟨b7, 0, none⟩)] : Array Value).toList).toArray) w (Post w [] (TxQ (zbY z f l2 a2 b2))) := fun w s =>
 znB b4 b5 b6 b7 z f A1 c1 l1 B1 d1 a1 Z1 e1 b1 A2 c2 l2 B2 d2 a2 Z2 e2 b2 (zbY z f l2 a2 b2) w (k4.go s (fun b hb => by cases hb)) (k5.go s (fun b hb => by cases hb)) (k6.go s (fun b hb => by cases hb)) (k7.go s (fun b hb => by cases hb)) (fun w2 s2 => zmp z f hf64 A2 c2 l2 B2 d2 a2 Z2 e2 b2 hc2 hm2 hd2 he2 w2 ((hR2.go s (fun b hb => by cases hb)).go s2 (fun b hb => by cases hb)) ((hL2.go s (fun b hb => by cases hb)).go s2 (fun b hb => by cases hb)) ((hZ2.go s (fun b hb => by cases hb)).go s2 (fun b hb => by cases hb)) ((hT.of_go s (fun b hb => by cases hb)).of_go s2 (fun b hb => by cases hb)))
theorem ziS (z : Int) (f : Nat) (hf64 : f < 18446744073709551616) (A1 : OAd) (c1 : Nat) (l1 : List H32) (B1 : OAd) (d1 : Nat) (a1 : List H32) (Z1 : OAd) (e1 : Nat) (b1 : List H32) (A2 : OAd) (c2 : Nat) (l2 : List H32) (B2 : OAd) (d2 : Nat) (a2 : List H32) (Z2 : OAd) (e2 : Nat) (b2 : List H32) (hc1 : l1.length ≤ c1) (hm1 : c1 ≤ maxLen) (hd1 : a1.length ≤ d1) (he1 : b1.length ≤ e1) (hc2 : l2.length ≤ c2) (hm2 : c2 ≤ maxLen) (hd2 : a2.length ≤ d2) (he2 : b2.length ≤ e2) (hne : l1.length ≠ l2.length) (w0 : World) :
  Calls prog 17 #[.int .i64 z, .int .u64 (f : Int), .agg #[.slice A1 l1.length c1, .slice B1 a1.length d1, .slice Z1 b1.length e1], .agg #[.slice A2 l2.length c2, .slice B2 a2.length d2, .slice Z2 b2.length e2]] w0 (Post w0 [] fun v L => v = .slice none 0 0 ∧ L = []) := by
 refine co 18 [.tmp 8] func17 ?_
 refine gw ?_
 intro b4
 refine gw ?_
 intro b5
 refine gw ?_
 intro b6
 refine gw ?_
 intro b7
 refine gw ?_
 refine S.r (Qt.dT (Qt.ne rfl rfl) (hne)) (gw ?_)
 refine TC.ret (fR ?_)
 exact ⟨rfl, rfl⟩
theorem zke (z : Int) (f : Nat) (hf64 : f < 18446744073709551616) (A1 : OAd) (c1 : Nat) (l1 : List H32) (B1 : OAd) (d1 : Nat) (a1 : List H32) (Z1 : OAd) (e1 : Nat) (b1 : List H32) (A2 : OAd) (c2 : Nat) (l2 : List H32) (B2 : OAd) (d2 : Nat) (a2 : List H32) (Z2 : OAd) (e2 : Nat) (b2 : List H32) (hc1 : l1.length ≤ c1) (hm1 : c1 ≤ maxLen) (hd1 : a1.length ≤ d1) (he1 : b1.length ≤ e1) (hc2 : l2.length ≤ c2) (hm2 : c2 ≤ maxLen) (hd2 : a2.length ≤ d2) (he2 : b2.length ≤ e2) (heq : l1.length = l2.length) (w0 : World) (hR1 : Ro w0 [] (SlA A1 (hcs l1))) (hL1 : Ro w0 [] (SlA B1 (hcs a1))) (hZ1 : Ro w0 [] (SlA Z1 (hcs b1))) (hR2 : Ro w0 [] (SlA A2 (hcs l2))) (hL2 : Ro w0 [] (SlA B2 (hcs a2))) (hZ2 : Ro w0 [] (SlA Z2 (hcs b2))) (hT : Tabs 3 1 w0 []) :
  Calls prog 17 #[.int .i64 z, .int .u64 (f : Int), .agg #[.slice A1 l1.length c1, .slice B1 a1.length d1, .slice Z1 b1.length e1], .agg #[.slice A2 l2.length c2, .slice B2 a2.length d2, .slice Z2 b2.length e2]] w0 (Post w0 [] fun v L => PxQ 114 (zbl (zbY z f l1 a1 b1) (zbY z f l2 a2 b2)) v L) := by
 refine co 18 [.tmp 8] func17 ?_
 refine gw ?_
 intro b4
 refine gw ?_
 intro b5
 refine gw ?_
 intro b6
 refine gw ?_
 intro b7
 refine gw ?_
 refine S.r (Qt.dF (Qt.ne rfl rfl) (fun e => e heq)) (gw ?_)
 refine S.r (Qt.makeFuncL (fs := []) (cs := [.pointer (some ⟨b4, 0, none⟩), .pointer (some ⟨b5, 0, none⟩), .pointer (some ⟨b6, 0, none⟩), .pointer (some ⟨b7, 0, none⟩)]) rfl rfl) ?_
 refine S.cn J45 (fun w hw => zlY 58 #[.pointer (some ⟨b4, 0, none⟩), .pointer (some ⟨b5, 0, none⟩), .pointer (some ⟨b6, 0, none⟩), .pointer (some ⟨b7, 0, none⟩)] J58 (zbY z f l1 a1 b1) (zbY z f l2 a2 b2) w (zlt b4 b5 b6 b7 z f hf64 A1 c1 l1 B1 d1 a1 Z1 e1 b1 A2 c2 l2 B2 d2 a2 Z2 e2 b2 hc1 hm1 hd1 he1 hc2 hm2 hd2 he2 w (Rd.ro hR1 w hw) (Rd.ro hL1 w hw) (Rd.ro hZ1 w hw) (Rd.ro hR2 w hw) (Rd.ro hL2 w hw) (Rd.ro hZ2 w hw) (hT.at hw) (Rd.at 3 rfl w hw) (Rd.at 2 rfl w hw) (Rd.at 1 rfl w hw) (Rd.at 0 rfl w hw)) (zkd b4 b5 b6 b7 z f hf64 A1 c1 l1 B1 d1 a1 Z1 e1 b1 A2 c2 l2 B2 d2 a2 Z2 e2 b2 hc1 hm1 hd1 he1 hc2 hm2 hd2 he2 w (Rd.ro hR1 w hw) (Rd.ro hL1 w hw) (Rd.ro hZ1 w hw) (Rd.ro hR2 w hw) (Rd.ro hL2 w hw) (Rd.ro hZ2 w hw) (hT.at hw) (Rd.at 3 rfl w hw) (Rd.at 2 rfl w hw) (Rd.at 1 rfl w hw) (Rd.at 0 rfl w hw))) ?_
 rintro v L' ⟨O, d, pp, Ls, rfl, rfl, q1, q2, q3⟩
 refine gw ?_
 refine TC.ret (fin1 (sk (sk (sd (sd (sd (sd sn0)))))) ?_)
 exact ⟨O, d, pp, Ls, rfl, rfl, q1, q2, q3⟩
theorem zkf (z : Int) (f : Nat) (hf64 : f < 18446744073709551616) (A1 : OAd) (c1 : Nat) (l1 : List H32) (B1 : OAd) (d1 : Nat) (a1 : List H32) (Z1 : OAd) (e1 : Nat) (b1 : List H32) (A2 : OAd) (c2 : Nat) (l2 : List H32) (B2 : OAd) (d2 : Nat) (a2 : List H32) (Z2 : OAd) (e2 : Nat) (b2 : List H32) (hc1 : l1.length ≤ c1) (hm1 : c1 ≤ maxLen) (hd1 : a1.length ≤ d1) (he1 : b1.length ≤ e1) (hc2 : l2.length ≤ c2) (hm2 : c2 ≤ maxLen) (hd2 : a2.length ≤ d2) (he2 : b2.length ≤ e2) (w0 : World) (hR1 : Ro w0 [] (SlA A1 (hcs l1))) (hL1 : Ro w0 [] (SlA B1 (hcs a1))) (hZ1 : Ro w0 [] (SlA Z1 (hcs b1))) (hR2 : Ro w0 [] (SlA A2 (hcs l2))) (hL2 : Ro w0 [] (SlA B2 (hcs a2))) (hZ2 : Ro w0 [] (SlA Z2 (hcs b2))) (hT : Tabs 3 1 w0 []) : Calls prog 17 #[.int .i64 z, .int .u64 (f : Int), .agg #[.slice A1 l1.length c1, .slice B1 a1.length d1, .slice Z1 b1.length e1], .agg #[.slice A2 l2.length c2, .slice B2 a2.length d2, .slice Z2 b2.length e2]] w0 (Post w0 [] fun v L => PxQ 114 (if l1.length = l2.length then zbl (zbY z f l1 a1 b1) (zbY z f l2 a2 b2) else []) v L) := by
 by_cases heq : l1.length = l2.length
 ·rw [if_pos heq]; exact zke z f hf64 A1 c1 l1 B1 d1 a1 Z1 e1 b1 A2 c2 l2 B2 d2 a2 Z2 e2 b2 hc1 hm1 hd1 he1 hc2 hm2 hd2 he2 heq w0 hR1 hL1 hZ1 hR2 hL2 hZ2 hT
 ·rw [if_neg heq]
  exact (ziS z f hf64 A1 c1 l1 B1 d1 a1 Z1 e1 b1 A2 c2 l2 B2 d2 a2 Z2 e2 b2 hc1 hm1 hd1 he1 hc2 hm2 hd2 he2 heq w0).mono fun e w' ⟨v, L', h1, h2, h3, h4⟩ => ⟨v, [OwnA 114 2 none 0 0 [], Many []], h1, by subst h4; exact (St.many.2 h2).ownNil 114 2, none, 0, [], [], h3, rfl, rfl, Nat.zero_le _, fun p hp => by cases hp⟩
end Go.Proofs.YtgdjcmehlhebdaaGreatDoor
