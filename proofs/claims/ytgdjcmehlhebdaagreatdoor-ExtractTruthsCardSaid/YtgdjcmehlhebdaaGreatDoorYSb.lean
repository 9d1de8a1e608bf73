/- Walks: pairs of sides -/
import Derived.Test.YtgdjcmehlhebdaaGreatDoorYSa
import Derived.Test.YtgdjcmehlhebdaaGreatDoorYN1
set_option maxHeartbeats 25600000
set_option linter.all false
namespace Go.Proofs.YtgdjcmehlhebdaaGreatDoor
open _root_.Go.Proofs.Tryz
open Go.E
set_option maxRecDepth 4000
theorem EV (z : Int) (f : Nat) (hf64 : f < 18446744073709551616) (A) (c : Nat) (ls : List i6) (Bl) (cl : Nat) (left : List i6) (Br) (cr : Nat) (right : List i6) (hc : ls.length ≤ c) (hcm : c ≤ maxLen) (hcl : left.length ≤ cl) (hcr : right.length ≤ cr) (w0) (hR : Ro w0 [] (SlA A (m9 ls))) (hl : Ro w0 [] (SlA Bl (m9 left))) (hr : Ro w0 [] (SlA Br (m9 right))) (hT : Tabs 3 1 w0 []) : cP 59 #[iI z, uI f, .agg #[sL A ls.length c, sL Bl left.length cl, sL Br right.length cr]] w0 fun v L => X8 (L6 z f ls left right) v L := by
 by_cases hz : (V4 z f ls left right).2 = 0
 ·obtain ⟨h, rfl, hh, h2, ctx, _⟩ := xP hz
  rw [show L6 (h : Int) f ls left right = some (aR f ls.length h ls left right h) by rw [L6, if_pos hz, Int.toNat_natCast]]
  exact zcX h f hh hf64 A c ls Bl cl left Br cr right hc hcm hcl hcr h2 ctx hz w0 hR hl hr hT
 ·rw [show L6 z f ls left right = none from if_neg hz]
  exact zbG z f hf64 A c ls Bl cl left Br cr right hc hcm hcl hcr hz w0 hR hl hr hT
theorem zf2 (q1 q2 q3 q4 : Nat) (z : Int) (f : Nat) (A1) (c1 : Nat) (l1 : List i6) (B1) (d1 : Nat) (a1 : List i6) (Z1) (e1 : Nat) (b1 : List i6) (A2) (c2 : Nat) (l2 : List i6) (B2) (d2 : Nat) (a2 : List i6) (Z2) (e2 : Nat) (b2 : List i6) (w0) (h1 : Ro w0 [] (Blk q1 3 [iI z])) (h2 : Ro w0 [] (Blk q2 40 [uI f])) (h3 : Ro w0 [] (Blk q3 46 (vl (.agg #[sL A1 l1.length c1, sL B1 a1.length d1, sL Z1 b1.length e1])))) (h4 : Ro w0 [] (Blk q4 46 (vl (.agg #[sL A2 l2.length c2, sL B2 a2.length d2, sL Z2 b2.length e2])))) (hX : ∀ w, St w0 [] [] w → cP 59 #[iI z, uI f, .agg #[sL A1 l1.length c1, sL B1 a1.length d1, sL Z1 b1.length e1]] w (X8 none)) :
  cP 58 #[.bool true, pZ q1, pZ q2, pZ q3, pZ q4] w0 fun v L => X8 none v L := by
 refine co 17 [.tmp 6, .tmp 7] func58 ?_
 refine gw ?_
 refine dr ([], [6]) (gw ?_)
 refine c6 3 rfl (a8 rfl (i4 (vs := vl (.agg #[sL A1 l1.length c1, sL B1 a1.length d1, sL Z1 b1.length e1])) (c9 h3) rT ce46)) (c6 4 rfl (a8 rfl (i4 (vs := vl (.agg #[sL A2 l2.length c2, sL B2 a2.length d2, sL Z2 b2.length e2])) (c9 h4) rT ce46)) (I7 5 rfl en (fun w hw => cQ (wR A1 c1 l1 B1 d1 a1 Z1 e1 b1 A2 c2 l2 B2 d2 a2 Z2 e2 b2 w)) (P5 6 rfl en (fun w hw => hX w (hw.sub sn)) ?_)))
 rintro v L' ⟨k1, rfl, rfl⟩
 refine gw ?_
 refine p7 (a9 (fR ?_))
 exact ⟨k1, rfl, rfl⟩
theorem zf3 (q1 q2 q3 q4 : Nat) (z : Int) (f : Nat) (A1) (c1 : Nat) (l1 : List i6) (B1) (d1 : Nat) (a1 : List i6) (Z1) (e1 : Nat) (b1 : List i6) (A2) (c2 : Nat) (l2 : List i6) (B2) (d2 : Nat) (a2 : List i6) (Z2) (e2 : Nat) (b2 : List i6) (a : List (List UInt8)) (w0) (h1 : Ro w0 [] (Blk q1 3 [iI z])) (h2 : Ro w0 [] (Blk q2 40 [uI f])) (h3 : Ro w0 [] (Blk q3 46 (vl (.agg #[sL A1 l1.length c1, sL B1 a1.length d1, sL Z1 b1.length e1])))) (h4 : Ro w0 [] (Blk q4 46 (vl (.agg #[sL A2 l2.length c2, sL B2 a2.length d2, sL Z2 b2.length e2])))) (hX : ∀ w, St w0 [] [] w → cP 59 #[iI z, uI f, .agg #[sL A1 l1.length c1, sL B1 a1.length d1, sL Z1 b1.length e1]] w (X8 (some a))) :
  cP 58 #[.bool true, pZ q1, pZ q2, pZ q3, pZ q4] w0 fun v L => X8 (some a) v L := by
 refine co 17 [.tmp 6, .tmp 7] func58 ?_
 refine gw ?_
 refine dr ([], [6]) (gw ?_)
 refine c6 3 rfl (a8 rfl (i4 (vs := vl (.agg #[sL A1 l1.length c1, sL B1 a1.length d1, sL Z1 b1.length e1])) (c9 h3) rT ce46)) (c6 4 rfl (a8 rfl (i4 (vs := vl (.agg #[sL A2 l2.length c2, sL B2 a2.length d2, sL Z2 b2.length e2])) (c9 h4) rT ce46)) (I7 5 rfl en (fun w hw => cQ (wR A1 c1 l1 B1 d1 a1 Z1 e1 b1 A2 c2 l2 B2 d2 a2 Z2 e2 b2 w)) (P5 6 rfl en (fun w hw => hX w (hw.sub sn)) ?_)))
 rintro v L' ⟨O1, d1x, t1, rfl, rfl, e1x, l1x⟩
 refine gw ?_
 refine p7 (a9 (finQ.ret rv sr ?_))
 exact ⟨O1, d1x, t1, rfl, rfl, e1x, l1x⟩
theorem zf1 (q1 q2 q3 q4 : Nat) (z : Int) (f : Nat) (A1) (c1 : Nat) (l1 : List i6) (B1) (d1 : Nat) (a1 : List i6) (Z1) (e1 : Nat) (b1 : List i6) (A2) (c2 : Nat) (l2 : List i6) (B2) (d2 : Nat) (a2 : List i6) (Z2) (e2 : Nat) (b2 : List i6) (X : Option (List (List UInt8))) (w0) (h1 : Ro w0 [] (Blk q1 3 [iI z])) (h2 : Ro w0 [] (Blk q2 40 [uI f])) (h3 : Ro w0 [] (Blk q3 46 (vl (.agg #[sL A1 l1.length c1, sL B1 a1.length d1, sL Z1 b1.length e1])))) (h4 : Ro w0 [] (Blk q4 46 (vl (.agg #[sL A2 l2.length c2, sL B2 a2.length d2, sL Z2 b2.length e2])))) (hX : ∀ w, St w0 [] [] w → cP 59 #[iI z, uI f, .agg #[sL A1 l1.length c1, sL B1 a1.length d1, sL Z1 b1.length e1]] w (X8 X)) :
  cP 58 #[.bool true, pZ q1, pZ q2, pZ q3, pZ q4] w0 (X8 X) := by
 cases X with
 | none => exact zf2 q1 q2 q3 q4 z f A1 c1 l1 B1 d1 a1 Z1 e1 b1 A2 c2 l2 B2 d2 a2 Z2 e2 b2 w0 h1 h2 h3 h4 hX
 | some a => exact zf3 q1 q2 q3 q4 z f A1 c1 l1 B1 d1 a1 Z1 e1 b1 A2 c2 l2 B2 d2 a2 Z2 e2 b2 a w0 h1 h2 h3 h4 hX
theorem zcY (b4 b5 b6 b7 : Nat) (z : Int) (f : Nat) (hf64 : f < 18446744073709551616) (A1) (c1 : Nat) (l1 : List i6) (B1) (d1 : Nat) (a1 : List i6) (Z1) (e1 : Nat) (b1 : List i6) (A2) (c2 : Nat) (l2 : List i6) (B2) (d2 : Nat) (a2 : List i6) (Z2) (e2 : Nat) (b2 : List i6) (hc1 : l1.length ≤ c1) (hm1 : c1 ≤ maxLen) (hd1 : a1.length ≤ d1) (he1 : b1.length ≤ e1) (hc2 : l2.length ≤ c2) (hm2 : c2 ≤ maxLen) (hd2 : a2.length ≤ d2) (he2 : b2.length ≤ e2) (w0) (hR1 : Ro w0 [] (SlA A1 (m9 l1))) (hL1 : Ro w0 [] (SlA B1 (m9 a1))) (hZ1 : Ro w0 [] (SlA Z1 (m9 b1))) (hR2 : Ro w0 [] (SlA A2 (m9 l2))) (hL2 : Ro w0 [] (SlA B2 (m9 a2))) (hZ2 : Ro w0 [] (SlA Z2 (m9 b2))) (hT : Tabs 3 1 w0 []) (k4 : Ro w0 [] (Blk b4 3 [iI z])) (k5 : Ro w0 [] (Blk b5 40 [uI f])) (k6 : Ro w0 [] (Blk b6 46 (vl (.agg #[sL A1 l1.length c1, sL B1 a1.length d1, sL Z1 b1.length e1])))) (k7 : Ro w0 [] (Blk b7 46 (vl (.agg #[sL A2 l2.length c2, sL B2 a2.length d2, sL Z2 b2.length e2])))) :
  ∀ w, St w0 [] [] w → cP 58 ((([.bool true] : List Value) ++ (#[pZ b4, pZ b5, pZ b6, pZ b7] : Array Value).toList).toArray) w (X8 (L6 z f l1 a1 b1)) := fun w s =>
 zf1 b4 b5 b6 b7 z f A1 c1 l1 B1 d1 a1 Z1 e1 b1 A2 c2 l2 B2 d2 a2 Z2 e2 b2 (L6 z f l1 a1 b1) w (k4.go s nb) (k5.go s nb) (k6.go s nb) (k7.go s nb) (fun w2 s2 => EV z f hf64 A1 c1 l1 B1 d1 a1 Z1 e1 b1 hc1 hm1 hd1 he1 w2 ((hR1.go s nb).go s2 nb) ((hL1.go s nb).go s2 nb) ((hZ1.go s nb).go s2 nb) ((hT.of_go s nb).of_go s2 nb))
theorem zeg (q1 q2 q3 q4 : Nat) (z : Int) (f : Nat) (A1) (c1 : Nat) (l1 : List i6) (B1) (d1 : Nat) (a1 : List i6) (Z1) (e1 : Nat) (b1 : List i6) (A2) (c2 : Nat) (l2 : List i6) (B2) (d2 : Nat) (a2 : List i6) (Z2) (e2 : Nat) (b2 : List i6) (w0) (h1 : Ro w0 [] (Blk q1 3 [iI z])) (h2 : Ro w0 [] (Blk q2 40 [uI f])) (h3 : Ro w0 [] (Blk q3 46 (vl (.agg #[sL A1 l1.length c1, sL B1 a1.length d1, sL Z1 b1.length e1])))) (h4 : Ro w0 [] (Blk q4 46 (vl (.agg #[sL A2 l2.length c2, sL B2 a2.length d2, sL Z2 b2.length e2])))) (hX : ∀ w, St w0 [] [] w → cP 59 #[iI z, uI f, .agg #[sL A2 l2.length c2, sL B2 a2.length d2, sL Z2 b2.length e2]] w (X8 none)) :
  cP 58 #[.bool false, pZ q1, pZ q2, pZ q3, pZ q4] w0 fun v L => X8 none v L := by
 refine co 17 [.tmp 6, .tmp 7] func58 ?_
 refine gw ?_
 refine dr ([], [6]) (gw ?_)
 refine c6 3 rfl (a8 rfl (i4 (vs := vl (.agg #[sL A1 l1.length c1, sL B1 a1.length d1, sL Z1 b1.length e1])) (c9 h3) rT ce46)) (c6 4 rfl (a8 rfl (i4 (vs := vl (.agg #[sL A2 l2.length c2, sL B2 a2.length d2, sL Z2 b2.length e2])) (c9 h4) rT ce46)) (I7 5 rfl en (fun w hw => cQ (sS A1 c1 l1 B1 d1 a1 Z1 e1 b1 A2 c2 l2 B2 d2 a2 Z2 e2 b2 w)) (P5 6 rfl en (fun w hw => hX w (hw.sub sn)) ?_)))
 rintro v L' ⟨k1, rfl, rfl⟩
 refine gw ?_
 refine p7 (a9 (fR ?_))
 exact ⟨k1, rfl, rfl⟩
theorem zeh (q1 q2 q3 q4 : Nat) (z : Int) (f : Nat) (A1) (c1 : Nat) (l1 : List i6) (B1) (d1 : Nat) (a1 : List i6) (Z1) (e1 : Nat) (b1 : List i6) (A2) (c2 : Nat) (l2 : List i6) (B2) (d2 : Nat) (a2 : List i6) (Z2) (e2 : Nat) (b2 : List i6) (a : List (List UInt8)) (w0) (h1 : Ro w0 [] (Blk q1 3 [iI z])) (h2 : Ro w0 [] (Blk q2 40 [uI f])) (h3 : Ro w0 [] (Blk q3 46 (vl (.agg #[sL A1 l1.length c1, sL B1 a1.length d1, sL Z1 b1.length e1])))) (h4 : Ro w0 [] (Blk q4 46 (vl (.agg #[sL A2 l2.length c2, sL B2 a2.length d2, sL Z2 b2.length e2])))) (hX : ∀ w, St w0 [] [] w → cP 59 #[iI z, uI f, .agg #[sL A2 l2.length c2, sL B2 a2.length d2, sL Z2 b2.length e2]] w (X8 (some a))) :
  cP 58 #[.bool false, pZ q1, pZ q2, pZ q3, pZ q4] w0 fun v L => X8 (some a) v L := by
 refine co 17 [.tmp 6, .tmp 7] func58 ?_
 refine gw ?_
 refine dr ([], [6]) (gw ?_)
 refine c6 3 rfl (a8 rfl (i4 (vs := vl (.agg #[sL A1 l1.length c1, sL B1 a1.length d1, sL Z1 b1.length e1])) (c9 h3) rT ce46)) (c6 4 rfl (a8 rfl (i4 (vs := vl (.agg #[sL A2 l2.length c2, sL B2 a2.length d2, sL Z2 b2.length e2])) (c9 h4) rT ce46)) (I7 5 rfl en (fun w hw => cQ (sS A1 c1 l1 B1 d1 a1 Z1 e1 b1 A2 c2 l2 B2 d2 a2 Z2 e2 b2 w)) (P5 6 rfl en (fun w hw => hX w (hw.sub sn)) ?_)))
 rintro v L' ⟨O1, d1x, t1, rfl, rfl, e1x, l1x⟩
 refine gw ?_
 refine p7 (a9 (finQ.ret rv sr ?_))
 exact ⟨O1, d1x, t1, rfl, rfl, e1x, l1x⟩
theorem zef (q1 q2 q3 q4 : Nat) (z : Int) (f : Nat) (A1) (c1 : Nat) (l1 : List i6) (B1) (d1 : Nat) (a1 : List i6) (Z1) (e1 : Nat) (b1 : List i6) (A2) (c2 : Nat) (l2 : List i6) (B2) (d2 : Nat) (a2 : List i6) (Z2) (e2 : Nat) (b2 : List i6) (X : Option (List (List UInt8))) (w0) (h1 : Ro w0 [] (Blk q1 3 [iI z])) (h2 : Ro w0 [] (Blk q2 40 [uI f])) (h3 : Ro w0 [] (Blk q3 46 (vl (.agg #[sL A1 l1.length c1, sL B1 a1.length d1, sL Z1 b1.length e1])))) (h4 : Ro w0 [] (Blk q4 46 (vl (.agg #[sL A2 l2.length c2, sL B2 a2.length d2, sL Z2 b2.length e2])))) (hX : ∀ w, St w0 [] [] w → cP 59 #[iI z, uI f, .agg #[sL A2 l2.length c2, sL B2 a2.length d2, sL Z2 b2.length e2]] w (X8 X)) :
  cP 58 #[.bool false, pZ q1, pZ q2, pZ q3, pZ q4] w0 (X8 X) := by
 cases X with
 | none => exact zeg q1 q2 q3 q4 z f A1 c1 l1 B1 d1 a1 Z1 e1 b1 A2 c2 l2 B2 d2 a2 Z2 e2 b2 w0 h1 h2 h3 h4 hX
 | some a => exact zeh q1 q2 q3 q4 z f A1 c1 l1 B1 d1 a1 Z1 e1 b1 A2 c2 l2 B2 d2 a2 Z2 e2 b2 a w0 h1 h2 h3 h4 hX
theorem zbI (b4 b5 b6 b7 : Nat) (z : Int) (f : Nat) (hf64 : f < 18446744073709551616) (A1) (c1 : Nat) (l1 : List i6) (B1) (d1 : Nat) (a1 : List i6) (Z1) (e1 : Nat) (b1 : List i6) (A2) (c2 : Nat) (l2 : List i6) (B2) (d2 : Nat) (a2 : List i6) (Z2) (e2 : Nat) (b2 : List i6) (hc1 : l1.length ≤ c1) (hm1 : c1 ≤ maxLen) (hd1 : a1.length ≤ d1) (he1 : b1.length ≤ e1) (hc2 : l2.length ≤ c2) (hm2 : c2 ≤ maxLen) (hd2 : a2.length ≤ d2) (he2 : b2.length ≤ e2) (w0) (hR1 : Ro w0 [] (SlA A1 (m9 l1))) (hL1 : Ro w0 [] (SlA B1 (m9 a1))) (hZ1 : Ro w0 [] (SlA Z1 (m9 b1))) (hR2 : Ro w0 [] (SlA A2 (m9 l2))) (hL2 : Ro w0 [] (SlA B2 (m9 a2))) (hZ2 : Ro w0 [] (SlA Z2 (m9 b2))) (hT : Tabs 3 1 w0 []) (k4 : Ro w0 [] (Blk b4 3 [iI z])) (k5 : Ro w0 [] (Blk b5 40 [uI f])) (k6 : Ro w0 [] (Blk b6 46 (vl (.agg #[sL A1 l1.length c1, sL B1 a1.length d1, sL Z1 b1.length e1])))) (k7 : Ro w0 [] (Blk b7 46 (vl (.agg #[sL A2 l2.length c2, sL B2 a2.length d2, sL Z2 b2.length e2])))) :
  ∀ w, St w0 [] [] w → cP 58 ((([.bool false] : List Value) ++ (#[pZ b4, pZ b5, pZ b6, pZ b7] : Array Value).toList).toArray) w (X8 (L6 z f l2 a2 b2)) := fun w s =>
 zef b4 b5 b6 b7 z f A1 c1 l1 B1 d1 a1 Z1 e1 b1 A2 c2 l2 B2 d2 a2 Z2 e2 b2 (L6 z f l2 a2 b2) w (k4.go s nb) (k5.go s nb) (k6.go s nb) (k7.go s nb) (fun w2 s2 => EV z f hf64 A2 c2 l2 B2 d2 a2 Z2 e2 b2 hc2 hm2 hd2 he2 w2 ((hR2.go s nb).go s2 nb) ((hL2.go s nb).go s2 nb) ((hZ2.go s nb).go s2 nb) ((hT.of_go s nb).of_go s2 nb))
theorem za1 (z : Int) (f : Nat) (hf64 : f < 18446744073709551616) (A1) (c1 : Nat) (l1 : List i6) (B1) (d1 : Nat) (a1 : List i6) (Z1) (e1 : Nat) (b1 : List i6) (A2) (c2 : Nat) (l2 : List i6) (B2) (d2 : Nat) (a2 : List i6) (Z2) (e2 : Nat) (b2 : List i6) (hc1 : l1.length ≤ c1) (hm1 : c1 ≤ maxLen) (hd1 : a1.length ≤ d1) (he1 : b1.length ≤ e1) (hc2 : l2.length ≤ c2) (hm2 : c2 ≤ maxLen) (hd2 : a2.length ≤ d2) (he2 : b2.length ≤ e2) (hne : l1.length ≠ l2.length) (w0) :
  cP 17 #[iI z, uI f, .agg #[sL A1 l1.length c1, sL B1 a1.length d1, sL Z1 b1.length e1], .agg #[sL A2 l2.length c2, sL B2 a2.length d2, sL Z2 b2.length e2]] w0 fun v L => v = sL none 0 0 ∧ L = [] := by
 refine co 18 [.tmp 8] func17 ?_
 refine gw ?_
 intro b4
 refine gw ?_
 intro b5
 refine gw ?_
 intro b6
 refine gw ?_
 intro b7
 refine gw ?_
 refine e6 (Qt.dT (C7 rfl rfl) (hne)) (gw ?_)
 exact tR
theorem zbH (z : Int) (f : Nat) (hf64 : f < 18446744073709551616) (A1) (c1 : Nat) (l1 : List i6) (B1) (d1 : Nat) (a1 : List i6) (Z1) (e1 : Nat) (b1 : List i6) (A2) (c2 : Nat) (l2 : List i6) (B2) (d2 : Nat) (a2 : List i6) (Z2) (e2 : Nat) (b2 : List i6) (hc1 : l1.length ≤ c1) (hm1 : c1 ≤ maxLen) (hd1 : a1.length ≤ d1) (he1 : b1.length ≤ e1) (hc2 : l2.length ≤ c2) (hm2 : c2 ≤ maxLen) (hd2 : a2.length ≤ d2) (he2 : b2.length ≤ e2) (heq : l1.length = l2.length) (w0) (hR1 : Ro w0 [] (SlA A1 (m9 l1))) (hL1 : Ro w0 [] (SlA B1 (m9 a1))) (hZ1 : Ro w0 [] (SlA Z1 (m9 b1))) (hR2 : Ro w0 [] (SlA A2 (m9 l2))) (hL2 : Ro w0 [] (SlA B2 (m9 a2))) (hZ2 : Ro w0 [] (SlA Z2 (m9 b2))) (hT : Tabs 3 1 w0 []) :
  cP 17 #[iI z, uI f, .agg #[sL A1 l1.length c1, sL B1 a1.length d1, sL Z1 b1.length e1], .agg #[sL A2 l2.length c2, sL B2 a2.length d2, sL Z2 b2.length e2]] w0 fun v L => fF 114 (D4 (L6 z f l1 a1 b1) (L6 z f l2 a2 b2)) v L := by
 refine co 18 [.tmp 8] func17 ?_
 refine gw ?_
 intro b4
 refine gw ?_
 intro b5
 refine gw ?_
 intro b6
 refine gw ?_
 intro b7
 refine gw ?_
 refine e6 (Qt.dF (C7 rfl rfl) (fun e => e heq)) (gw ?_)
 refine e6 (E9 (fs := []) (cs := [pZ b4, pZ b5, pZ b6, pZ b7]) rfl rfl) (z9 en (fun w hw => BH 58 #[pZ b4, pZ b5, pZ b6, pZ b7] en (L6 z f l1 a1 b1) (L6 z f l2 a2 b2) w (zcY b4 b5 b6 b7 z f hf64 A1 c1 l1 B1 d1 a1 Z1 e1 b1 A2 c2 l2 B2 d2 a2 Z2 e2 b2 hc1 hm1 hd1 he1 hc2 hm2 hd2 he2 w (Rd.ro hR1 w hw) (Rd.ro hL1 w hw) (Rd.ro hZ1 w hw) (Rd.ro hR2 w hw) (Rd.ro hL2 w hw) (Rd.ro hZ2 w hw) (hT.at hw) (Rd.at 3 rfl w hw) (Rd.at 2 rfl w hw) (Rd.at 1 rfl w hw) (Rd.at 0 rfl w hw)) (zbI b4 b5 b6 b7 z f hf64 A1 c1 l1 B1 d1 a1 Z1 e1 b1 A2 c2 l2 B2 d2 a2 Z2 e2 b2 hc1 hm1 hd1 he1 hc2 hm2 hd2 he2 w (Rd.ro hR1 w hw) (Rd.ro hL1 w hw) (Rd.ro hZ1 w hw) (Rd.ro hR2 w hw) (Rd.ro hL2 w hw) (Rd.ro hZ2 w hw) (hT.at hw) (Rd.at 3 rfl w hw) (Rd.at 2 rfl w hw) (Rd.at 1 rfl w hw) (Rd.at 0 rfl w hw))) ?_)
 rintro v L' ⟨O, d, pp, Ls, rfl, rfl, q1, q2, q3⟩
 refine gw ?_
 refine a9 (D7 (sx [0, 0]) ?_)
 exact ⟨O, d, pp, Ls, rfl, rfl, q1, q2, q3⟩
theorem AG (z : Int) (f : Nat) (hf64 : f < 18446744073709551616) (A1) (c1 : Nat) (l1 : List i6) (B1) (d1 : Nat) (a1 : List i6) (Z1) (e1 : Nat) (b1 : List i6) (A2) (c2 : Nat) (l2 : List i6) (B2) (d2 : Nat) (a2 : List i6) (Z2) (e2 : Nat) (b2 : List i6) (hc1 : l1.length ≤ c1) (hm1 : c1 ≤ maxLen) (hd1 : a1.length ≤ d1) (he1 : b1.length ≤ e1) (hc2 : l2.length ≤ c2) (hm2 : c2 ≤ maxLen) (hd2 : a2.length ≤ d2) (he2 : b2.length ≤ e2) (w0) (hR1 : Ro w0 [] (SlA A1 (m9 l1))) (hL1 : Ro w0 [] (SlA B1 (m9 a1))) (hZ1 : Ro w0 [] (SlA Z1 (m9 b1))) (hR2 : Ro w0 [] (SlA A2 (m9 l2))) (hL2 : Ro w0 [] (SlA B2 (m9 a2))) (hZ2 : Ro w0 [] (SlA Z2 (m9 b2))) (hT : Tabs 3 1 w0 []) : cP 17 #[iI z, uI f, .agg #[sL A1 l1.length c1, sL B1 a1.length d1, sL Z1 b1.length e1], .agg #[sL A2 l2.length c2, sL B2 a2.length d2, sL Z2 b2.length e2]] w0 fun v L => fF 114 (if l1.length = l2.length then D4 (L6 z f l1 a1 b1) (L6 z f l2 a2 b2) else []) v L := by
 by_cases heq : l1.length = l2.length
 ·rw [if_pos heq]; exact zbH z f hf64 A1 c1 l1 B1 d1 a1 Z1 e1 b1 A2 c2 l2 B2 d2 a2 Z2 e2 b2 hc1 hm1 hd1 he1 hc2 hm2 hd2 he2 heq w0 hR1 hL1 hZ1 hR2 hL2 hZ2 hT
 ·rw [if_neg heq]
  exact (za1 z f hf64 A1 c1 l1 B1 d1 a1 Z1 e1 b1 A2 c2 l2 B2 d2 a2 Z2 e2 b2 hc1 hm1 hd1 he1 hc2 hm2 hd2 he2 heq w0).mono fun e w' ⟨v, L', h1, h2, h3, h4⟩ => ⟨v, [OwnA 114 2 none 0 0 [], C1 []], h1, by subst h4; exact (St.many.2 h2).ownNil 114 2, none, 0, [], [], h3, rfl, rfl, Nat.zero_le _, fun p hp => by cases hp⟩
theorem bld43 (A : y8) (n c : Nat) (B : y8) (m d : Nat) (w : World) : (Instr.build 43 #[(0, .slice A n c), (1, .slice B m d)]).run prog w = .ok (.agg #[.slice A n c, .slice B m d]) w := by kernel_rfl
theorem bld46 (A : y8) (n c : Nat) (B : y8) (m d : Nat) (Z : y8) (k e : Nat) (w : World) : (Instr.build 46 #[(0, .slice A n c), (1, .agg #[.slice B m d, .slice Z k e])]).run prog w = .ok (.agg #[.slice A n c, .slice B m d, .slice Z k e]) w := by kernel_rfl
theorem St.many_two {w0 w : World} {M : List Nat} {A : Assn} {L1 L2 : List Assn} (h : St w0 M [A, C1 L1, C1 L2] w) : St w0 M [A, C1 (L1 ++ L2)] w := by
 have h1 : St w0 M (C1 L1 :: C1 L2 :: [A]) w := h.perm (List.Perm.trans (List.Perm.swap ..) (pc (List.Perm.swap ..)))
 have h2 := St.many.1 h1
 have h3 : St w0 M (C1 L2 :: (L1 ++ [A])) w := h2.perm List.perm_middle
 have h4 := St.many.1 h3
 have h5 : St w0 M ((L1 ++ L2) ++ [A]) w := h4.perm (by rw [← List.append_assoc]; exact List.Perm.append_right _ List.perm_append_comm)
 exact (St.many.2 h5).perm (List.Perm.swap ..)
theorem HG {T : TypeId} {E1 E2 : List Pr} {P : Program} {f : FuncId} {args : Array Value} {w0 : World} (h : Calls P f args w0 (D0 w0 [] fun v L => ∃ (O : y8) (d : Nat) (ps qs : List Px) (Ls Ms : List Assn), v = sL O (ps.length + qs.length) d ∧ L = [OwnA T 2 O (ps.length + qs.length) d (ps.flatMap aZ ++ qs.flatMap aZ), C1 Ls, C1 Ms] ∧ ps.map N9 = E1 ∧ qs.map N9 = E2 ∧ ps.length + qs.length ≤ 16384 ∧ (∀ p ∈ ps, u3 p.1 ∈ Ls ∧ u3 p.2 ∈ Ls) ∧ ∀ p ∈ qs, u3 p.1 ∈ Ms ∧ u3 p.2 ∈ Ms)) : Calls P f args w0 (D0 w0 [] fun v L => fF T (E1 ++ E2) v L) :=
 h.mono fun e w ⟨v, L, h1, h2, O, d, ps, qs, Ls, Ms, h3, h4, h5, h6, h7, h8, h9⟩ => ⟨v, [OwnA T 2 O (ps ++ qs).length d ((ps ++ qs).flatMap aZ), C1 (Ls ++ Ms)], h1, by subst h4; rw [List.length_append, List.flatMap_append]; exact St.many_two h2, O, d, ps ++ qs, Ls ++ Ms, by rw [h3, List.length_append], rfl, by rw [List.map_append, h5, h6], by rw [List.length_append]; exact h7, fun p hp => (List.mem_append.1 hp).elim (fun k => ⟨List.mem_append.2 (.inl (h8 p k).1), List.mem_append.2 (.inl (h8 p k).2)⟩) (fun k => ⟨List.mem_append.2 (.inr (h9 p k).1), List.mem_append.2 (.inr (h9 p k).2)⟩)⟩
theorem wW (ps : List Px) : ∀ u ∈ ps.flatMap aZ, u.oneCell' = true := fun u hu => by
 obtain ⟨p, _, h⟩ := List.mem_flatMap.1 hu
 rcases List.mem_cons.1 h with rfl | h
 ·rfl
 ·rw [List.mem_singleton.1 h]; rfl
theorem wV (ps : List Px) : (ps.flatMap aZ).length = ps.length * 2 := by
 induction ps with
 | nil => rfl
 | cons p ps ih => rw [List.flatMap_cons, List.length_append, ih, List.length_cons]; show 2 + ps.length * 2 = _; omega
theorem DB (q : ReqA) (hk : ¬ q.kind = 1) (hk2 : q.kind = 2) (n : Nat) (hn : q.many = (n : Int)) (h1 : 1 ≤ n) (h2 : n ≤ 256) (hf : q.first + n ≤ 2 ^ 32) (xs : List Nat) (hx : xs = (List.range n).map (q.first + ·)) (w0) : cP 79 #[.agg q.rq.toArray] w0 fun v L => ∃ O d, v = sL O xs.length d ∧ L = [OwnA 40 1 O xs.length d (w6 xs)] := by
 have h := zcd q hk hk2 n hn h1 h2 hf w0
 have e : xs.length = n := by rw [hx, List.length_map, List.length_range]
 rw [e, hx]; exact h
theorem zbw (E : Nat → i6) (qb n sm tb mb : Nat) (Y : Sm) (ms : Tm) (hon : fE n) (q : ReqA) (p : RepA) (hk : q.kind = 1) (hi : idxOk (s7 n) q.xs) (hl : p.its.length = q.xs.length) (he : p.err = 0) (w0) (hq : q.Ok w0) (hp : p.Ok w0) (hQ : Ro w0 [] (Blk qb 160 [uI n, .map (some sm), pZ tb])) (hB : Ro w0 [] (Blk tb 243 (q7 E (s7 n) mb))) (hM : Ro w0 [] (u6 mb p6 hv ms)) (hSm : Ro w0 [] (u6 sm Q9 sv Y)) (hT : Tabs 3 1 w0 []) :
  cP 32 #[pZ qb, .agg q.rq.toArray, .agg p.rs.toArray] w0 fun v L => ∃ (O : y8) (d : Nat) (ps qs : List Px) (Ls Ms : List Assn), v = sL O (ps.length + qs.length) d ∧ L = [OwnA 114 2 O (ps.length + qs.length) d (ps.flatMap aZ ++ qs.flatMap aZ), C1 Ls, C1 Ms] ∧ ps.map N9 = (D4 (I3 (s7 n : Int) q.xs (q.xs.map (fun x => s4 E ms (0, x))) ((l7 (s7 n) q.xs 0).map (fun a => s4 E ms a))) (I3 (s7 n : Int) q.xs (M8 q.xs p.its q.xs.length) p.pb)) ∧ qs.map N9 = (D4 (M6 q.xs (q.xs.map (Z0 Y))) (M6 q.xs p.its)) ∧ ps.length + qs.length ≤ 16384 ∧ (∀ p ∈ ps, u3 p.1 ∈ Ls ∧ u3 p.2 ∈ Ls) ∧ ∀ p ∈ qs, u3 p.1 ∈ Ms ∧ u3 p.2 ∈ Ms := by
 refine co 132 [.tmp 6] func32 ?_
 have hh := aL hon
 refine gw ?_
 intro b4
 refine gw ?_
 intro b5
 refine gw ?_
 refine e6 (a8 rfl (i4 (vs := q.rq) N3 rT (by rw [q.len]; exact ce63))) (u7 en (fun w hw => cQ (rO q hk w)) (gw ?_))
 refine E8 rfl rfl rfl (a8 rfl (i9 (v := iI p.err) w5 oT (p.k2))) (E8 rfl rfl rfl (Qt.dF (dG rfl rfl) (fun e => e he)) (gw ?_))
 refine aK en (fun w hw => M4 E tb mb (s7 n) w (Rd.ro hB w hw)) (gw ?_)
 refine aK en (fun w hw => aD (s7 n) hh q.A q.c q.xs hi w hq.low (Rd.ro hq.ro w hw)) (gw ?_)
 refine E8 rfl rfl rfl (a8 rfl (i9 (v := sL p.I p.its.length p.i) w5 oT (p.k3))) (gw ?_)
 refine E8 rfl rfl rfl (Qt.dF (C7 rfl rfl) (fun e => e hl)) (gw ?_)
 refine e6 (a8 rfl (i9 (v := sL p.I p.its.length p.i) w5 oT (p.k3))) (z9 en (fun w hw => mH q.A q.c q.xs p.I p.i p.its (by have := hi.2.1; omega) hl (fun y hy => Nat.lt_of_lt_of_le (hi.low y hy) (Nat.pow_le_pow_right dc hh)) w hq.low (Rd.ro hq.ro w hw) (Rd.ro hp.roi w hw) (hT.at hw)) ?_)
 rintro v L' ⟨O1, d1, rfl, rfl⟩
 refine gw ?_
 refine z9 en (fun w hw => gN E tb mb (s7 n) ms hh q.A q.c q.xs hi w (Rd.ro hB w hw) (Rd.ro hM w hw) hq.low (Rd.ro hq.ro w hw)) ?_
 rintro v L' ⟨O2, d2, rfl, rfl⟩
 refine gw ?_
 refine e6 (a8 rfl (i9 (v := iI q.kind) tV oT (q.k1))) (e6 (Qt.dT (I5 rfl rfl) (hk)) (gw ?_))
 refine z9 en (fun w hw => sD E tb mb (s7 n) ms hh q.A q.c q.xs hq.cap hi w (Rd.ro hB w hw) (Rd.ro hM w hw) hq.low (Rd.ro hq.ro w hw)) ?_
 rintro v L' ⟨O3, d3, rfl, rfl⟩
 refine gw ?_
 refine dw ([], [13]) (gw ?_)
 refine I7 4 rfl en (fun w hw => M4 E tb mb (s7 n) w (Rd.ro hB w hw)) (gw ?_)
 refine c6 8 rfl (A5 (a := sL O2 q.xs.length d2) (b := sL O3 (l7 (s7 n) q.xs 0).length d3) rfl rfl (build47 _ _ _ _ _ _)) (gw ?_)
 refine c6 11 rfl (a8 rfl (i9 (v := sL p.Q p.pb.length p.q) tV oT (p.k28))) (c6 12 rfl (A5 (a := sL O1 q.xs.length d1) (b := sL p.Q p.pb.length p.q) rfl rfl (build47 _ _ _ _ _ _)) (P5 13 rfl en (fun w hw => (by have k := jF (s7 n : Int) q.A q.c q.xs hq.cap O2 d2 (q.xs.map (fun x => s4 E ms (0, x))) O3 d3 ((l7 (s7 n) q.xs 0).map (fun a => s4 E ms a)) O1 d1 (M8 q.xs p.its q.xs.length) p.Q p.q p.pb (by rw [List.length_map]; exact (H2 (hw.ok (List.mem_of_getElem? (i := 1) rfl))).1) (by rw [List.length_map]; exact (H2 (hw.ok (List.mem_of_getElem? (i := 0) rfl))).1) (by rw [U7]; exact (H2 (hw.ok (List.mem_of_getElem? (i := 2) rfl))).1) hp.capq w hq.low (Rd.ro hq.ro w hw) (Rd.own (Rd.at 1 rfl) w hw) (Rd.own (Rd.at 0 rfl) w hw) (Rd.own (Rd.at 2 rfl) w hw) (Rd.ro hp.roq w hw) (hT.at hw); simp only [List.length_map, U7] at k; exact k : cP 84 #[iI (s7 n : Int), sL q.A q.xs.length q.c, .agg #[sL O2 q.xs.length d2, sL O3 (l7 (s7 n) q.xs 0).length d3], .agg #[sL O1 q.xs.length d1, sL p.Q p.pb.length p.q]] w fun v L => fF 114 (D4 (I3 (s7 n : Int) q.xs (q.xs.map (fun x => s4 E ms (0, x))) ((l7 (s7 n) q.xs 0).map (fun a => s4 E ms a))) (I3 (s7 n : Int) q.xs (M8 q.xs p.its q.xs.length) p.pb)) v L)) ?_))
 rintro v L' ⟨O4, d4, pp, Ls, rfl, rfl, e1, e2, e3⟩
 refine gw ?_
 refine p7 (gw ?_)
 refine D1 ([8], [4, 7]) mixed (sd (sk (sk (sk (sk (sk (sk I8))))))) (gw ?_)
 refine c6 6 rfl (a8 rfl (i9 (v := sL p.I p.its.length p.i) (s6 5 rfl) oT (p.k3))) (P5 4 rfl en (fun w hw => dW qb n sm tb Y q.A q.c q.xs (by have := hi.2.1; omega) w (Rd.ro hQ w hw) (Rd.ro hSm w hw) (Rd.ro hq.ro w hw)) ?_)
 rintro v L' ⟨O7, d7, rfl, rfl⟩
 refine P5 7 rfl en (fun w hw => (by have k := kH q.A q.c q.xs (by have := hi.2.1; omega) O7 d7 (q.xs.map (Z0 Y)) p.I p.i p.its w hq.low (Rd.ro hq.ro w hw) (Rd.own (Rd.at 0 rfl) w hw) (Rd.ro hp.roi w hw); simp only [List.length_map] at k; exact k : cP 9 #[sL q.A q.xs.length q.c, sL O7 q.xs.length d7, sL p.I p.its.length p.i] w fun v L => fF 114 (D4 (M6 q.xs (q.xs.map (Z0 Y))) (M6 q.xs p.its)) v L)) ?_
 rintro v L' ⟨O8, d8, qq, Ls2, rfl, rfl, f1, f2, f3⟩
 refine V5 8 rfl (S9 (news := qq.flatMap aZ) uT elem114 rfl rfl (x8 w5) (wV qq) (wW qq) kx ow (fun O9 d9 => (G0 (gw ?_))))
 refine p7 (a9 (D7 (sx [3, 3, 1]) ?_))
 exact ⟨_, _, pp, qq, Ls, Ls2, rfl, rfl, e1, f1, by have a1 := congrArg List.length e1; have a2 := congrArg List.length f1; rw [List.length_map] at a1 a2; have b1 := zL hh hi.2.1 (q.xs.map (fun x => s4 E ms (0, x))) ((l7 (s7 n) q.xs 0).map (fun a => s4 E ms a)) (M8 q.xs p.its q.xs.length) p.pb; have b2 := eU hi.2.1 (q.xs.map (Z0 Y)) p.its; omega, e3, f3⟩
theorem zbx (E : Nat → i6) (qb n sm tb mb : Nat) (Y : Sm) (ms : Tm) (hon : fE n) (q : ReqA) (p : RepA) (hk : q.kind = 2) (m : Nat) (hn : q.many = (m : Int)) (hm1 : 1 ≤ m) (hm2 : m ≤ 256) (hfm : q.first + m ≤ 2 ^ s7 n) (hf32 : q.first + m ≤ 2 ^ 32) (xs : List Nat) (hxs : xs = (List.range m).map (q.first + ·)) (lw : lW xs) (hi : idxOk (s7 n) xs) (hl : p.its.length = xs.length) (he : p.err = 0) (w0) (hq : q.Ok w0) (hp : p.Ok w0) (hQ : Ro w0 [] (Blk qb 160 [uI n, .map (some sm), pZ tb])) (hB : Ro w0 [] (Blk tb 243 (q7 E (s7 n) mb))) (hM : Ro w0 [] (u6 mb p6 hv ms)) (hSm : Ro w0 [] (u6 sm Q9 sv Y)) (hT : Tabs 3 1 w0 []) :
  cP 32 #[pZ qb, .agg q.rq.toArray, .agg p.rs.toArray] w0 fun v L => ∃ (O : y8) (d : Nat) (ps qs : List Px) (Ls Ms : List Assn), v = sL O (ps.length + qs.length) d ∧ L = [OwnA 114 2 O (ps.length + qs.length) d (ps.flatMap aZ ++ qs.flatMap aZ), C1 Ls, C1 Ms] ∧ ps.map N9 = (if (xs.map (fun x => s4 E ms (0, x))).length = (M8 xs p.its xs.length).length then D4 (L6 (s7 n : Int) q.first (xs.map (fun x => s4 E ms (0, x))) ((l4 q.first (s7 n)).map (fun a => s4 E ms a)) ((j6 (q.first + m - 1) (s7 n)).map (fun a => s4 E ms a))) (L6 (s7 n : Int) q.first (M8 xs p.its xs.length) p.pa p.pb) else []) ∧ qs.map N9 = (D4 (M6 xs (xs.map (Z0 Y))) (M6 xs p.its)) ∧ ps.length + qs.length ≤ 16384 ∧ (∀ p ∈ ps, u3 p.1 ∈ Ls ∧ u3 p.2 ∈ Ls) ∧ ∀ p ∈ qs, u3 p.1 ∈ Ms ∧ u3 p.2 ∈ Ms := by
 refine co 132 [.tmp 6] func32 ?_
 have hh := aL hon
 refine gw ?_
 intro b4
 refine gw ?_
 intro b5
 refine gw ?_
 refine e6 (a8 rfl (i4 (vs := q.rq) N3 rT (by rw [q.len]; exact ce63))) (z9 en (fun w hw => DB q ow hk m hn hm1 hm2 hf32 xs hxs w) ?_)
 rintro v L' ⟨X, x, rfl, rfl⟩
 refine gw ?_
 refine E8 rfl rfl rfl (a8 rfl (i9 (v := iI p.err) N3 oT (p.k2))) (E8 rfl rfl rfl (Qt.dF (dG rfl rfl) (fun e => e he)) (gw ?_))
 refine aK en (fun w hw => M4 E tb mb (s7 n) w (Rd.ro hB w hw)) (gw ?_)
 refine aK en (fun w hw => aD (s7 n) hh X x xs hi w lw (Rd.own (Rd.at 0 rfl) w hw)) (gw ?_)
 refine E8 rfl rfl rfl (a8 rfl (i9 (v := sL p.I p.its.length p.i) N3 oT (p.k3))) (gw ?_)
 refine E8 rfl rfl rfl (Qt.dF (C7 rfl rfl) (fun e => e hl)) (gw ?_)
 refine e6 (a8 rfl (i9 (v := sL p.I p.its.length p.i) N3 oT (p.k3))) (z9 en (fun w hw => mH X x xs p.I p.i p.its (by have := hi.2.1; omega) hl (fun y hy => Nat.lt_of_lt_of_le (hi.low y hy) (Nat.pow_le_pow_right dc hh)) w lw (Rd.own (Rd.at 0 rfl) w hw) (Rd.ro hp.roi w hw) (hT.at hw)) ?_)
 rintro v L' ⟨O1, d1, rfl, rfl⟩
 refine gw ?_
 refine z9 en (fun w hw => gN E tb mb (s7 n) ms hh X x xs hi w (Rd.ro hB w hw) (Rd.ro hM w hw) lw (Rd.own (Rd.at 1 rfl) w hw)) ?_
 rintro v L' ⟨O2, d2, rfl, rfl⟩
 refine gw ?_
 refine e6 (a8 rfl (i9 (v := iI q.kind) (s6 4 rfl) oT (q.k1))) (e6 (Qt.dF (I5 rfl rfl) ow) (gw ?_))
 refine dr ([13], [8, 12]) (gw ?_)
 refine c6 5 rfl (a8 rfl (i9 (v := uI (q.first : Int)) (s6 4 rfl) oT (q.k3))) (c6 6 rfl (x9 uT rfl ce3 rfl) (c6 7 rfl (a8 rfl (i9 (v := iI m) (s6 4 rfl) oT (by rw [← hn]; exact q.k4))) (AZ (k1 := 8) (k2 := 12) sr rfl rfl kr kr rfl rfl rfl rfl ?_ ?_)))
 ·refine (l8 (Pre := []) (R := _) en rfl pr (fun w hw => zJ E tb mb (s7 n) ms q.first m hh hq.lt hfm hm1 hm2 w (Rd.ro hB w hw) (Rd.ro hM w hw)) ?_)
  rintro v L' ⟨Ol, cl, Or, cr, rfl, rfl⟩
  refine G0 (gw ?_)
  refine aO 12 rfl (z4 zT (fun b14 => (G0 ?_)))
  refine F7 13 rfl (j5 (v := .agg #[sL Ol (l4 q.first (s7 n)).length cl, sL Or (j6 (q.first + m - 1) (s7 n)).length cr]) rfl rfl (by exact ce43) (by rfl) (by rfl) (G0 (gw ?_)))
  refine p7 (gw ?_)
  refine dw ([], [17]) (gw ?_)
  refine I7 4 rfl en (fun w hw => M4 E tb mb (s7 n) w (Rd.ro hB w hw)) (gw ?_)
  refine c6 6 rfl (a8 rfl (i9 (v := uI (q.first : Int)) (s6 7 rfl) oT (q.k3))) (gw ?_)
  refine c6 8 rfl (a8 rfl (i4 (vs := [sL Ol (l4 q.first (s7 n)).length cl, sL Or (j6 (q.first + m - 1) (s7 n)).length cr]) w5 rT ce43)) (c6 9 rfl (A5 (a := sL O2 xs.length d2) (b := .agg #[sL Ol (l4 q.first (s7 n)).length cl, sL Or (j6 (q.first + m - 1) (s7 n)).length cr]) rfl rfl (bld46 _ _ _ _ _ _ _ _ _)) (gw ?_))
  refine c6 12 rfl (a8 rfl (i9 (v := sL p.P p.pa.length p.p) (s6 6 rfl) oT (p.k27))) (gw ?_)
  refine c6 14 rfl (a8 rfl (i9 (v := sL p.Q p.pb.length p.q) (s6 6 rfl) oT (p.k28))) (c6 15 rfl (A5 (a := sL p.P p.pa.length p.p) (b := sL p.Q p.pb.length p.q) rfl rfl (bld43 _ _ _ _ _ _)) (c6 16 rfl (A5 (a := sL O1 xs.length d1) (b := .agg #[sL p.P p.pa.length p.p, sL p.Q p.pb.length p.q]) rfl rfl (bld46 _ _ _ _ _ _ _ _ _)) (aO 17 rfl (l8 (Pre := []) (R := _) (⟨_, func17, by kernel_rfl, rfl⟩ : p8 prog 17) rfl pr (fun w hw => (by have k := AG (s7 n : Int) q.first hq.lt O2 d2 (xs.map (fun x => s4 E ms (0, x))) Ol cl ((l4 q.first (s7 n)).map (fun a => s4 E ms a)) Or cr ((j6 (q.first + m - 1) (s7 n)).map (fun a => s4 E ms a)) O1 d1 (M8 xs p.its xs.length) p.P p.p p.pa p.Q p.q p.pb (by rw [List.length_map]; exact (H2 (hw.ok (List.mem_of_getElem? (i := 3) rfl))).1) (H2 (hw.ok (List.mem_of_getElem? (i := 3) rfl))).2.1 (by rw [List.length_map]; exact (H2 (hw.ok (List.mem_of_getElem? (i := 1) rfl))).1) (by rw [List.length_map]; exact (H2 (hw.ok (List.mem_of_getElem? (i := 2) rfl))).1) (by rw [U7]; exact (H2 (hw.ok (List.mem_of_getElem? (i := 4) rfl))).1) (H2 (hw.ok (List.mem_of_getElem? (i := 4) rfl))).2.1 hp.capp hp.capq w (Rd.own (Rd.at 3 rfl) w hw) (Rd.own (Rd.at 1 rfl) w hw) (Rd.own (Rd.at 2 rfl) w hw) (Rd.own (Rd.at 4 rfl) w hw) (Rd.ro hp.rop w hw) (Rd.ro hp.roq w hw) (hT.at hw); simp only [List.length_map, U7] at k; exact (by simp only [List.length_map, U7]; exact k) : cP 17 #[iI (s7 n : Int), uI (q.first : Int), .agg #[sL O2 xs.length d2, sL Ol (l4 q.first (s7 n)).length cl, sL Or (j6 (q.first + m - 1) (s7 n)).length cr], .agg #[sL O1 xs.length d1, sL p.P p.pa.length p.p, sL p.Q p.pb.length p.q]] w fun v L => fF 114 (if (xs.map (fun x => s4 E ms (0, x))).length = (M8 xs p.its xs.length).length then D4 (L6 (s7 n : Int) q.first (xs.map (fun x => s4 E ms (0, x))) ((l4 q.first (s7 n)).map (fun a => s4 E ms a)) ((j6 (q.first + m - 1) (s7 n)).map (fun a => s4 E ms a))) (L6 (s7 n : Int) q.first (M8 xs p.its xs.length) p.pa p.pb) else []) v L)) ?_))))
  rintro v L' ⟨O4, d4, pp, Ls, rfl, rfl, e1, e2, e3⟩
  refine G0 (gw ?_)
  refine p7 (gw ?_)
  refine D1 ([8], [4, 7]) mixed (sd (sk (sk (sk (sk (sk (sk (sk (sk (sk I8)))))))))) (gw ?_)
  refine c6 6 rfl (a8 rfl (i9 (v := sL p.I p.its.length p.i) (s6 8 rfl) oT (p.k3))) (P5 4 rfl en (fun w hw => dW qb n sm tb Y X x xs (by have := hi.2.1; omega) w (Rd.ro hQ w hw) (Rd.ro hSm w hw) (Rd.own (Rd.at 7 rfl) w hw)) ?_)
  rintro v L' ⟨O7, d7, rfl, rfl⟩
  refine P5 7 rfl en (fun w hw => (by have k := kH X x xs (by have := hi.2.1; omega) O7 d7 (xs.map (Z0 Y)) p.I p.i p.its w lw (Rd.own (Rd.at 8 rfl) w hw) (Rd.own (Rd.at 0 rfl) w hw) (Rd.ro hp.roi w hw); simp only [List.length_map] at k; exact k : cP 9 #[sL X xs.length x, sL O7 xs.length d7, sL p.I p.its.length p.i] w fun v L => fF 114 (D4 (M6 xs (xs.map (Z0 Y))) (M6 xs p.its)) v L)) ?_
  rintro v L' ⟨O8, d8, qq, Ls2, rfl, rfl, f1, f2, f3⟩
  refine V5 8 rfl (S9 (news := qq.flatMap aZ) uT elem114 rfl rfl (x8 w5) (wV qq) (wW qq) kx ow (fun O9 d9 => (G0 (gw ?_))))
  refine p7 (a9 (D7 (sx [3, 3, 1]) ?_))
  exact ⟨_, _, pp, qq, Ls, Ls2, rfl, rfl, e1, f1, by have a1 := congrArg List.length e1; have a2 := congrArg List.length f1; rw [List.length_map] at a1 a2; have b1 := rA (z := (s7 n : Int)) (f := q.first) (xs.map (fun x => s4 E ms (0, x))) ((l4 q.first (s7 n)).map (fun a => s4 E ms a)) ((j6 (q.first + m - 1) (s7 n)).map (fun a => s4 E ms a)) (M8 xs p.its xs.length) p.pa p.pb; have b2 := eU hi.2.1 (xs.map (Z0 Y)) p.its; omega, e3, f3⟩
 ·refine (z4 zT (fun b14 => (G0 ?_)))
  refine P5 8 rfl en (fun w hw => zJ E tb mb (s7 n) ms q.first m hh hq.lt hfm hm1 hm2 w (Rd.ro hB w hw) (Rd.ro hM w hw)) ?_
  rintro v L' ⟨Ol, cl, Or, cr, rfl, rfl⟩
  refine gw ?_
  refine F7 13 rfl (K9 (v := .agg #[sL Ol (l4 q.first (s7 n)).length cl, sL Or (j6 (q.first + m - 1) (s7 n)).length cr]) rfl rfl (by exact ce43) (by rfl) (by rfl) (G0 (gw ?_)))
  refine p7 (gw ?_)
  refine dw ([], [17]) (gw ?_)
  refine I7 4 rfl en (fun w hw => M4 E tb mb (s7 n) w (Rd.ro hB w hw)) (gw ?_)
  refine c6 6 rfl (a8 rfl (i9 (v := uI (q.first : Int)) (s6 7 rfl) oT (q.k3))) (gw ?_)
  refine c6 8 rfl (a8 rfl (i4 (vs := [sL Ol (l4 q.first (s7 n)).length cl, sL Or (j6 (q.first + m - 1) (s7 n)).length cr]) aH rT ce43)) (c6 9 rfl (A5 (a := sL O2 xs.length d2) (b := .agg #[sL Ol (l4 q.first (s7 n)).length cl, sL Or (j6 (q.first + m - 1) (s7 n)).length cr]) rfl rfl (bld46 _ _ _ _ _ _ _ _ _)) (gw ?_))
  refine c6 12 rfl (a8 rfl (i9 (v := sL p.P p.pa.length p.p) (s6 6 rfl) oT (p.k27))) (gw ?_)
  refine c6 14 rfl (a8 rfl (i9 (v := sL p.Q p.pb.length p.q) (s6 6 rfl) oT (p.k28))) (c6 15 rfl (A5 (a := sL p.P p.pa.length p.p) (b := sL p.Q p.pb.length p.q) rfl rfl (bld43 _ _ _ _ _ _)) (c6 16 rfl (A5 (a := sL O1 xs.length d1) (b := .agg #[sL p.P p.pa.length p.p, sL p.Q p.pb.length p.q]) rfl rfl (bld46 _ _ _ _ _ _ _ _ _)) (aO 17 rfl (l8 (Pre := []) (R := _) (⟨_, func17, by kernel_rfl, rfl⟩ : p8 prog 17) rfl pr (fun w hw => (by have k := AG (s7 n : Int) q.first hq.lt O2 d2 (xs.map (fun x => s4 E ms (0, x))) Ol cl ((l4 q.first (s7 n)).map (fun a => s4 E ms a)) Or cr ((j6 (q.first + m - 1) (s7 n)).map (fun a => s4 E ms a)) O1 d1 (M8 xs p.its xs.length) p.P p.p p.pa p.Q p.q p.pb (by rw [List.length_map]; exact (H2 (hw.ok (List.mem_of_getElem? (i := 3) rfl))).1) (H2 (hw.ok (List.mem_of_getElem? (i := 3) rfl))).2.1 (by rw [List.length_map]; exact (H2 (hw.ok (List.mem_of_getElem? (i := 0) rfl))).1) (by rw [List.length_map]; exact (H2 (hw.ok (List.mem_of_getElem? (i := 1) rfl))).1) (by rw [U7]; exact (H2 (hw.ok (List.mem_of_getElem? (i := 4) rfl))).1) (H2 (hw.ok (List.mem_of_getElem? (i := 4) rfl))).2.1 hp.capp hp.capq w (Rd.own (Rd.at 3 rfl) w hw) (Rd.own (Rd.at 0 rfl) w hw) (Rd.own (Rd.at 1 rfl) w hw) (Rd.own (Rd.at 4 rfl) w hw) (Rd.ro hp.rop w hw) (Rd.ro hp.roq w hw) (hT.at hw); simp only [List.length_map, U7] at k; exact (by simp only [List.length_map, U7]; exact k) : cP 17 #[iI (s7 n : Int), uI (q.first : Int), .agg #[sL O2 xs.length d2, sL Ol (l4 q.first (s7 n)).length cl, sL Or (j6 (q.first + m - 1) (s7 n)).length cr], .agg #[sL O1 xs.length d1, sL p.P p.pa.length p.p, sL p.Q p.pb.length p.q]] w fun v L => fF 114 (if (xs.map (fun x => s4 E ms (0, x))).length = (M8 xs p.its xs.length).length then D4 (L6 (s7 n : Int) q.first (xs.map (fun x => s4 E ms (0, x))) ((l4 q.first (s7 n)).map (fun a => s4 E ms a)) ((j6 (q.first + m - 1) (s7 n)).map (fun a => s4 E ms a))) (L6 (s7 n : Int) q.first (M8 xs p.its xs.length) p.pa p.pb) else []) v L)) ?_))))
  rintro v L' ⟨O4, d4, pp, Ls, rfl, rfl, e1, e2, e3⟩
  refine G0 (gw ?_)
  refine p7 (gw ?_)
  refine D1 ([8], [4, 7]) mixed (sd (sk (sk (sk (sk (sk (sk (sk (sk (sk I8)))))))))) (gw ?_)
  refine c6 6 rfl (a8 rfl (i9 (v := sL p.I p.its.length p.i) (s6 8 rfl) oT (p.k3))) (P5 4 rfl en (fun w hw => dW qb n sm tb Y X x xs (by have := hi.2.1; omega) w (Rd.ro hQ w hw) (Rd.ro hSm w hw) (Rd.own (Rd.at 7 rfl) w hw)) ?_)
  rintro v L' ⟨O7, d7, rfl, rfl⟩
  refine P5 7 rfl en (fun w hw => (by have k := kH X x xs (by have := hi.2.1; omega) O7 d7 (xs.map (Z0 Y)) p.I p.i p.its w lw (Rd.own (Rd.at 8 rfl) w hw) (Rd.own (Rd.at 0 rfl) w hw) (Rd.ro hp.roi w hw); simp only [List.length_map] at k; exact k : cP 9 #[sL X xs.length x, sL O7 xs.length d7, sL p.I p.its.length p.i] w fun v L => fF 114 (D4 (M6 xs (xs.map (Z0 Y))) (M6 xs p.its)) v L)) ?_
  rintro v L' ⟨O8, d8, qq, Ls2, rfl, rfl, f1, f2, f3⟩
  refine V5 8 rfl (S9 (news := qq.flatMap aZ) uT elem114 rfl rfl (x8 w5) (wV qq) (wW qq) kx ow (fun O9 d9 => (G0 (gw ?_))))
  refine p7 (a9 (D7 (sx [3, 3, 1]) ?_))
  exact ⟨_, _, pp, qq, Ls, Ls2, rfl, rfl, e1, f1, by have a1 := congrArg List.length e1; have a2 := congrArg List.length f1; rw [List.length_map] at a1 a2; have b1 := rA (z := (s7 n : Int)) (f := q.first) (xs.map (fun x => s4 E ms (0, x))) ((l4 q.first (s7 n)).map (fun a => s4 E ms a)) ((j6 (q.first + m - 1) (s7 n)).map (fun a => s4 E ms a)) (M8 xs p.its xs.length) p.pa p.pb; have b2 := eU hi.2.1 (xs.map (Z0 Y)) p.its; omega, e3, f3⟩
theorem zaZ (z : Int) (f : Nat) (hf64 : f < 18446744073709551616) (A) (c : Nat) (ls : List i6) (Bl) (cl : Nat) (left : List i6) (Br) (cr : Nat) (right : List i6) (hz : (V4 z f ls left right).2 ≠ 0) (w0) (hR : Ro w0 [] (SlA A (m9 ls))) (hl : Ro w0 [] (SlA Bl (m9 left))) (hr : Ro w0 [] (SlA Br (m9 right))) (hT : Tabs 2 0 w0 []) :
  cP 61 #[iI z, uI f, sL A ls.length c, sL Bl left.length cl, sL Br right.length cr] w0 fun v L => tN none v L := by
 refine co 95 [.tmp 10, .tmp 11] func61 ?_
 refine gw ?_
 refine u7 en (fun w hw => (by have h := AB z f hf64 A c ls Bl cl left Br cr right w (Rd.ro hR w hw) (Rd.ro hl w hw) (Rd.ro hr w hw) (hT.at hw); exact h : cR 124 #[iI z, uI f, sL A ls.length c, sL Bl left.length cl, sL Br right.length cr] w (.tuple #[hv (V4 z f ls left right).1, iI ↑((V4 z f ls left right).2)]))) (gw ?_)
 intro b12
 refine j9 rfl (W9 _ rfl (gw ?_))
 refine e6 (Qt.dT (C7 (b := 0) rfl rfl) (hz)) (gw ?_)
 exact tR
theorem zbD (h f : Nat) (hh : h ≤ 32) (hf64 : f < 18446744073709551616) (A) (c : Nat) (ls : List i6) (Bl) (cl : Nat) (left : List i6) (Br) (cr : Nat) (right : List i6) (h2 : ls.length ≤ 256) (ctx : RowCtx f ls.length h ls left right) (hz : (V4 (h : Int) f ls left right).2 = 0) (w0) (hR : Ro w0 [] (SlA A (m9 ls))) (hl : Ro w0 [] (SlA Bl (m9 left))) (hr : Ro w0 [] (SlA Br (m9 right))) (hT : Tabs 2 0 w0 []) :
  cP 61 #[iI h, uI f, sL A ls.length c, sL Bl left.length cl, sL Br right.length cr] w0 fun v L => tN (some (aR f ls.length h ls left right h)) v L := by
 refine co 95 [.tmp 10, .tmp 11] func61 ?_
 have hpw : 2 ^ h ≤ 4294967296 := (show 2 ^ h ≤ 2 ^ 32 from Nat.pow_le_pow_right dc hh)
 have h1 := ctx.n1
 have hfit := ctx.fit
 refine gw ?_
 refine u7 en (fun w hw => (by have hq := AB (h : Int) f hf64 A c ls Bl cl left Br cr right w (Rd.ro hR w hw) (Rd.ro hl w hw) (Rd.ro hr w hw) (hT.at hw); rw [hz] at hq; exact hq : cR 124 #[iI h, uI f, sL A ls.length c, sL Bl left.length cl, sL Br right.length cr] w (.tuple #[hv (V4 (h : Int) f ls left right).1, iI (0 : Nat)]))) (gw ?_)
 intro b12
 refine j9 rfl (W9 _ rfl (gw ?_))
 refine e6 (Qt.dF (C7 (b := 0) rfl rfl) (fun h => h rfl)) (gw ?_)
 refine z9 en (fun w hw => gC h f ls.length hh hfit h1 h2 w) ?_
 rintro v L' ⟨A1, e1, A2, e2, rfl, rfl⟩
 refine gw ?_
 refine e6 (r8 uT uT rfl km) (e6 (v4 rfl rfl km) (e6 (o7 (b := 1) rfl rfl ow km) (gw ?_)))
 refine m6 112 1 (x3 ?_)
 refine l5 (γ := Nat × y8 × List Tx × Nat) (mr 47 47 (mr 17 5 [])) (fun g => [(18, iI ↑(g.1 + 1)), (17, sL g.2.1 g.2.2.1.length g.2.2.2)]) (fun g => [OwnA 112 1 g.2.1 (g.2.2.1).length g.2.2.2 ((g.2.2.1).flatMap aI), C1 ((g.2.2.1).map u3), OwnA 265 2 A1 (l4 f h).length e1 (iQ (l4 f h)), OwnA 265 2 A2 (j6 (f + ls.length - 1) h).length e2 (iQ (j6 (f + ls.length - 1) h)), Blk b12 49 (L8 (V4 (h : Int) f ls left right).1)]) (fun g => g.1 ≤ h ∧ g.2.2.1.map (fun t => t.2.2) = (aR f ls.length h ls left right g.1)) (fun g => h - g.1) ((0, none, [], 0))
  ⟨Nat.zero_le _, rfl⟩ oa sp ?_
 rintro ⟨k, O, tt, d⟩ u ⟨hk, htt⟩
 dsimp only at hk htt
 refine gw ?_
 refine j0 rfl rfl (bM rfl rfl) (fun h49 => gw ?_) (fun h49 => gw ?_)
 ·refine e6 (r8 uT uT rfl km) (e6 (G5 rfl rfl km) (gw ?_))
  refine l5 (γ := Nat × y8 × List Tx × Nat) (mr 56 38 [17, 19, 20, 21]) (fun g => [(19, uI (f / 2 ^ (k + 1) + g.1 : Nat)), (17, sL g.2.1 g.2.2.1.length g.2.2.2)]) (fun g => [OwnA 112 1 g.2.1 (g.2.2.1).length g.2.2.2 ((g.2.2.1).flatMap aI), C1 ((g.2.2.1).map u3), OwnA 265 2 A1 (l4 f h).length e1 (iQ (l4 f h)), OwnA 265 2 A2 (j6 (f + ls.length - 1) h).length e2 (iQ (j6 (f + ls.length - 1) h)), Blk b12 49 (L8 (V4 (h : Int) f ls left right).1)]) (fun g => g.1 ≤ (f + ls.length - 1) / 2 ^ (k + 1) + 1 - f / 2 ^ (k + 1) ∧ g.2.2.1.map (fun t => t.2.2) = (aR f ls.length h ls left right k) ++ sX f ls.length h ls left right k g.1) (fun g => (f + ls.length - 1) / 2 ^ (k + 1) + 1 - f / 2 ^ (k + 1) - g.1) ((0, O, tt, d))
   ⟨Nat.zero_le _, by rw [htt]; exact (List.append_nil _).symm⟩ oa sr ?_
  rintro ⟨i, O, tt, d⟩ u ⟨hi2, htt2⟩
  dsimp only at hi2 htt2
  have hcnt := zel ctx h2 hh (show k < h by omega) hi2 htt2
  have hsb : f / 2 ^ (k + 1) + i ≤ (f + ls.length - 1) / 2 ^ (k + 1) → f / 2 ^ (k + 1) + i < 4294967296 := fun q => Nat.lt_of_lt_of_le (zek ctx q) hpw
  refine gw ?_
  refine e6 (r8 uT uT rfl km) (e6 (G5 rfl rfl km) (j0 rfl rfl (bM rfl rfl) (fun h61 => ?_) (fun h61 => ?_)))
  ·have hsb2 := hsb h61
   refine gw ?_
   refine e6 (n8 (v' := iI k) (o7 (b := 1) rfl rfl ow km) (by rw [Nat.add_sub_cancel])) (gw ?_)
   refine e6 (F3 (a := 2) rfl rfl km) (gw ?_)
   refine u7 en (fun w hw => (by have q := lT h hh f A c ls A1 e1 A2 e2 Bl cl left Br cr right ctx h2 k ow (2 * (f / 2 ^ (k + 1) + i)) w (HN ctx (show k < h by omega) h61).1 (xL ctx (show k < h by omega) h61).1 (Rd.ro hR w hw) (Rd.own (Rd.at 2 rfl) w hw) (Rd.own (Rd.at 3 rfl) w hw) (Rd.ro hl w hw) (Rd.ro hr w hw) (hT.at hw); rw [(EZ ctx (show k < h by omega) h61).1] at q; exact q : cR 125 #[iI k, uI (2 * (f / 2 ^ (k + 1) + i) : Nat), uI f, sL A ls.length c, sL A1 (l4 f h).length e1, sL A2 (j6 (f + ls.length - 1) h).length e2, sL Bl left.length cl, sL Br right.length cr] w (hv ((x4 f ls.length h ls left right k).getD (2 * i) e7)))) (gw ?_)
   intro b20
   refine j9 rfl (W9 (((x4 f ls.length h ls left right k).getD (2 * i) e7)) rfl (gw ?_))
   refine e6 (n8 (v' := iI k) (o7 (b := 1) rfl rfl ow km) (by rw [Nat.add_sub_cancel])) (gw ?_)
   refine e6 (F3 (a := 2) rfl rfl km) (gw ?_)
   refine u7 en (fun w hw => (by have q := lT h hh f A c ls A1 e1 A2 e2 Bl cl left Br cr right ctx h2 k ow (2 * (f / 2 ^ (k + 1) + i) + 1) w (HN ctx (show k < h by omega) h61).2 (xL ctx (show k < h by omega) h61).2 (Rd.ro hR w hw) (Rd.own (Rd.at 3 rfl) w hw) (Rd.own (Rd.at 4 rfl) w hw) (Rd.ro hl w hw) (Rd.ro hr w hw) (hT.at hw); rw [(EZ ctx (show k < h by omega) h61).2] at q; exact q : cR 125 #[iI k, uI (2 * (f / 2 ^ (k + 1) + i) + 1 : Nat), uI f, sL A ls.length c, sL A1 (l4 f h).length e1, sL A2 (j6 (f + ls.length - 1) h).length e2, sL Bl left.length cl, sL Br right.length cr] w (hv ((x4 f ls.length h ls left right k).getD (2 * i + 1) e7)))) (gw ?_)
   intro b21
   refine j9 rfl (W9 (((x4 f ls.length h ls left right k).getD (2 * i + 1) e7)) rfl (gw ?_))
   refine z9 en (fun w hw => Z5 (k + 1) ow ((x4 f ls.length h ls left right k).getD (2 * i) e7) ((x4 f ls.length h ls left right k).getD (2 * i + 1) e7) w) ?_
   rintro v L' ⟨Oj, dj, rfl, rfl⟩
   refine T4 (pc pm3) (z7 (m5 (v := sL Oj (x5 (k + 1) ((x4 f ls.length h ls left right k).getD (2 * i) e7) ((x4 f ls.length h ls left right k).getD (2 * i + 1) e7)).length dj) uT elem112 dc rfl rfl (fun g92 => (z7 (jV (news := [sL Oj (x5 (k + 1) ((x4 f ls.length h ls left right k).getD (2 * i) e7) ((x4 f ls.length h ls left right k).getD (2 * i + 1) e7)).length dj]) uT elem112 rfl rfl (j8 (cs := [sL Oj (x5 (k + 1) ((x4 f ls.length h ls left right k).getD (2 * i) e7) ((x4 f ls.length h ls left right k).getD (2 * i + 1) e7)).length dj]) w5) rfl (by intro u hu; rw [List.mem_singleton.1 hu]; rfl) kx (by show (tt.length + 1) * 24 ≤ 140737488355328; omega) (fun O3 d3 => (gw ?_)))))))
   refine ⟨(i + 1, O3, tt ++ [(Oj, dj, x5 (k + 1) ((x4 f ls.length h ls left right k).getD (2 * i) e7) ((x4 f ls.length h ls left right k).getD (2 * i + 1) e7))], d3), ?_, ?_, ⟨?_, (fm rfl (fm (by show sL O3 (tt.length + 1) d3 = sL O3 (tt ++ [_]).length d3; rw [List.length_append]; rfl) nb))⟩, (by dsimp only; simp only [List.length_append, List.flatMap_append, List.map_append]; exact sp)⟩
   ·exact ⟨zf4 h61, by dsimp only; rw [List.map_append, htt2, zeb, List.append_assoc]; rfl⟩
   ·exact zhK h61
   exact K8
  ·refine gw ?_
   refine i7 (c7 (gw ?_))
   refine ⟨(k + 1, O, tt, d), ?_, od, oz, (by dsimp only; exact sr)⟩
   exact ⟨by show _ ≤ _; dsimp only; omega, by dsimp only; rw [htt2, Z7, zea ctx h61 hi2]⟩
 ·refine i7 (c8 (gw ?_))
  refine a9 (finQ.ret rv (sx [0, 0]) ?_)
  obtain rfl : k = h := by omega
  exact ⟨O, d, tt, rfl, rfl, htt, by have := V3 h1 h2 hh htt; omega⟩
theorem AC (z : Int) (f : Nat) (hf64 : f < 18446744073709551616) (A) (c : Nat) (ls : List i6) (Bl) (cl : Nat) (left : List i6) (Br) (cr : Nat) (right : List i6) (w0) (hR : Ro w0 [] (SlA A (m9 ls))) (hl : Ro w0 [] (SlA Bl (m9 left))) (hr : Ro w0 [] (SlA Br (m9 right))) (hT : Tabs 2 0 w0 []) : cP 61 #[iI z, uI f, sL A ls.length c, sL Bl left.length cl, sL Br right.length cr] w0 fun v L => tN (L6 z f ls left right) v L := by
 by_cases hz : (V4 z f ls left right).2 = 0
 ·obtain ⟨h, rfl, hh, h2, ctx, _⟩ := xP hz
  rw [show L6 (h : Int) f ls left right = some (aR f ls.length h ls left right h) by rw [L6, if_pos hz, Int.toNat_natCast]]
  exact zbD h f hh hf64 A c ls Bl cl left Br cr right h2 ctx hz w0 hR hl hr hT
 ·rw [show L6 z f ls left right = none from if_neg hz]
  exact zaZ z f hf64 A c ls Bl cl left Br cr right hz w0 hR hl hr hT
theorem zaA (z : Int) (f : Nat) (A1) (c1 : Nat) (l1 : List i6) (B1) (d1 : Nat) (a1 : List i6) (Z1) (e1 : Nat) (b1 : List i6) (A2) (c2 : Nat) (l2 : List i6) (B2) (d2 : Nat) (a2 : List i6) (Z2) (e2 : Nat) (b2 : List i6) (x : Option (List (List UInt8))) (w0) (h1 : ∀ w, St w0 [] [] w → cP 61 #[iI z, uI f, sL A1 l1.length c1, sL B1 a1.length d1, sL Z1 b1.length e1] w (tN none)) (h2 : ∀ w, St w0 [] [] w → cP 61 #[iI z, uI f, sL A2 l2.length c2, sL B2 a2.length d2, sL Z2 b2.length e2] w (tN x)) :
  cP 18 #[iI z, uI f, .agg #[sL A1 l1.length c1, sL B1 a1.length d1, sL Z1 b1.length e1, sL A2 l2.length c2, sL B2 a2.length d2, sL Z2 b2.length e2]] w0 fun v L => fF 115 [] v L := by
 refine co 53 [.tmp 6] func18 ?_
 refine m6 115 2 (x3 (gw ?_))
 intro b5
 refine gw ?_
 refine e6 (n7 (i := 2) uT cT rfl rfl ow) (gw ?_)
 refine z9 en (fun w hw => h1 w (hw.sub sn)) ?_
 rintro v L' ⟨rfl, rfl⟩
 refine gw ?_
 refine e6 (n7 (i := 3) uT cT rfl rfl ow) (gw ?_)
 refine e6 (n7 (i := 4) uT cT rfl rfl ow) (gw ?_)
 refine e6 (n7 (i := 5) uT cT rfl rfl ow) (e6 (a8 rfl (i9 (v := sL Z2 b2.length e2) w5 oT rfl)) ?_)
 cases x
 ·refine z9 en (fun w hw => h2 w (hw.sub sn)) ?_
  rintro v L' ⟨rfl, rfl⟩
  refine gw ?_
  refine a9 (D7 (sx [2, 1]) ?_)
  exact ⟨none, 0, [], [], rfl, rfl, rfl, Nat.zero_le _, fun p hp => nomatch hp⟩
 ·refine z9 en (fun w hw => h2 w (hw.sub sn)) ?_
  rintro v L' ⟨O2, y2, t2, rfl, rfl, u2, k2⟩
  refine gw ?_
  refine a9 (D7 (sx [4, 3]) ?_)
  exact ⟨none, 0, [], [], rfl, rfl, rfl, Nat.zero_le _, fun p hp => nomatch hp⟩
theorem zal (z : Int) (f : Nat) (A1) (c1 : Nat) (l1 : List i6) (B1) (d1 : Nat) (a1 : List i6) (Z1) (e1 : Nat) (b1 : List i6) (A2) (c2 : Nat) (l2 : List i6) (B2) (d2 : Nat) (a2 : List i6) (Z2) (e2 : Nat) (b2 : List i6) (x : List (List UInt8)) (w0) (h1 : ∀ w, St w0 [] [] w → cP 61 #[iI z, uI f, sL A1 l1.length c1, sL B1 a1.length d1, sL Z1 b1.length e1] w (tN (some x))) (h2 : ∀ w, St w0 [] [] w → cP 61 #[iI z, uI f, sL A2 l2.length c2, sL B2 a2.length d2, sL Z2 b2.length e2] w (tN none)) :
  cP 18 #[iI z, uI f, .agg #[sL A1 l1.length c1, sL B1 a1.length d1, sL Z1 b1.length e1, sL A2 l2.length c2, sL B2 a2.length d2, sL Z2 b2.length e2]] w0 fun v L => fF 115 [] v L := by
 refine co 53 [.tmp 6] func18 ?_
 refine m6 115 2 (x3 (gw ?_))
 intro b5
 refine gw ?_
 refine e6 (n7 (i := 2) uT cT rfl rfl ow) (gw ?_)
 refine z9 en (fun w hw => h1 w (hw.sub sn)) ?_
 rintro v L' ⟨O1, y1, t1, rfl, rfl, u1, k1⟩
 refine gw ?_
 refine e6 (n7 (i := 3) uT cT rfl rfl ow) (gw ?_)
 refine e6 (n7 (i := 4) uT cT rfl rfl ow) (gw ?_)
 refine e6 (n7 (i := 5) uT cT rfl rfl ow) (gw ?_)
 refine z9 en (fun w hw => h2 w (hw.sub sn)) ?_
 rintro v L' ⟨rfl, rfl⟩
 refine gw ?_
 refine a9 (D7 (sx [4, 3]) ?_)
 exact ⟨none, 0, [], [], rfl, rfl, rfl, Nat.zero_le _, fun p hp => nomatch hp⟩
theorem zaz (z : Int) (f : Nat) (A1) (c1 : Nat) (l1 : List i6) (B1) (d1 : Nat) (a1 : List i6) (Z1) (e1 : Nat) (b1 : List i6) (A2) (c2 : Nat) (l2 : List i6) (B2) (d2 : Nat) (a2 : List i6) (Z2) (e2 : Nat) (b2 : List i6) (x y : List (List UInt8)) (hne : l1.length ≠ l2.length) (w0) (h1 : ∀ w, St w0 [] [] w → cP 61 #[iI z, uI f, sL A1 l1.length c1, sL B1 a1.length d1, sL Z1 b1.length e1] w (tN (some x))) (h2 : ∀ w, St w0 [] [] w → cP 61 #[iI z, uI f, sL A2 l2.length c2, sL B2 a2.length d2, sL Z2 b2.length e2] w (tN (some y))) :
  cP 18 #[iI z, uI f, .agg #[sL A1 l1.length c1, sL B1 a1.length d1, sL Z1 b1.length e1, sL A2 l2.length c2, sL B2 a2.length d2, sL Z2 b2.length e2]] w0 fun v L => fF 115 [] v L := by
 refine co 53 [.tmp 6] func18 ?_
 refine m6 115 2 (x3 (gw ?_))
 intro b5
 refine gw ?_
 refine e6 (n7 (i := 2) uT cT rfl rfl ow) (gw ?_)
 refine z9 en (fun w hw => h1 w (hw.sub sn)) ?_
 rintro v L' ⟨O1, y1, t1, rfl, rfl, u1, k1⟩
 refine gw ?_
 refine e6 (n7 (i := 3) uT cT rfl rfl ow) (gw ?_)
 refine e6 (n7 (i := 4) uT cT rfl rfl ow) (gw ?_)
 refine e6 (n7 (i := 5) uT cT rfl rfl ow) (gw ?_)
 refine z9 en (fun w hw => h2 w (hw.sub sn)) ?_
 rintro v L' ⟨O2, y2, t2, rfl, rfl, u2, k2⟩
 refine gw ?_
 refine E8 rfl rfl rfl (n7 (i := 3) uT cT rfl rfl ow) (gw ?_)
 refine E8 rfl rfl rfl (Qt.dT (C7 rfl rfl) (hne)) (gw ?_)
 refine a9 (D7 (sx [6, 5]) ?_)
 exact ⟨none, 0, [], [], rfl, rfl, rfl, Nat.zero_le _, fun p hp => nomatch hp⟩
theorem zay (z : Int) (f : Nat) (A1) (c1 : Nat) (l1 : List i6) (B1) (d1 : Nat) (a1 : List i6) (Z1) (e1 : Nat) (b1 : List i6) (A2) (c2 : Nat) (l2 : List i6) (B2) (d2 : Nat) (a2 : List i6) (Z2) (e2 : Nat) (b2 : List i6) (x y : List (List UInt8)) (heq : l1.length = l2.length) (w0) (h1 : ∀ w, St w0 [] [] w → cP 61 #[iI z, uI f, sL A1 l1.length c1, sL B1 a1.length d1, sL Z1 b1.length e1] w (tN (some x))) (h2 : ∀ w, St w0 [] [] w → cP 61 #[iI z, uI f, sL A2 l2.length c2, sL B2 a2.length d2, sL Z2 b2.length e2] w (tN (some y))) :
  cP 18 #[iI z, uI f, .agg #[sL A1 l1.length c1, sL B1 a1.length d1, sL Z1 b1.length e1, sL A2 l2.length c2, sL B2 a2.length d2, sL Z2 b2.length e2]] w0 fun v L => fF 115 (D4 (some x) (some y)) v L := by
 refine co 53 [.tmp 6] func18 ?_
 refine gw ?_
 intro b5
 refine gw ?_
 refine e6 (n7 (i := 2) uT cT rfl rfl ow) (gw ?_)
 refine z9 en (fun w hw => h1 w (hw.sub sn)) ?_
 rintro v L' ⟨O1, y1, t1, rfl, rfl, u1, k1⟩
 refine gw ?_
 refine e6 (n7 (i := 3) uT cT rfl rfl ow) (gw ?_)
 refine e6 (n7 (i := 4) uT cT rfl rfl ow) (gw ?_)
 refine e6 (n7 (i := 5) uT cT rfl rfl ow) (gw ?_)
 refine z9 en (fun w hw => h2 w (hw.sub sn)) ?_
 rintro v L' ⟨O2, y2, t2, rfl, rfl, u2, k2⟩
 refine gw ?_
 refine E8 rfl rfl rfl (n7 (i := 3) uT cT rfl rfl ow) (gw ?_)
 refine E8 rfl rfl rfl (Qt.dF (C7 rfl rfl) (fun e => e heq)) (gw ?_)
 refine z9 en (fun w hw => BU O1 y1 t1 O2 y2 t2 k1 w (Rd.own (Rd.at 2 rfl) w hw) (Rd.own (Rd.at 0 rfl) w hw)) ?_
 rintro v L' ⟨O, d, rfl, rfl⟩
 refine eL (pm4.trans (pc pm2)) (gw ?_)
 refine a9 (D7 (sx [1, 0]) ?_)
 have hl := xZ t1 t2
 refine ⟨O, d, dE t1 t2, t1.map u3 ++ t2.map u3, rfl, rfl, ?_, by omega, pT⟩
 rw [CK, u1, u2]; rfl
theorem zee (z : Int) (f : Nat) (A1) (c1 : Nat) (l1 : List i6) (B1) (d1 : Nat) (a1 : List i6) (Z1) (e1 : Nat) (b1 : List i6) (A2) (c2 : Nat) (l2 : List i6) (B2) (d2 : Nat) (a2 : List i6) (Z2) (e2 : Nat) (b2 : List i6) (hf64 : f < 18446744073709551616) (w0) (hR1 : Ro w0 [] (SlA A1 (m9 l1))) (hL1 : Ro w0 [] (SlA B1 (m9 a1))) (hZ1 : Ro w0 [] (SlA Z1 (m9 b1))) (hR2 : Ro w0 [] (SlA A2 (m9 l2))) (hL2 : Ro w0 [] (SlA B2 (m9 a2))) (hZ2 : Ro w0 [] (SlA Z2 (m9 b2))) (hT : Tabs 2 0 w0 []) : cP 18 #[iI z, uI f, .agg #[sL A1 l1.length c1, sL B1 a1.length d1, sL Z1 b1.length e1, sL A2 l2.length c2, sL B2 a2.length d2, sL Z2 b2.length e2]] w0 fun v L => fF 115 (if l1.length = l2.length then D4 (L6 z f l1 a1 b1) (L6 z f l2 a2 b2) else []) v L := by
 have h1 : ∀ w, St w0 [] [] w → cP 61 #[iI z, uI f, sL A1 l1.length c1, sL B1 a1.length d1, sL Z1 b1.length e1] w (tN (L6 z f l1 a1 b1)) := fun w s => AC z f hf64 A1 c1 l1 B1 d1 a1 Z1 e1 b1 w (hR1.go s nb) (hL1.go s nb) (hZ1.go s nb) (hT.of_go s nb)
 have h2 : ∀ w, St w0 [] [] w → cP 61 #[iI z, uI f, sL A2 l2.length c2, sL B2 a2.length d2, sL Z2 b2.length e2] w (tN (L6 z f l2 a2 b2)) := fun w s => AC z f hf64 A2 c2 l2 B2 d2 a2 Z2 e2 b2 w (hR2.go s nb) (hL2.go s nb) (hZ2.go s nb) (hT.of_go s nb)
 cases hx : (L6 z f l1 a1 b1) with
 | none =>
  rw [hx] at h1
  rw [show (if l1.length = l2.length then D4 none (L6 z f l2 a2 b2) else []) = [] by split <;> rfl]
  exact zaA z f A1 c1 l1 B1 d1 a1 Z1 e1 b1 A2 c2 l2 B2 d2 a2 Z2 e2 b2 _ w0 h1 h2
 | some x => rw [hx] at h1; cases hy : (L6 z f l2 a2 b2) with
  | none =>
   rw [hy] at h2
   rw [show (if l1.length = l2.length then D4 (some x) none else []) = [] by split <;> rfl]
   exact zal z f A1 c1 l1 B1 d1 a1 Z1 e1 b1 A2 c2 l2 B2 d2 a2 Z2 e2 b2 x w0 h1 h2
  | some y =>
   rw [hy] at h2
   by_cases heq : l1.length = l2.length
   ·rw [if_pos heq]; exact zay z f A1 c1 l1 B1 d1 a1 Z1 e1 b1 A2 c2 l2 B2 d2 a2 Z2 e2 b2 x y heq w0 h1 h2
   ·rw [if_neg heq]; exact zaz z f A1 c1 l1 B1 d1 a1 Z1 e1 b1 A2 c2 l2 B2 d2 a2 Z2 e2 b2 x y heq w0 h1 h2
end Go.Proofs.YtgdjcmehlhebdaaGreatDoor
