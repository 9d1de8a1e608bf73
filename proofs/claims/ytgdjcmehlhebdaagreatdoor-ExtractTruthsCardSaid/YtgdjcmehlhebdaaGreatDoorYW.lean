/- Walks: the root that a span comes to -/
import Derived.Test.YtgdjcmehlhebdaaGreatDoorYV
set_option maxHeartbeats 25600000
set_option linter.all false
namespace Go.Proofs.YtgdjcmehlhebdaaGreatDoor
open _root_.Go.Proofs.Tryz
open Go.E
set_option maxRecDepth 4000
theorem mZ (l : List i6) (i : Nat) : (l.drop i).getD 0 e7 = l.getD i e7 := by simp [List.getD]
theorem bT {f k h : Nat} {left : List i6} (hl : (l4 f h).length = left.length) (hk : k < h) (o : f / 2 ^ k % 2 = 1) : (l4 f k).length < left.length := by
 obtain ⟨rest, e⟩ := qW (f := f) (k := k + 1) (h := h) hk
 rw [T9 o] at e
 rw [← hl, e]; simp
theorem S8 {b k h : Nat} {right : List i6} (hl : (j6 b h).length = right.length) (hk : k < h) (o : b / 2 ^ k % 2 = 0) : (j6 b k).length < right.length := by
 obtain ⟨rest, e⟩ := qZ (b := b) (k := k + 1) (h := h) hk
 rw [U0 o] at e
 rw [← hl, e]; simp
theorem zbb (A) (n c : Nat) (ps : List i6) (hn : ps.length = n) (hx : n ≤ 4096) (w0) (hR : Ro w0 [] (SlA A (m9 ps))) :
  cP 64 #[sL A n c] w0 fun v L => ∃ O d, v = sL O n d ∧ L = [OwnA 49 32 O n d (m9 ps)] := by
 refine co 8 [.tmp 2] func64 ?_
 refine m6 49 32 (gw ?_)
 refine e6 (tM uT rfl) (gw ?_)
 refine eK rfl (fun hnl => gw ?_) (fun hnl => gw ?_)
 ·refine a9 (D7 sr ?_)
  obtain rfl : A = none := Option.isNone_iff_eq_none.1 hnl
  obtain rfl : ps = [] := zdD (dP hR.1)
  obtain rfl : n = 0 := hn.symm
  exact ⟨none, 0, rfl, rfl⟩
 ·refine z7 (eH uT ⟨_, elem49⟩ (fun g5 => ?_))
  refine gw ?_
  refine z7 (Y6 (news := m9 ps) uT elem49 rfl rfl (c9 hR) (by rw [m7, hn]) (lK _) kx ow (fun O d => ?_))
  refine gw ?_
  refine a9 (D7 (sk (sd sn)) ?_)
  exact ⟨O, d, by rw [Nat.zero_add]; rfl, by rw [Nat.zero_add, List.nil_append]⟩
theorem xB (z : Int) (hz : z < 0 ∨ 32 < z) (f : Nat) (m : Int) (w0) : cR 104 #[iI z, uI f, iI m] w0 (.bool false) := by
 refine cQ (co 35 [.tmp 6] func104 ?_)
 refine gw ?_
 refine j0 rfl rfl (iU rfl rfl) (fun h9 => gw ?_) (fun h9 => gw ?_)
 ·exact tR
 ·refine E8 rfl rfl rfl (Qt.dT (mR rfl rfl) ow) (gw ?_)
  exact tR
theorem sZ (z : Int) (hz : z < 0 ∨ 32 < z) (f : Nat) (m : Int) (w0) : cR 147 #[iI z, uI f, iI m] w0 (.bool false) := by
 refine cQ (co 47 [.tmp 6] func147 ?_)
 refine gw ?_
 refine j0 rfl rfl (iU rfl rfl) (fun h9 => gw ?_) (fun h9 => gw ?_)
 ·exact tR
 ·refine E8 rfl rfl rfl (Qt.dT (mR rfl rfl) ow) (gw ?_)
  exact tR
theorem zbc (y : Int) (f : Nat) (z : Int) (hr : ∀ w, cR 104 #[iI y, uI f, iI z] w (.bool false)) (w0) :
  cP 63 #[iI y, uI f, iI z] w0 fun v L => v = .tuple #[iI 0, iI 0, .iface 73 (iI 1)] ∧ L = [] := by
 refine co 23 [.cell 6 3, .cell 7 3, .tmp 8] func63 ?_
 refine gw ?_
 intro b6
 refine gw ?_
 intro b7
 refine gw ?_
 refine u7 en (fun w hw => hr w) (gw ?_)
 refine j9 rfl (F9 rfl cw (by exact ce3) (by rfl) (by rfl) ?_)
 refine j9 rfl (j5 rfl cw (by exact ce3) (by rfl) (by rfl) (gw ?_))
 refine a9 (finQ.ret (j7 rfl (i9 N3 oT (rfl)) (j7 rfl (i9 w5 oT (rfl)) rv)) sn ?_)
 exact rr
theorem tD (y : Int) (f : Nat) (A) (c : Nat) (ls : List i6) (Bl) (cl : Nat) (left : List i6) (Br) (cr : Nat) (right : List i6) (hf : ∀ w, cR 104 #[iI y, uI f, iI (ls.length : Int)] w (.bool false)) (w0) :
  cP 19 #[iI y, uI f, sL A ls.length c, .agg #[sL Bl left.length cl, sL Br right.length cr]] w0 fun v L => v = .tuple #[hv e7, .iface 73 (iI 1)] ∧ L = [] := by
 refine co 106 [.cell 8 49, .tmp 9] func19 ?_
 refine gw ?_
 intro b7
 refine gw ?_
 intro b8
 refine gw ?_
 refine u7 en (fun w hw => cQ (zbc y f (ls.length : Int) hf w)) (gw ?_)
 refine e6 (C8 (v := hv e7) rfl (fun _ => by kernel_rfl)) (gw ?_)
 refine j9 rfl (W9 (e7) rfl (gw ?_))
 refine a9 (finQ.ret (j7 rfl (i4 w5 rT (o5 ce49)) rv) sn ?_)
 exact rr
theorem zc1 (h f : Nat) (hh : h ≤ 32) (hf64 : f < 18446744073709551616) (A) (c : Nat) (ls : List i6) (Bl) (cl : Nat) (left : List i6) (Br) (cr : Nat) (right : List i6) (h1 : 1 ≤ ls.length) (h2 : ls.length ≤ 256) (hf : f + ls.length ≤ 2 ^ h) (h3 : ¬ ((l4 f h).length = left.length ∧ (j6 (f + ls.length - 1) h).length = right.length)) (w0) :
  cP 19 #[iI h, uI f, sL A ls.length c, .agg #[sL Bl left.length cl, sL Br right.length cr]] w0 fun v L => v = .tuple #[hv e7, .iface 73 (iI 5)] ∧ L = [] := by
 refine co 106 [.cell 8 49, .tmp 9] func19 ?_
 refine gw ?_
 intro b7
 refine gw ?_
 intro b8
 refine gw ?_
 refine u7 en (fun w hw => cQ (rY h f ls.length hh hf64 hf h1 h2 w)) (gw ?_)
 refine j0 rfl rfl (C7 rfl rfl) (fun h38 => gw ?_) (fun h38 => gw ?_)
 ·refine e6 (C8 (v := hv e7) rfl (fun _ => by kernel_rfl)) (gw ?_)
  refine j9 rfl (W9 (e7) rfl (gw ?_))
  refine a9 (finQ.ret (j7 rfl (i4 w5 rT (o5 ce49)) rv) sn ?_)
  exact rr
 ·refine E8 rfl rfl rfl (Qt.dT (C7 rfl rfl) (fun e => h3 ⟨(Decidable.not_not.1 h38).symm, e.symm⟩)) (gw ?_)
  refine e6 (C8 (v := hv e7) rfl (fun _ => by kernel_rfl)) (gw ?_)
  refine j9 rfl (W9 (e7) rfl (gw ?_))
  refine a9 (finQ.ret (j7 rfl (i4 w5 rT (o5 ce49)) rv) sn ?_)
  exact rr
theorem zc0 (h f : Nat) (hh : h ≤ 32) (hf64 : f < 18446744073709551616) (A) (c : Nat) (ls : List i6) (Bl) (cl : Nat) (left : List i6) (Br) (cr : Nat) (right : List i6) (h1 : 1 ≤ ls.length) (h2 : ls.length ≤ 256) (hf : f + ls.length ≤ 2 ^ h) (hLl : (l4 f h).length = left.length) (hLr : (j6 (f + ls.length - 1) h).length = right.length) (hcl : left.length ≤ cl) (hcr : right.length ≤ cr) (w0) (hR : Ro w0 [] (SlA A (m9 ls))) (hl : Ro w0 [] (SlA Bl (m9 left))) (hr : Ro w0 [] (SlA Br (m9 right))) (hT : Tabs 3 1 w0 []) :
  cP 19 #[iI h, uI f, sL A ls.length c, .agg #[sL Bl left.length cl, sL Br right.length cr]] w0 fun v L => v = .tuple #[hv (aC ((l4 f h).zip left) ((j6 (f + ls.length - 1) h).zip right) ls f h 0), .nilIface] ∧ L = [] := by
 refine co 106 [.cell 8 49, .tmp 9] func19 ?_
 have hpw : 2 ^ h ≤ 4294967296 := (show 2 ^ h ≤ 2 ^ 32 from Nat.pow_le_pow_right dc hh)
 have ctx : RowCtx f ls.length h ls left right := ⟨h1, hf, rfl, hLl, hLr⟩
 refine gw ?_
 intro b7
 refine gw ?_
 intro b8
 refine gw ?_
 refine u7 en (fun w hw => cQ (rY h f ls.length hh hf64 hf h1 h2 w)) (gw ?_)
 refine e6 (Qt.dF (C7 rfl rfl) (fun e => e hLl.symm)) (gw ?_)
 refine E8 rfl rfl rfl (Qt.dF (C7 rfl rfl) (fun e => e hLr.symm)) (gw ?_)
 refine z9 en (fun w hw => zbb A ls.length c ls rfl ow w (Rd.ro hR w hw)) ?_
 rintro v L' ⟨O, d, rfl, rfl⟩
 refine gw ?_
 refine e6 (r8 uT uT rfl km) ?_
 refine e6 (v4 rfl rfl km) ?_
 refine e6 (o7 (b := 1) rfl rfl ow km) (gw ?_)
 refine dw ([], []) (gw ?_)
 refine p7 (gw ?_)
 refine l5 (γ := Nat × (y8 × Nat) × (y8 × Nat) × (y8 × Nat)) (mr 62 41 (mr 12 7 [9])) (fun g => [(62, iI g.1), (13, sL g.2.1.1 (q9 f ls.length h ls left right g.1).length g.2.1.2), (14, uI (f / 2 ^ g.1 : Nat)), (15, uI ((f + ls.length - 1) / 2 ^ g.1 : Nat)), (16, sL g.2.2.1.1 (left.drop (l4 f g.1).length).length g.2.2.1.2), (17, sL g.2.2.2.1 (right.drop (j6 (f + ls.length - 1) g.1).length).length g.2.2.2.2)]) (fun g => [OwnA 49 32 g.2.1.1 (q9 f ls.length h ls left right g.1).length g.2.1.2 (m9 (q9 f ls.length h ls left right g.1)), Blk b8 49 (List.replicate 32 (.int .u8 0)), Blk b7 43 [sL Bl left.length cl, sL Br right.length cr]]) (fun g => g.1 ≤ h ∧ Less Bl left (l4 f g.1).length g.2.2.1.1 g.2.2.1.2 ∧ Less Br right (j6 (f + ls.length - 1) g.1).length g.2.2.2.1 g.2.2.2.2) (fun g => h - g.1) ((0, (O, d), (Bl, cl), (Br, cr)))
  ⟨Nat.zero_le _, Less.zero hcl, Less.zero hcr⟩ ⟨Out.refl _ _, (fm rfl (fm (by show sL O ls.length d = sL O (q9 f ls.length h ls left right 0).length d; rw [ctx.zero]) (fm (by show uI f = uI (f / 2 ^ 0 : Nat); rw [Nat.pow_zero, Nat.div_one]) (fm (by show uI ↑(f + ls.length - 1) = uI ((f + ls.length - 1) / 2 ^ 0 : Nat); rw [Nat.pow_zero, Nat.div_one]) ag))))⟩ ((by dsimp only; rw [ctx.zero]; exact sr)) ?_
 rintro ⟨k, ⟨O, d⟩, ⟨A1, c1⟩, ⟨A2, c2⟩⟩ u ⟨hk, le1, le2⟩
 dsimp only at hk le1 le2
 obtain ⟨hpos, hlen⟩ := ctx.lenAt k
 refine gw ?_
 refine j0 rfl rfl (p9 rfl rfl) (fun h63 => gw ?_) (fun h63 => gw ?_)
 ·refine e6 (V9 (b := 2) rfl rfl ow) ?_
  refine j0 rfl rfl (z6 (b := 1) rfl rfl) (fun h67 => gw ?_) (fun h67 => gw ?_)
  ·refine e6 (i5 (i := 0) uT cT rfl rfl (by show 0 < (left.drop (l4 f k).length).length; rw [List.length_drop]; have := bT ctx.lenL (show k < h from h63) (show f / 2 ^ k % 2 = 1 from h67); omega) (c9 (le1.ro _ _ hl)) (by show 0 * 32 < (m9 (left.drop (l4 f k).length)).length; rw [m7, List.length_drop]; have := bT ctx.lenL (show k < h from h63) (show f / 2 ^ k % 2 = 1 from h67); omega)) ?_
   refine e6 (n8 (a8 rfl (E4 (l := left.drop (l4 f k).length) (c9 (le1.ro _ _ hl)) 0 rT ce49 (by rw [List.length_drop]; have := bT ctx.lenL (show k < h from h63) (show f / 2 ^ k % 2 = 1 from h67); omega) rfl)) (by rw [mZ])) ?_
   refine z7 (m5 (v := hv (left.getD (l4 f k).length e7)) uT elem49 dc rfl (v9 _) (fun g72 => ?_))
   refine z7 (l8 (Pre := [OwnA 49 32 O (q9 f ls.length h ls left right k).length d (m9 (q9 f ls.length h ls left right k))]) (R := _) en rfl pm1 (fun w hw => zcx O d (q9 f ls.length h ls left right k) g72 (left.getD (l4 f k).length e7) hpos ow w hw.sat.left (y9 hw (.head _))) ?_)
   rintro v L' ⟨O1, d1, rfl, rfl⟩
   refine gw ?_
   refine e6 (D3 (l := 1) uT cT rfl rfl (by show 1 ≤ (left.drop (l4 f k).length).length; rw [List.length_drop]; have := bT ctx.lenL (show k < h from h63) (show f / 2 ^ k % 2 = 1 from h67); omega)) (gw ?_)
   refine e6 (V9 (b := 2) rfl rfl ow) ?_
   refine j0 rfl rfl (z6 (b := 0) rfl rfl) (fun h78 => gw ?_) (fun h78 => ?_)
   ·refine e6 (i5 (i := 0) uT cT rfl rfl (by show 0 < (right.drop (j6 (f + ls.length - 1) k).length).length; rw [List.length_drop]; have := S8 ctx.lenR (show k < h from h63) (show (f + ls.length - 1) / 2 ^ k % 2 = 0 from h78); omega) (c9 (le2.ro _ _ hr)) (by show 0 * 32 < (m9 (right.drop (j6 (f + ls.length - 1) k).length)).length; rw [m7, List.length_drop]; have := S8 ctx.lenR (show k < h from h63) (show (f + ls.length - 1) / 2 ^ k % 2 = 0 from h78); omega)) ?_
    refine e6 (n8 (a8 rfl (E4 (l := right.drop (j6 (f + ls.length - 1) k).length) (c9 (le2.ro _ _ hr)) 0 rT ce49 (by rw [List.length_drop]; have := S8 ctx.lenR (show k < h from h63) (show (f + ls.length - 1) / 2 ^ k % 2 = 0 from h78); omega) rfl)) (by rw [mZ])) ?_
    refine z7 (m5 (v := hv (right.getD (j6 (f + ls.length - 1) k).length e7)) uT elem49 dc rfl (v9 _) (fun g83 => ?_))
    refine z7 (G1 (news := L8 ((right.getD (j6 (f + ls.length - 1) k).length e7))) uT elem49 rfl rfl (j8 (cs := L8 (right.getD (j6 (f + ls.length - 1) k).length e7)) w5) (by rw [l6]) (r9 _) (by first | (simp only [maxLen]; omega) | (show (q9 f ls.length h ls left right k).length + 1 ≤ maxLen; simp only [maxLen]; omega)) (by first | omega | (show ((q9 f ls.length h ls left right k).length + 1) * 32 ≤ _; omega)) (fun O2 d2 => ?_))
    refine gw ?_
    refine e6 (D3 (l := 1) uT cT rfl rfl (by show 1 ≤ (right.drop (j6 (f + ls.length - 1) k).length).length; rw [List.length_drop]; have := S8 ctx.lenR (show k < h from h63) (show (f + ls.length - 1) / 2 ^ k % 2 = 0 from h78); omega)) ?_
    have hmid : m9 ((left.getD (l4 f k).length e7) :: (q9 f ls.length h ls left right k)) ++ L8 (right.getD (j6 (f + ls.length - 1) k).length e7) = m9 (x4 f ls.length h ls left right k) := by rw [x4, if_pos (show f / 2 ^ k % 2 = 1 from h67), if_pos (show (f + ls.length - 1) / 2 ^ k % 2 = 0 from h78)]; simp [m9]
    have hml : (q9 f ls.length h ls left right k).length + 1 + 1 = 2 * ((f + ls.length - 1) / 2 ^ (k + 1) + 1 - f / 2 ^ (k + 1)) := by rw [← ctx.midLen (show k < h from h63), x4, if_pos (show f / 2 ^ k % 2 = 1 from h67), if_pos (show (f + ls.length - 1) / 2 ^ k % 2 = 0 from h78)]; simp
    refine gw ?_
    refine z9 en (fun w hw => (by have cap := H2 (hw.ok (List.mem_of_getElem? (i := 1) rfl)); have q := fV (k + 1) ow ow O2 ((f + ls.length - 1) / 2 ^ (k + 1) + 1 - f / 2 ^ (k + 1)) d2 (x4 f ls.length h ls left right k) (ctx.midLen (show k < h from h63)) (by rw [← hml]; exact cap.1) (by have := cap.2.1; simp only [maxLen] at this; omega) (by have := hlen; omega) w (by rw [← hmid]; exact (Rd.own (Rd.at 1 rfl) w hw)) (hT.at hw); rw [← hml] at q; exact q : cP 66 #[iI ↑(k + 1), sL O2 ((q9 f ls.length h ls left right k).length + 1 + 1) d2] w fun v L => ∃ O d, v = .tuple #[sL O ((f + ls.length - 1) / 2 ^ (k + 1) + 1 - f / 2 ^ (k + 1)) d, .nilIface] ∧ L = [OwnA 49 32 O ((f + ls.length - 1) / 2 ^ (k + 1) + 1 - f / 2 ^ (k + 1)) d (m9 ((List.finRange ((f + ls.length - 1) / 2 ^ (k + 1) + 1 - f / 2 ^ (k + 1))).map (fun i : Fin ((f + ls.length - 1) / 2 ^ (k + 1) + 1 - f / 2 ^ (k + 1)) => N8 (k + 1) (x4 f ls.length h ls left right k) i.val)))])) ?_
    rintro v L' ⟨O3, d3, rfl, rfl⟩
    have hnx : (List.finRange ((f + ls.length - 1) / 2 ^ (k + 1) + 1 - f / 2 ^ (k + 1))).map (fun i : Fin ((f + ls.length - 1) / 2 ^ (k + 1) + 1 - f / 2 ^ (k + 1)) => N8 (k + 1) (x4 f ls.length h ls left right k) i.val) = (q9 f ls.length h ls left right (k + 1)) := ctx.next (show k < h from h63) rfl
    have hnl : ((f + ls.length - 1) / 2 ^ (k + 1) + 1 - f / 2 ^ (k + 1)) = (q9 f ls.length h ls left right (k + 1)).length := by rw [q9, Q6]
    refine gw ?_
    refine e6 (n8 (I2 (b := 2) rfl rfl ow (by have := Nat.div_le_self f (2 ^ k); simp only [H1]; omega)) (by rw [v8])) (gw ?_)
    refine e6 (n8 (I2 (b := 2) rfl rfl ow (by have := Nat.div_le_self (f + ls.length - 1) (2 ^ k); simp only [H1]; omega)) (by rw [v8])) (gw ?_)
    refine ⟨(k + 1, (O3, d3), ((if c1 = 1 then A1 else A1.map (·.add (1 * 32))), (c1 - 1)), ((if c2 = 1 then A2 else A2.map (·.add (1 * 32))), (c2 - 1))), ?_, ?_, ⟨?_, (fm rfl (fm (by show sL O3 ((f + ls.length - 1) / 2 ^ (k + 1) + 1 - f / 2 ^ (k + 1)) d3 = sL O3 (q9 f ls.length h ls left right (k + 1)).length d3; rw [← hnl]) (fm rfl (fm rfl (fm (by show sL (if c1 = 1 then A1 else A1.map (·.add (1 * 32))) ((left.drop (l4 f k).length).length - 1) (c1 - 1) = sL (if c1 = 1 then A1 else A1.map (·.add (1 * 32))) (left.drop (l4 f (k + 1)).length).length (c1 - 1); rw [T9 (show f / 2 ^ k % 2 = 1 from h67), s9, List.length_drop, List.length_drop]; congr 1) (fm (by show sL (if c2 = 1 then A2 else A2.map (·.add (1 * 32))) ((right.drop (j6 (f + ls.length - 1) k).length).length - 1) (c2 - 1) = sL (if c2 = 1 then A2 else A2.map (·.add (1 * 32))) (right.drop (j6 (f + ls.length - 1) (k + 1)).length).length (c2 - 1); rw [U0 (show (f + ls.length - 1) / 2 ^ k % 2 = 0 from h78), s9, List.length_drop, List.length_drop]; congr 1) nb))))))⟩, (by dsimp only; rw [hnx, hnl]; exact sp)⟩
    ·exact ⟨by show _ ≤ _; dsimp only; omega, by rw [T9 (show f / 2 ^ k % 2 = 1 from h67), s9]; exact le1.next (Less.one le1.cap (by (try dsimp only); rw [List.length_drop]; have := bT ctx.lenL (show k < h from h63) (show f / 2 ^ k % 2 = 1 from h67); omega)), by rw [U0 (show (f + ls.length - 1) / 2 ^ k % 2 = 0 from h78), s9]; exact le2.next (Less.one le2.cap (by (try dsimp only); rw [List.length_drop]; have := S8 ctx.lenR (show k < h from h63) (show (f + ls.length - 1) / 2 ^ k % 2 = 0 from h78); omega))⟩
    ·show _ < _; dsimp only; omega
    exact K8
   ·have hmid : m9 ((left.getD (l4 f k).length e7) :: (q9 f ls.length h ls left right k)) = m9 (x4 f ls.length h ls left right k) := by rw [x4, if_pos (show f / 2 ^ k % 2 = 1 from h67), if_neg (show ¬ (f + ls.length - 1) / 2 ^ k % 2 = 0 from h78)]; simp [m9]
    have hml : (q9 f ls.length h ls left right k).length + 1 = 2 * ((f + ls.length - 1) / 2 ^ (k + 1) + 1 - f / 2 ^ (k + 1)) := by rw [← ctx.midLen (show k < h from h63), x4, if_pos (show f / 2 ^ k % 2 = 1 from h67), if_neg (show ¬ (f + ls.length - 1) / 2 ^ k % 2 = 0 from h78)]; simp
    refine gw ?_
    refine z9 en (fun w hw => (by have cap := H2 (hw.ok (List.mem_of_getElem? (i := 0) rfl)); have q := fV (k + 1) ow ow O1 ((f + ls.length - 1) / 2 ^ (k + 1) + 1 - f / 2 ^ (k + 1)) d1 (x4 f ls.length h ls left right k) (ctx.midLen (show k < h from h63)) (by rw [← hml]; exact cap.1) (by have := cap.2.1; simp only [maxLen] at this; omega) (by have := hlen; omega) w (by rw [← hmid]; exact (Rd.own (Rd.at 0 rfl) w hw)) (hT.at hw); rw [← hml] at q; exact q : cP 66 #[iI ↑(k + 1), sL O1 ((q9 f ls.length h ls left right k).length + 1) d1] w fun v L => ∃ O d, v = .tuple #[sL O ((f + ls.length - 1) / 2 ^ (k + 1) + 1 - f / 2 ^ (k + 1)) d, .nilIface] ∧ L = [OwnA 49 32 O ((f + ls.length - 1) / 2 ^ (k + 1) + 1 - f / 2 ^ (k + 1)) d (m9 ((List.finRange ((f + ls.length - 1) / 2 ^ (k + 1) + 1 - f / 2 ^ (k + 1))).map (fun i : Fin ((f + ls.length - 1) / 2 ^ (k + 1) + 1 - f / 2 ^ (k + 1)) => N8 (k + 1) (x4 f ls.length h ls left right k) i.val)))])) ?_
    rintro v L' ⟨O3, d3, rfl, rfl⟩
    have hnx : (List.finRange ((f + ls.length - 1) / 2 ^ (k + 1) + 1 - f / 2 ^ (k + 1))).map (fun i : Fin ((f + ls.length - 1) / 2 ^ (k + 1) + 1 - f / 2 ^ (k + 1)) => N8 (k + 1) (x4 f ls.length h ls left right k) i.val) = (q9 f ls.length h ls left right (k + 1)) := ctx.next (show k < h from h63) rfl
    have hnl : ((f + ls.length - 1) / 2 ^ (k + 1) + 1 - f / 2 ^ (k + 1)) = (q9 f ls.length h ls left right (k + 1)).length := by rw [q9, Q6]
    refine gw ?_
    refine e6 (n8 (I2 (b := 2) rfl rfl ow (by have := Nat.div_le_self f (2 ^ k); simp only [H1]; omega)) (by rw [v8])) (gw ?_)
    refine e6 (n8 (I2 (b := 2) rfl rfl ow (by have := Nat.div_le_self (f + ls.length - 1) (2 ^ k); simp only [H1]; omega)) (by rw [v8])) (gw ?_)
    refine ⟨(k + 1, (O3, d3), ((if c1 = 1 then A1 else A1.map (·.add (1 * 32))), (c1 - 1)), (A2, c2)), ?_, ?_, ⟨?_, (fm rfl (fm (by show sL O3 ((f + ls.length - 1) / 2 ^ (k + 1) + 1 - f / 2 ^ (k + 1)) d3 = sL O3 (q9 f ls.length h ls left right (k + 1)).length d3; rw [← hnl]) (fm rfl (fm rfl (fm (by show sL (if c1 = 1 then A1 else A1.map (·.add (1 * 32))) ((left.drop (l4 f k).length).length - 1) (c1 - 1) = sL (if c1 = 1 then A1 else A1.map (·.add (1 * 32))) (left.drop (l4 f (k + 1)).length).length (c1 - 1); rw [T9 (show f / 2 ^ k % 2 = 1 from h67), s9, List.length_drop, List.length_drop]; congr 1) (fm (by show sL A2 (right.drop (j6 (f + ls.length - 1) k).length).length c2 = sL A2 (right.drop (j6 (f + ls.length - 1) (k + 1)).length).length c2; rw [W6 (show ¬ (f + ls.length - 1) / 2 ^ k % 2 = 0 from h78)]) nb))))))⟩, (by dsimp only; rw [hnx, hnl]; exact sp)⟩
    ·exact ⟨by show _ ≤ _; dsimp only; omega, by rw [T9 (show f / 2 ^ k % 2 = 1 from h67), s9]; exact le1.next (Less.one le1.cap (by (try dsimp only); rw [List.length_drop]; have := bT ctx.lenL (show k < h from h63) (show f / 2 ^ k % 2 = 1 from h67); omega)), by rw [W6 (show ¬ (f + ls.length - 1) / 2 ^ k % 2 = 0 from h78)]; exact le2⟩
    ·show _ < _; dsimp only; omega
    exact K8
  ·refine e6 (V9 (b := 2) rfl rfl ow) ?_
   refine j0 rfl rfl (z6 (b := 0) rfl rfl) (fun h78 => gw ?_) (fun h78 => ?_)
   ·refine e6 (i5 (i := 0) uT cT rfl rfl (by show 0 < (right.drop (j6 (f + ls.length - 1) k).length).length; rw [List.length_drop]; have := S8 ctx.lenR (show k < h from h63) (show (f + ls.length - 1) / 2 ^ k % 2 = 0 from h78); omega) (c9 (le2.ro _ _ hr)) (by show 0 * 32 < (m9 (right.drop (j6 (f + ls.length - 1) k).length)).length; rw [m7, List.length_drop]; have := S8 ctx.lenR (show k < h from h63) (show (f + ls.length - 1) / 2 ^ k % 2 = 0 from h78); omega)) ?_
    refine e6 (n8 (a8 rfl (E4 (l := right.drop (j6 (f + ls.length - 1) k).length) (c9 (le2.ro _ _ hr)) 0 rT ce49 (by rw [List.length_drop]; have := S8 ctx.lenR (show k < h from h63) (show (f + ls.length - 1) / 2 ^ k % 2 = 0 from h78); omega) rfl)) (by rw [mZ])) ?_
    refine z7 (m5 (v := hv (right.getD (j6 (f + ls.length - 1) k).length e7)) uT elem49 dc rfl (v9 _) (fun g83 => ?_))
    refine z7 (G1 (news := L8 ((right.getD (j6 (f + ls.length - 1) k).length e7))) uT elem49 rfl rfl (j8 (cs := L8 (right.getD (j6 (f + ls.length - 1) k).length e7)) w5) (by rw [l6]) (r9 _) (by first | (simp only [maxLen]; omega) | (show (q9 f ls.length h ls left right k).length + 1 ≤ maxLen; simp only [maxLen]; omega)) (by first | omega | (show ((q9 f ls.length h ls left right k).length + 1) * 32 ≤ _; omega)) (fun O2 d2 => ?_))
    refine gw ?_
    refine e6 (D3 (l := 1) uT cT rfl rfl (by show 1 ≤ (right.drop (j6 (f + ls.length - 1) k).length).length; rw [List.length_drop]; have := S8 ctx.lenR (show k < h from h63) (show (f + ls.length - 1) / 2 ^ k % 2 = 0 from h78); omega)) ?_
    have hmid : m9 (q9 f ls.length h ls left right k) ++ L8 (right.getD (j6 (f + ls.length - 1) k).length e7) = m9 (x4 f ls.length h ls left right k) := by rw [x4, if_neg (show ¬ f / 2 ^ k % 2 = 1 from h67), if_pos (show (f + ls.length - 1) / 2 ^ k % 2 = 0 from h78)]; simp [m9]
    have hml : (q9 f ls.length h ls left right k).length + 1 = 2 * ((f + ls.length - 1) / 2 ^ (k + 1) + 1 - f / 2 ^ (k + 1)) := by rw [← ctx.midLen (show k < h from h63), x4, if_neg (show ¬ f / 2 ^ k % 2 = 1 from h67), if_pos (show (f + ls.length - 1) / 2 ^ k % 2 = 0 from h78)]; simp
    refine gw ?_
    refine z9 en (fun w hw => (by have cap := H2 (hw.ok (List.mem_of_getElem? (i := 1) rfl)); have q := fV (k + 1) ow ow O2 ((f + ls.length - 1) / 2 ^ (k + 1) + 1 - f / 2 ^ (k + 1)) d2 (x4 f ls.length h ls left right k) (ctx.midLen (show k < h from h63)) (by rw [← hml]; exact cap.1) (by have := cap.2.1; simp only [maxLen] at this; omega) (by have := hlen; omega) w (by rw [← hmid]; exact (Rd.own (Rd.at 1 rfl) w hw)) (hT.at hw); rw [← hml] at q; exact q : cP 66 #[iI ↑(k + 1), sL O2 ((q9 f ls.length h ls left right k).length + 1) d2] w fun v L => ∃ O d, v = .tuple #[sL O ((f + ls.length - 1) / 2 ^ (k + 1) + 1 - f / 2 ^ (k + 1)) d, .nilIface] ∧ L = [OwnA 49 32 O ((f + ls.length - 1) / 2 ^ (k + 1) + 1 - f / 2 ^ (k + 1)) d (m9 ((List.finRange ((f + ls.length - 1) / 2 ^ (k + 1) + 1 - f / 2 ^ (k + 1))).map (fun i : Fin ((f + ls.length - 1) / 2 ^ (k + 1) + 1 - f / 2 ^ (k + 1)) => N8 (k + 1) (x4 f ls.length h ls left right k) i.val)))])) ?_
    rintro v L' ⟨O3, d3, rfl, rfl⟩
    have hnx : (List.finRange ((f + ls.length - 1) / 2 ^ (k + 1) + 1 - f / 2 ^ (k + 1))).map (fun i : Fin ((f + ls.length - 1) / 2 ^ (k + 1) + 1 - f / 2 ^ (k + 1)) => N8 (k + 1) (x4 f ls.length h ls left right k) i.val) = (q9 f ls.length h ls left right (k + 1)) := ctx.next (show k < h from h63) rfl
    have hnl : ((f + ls.length - 1) / 2 ^ (k + 1) + 1 - f / 2 ^ (k + 1)) = (q9 f ls.length h ls left right (k + 1)).length := by rw [q9, Q6]
    refine gw ?_
    refine e6 (n8 (I2 (b := 2) rfl rfl ow (by have := Nat.div_le_self f (2 ^ k); simp only [H1]; omega)) (by rw [v8])) (gw ?_)
    refine e6 (n8 (I2 (b := 2) rfl rfl ow (by have := Nat.div_le_self (f + ls.length - 1) (2 ^ k); simp only [H1]; omega)) (by rw [v8])) (gw ?_)
    refine ⟨(k + 1, (O3, d3), (A1, c1), ((if c2 = 1 then A2 else A2.map (·.add (1 * 32))), (c2 - 1))), ?_, ?_, ⟨?_, (fm rfl (fm (by show sL O3 ((f + ls.length - 1) / 2 ^ (k + 1) + 1 - f / 2 ^ (k + 1)) d3 = sL O3 (q9 f ls.length h ls left right (k + 1)).length d3; rw [← hnl]) (fm rfl (fm rfl (fm (by show sL A1 (left.drop (l4 f k).length).length c1 = sL A1 (left.drop (l4 f (k + 1)).length).length c1; rw [W5 (show ¬ f / 2 ^ k % 2 = 1 from h67)]) (fm (by show sL (if c2 = 1 then A2 else A2.map (·.add (1 * 32))) ((right.drop (j6 (f + ls.length - 1) k).length).length - 1) (c2 - 1) = sL (if c2 = 1 then A2 else A2.map (·.add (1 * 32))) (right.drop (j6 (f + ls.length - 1) (k + 1)).length).length (c2 - 1); rw [U0 (show (f + ls.length - 1) / 2 ^ k % 2 = 0 from h78), s9, List.length_drop, List.length_drop]; congr 1) nb))))))⟩, (by dsimp only; rw [hnx, hnl]; exact sp)⟩
    ·exact ⟨by show _ ≤ _; dsimp only; omega, by rw [W5 (show ¬ f / 2 ^ k % 2 = 1 from h67)]; exact le1, by rw [U0 (show (f + ls.length - 1) / 2 ^ k % 2 = 0 from h78), s9]; exact le2.next (Less.one le2.cap (by (try dsimp only); rw [List.length_drop]; have := S8 ctx.lenR (show k < h from h63) (show (f + ls.length - 1) / 2 ^ k % 2 = 0 from h78); omega))⟩
    ·show _ < _; dsimp only; omega
    exact K8
   ·have hmid : m9 (q9 f ls.length h ls left right k) = m9 (x4 f ls.length h ls left right k) := by rw [x4, if_neg (show ¬ f / 2 ^ k % 2 = 1 from h67), if_neg (show ¬ (f + ls.length - 1) / 2 ^ k % 2 = 0 from h78)]; simp [m9]
    have hml : (q9 f ls.length h ls left right k).length = 2 * ((f + ls.length - 1) / 2 ^ (k + 1) + 1 - f / 2 ^ (k + 1)) := by rw [← ctx.midLen (show k < h from h63), x4, if_neg (show ¬ f / 2 ^ k % 2 = 1 from h67), if_neg (show ¬ (f + ls.length - 1) / 2 ^ k % 2 = 0 from h78)]; simp
    refine gw ?_
    refine z9 en (fun w hw => (by have cap := H2 (hw.ok (List.mem_of_getElem? (i := 0) rfl)); have q := fV (k + 1) ow ow O ((f + ls.length - 1) / 2 ^ (k + 1) + 1 - f / 2 ^ (k + 1)) d (x4 f ls.length h ls left right k) (ctx.midLen (show k < h from h63)) (by rw [← hml]; exact cap.1) (by have := cap.2.1; simp only [maxLen] at this; omega) (by have := hlen; omega) w (by rw [← hmid]; exact (Rd.own (Rd.at 0 rfl) w hw)) (hT.at hw); rw [← hml] at q; exact q : cP 66 #[iI ↑(k + 1), sL O ((q9 f ls.length h ls left right k).length) d] w fun v L => ∃ O d, v = .tuple #[sL O ((f + ls.length - 1) / 2 ^ (k + 1) + 1 - f / 2 ^ (k + 1)) d, .nilIface] ∧ L = [OwnA 49 32 O ((f + ls.length - 1) / 2 ^ (k + 1) + 1 - f / 2 ^ (k + 1)) d (m9 ((List.finRange ((f + ls.length - 1) / 2 ^ (k + 1) + 1 - f / 2 ^ (k + 1))).map (fun i : Fin ((f + ls.length - 1) / 2 ^ (k + 1) + 1 - f / 2 ^ (k + 1)) => N8 (k + 1) (x4 f ls.length h ls left right k) i.val)))])) ?_
    rintro v L' ⟨O3, d3, rfl, rfl⟩
    have hnx : (List.finRange ((f + ls.length - 1) / 2 ^ (k + 1) + 1 - f / 2 ^ (k + 1))).map (fun i : Fin ((f + ls.length - 1) / 2 ^ (k + 1) + 1 - f / 2 ^ (k + 1)) => N8 (k + 1) (x4 f ls.length h ls left right k) i.val) = (q9 f ls.length h ls left right (k + 1)) := ctx.next (show k < h from h63) rfl
    have hnl : ((f + ls.length - 1) / 2 ^ (k + 1) + 1 - f / 2 ^ (k + 1)) = (q9 f ls.length h ls left right (k + 1)).length := by rw [q9, Q6]
    refine gw ?_
    refine e6 (n8 (I2 (b := 2) rfl rfl ow (by have := Nat.div_le_self f (2 ^ k); simp only [H1]; omega)) (by rw [v8])) (gw ?_)
    refine e6 (n8 (I2 (b := 2) rfl rfl ow (by have := Nat.div_le_self (f + ls.length - 1) (2 ^ k); simp only [H1]; omega)) (by rw [v8])) (gw ?_)
    refine ⟨(k + 1, (O3, d3), (A1, c1), (A2, c2)), ?_, ?_, ⟨?_, (fm rfl (fm (by show sL O3 ((f + ls.length - 1) / 2 ^ (k + 1) + 1 - f / 2 ^ (k + 1)) d3 = sL O3 (q9 f ls.length h ls left right (k + 1)).length d3; rw [← hnl]) (fm rfl (fm rfl (fm (by show sL A1 (left.drop (l4 f k).length).length c1 = sL A1 (left.drop (l4 f (k + 1)).length).length c1; rw [W5 (show ¬ f / 2 ^ k % 2 = 1 from h67)]) (fm (by show sL A2 (right.drop (j6 (f + ls.length - 1) k).length).length c2 = sL A2 (right.drop (j6 (f + ls.length - 1) (k + 1)).length).length c2; rw [W6 (show ¬ (f + ls.length - 1) / 2 ^ k % 2 = 0 from h78)]) nb))))))⟩, (by dsimp only; rw [hnx, hnl]; exact sp)⟩
    ·exact ⟨by show _ ≤ _; dsimp only; omega, by rw [W5 (show ¬ f / 2 ^ k % 2 = 1 from h67)]; exact le1, by rw [W6 (show ¬ (f + ls.length - 1) / 2 ^ k % 2 = 0 from h78)]; exact le2⟩
    ·show _ < _; dsimp only; omega
    exact K8
 ·refine i7 (c8 ?_)
  have hke : k = h := by omega
  refine gw ?_
  refine e6 (i5 (i := 0) uT cT rfl rfl (hpos) (x8 w5) (by show 0 * 32 < (m9 (q9 f ls.length h ls left right k)).length; rw [m7]; omega)) ?_
  refine e6 (n8 (a8 rfl (E4 (l := (q9 f ls.length h ls left right k)) (x8 w5) 0 rT ce49 hpos rfl)) (by rw [hke, ctx.last])) ?_
  refine j9 rfl (HY ((aC ((l4 f h).zip left) ((j6 (f + ls.length - 1) h).zip right) ls f h 0)) rfl ?_)
  refine gw ?_
  refine a9 ?_
  refine finQ.ret (j7 rfl (i4 N3 rT (o5 ce49)) rv) sn ?_
  exact rr
theorem key171 : KeyLaw prog 265 p6 := Go.E.keyAt underlying265 (by decide) (by decide) rfl rfl underlying3 underlying40 (by kernel_rfl)
theorem zX {z : Int} {f : Nat} (hf64 : f < 18446744073709551616) {n : Nat} (g : z < 0 ∨ 32 < z ∨ ∃ h : Nat, z = (h : Int) ∧ h ≤ 32 ∧ ¬ (1 ≤ n ∧ n ≤ 256 ∧ f + n ≤ 2 ^ h)) (w) : cR 104 #[iI z, uI f, iI n] w (.bool false) := by
 rcases g with g | g | ⟨h, rfl, hh, g⟩
 ·exact xB z (.inl g) f n w
 ·exact xB z (.inr g) f n w
 ·by_cases h1 : 1 ≤ n ∧ n ≤ 256
  ·have k := pM h f n hh hf64 h1.1 h1.2 w
   rw [decide_eq_false (fun e => g ⟨h1.1, h1.2, e⟩)] at k; exact k
  ·exact EP h f n ow hh w
theorem qT {z : Int} {f : Nat} (hf64 : f < 18446744073709551616) {n : Nat} (g : z < 0 ∨ 32 < z ∨ ∃ h : Nat, z = (h : Int) ∧ h ≤ 32 ∧ ¬ (1 ≤ n ∧ n ≤ 256 ∧ f + n ≤ 2 ^ h)) (w) : cR 147 #[iI z, uI f, iI n] w (.bool false) := by
 rcases g with g | g | ⟨h, rfl, hh, g⟩
 ·exact sZ z (.inl g) f n w
 ·exact sZ z (.inr g) f n w
 ·by_cases h1 : 1 ≤ n ∧ n ≤ 256
  ·have k := pP h f n hh hf64 h1.1 h1.2 w
   rw [decide_eq_false (fun e => g ⟨h1.1, h1.2, e⟩)] at k; exact k
  ·exact AA h f n ow hh w
theorem HO (z : Int) (f : Nat) (hf64 : f < 18446744073709551616) (A) (c : Nat) (ls : List i6) (Bl) (cl : Nat) (left : List i6) (Br) (cr : Nat) (right : List i6) (hcl : left.length ≤ cl) (hcr : right.length ≤ cr) (w0) (hR : Ro w0 [] (SlA A (m9 ls))) (hl : Ro w0 [] (SlA Bl (m9 left))) (hr : Ro w0 [] (SlA Br (m9 right))) (hT : Tabs 3 1 w0 []) : cR 19 #[iI z, uI f, sL A ls.length c, .agg #[sL Bl left.length cl, sL Br right.length cr]] w0 (.tuple #[hv (V4 z f ls left right).1, HX 73 (V4 z f ls left right).2]) := by
 by_cases hz : z < 0 ∨ 32 < z
 ·rw [V4, if_pos hz]; exact cQ (tD z f A c ls Bl cl left Br cr right (fun w => zX hf64 ow w) w0)
 ·obtain ⟨h, rfl⟩ : ∃ n : Nat, z = (n : Int) := ⟨z.toNat, by omega⟩
  have hh : h ≤ 32 := by omega
  rw [rB hh]
  by_cases g : 1 ≤ ls.length ∧ ls.length ≤ 256 ∧ f + ls.length ≤ 2 ^ h
  ·by_cases g2 : (l4 f h).length = left.length ∧ (j6 (f + ls.length - 1) h).length = right.length
   ·rw [CE g g2]; exact cQ (zc0 h f hh hf64 A c ls Bl cl left Br cr right g.1 g.2.1 g.2.2 g2.1 g2.2 hcl hcr w0 hR hl hr hT)
   ·rw [CG g g2]; exact cQ (zc1 h f hh hf64 A c ls Bl cl left Br cr right g.1 g.2.1 g.2.2 g2 w0)
  ·rw [CF g]; exact cQ (tD h f A c ls Bl cl left Br cr right (fun w => zX hf64 (.inr (.inr ⟨h, rfl, hh, g⟩)) w) w0)
def IJ (h : Nat) (f : Nat) (B : y8) (b : Nat) (ls : List i6) (P : y8) (q : Nat) (P2 : y8) (q2 : Nat) (Bl : y8) (cl : Nat) (left : List i6) (Br : y8) (cr : Nat) (right : List i6) (l : Nat) : Prop := ∀ (p : Nat) (w0 : World), N0 h (l, p) → NodeOk ((l4 f h).zip left) ((j6 (f + ls.length - 1) h).zip right) f (f + ls.length - 1) l p → Ro w0 [] (SlA B (m9 ls)) → Ro w0 [] (SlA P (iQ (l4 f h))) → Ro w0 [] (SlA P2 (iQ (j6 (f + ls.length - 1) h))) → Ro w0 [] (SlA Bl (m9 left)) → Ro w0 [] (SlA Br (m9 right)) → Tabs 2 0 w0 [] →
 Calls prog 125 #[.int .i64 ((l : Nat) : Int), .int .u64 (p : Int), .int .u64 (f : Int), .slice B ls.length b, .slice P (l4 f h).length q, .slice P2 (j6 (f + ls.length - 1) h).length q2, .slice Bl left.length cl, .slice Br right.length cr] w0 (nX w0 (hv (aC ((l4 f h).zip left) ((j6 (f + ls.length - 1) h).zip right) ls f (l) (p))))
theorem zbm (h : Nat) (hh : h ≤ 32) (f : Nat) (B) (b : Nat) (ls : List i6) (P) (q : Nat) (P2) (q2 : Nat) (Bl) (cl : Nat) (left : List i6) (Br) (cr : Nat) (right : List i6) (ctx : RowCtx f ls.length h ls left right) (h256 : ls.length ≤ 256) (p : Nat) (w0) (ho : N0 h (0, p)) (hok : NodeOk ((l4 f h).zip left) ((j6 (f + ls.length - 1) h).zip right) f (f + ls.length - 1) (0) p) (hB : Ro w0 [] (SlA B (m9 ls))) (hP : Ro w0 [] (SlA P (iQ (l4 f h)))) (hP2 : Ro w0 [] (SlA P2 (iQ (j6 (f + ls.length - 1) h)))) (hl : Ro w0 [] (SlA Bl (m9 left))) (hr : Ro w0 [] (SlA Br (m9 right))) (hT : Tabs 2 0 w0 [])  :
  cP 125 #[iI (0 : Nat), uI p, uI f, sL B ls.length b, sL P (l4 f h).length q, sL P2 (j6 (f + ls.length - 1) h).length q2, sL Bl left.length cl, sL Br right.length cr] w0 fun v L => v = hv (aC ((l4 f h).zip left) ((j6 (f + ls.length - 1) h).zip right) ls f (0) (p)) ∧ L = [] := by
 refine co 89 [.cell 16 49] func125 ?_
 obtain ⟨hl32, hp32⟩ := aX hh ho
 have hsl := bI f h
 have hsr := Y3 (f + ls.length - 1) h
 have hcl := ctx.lenL
 have hcr := ctx.lenR
 refine gw ?_
 intro b16
 refine gw ?_
 refine l5 (γ := Nat) (mr 19 18 [17]) (fun k => [(17, iI k)]) (fun _ => _) (fun k => k ≤ (l4 f h).length ∧ ∀ i, i < k → (l4 f h).getD i (0, 0) ≠ (0, p)) (fun k => (l4 f h).length - k) (0)
  ⟨Nat.zero_le _, fun i h => absurd h (Nat.not_lt_zero _)⟩ oa sr ?_
 rintro k u ⟨hk, hq⟩
 refine gw ?_
 refine j0 rfl rfl (p9 rfl rfl) (fun h22 => gw ?_) (fun h22 => gw ?_)
 ·refine e6 (i5 uT cT rfl rfl ow (c9 hP) (by rw [W4]; omega)) (e6 (a8 rfl (H4 (vs := [iI (((l4 f h).getD k (0, 0)).1 : Int), uI (((l4 f h).getD k (0, 0)).2 : Int)]) (c9 hP) rT ce265 (Nat.zero_lt_succ _) (lU h22))) (gw ?_))
  refine e6 (n8 (F5 (vs := [iI (0 : Nat), uI p]) (pls := #[(0, 1), (1, 1)]) uT (fun w => by kernel_rfl) ze265 rfl ⟨rfl, rfl, trivial⟩ rfl) (show _ = p6 (0, p) from rfl)) (j0 rfl rfl (lD (a := (l4 f h).getD k (0, 0)) (b := (0, p)) kr key171 rfl rfl) (fun h32 => gw ?_) (fun h32 => gw ?_))
  ·refine e6 (i5 uT cT rfl rfl ow (c9 hl) (by rw [m7]; omega)) (e6 (a8 rfl (E4 (c9 hl) k rT ce49 ow rfl)) (j9 rfl (W9 _ rfl (gw ?_))))
   refine a9 (finQ.ret (j7 rfl (i4 w5 rT (o5 ce49)) n9) sn ?_)
   rw [qS (W0 (0, 0) h22 ctx.lenL hq h32)]
   exact rr
  ·refine ⟨k + 1, ?_, od, oz, sr⟩
   exact ⟨by show _ ≤ _; omega, fun i hi => (Nat.lt_or_ge i k).elim (hq i) (fun h => by (obtain rfl : i = k := by omega); exact h32)⟩
 ·refine i7 (c8 ?_)
  have hnoL : Go.E.look (0, p) ((l4 f h).zip left) = none := W2 (0, 0) (fun i hi => hq i ow)
  refine gw ?_
  refine l5 (γ := Nat) (mr 37 18 [18]) (fun j => [(18, iI j)]) (fun _ => _) (fun j => j ≤ (j6 (f + ls.length - 1) h).length ∧ ∀ i, i < j → (j6 (f + ls.length - 1) h).getD i (0, 0) ≠ (0, p)) (fun j => (j6 (f + ls.length - 1) h).length - j) (0)
   ⟨Nat.zero_le _, fun i h => absurd h (Nat.not_lt_zero _)⟩ oa sr ?_
  rintro j u ⟨hj, hq2⟩
  refine gw ?_
  refine j0 rfl rfl (p9 rfl rfl) (fun h40 => gw ?_) (fun h40 => gw ?_)
  ·refine e6 (i5 uT cT rfl rfl ow (c9 hP2) (by rw [W4]; omega)) (e6 (a8 rfl (H4 (vs := [iI (((j6 (f + ls.length - 1) h).getD j (0, 0)).1 : Int), uI (((j6 (f + ls.length - 1) h).getD j (0, 0)).2 : Int)]) (c9 hP2) rT ce265 (Nat.zero_lt_succ _) (lU h40))) (gw ?_))
   refine e6 (n8 (F5 (vs := [iI (0 : Nat), uI p]) (pls := #[(0, 1), (1, 1)]) uT (fun w => by kernel_rfl) ze265 rfl ⟨rfl, rfl, trivial⟩ rfl) (show _ = p6 (0, p) from rfl)) (j0 rfl rfl (lD (a := (j6 (f + ls.length - 1) h).getD j (0, 0)) (b := (0, p)) kr key171 rfl rfl) (fun h50 => gw ?_) (fun h50 => gw ?_))
   ·refine e6 (i5 uT cT rfl rfl ow (c9 hr) (by rw [m7]; omega)) (e6 (a8 rfl (E4 (c9 hr) j rT ce49 ow rfl)) (j9 rfl (W9 _ rfl (gw ?_))))
    refine a9 (finQ.ret (j7 rfl (i4 w5 rT (o5 ce49)) n9) sn ?_)
    rw [nG hnoL (W0 (0, 0) h40 ctx.lenR hq2 h50)]
    exact rr
   ·refine ⟨j + 1, ?_, od, oz, sr⟩
    exact ⟨by show _ ≤ _; omega, fun i hi => (Nat.lt_or_ge i j).elim (hq2 i) (fun h => by (obtain rfl : i = j := by omega); exact h50)⟩
  ·refine i7 (c8 (c8 (c7 ?_)))
   have hnoR : Go.E.look (0, p) ((j6 (f + ls.length - 1) h).zip right) = none := W2 (0, 0) (fun i hi => hq2 i ow)
   obtain ⟨hf1, hf2⟩ := hok.leaf hnoL hnoR
   have hn1 := ctx.n1
   refine gw ?_
   refine e6 (Qt.dT (z6 (b := 0) rfl rfl) (rfl)) (gw ?_)
   refine e6 (o7 rfl rfl ow km) (e6 (r8 uT uT rfl km) (e6 (i5 uT cT rfl rfl ow (c9 hB) (by rw [m7]; omega)) (e6 (a8 rfl (E4 (c9 hB) (p - f) rT ce49 ow rfl)) (j9 rfl (W9 _ rfl (gw ?_))))))
   refine a9 (finQ.ret (j7 rfl (i4 w5 rT (o5 ce49)) n9) sn ?_)
   rw [zU hnoL hnoR]
   exact rr
theorem zbn (h : Nat) (hh : h ≤ 32) (f : Nat) (B) (b : Nat) (ls : List i6) (P) (q : Nat) (P2) (q2 : Nat) (Bl) (cl : Nat) (left : List i6) (Br) (cr : Nat) (right : List i6) (ctx : RowCtx f ls.length h ls left right) (h256 : ls.length ≤ 256) (l p : Nat) (w0) (ho : N0 h (l + 1, p)) (hok : NodeOk ((l4 f h).zip left) ((j6 (f + ls.length - 1) h).zip right) f (f + ls.length - 1) (l + 1) p) (hB : Ro w0 [] (SlA B (m9 ls))) (hP : Ro w0 [] (SlA P (iQ (l4 f h)))) (hP2 : Ro w0 [] (SlA P2 (iQ (j6 (f + ls.length - 1) h)))) (hl : Ro w0 [] (SlA Bl (m9 left))) (hr : Ro w0 [] (SlA Br (m9 right))) (hT : Tabs 2 0 w0 []) (hlh : l + 1 ≤ h) (hrec : IJ h f B b ls P q P2 q2 Bl cl left Br cr right l) :
  cP 125 #[iI ↑(l + 1), uI p, uI f, sL B ls.length b, sL P (l4 f h).length q, sL P2 (j6 (f + ls.length - 1) h).length q2, sL Bl left.length cl, sL Br right.length cr] w0 fun v L => v = hv (aC ((l4 f h).zip left) ((j6 (f + ls.length - 1) h).zip right) ls f (l + 1) (p)) ∧ L = [] := by
 refine co 89 [.cell 16 49] func125 ?_
 obtain ⟨hl32, hp32⟩ := aX hh ho
 have hsl := bI f h
 have hsr := Y3 (f + ls.length - 1) h
 have hcl := ctx.lenL
 have hcr := ctx.lenR
 refine gw ?_
 intro b16
 refine gw ?_
 refine l5 (γ := Nat) (mr 19 18 [17]) (fun k => [(17, iI k)]) (fun _ => _) (fun k => k ≤ (l4 f h).length ∧ ∀ i, i < k → (l4 f h).getD i (0, 0) ≠ (l + 1, p)) (fun k => (l4 f h).length - k) (0)
  ⟨Nat.zero_le _, fun i h => absurd h (Nat.not_lt_zero _)⟩ oa sr ?_
 rintro k u ⟨hk, hq⟩
 refine gw ?_
 refine j0 rfl rfl (p9 rfl rfl) (fun h22 => gw ?_) (fun h22 => gw ?_)
 ·refine e6 (i5 uT cT rfl rfl ow (c9 hP) (by rw [W4]; omega)) (e6 (a8 rfl (H4 (vs := [iI (((l4 f h).getD k (0, 0)).1 : Int), uI (((l4 f h).getD k (0, 0)).2 : Int)]) (c9 hP) rT ce265 (Nat.zero_lt_succ _) (lU h22))) (gw ?_))
  refine e6 (n8 (F5 (vs := [iI ↑(l + 1), uI p]) (pls := #[(0, 1), (1, 1)]) uT (fun w => by kernel_rfl) ze265 rfl ⟨rfl, rfl, trivial⟩ rfl) (show _ = p6 (l + 1, p) from rfl)) (j0 rfl rfl (lD (a := (l4 f h).getD k (0, 0)) (b := (l + 1, p)) kr key171 rfl rfl) (fun h32 => gw ?_) (fun h32 => gw ?_))
  ·refine e6 (i5 uT cT rfl rfl ow (c9 hl) (by rw [m7]; omega)) (e6 (a8 rfl (E4 (c9 hl) k rT ce49 ow rfl)) (j9 rfl (W9 _ rfl (gw ?_))))
   refine a9 (finQ.ret (j7 rfl (i4 w5 rT (o5 ce49)) n9) sn ?_)
   rw [qS (W0 (0, 0) h22 ctx.lenL hq h32)]
   exact rr
  ·refine ⟨k + 1, ?_, od, oz, sr⟩
   exact ⟨by show _ ≤ _; omega, fun i hi => (Nat.lt_or_ge i k).elim (hq i) (fun h => by (obtain rfl : i = k := by omega); exact h32)⟩
 ·refine i7 (c8 ?_)
  have hnoL : Go.E.look (l + 1, p) ((l4 f h).zip left) = none := W2 (0, 0) (fun i hi => hq i ow)
  refine gw ?_
  refine l5 (γ := Nat) (mr 37 18 [18]) (fun j => [(18, iI j)]) (fun _ => _) (fun j => j ≤ (j6 (f + ls.length - 1) h).length ∧ ∀ i, i < j → (j6 (f + ls.length - 1) h).getD i (0, 0) ≠ (l + 1, p)) (fun j => (j6 (f + ls.length - 1) h).length - j) (0)
   ⟨Nat.zero_le _, fun i h => absurd h (Nat.not_lt_zero _)⟩ oa sr ?_
  rintro j u ⟨hj, hq2⟩
  refine gw ?_
  refine j0 rfl rfl (p9 rfl rfl) (fun h40 => gw ?_) (fun h40 => gw ?_)
  ·refine e6 (i5 uT cT rfl rfl ow (c9 hP2) (by rw [W4]; omega)) (e6 (a8 rfl (H4 (vs := [iI (((j6 (f + ls.length - 1) h).getD j (0, 0)).1 : Int), uI (((j6 (f + ls.length - 1) h).getD j (0, 0)).2 : Int)]) (c9 hP2) rT ce265 (Nat.zero_lt_succ _) (lU h40))) (gw ?_))
   refine e6 (n8 (F5 (vs := [iI ↑(l + 1), uI p]) (pls := #[(0, 1), (1, 1)]) uT (fun w => by kernel_rfl) ze265 rfl ⟨rfl, rfl, trivial⟩ rfl) (show _ = p6 (l + 1, p) from rfl)) (j0 rfl rfl (lD (a := (j6 (f + ls.length - 1) h).getD j (0, 0)) (b := (l + 1, p)) kr key171 rfl rfl) (fun h50 => gw ?_) (fun h50 => gw ?_))
   ·refine e6 (i5 uT cT rfl rfl ow (c9 hr) (by rw [m7]; omega)) (e6 (a8 rfl (E4 (c9 hr) j rT ce49 ow rfl)) (j9 rfl (W9 _ rfl (gw ?_))))
    refine a9 (finQ.ret (j7 rfl (i4 w5 rT (o5 ce49)) n9) sn ?_)
    rw [nG hnoL (W0 (0, 0) h40 ctx.lenR hq2 h50)]
    exact rr
   ·refine ⟨j + 1, ?_, od, oz, sr⟩
    exact ⟨by show _ ≤ _; omega, fun i hi => (Nat.lt_or_ge i j).elim (hq2 i) (fun h => by (obtain rfl : i = j := by omega); exact h50)⟩
  ·refine i7 (c8 (c8 (c7 ?_)))
   have hnoR : Go.E.look (l + 1, p) ((j6 (f + ls.length - 1) h).zip right) = none := W2 (0, 0) (fun i hi => hq2 i ow)
   obtain ⟨okl, okr⟩ := bG ho
   obtain ⟨kl, krq⟩ := NodeOk.kids ctx hlh hok hnoL hnoR
   refine gw ?_
   refine e6 (Qt.dF (z6 (b := 0) rfl rfl) ow) (gw ?_)
   refine e6 (n8 (o7 (a := l + 1) (b := 1) rfl rfl ow km) (by rw [Nat.add_sub_cancel])) (gw ?_)
   refine e6 (F3 (a := 2) rfl rfl km) (gw ?_)
   refine u7 en (fun w hw => hrec (2 * p) w okl kl (Rd.ro hB w hw) (Rd.ro hP w hw) (Rd.ro hP2 w hw) (Rd.ro hl w hw) (Rd.ro hr w hw) (hT.at hw)) (gw ?_)
   refine e6 (n8 (o7 (a := l + 1) (b := 1) rfl rfl ow km) (by rw [Nat.add_sub_cancel])) (gw ?_)
   refine e6 (F3 (a := 2) rfl rfl km) (gw ?_)
   refine u7 en (fun w hw => hrec (2 * p + 1) w okr krq (Rd.ro hB w hw) (Rd.ro hP w hw) (Rd.ro hP2 w hw) (Rd.ro hl w hw) (Rd.ro hr w hw) (hT.at hw)) (u7 en (fun w hw => CA (l + 1) ow (aC ((l4 f h).zip left) ((j6 (f + ls.length - 1) h).zip right) ls f (l) (2 * p)) (aC ((l4 f h).zip left) ((j6 (f + ls.length - 1) h).zip right) ls f (l) (2 * p + 1)) w (hT.at hw)) ?_)
   refine j9 rfl (W9 _ rfl (gw ?_))
   refine a9 (finQ.ret (j7 rfl (i4 w5 rT (o5 ce49)) n9) sn ?_)
   rw [zS hnoL hnoR]
   exact rr
theorem lT (h : Nat) (hh : h ≤ 32) (f : Nat) (B) (b : Nat) (ls : List i6) (P) (q : Nat) (P2) (q2 : Nat) (Bl) (cl : Nat) (left : List i6) (Br) (cr : Nat) (right : List i6) (ctx : RowCtx f ls.length h ls left right) (h256 : ls.length ≤ 256) : ∀ l, l ≤ h → IJ h f B b ls P q P2 q2 Bl cl left Br cr right l
 | 0, hl0 => fun p w0 ho hok hB hP hP2 hl hr hT => cQ (zbm h hh f B b ls P q P2 q2 Bl cl left Br cr right ctx h256 p w0 ho hok hB hP hP2 hl hr hT)
 | l + 1, hl0 => fun p w0 ho hok hB hP hP2 hl hr hT => cQ (zbn h hh f B b ls P q P2 q2 Bl cl left Br cr right ctx h256 l p w0 ho hok hB hP hP2 hl hr hT hl0 (lT h hh f B b ls P q P2 q2 Bl cl left Br cr right ctx h256 l ow))
theorem mL (z : Int) (f : Nat) (A) (c : Nat) (ls : List i6) (Bl) (cl : Nat) (left : List i6) (Br) (cr : Nat) (right : List i6) (hf : ∀ w, cR 147 #[iI z, uI f, iI (ls.length : Int)] w (.bool false)) (w0) :
  cP 124 #[iI z, uI f, sL A ls.length c, sL Bl left.length cl, sL Br right.length cr] w0 fun v L => v = .tuple #[hv e7, iI 1] ∧ L = [] := by
 refine co 50 [.cell 10 49, .tmp 11] func124 ?_
 refine gw ?_
 intro b10
 refine gw ?_
 refine u7 en (fun w hw => hf w) (gw ?_)
 refine e6 (C8 (v := hv e7) rfl (fun _ => by kernel_rfl)) (j9 rfl (W9 (e7) rfl (gw ?_)))
 refine a9 (finQ.ret (j7 rfl (i4 w5 rT (o5 ce49)) rv) sn ?_)
 exact rr
theorem zaY (h f : Nat) (hh : h ≤ 32) (hf64 : f < 18446744073709551616) (A) (c : Nat) (ls : List i6) (Bl) (cl : Nat) (left : List i6) (Br) (cr : Nat) (right : List i6) (h1 : 1 ≤ ls.length) (h2 : ls.length ≤ 256) (hf : f + ls.length ≤ 2 ^ h) (h3 : ¬ ((l4 f h).length = left.length ∧ (j6 (f + ls.length - 1) h).length = right.length)) (w0) :
  cP 124 #[iI h, uI f, sL A ls.length c, sL Bl left.length cl, sL Br right.length cr] w0 fun v L => v = .tuple #[hv e7, iI 5] ∧ L = [] := by
 refine co 50 [.cell 10 49, .tmp 11] func124 ?_
 refine gw ?_
 intro b10
 refine gw ?_
 refine u7 en (fun w hw => (by have k := pP h f ls.length hh hf64 h1 h2 w; rw [decide_eq_true hf] at k; exact k : cR 147 #[iI h, uI f, iI (ls.length : Int)] w (.bool true))) (gw ?_)
 refine z9 en (fun w hw => gC h f ls.length hh hf h1 h2 w) ?_
 rintro v L' ⟨A1, e1, A2, e2, rfl, rfl⟩
 refine gw ?_
 refine j0 rfl rfl (C7 rfl rfl) (fun h33 => gw ?_) (fun h33 => gw ?_)
 ·refine e6 (C8 (v := hv e7) rfl (fun _ => by kernel_rfl)) (j9 rfl (K9 (v := hv (e7)) rfl rfl (o5 ce49) (N7 _) (v9 _) (gw ?_)))
  refine a9 (finQ.ret (j7 rfl (i4 aH rT (o5 ce49)) rv) sn ?_)
  exact rr
 ·refine E8 rfl rfl rfl (Qt.dT (C7 rfl rfl) (fun e => h3 ⟨Decidable.not_not.1 h33, e⟩)) (gw ?_)
  refine e6 (C8 (v := hv e7) rfl (fun _ => by kernel_rfl)) (j9 rfl (K9 (v := hv (e7)) rfl rfl (o5 ce49) (N7 _) (v9 _) (gw ?_)))
  refine a9 (finQ.ret (j7 rfl (i4 aH rT (o5 ce49)) rv) sn ?_)
  exact rr
theorem zaX (h f : Nat) (hh : h ≤ 32) (hf64 : f < 18446744073709551616) (A) (c : Nat) (ls : List i6) (Bl) (cl : Nat) (left : List i6) (Br) (cr : Nat) (right : List i6) (h1 : 1 ≤ ls.length) (h2 : ls.length ≤ 256) (hf : f + ls.length ≤ 2 ^ h) (hLl : (l4 f h).length = left.length) (hLr : (j6 (f + ls.length - 1) h).length = right.length) (w0) (hR : Ro w0 [] (SlA A (m9 ls))) (hl : Ro w0 [] (SlA Bl (m9 left))) (hr : Ro w0 [] (SlA Br (m9 right))) (hT : Tabs 2 0 w0 []) :
  cP 124 #[iI h, uI f, sL A ls.length c, sL Bl left.length cl, sL Br right.length cr] w0 fun v L => v = .tuple #[hv (aC ((l4 f h).zip left) ((j6 (f + ls.length - 1) h).zip right) ls f h 0), iI 0] ∧ L = [] := by
 refine co 50 [.cell 10 49, .tmp 11] func124 ?_
 have ctx : RowCtx f ls.length h ls left right := ⟨h1, hf, rfl, hLl, hLr⟩
 refine gw ?_
 intro b10
 refine gw ?_
 refine u7 en (fun w hw => (by have k := pP h f ls.length hh hf64 h1 h2 w; rw [decide_eq_true hf] at k; exact k : cR 147 #[iI h, uI f, iI (ls.length : Int)] w (.bool true))) (gw ?_)
 refine z9 en (fun w hw => gC h f ls.length hh hf h1 h2 w) ?_
 rintro v L' ⟨A1, e1, A2, e2, rfl, rfl⟩
 refine gw ?_
 refine e6 (Qt.dF (C7 rfl rfl) (fun e => e hLl)) (gw ?_)
 refine E8 rfl rfl rfl (Qt.dF (C7 rfl rfl) (fun e => e hLr)) (gw ?_)
 refine u7 en (fun w hw => lT h hh f A c ls A1 e1 A2 e2 Bl cl left Br cr right ctx h2 h (Nat.le_refl _) 0 w (cE h) (NodeOk.root ctx) (Rd.ro hR w hw) (Rd.own (Rd.at 0 rfl) w hw) (Rd.own (Rd.at 1 rfl) w hw) (Rd.ro hl w hw) (Rd.ro hr w hw) (hT.at hw)) (j9 rfl (K9 (v := hv (_)) rfl rfl (o5 ce49) (N7 _) (v9 _) (gw ?_)))
 refine a9 (finQ.ret (j7 rfl (i4 aH rT (o5 ce49)) rv) sn ?_)
 exact rr
theorem AB (z : Int) (f : Nat) (hf64 : f < 18446744073709551616) (A) (c : Nat) (ls : List i6) (Bl) (cl : Nat) (left : List i6) (Br) (cr : Nat) (right : List i6) (w0) (hR : Ro w0 [] (SlA A (m9 ls))) (hl : Ro w0 [] (SlA Bl (m9 left))) (hr : Ro w0 [] (SlA Br (m9 right))) (hT : Tabs 2 0 w0 []) : cR 124 #[iI z, uI f, sL A ls.length c, sL Bl left.length cl, sL Br right.length cr] w0 (.tuple #[hv (V4 z f ls left right).1, iI ↑((V4 z f ls left right).2)]) := by
 by_cases hz : z < 0 ∨ 32 < z
 ·rw [V4, if_pos hz]; exact cQ (mL z f A c ls Bl cl left Br cr right (fun w => qT hf64 ow w) w0)
 ·obtain ⟨h, rfl⟩ : ∃ n : Nat, z = (n : Int) := ⟨z.toNat, by omega⟩
  have hh : h ≤ 32 := by omega
  rw [rB hh]
  by_cases g : 1 ≤ ls.length ∧ ls.length ≤ 256 ∧ f + ls.length ≤ 2 ^ h
  ·by_cases g2 : (l4 f h).length = left.length ∧ (j6 (f + ls.length - 1) h).length = right.length
   ·rw [CE g g2]; exact cQ (zaX h f hh hf64 A c ls Bl cl left Br cr right g.1 g.2.1 g.2.2 g2.1 g2.2 w0 hR hl hr hT)
   ·rw [CG g g2]; exact cQ (zaY h f hh hf64 A c ls Bl cl left Br cr right g.1 g.2.1 g.2.2 g2 w0)
  ·rw [CF g]; exact cQ (mL h f A c ls Bl cl left Br cr right (fun w => qT hf64 (.inr (.inr ⟨h, rfl, hh, g⟩)) w) w0)
end Go.Proofs.YtgdjcmehlhebdaaGreatDoor
