/- Walks: the root that leaves and a proof come to -/
import Derived.Test.YtgdjcmehlhebdaaGreatDoorY1
import Derived.Laws.IdiomStrings
set_option maxHeartbeats 25600000
set_option linter.all false
namespace Go.Proofs.YtgdjcmehlhebdaaGreatDoor
open _root_.Go.Proofs.Tryz
open Go.E
set_option maxRecDepth 4000
def ID (gh l : Nat) : Prop := ∀ (p : Nat) (xs : List Nat) (A : y8) (c cb : Nat) (A1 : y8) (lr : List i6) (c1 : Nat) (A2 : y8) (br : List i6) (c2 : Nat) (O : y8) (tt : List Tx) (d : Nat) (w0 : World),
 N0 gh (l, p) → xs.Pairwise (· < ·) → (∀ x ∈ xs, x / 2 ^ l = p) → xs.length ≤ c → xs.length ≤ 256 → xs.length ≤ lr.length → (l7 l xs p).length ≤ br.length → lr.length ≤ c1 → br.length ≤ c2 → tt.length + xs.length * l ≤ 16384 → lr.length ≤ 65536 → br.length ≤ 65536 →
 Sat w0 (I0 331 112 cb A1 lr c1 A2 br c2 O tt d) → Ro w0 (A8 (I0 331 112 cb A1 lr c1 A2 br c2 O tt d)) (SlA A (w6 xs)) → Ro w0 (A8 (I0 331 112 cb A1 lr c1 A2 br c2 O tt d)) (SlA A1 (m9 lr)) → Ro w0 (A8 (I0 331 112 cb A1 lr c1 A2 br c2 O tt d)) (SlA A2 (m9 br)) → Tabs 3 1 w0 (A8 (I0 331 112 cb A1 lr c1 A2 br c2 O tt d)) →
 Calls prog 206 #[.pointer (some ⟨cb, 0, none⟩), .slice A xs.length c, .int .i64 (l : Int), .int .u64 (p : Int)] w0 (D0 w0 (A8 (I0 331 112 cb A1 lr c1 A2 br c2 O tt d)) fun v L => ∃ A1' c1' A2' c2' O' d' tt', v = .tuple #[hv (F2 l xs p (lr.take xs.length) (br.take (l7 l xs p).length)), .nilIface] ∧
  L = I0 331 112 cb A1' (lr.drop xs.length) c1' A2' (br.drop (l7 l xs p).length) c2' O' (tt ++ tt') d' ∧ tt'.map (fun t => t.2.2) = S0 l xs p (lr.take xs.length) (br.take (l7 l xs p).length) ∧ Less A1 lr xs.length A1' c1' ∧ Less A2 br (l7 l xs p).length A2' c2')
theorem zcq (cb : Nat) (B) (lr : List i6) (c1 : Nat) (u t : Value) (h0 : 0 < lr.length) (hc : lr.length ≤ c1) (hm : lr.length ≤ 65536) (w0) (hL : Sat w0 [Blk cb 331 [sL B lr.length c1, u, t]]) (hB : Ro w0 (A8 [Blk cb 331 [sL B lr.length c1, u, t]]) (SlA B (m9 lr))) :
  Calls prog 214 #[pZ cb] w0 (D0 w0 (A8 [Blk cb 331 [sL B lr.length c1, u, t]]) fun v L => v = hv (lr.getD 0 e7) ∧ L = [Blk cb 331 [sL (if c1 = 1 then B else B.map (·.add (1 * 32))) (lr.length - 1) (c1 - 1), u, t]]) := by
 refine gW (L := [Blk cb 331 [sL B lr.length c1, u, t]]) 16 [.cell 2 49] func214 hL ?_
 refine gw ?_
 intro b2
 refine gw ?_
 refine e6 (i5 (i := 0) uT cT rfl rfl ow (c9 hB) (by rw [m7]; omega)) (e6 (a8 rfl (E4 (c9 hB) 0 rT ce49 h0 rfl)) (gw ?_))
 intro b3
 refine j9 rfl (W9 _ rfl (gw ?_))
 refine e6 (D3 (l := 1) uT cT rfl rfl ow) (gw ?_)
 refine j9 rfl (R4 rfl cw cT rfl rfl (Nat.le_of_ble_eq_true rfl) (gw ?_))
 refine j9 rfl (HY _ rfl (gw ?_))
 exact a9 (finQ.ret (j7 rfl (i4 N3 rT (o5 ce49)) n9) (sx [2]) (rr))
theorem zcr (cb : Nat) (B) (lr : List i6) (c1 : Nat) (u t : Value) (h0 : 0 < lr.length) (hc : lr.length ≤ c1) (hm : lr.length ≤ 65536) (w0) (hL : Sat w0 [Blk cb 331 [u, sL B lr.length c1, t]]) (hB : Ro w0 (A8 [Blk cb 331 [u, sL B lr.length c1, t]]) (SlA B (m9 lr))) :
  Calls prog 214 #[.pointer (some ⟨cb, 1, none⟩)] w0 (D0 w0 (A8 [Blk cb 331 [u, sL B lr.length c1, t]]) fun v L => v = hv (lr.getD 0 e7) ∧ L = [Blk cb 331 [u, sL (if c1 = 1 then B else B.map (·.add (1 * 32))) (lr.length - 1) (c1 - 1), t]]) := by
 refine gW (L := [Blk cb 331 [u, sL B lr.length c1, t]]) 16 [.cell 2 49] func214 hL ?_
 refine gw ?_
 intro b2
 refine gw ?_
 refine e6 (i5 (i := 0) uT cT rfl rfl ow (c9 hB) (by rw [m7]; omega)) (e6 (a8 rfl (E4 (c9 hB) 0 rT ce49 h0 rfl)) (gw ?_))
 intro b3
 refine j9 rfl (W9 _ rfl (gw ?_))
 refine e6 (D3 (l := 1) uT cT rfl rfl ow) (gw ?_)
 refine j9 rfl (R4 rfl cw cT rfl rfl (Nat.le_of_ble_eq_true rfl) (gw ?_))
 refine j9 rfl (HY _ rfl (gw ?_))
 exact a9 (finQ.ret (j7 rfl (i4 N3 rT (o5 ce49)) n9) (sx [2]) (rr))
theorem rX (gh : Nat) (hh : gh ≤ 32) (l p : Nat) (xs : List Nat) (A) (c cb : Nat) (A1) (lr : List i6) (c1 : Nat) (A2) (br : List i6) (c2 : Nat) (O) (tt : List Tx) (d : Nat) (w0) (ho : N0 gh (l, p)) (hs : xs.Pairwise (· < ·)) (hx : ∀ x ∈ xs, x / 2 ^ (l) = p) (hc : xs.length ≤ c) (hn : xs.length ≤ 256) (hl1 : xs.length ≤ lr.length) (hl2 : (l7 (l) xs p).length ≤ br.length) (hc1 : lr.length ≤ c1) (hc2 : br.length ≤ c2) (htt : tt.length + xs.length * (l) ≤ 16384) (hm1 : lr.length ≤ 65536) (hm2 : br.length ≤ 65536) (h0 : Sat w0 (I0 331 112 cb A1 lr c1 A2 br c2 O tt d)) (hR : Ro w0 (A8 (I0 331 112 cb A1 lr c1 A2 br c2 O tt d)) (SlA A (w6 xs))) (hA1 : Ro w0 (A8 (I0 331 112 cb A1 lr c1 A2 br c2 O tt d)) (SlA A1 (m9 lr))) (hA2 : Ro w0 (A8 (I0 331 112 cb A1 lr c1 A2 br c2 O tt d)) (SlA A2 (m9 br))) (hT : Tabs 3 1 w0 (A8 (I0 331 112 cb A1 lr c1 A2 br c2 O tt d))) (he : xs = []) :
  Calls prog 206 #[pZ cb, sL A xs.length c, iI l, uI p] w0 (D0 w0 (A8 (I0 331 112 cb A1 lr c1 A2 br c2 O tt d)) fun v L => ∃ A1' c1' A2' c2' O' d' tt', v = .tuple #[hv (F2 (l) xs p (lr.take xs.length) (br.take (l7 (l) xs p).length)), .nilIface] ∧ L = I0 331 112 cb A1' (lr.drop xs.length) c1' A2' (br.drop (l7 (l) xs p).length) c2' O' (tt ++ tt') d' ∧ tt'.map (fun t => t.2.2) = S0 (l) xs p (lr.take xs.length) (br.take (l7 (l) xs p).length) ∧ Less A1 lr xs.length A1' c1' ∧ Less A2 br (l7 (l) xs p).length A2' c2') := by
 refine gW (L := I0 331 112 cb A1 lr c1 A2 br c2 O tt d) 90 [.cell 8 49, .tmp 9] func206 h0 ?_
 subst he
 have hb1 : 1 ≤ br.length := by rw [aG] at hl2; exact hl2
 refine gw ?_
 intro b8
 refine gw ?_
 refine e6 (Qt.dT (z6 (b := 0) rfl rfl) (rfl)) (gw ?_)
 refine z7 (l8 (Pre := [Blk cb 331 [sL A1 lr.length c1, sL A2 br.length c2, sL O tt.length d]]) (R := _) en rfl pm1 (fun w hw => zcr cb A2 br c2 (sL A1 lr.length c1) (sL O tt.length d) ow hc2 hm2 w hw.sat.left (u5 hw hA2)) ?_)
 rintro v L' ⟨rfl, rfl⟩
 refine j9 rfl (HY _ rfl (gw ?_))
 refine a9 (finQ.ret (j7 rfl (i4 N3 rT (o5 ce49)) rv) (sx [0, 1, 1]) ?_)
 refine ⟨A1, c1, if c2 = 1 then A2 else A2.map (·.add (1 * 32)), c2 - 1, O, d, [], ?_, ?_, by rw [uY]; rfl, Less.zero hc1, ?_⟩
 ·rw [mV, vO (by rw [aG]; exact Nat.zero_lt_one)]; rfl
 ·rw [List.append_nil, List.length_nil, List.drop_zero, aG, I0, List.length_drop]; rfl
 ·rw [aG]; exact Less.one hc2 hb1
theorem zck (gh : Nat) (hh : gh ≤ 32) (p : Nat) (xs : List Nat) (A) (c cb : Nat) (A1) (lr : List i6) (c1 : Nat) (A2) (br : List i6) (c2 : Nat) (O) (tt : List Tx) (d : Nat) (w0) (ho : N0 gh (0, p)) (hs : xs.Pairwise (· < ·)) (hx : ∀ x ∈ xs, x / 2 ^ (0) = p) (hc : xs.length ≤ c) (hn : xs.length ≤ 256) (hl1 : xs.length ≤ lr.length) (hl2 : (l7 (0) xs p).length ≤ br.length) (hc1 : lr.length ≤ c1) (hc2 : br.length ≤ c2) (htt : tt.length + xs.length * (0) ≤ 16384) (hm1 : lr.length ≤ 65536) (hm2 : br.length ≤ 65536) (h0 : Sat w0 (I0 331 112 cb A1 lr c1 A2 br c2 O tt d)) (hR : Ro w0 (A8 (I0 331 112 cb A1 lr c1 A2 br c2 O tt d)) (SlA A (w6 xs))) (hA1 : Ro w0 (A8 (I0 331 112 cb A1 lr c1 A2 br c2 O tt d)) (SlA A1 (m9 lr))) (hA2 : Ro w0 (A8 (I0 331 112 cb A1 lr c1 A2 br c2 O tt d)) (SlA A2 (m9 br))) (hT : Tabs 3 1 w0 (A8 (I0 331 112 cb A1 lr c1 A2 br c2 O tt d))) (he : xs ≠ []) :
  Calls prog 206 #[pZ cb, sL A xs.length c, iI (0 : Nat), uI p] w0 (D0 w0 (A8 (I0 331 112 cb A1 lr c1 A2 br c2 O tt d)) fun v L => ∃ A1' c1' A2' c2' O' d' tt', v = .tuple #[hv (F2 (0) xs p (lr.take xs.length) (br.take (l7 (0) xs p).length)), .nilIface] ∧ L = I0 331 112 cb A1' (lr.drop xs.length) c1' A2' (br.drop (l7 (0) xs p).length) c2' O' (tt ++ tt') d' ∧ tt'.map (fun t => t.2.2) = S0 (0) xs p (lr.take xs.length) (br.take (l7 (0) xs p).length) ∧ Less A1 lr xs.length A1' c1' ∧ Less A2 br (l7 (0) xs p).length A2' c2') := by
 refine gW (L := I0 331 112 cb A1 lr c1 A2 br c2 O tt d) 90 [.cell 8 49, .tmp 9] func206 h0 ?_
 have hpos := List.length_pos_iff.2 he
 have h1 : xs.length = 1 := by have := zhy hs hx; omega
 have hb1 : 0 < lr.length := by omega
 refine gw ?_
 intro b8
 refine gw ?_
 refine e6 (Qt.dF (z6 (b := 0) rfl rfl) ow) (gw ?_)
 refine e6 (Qt.dT (z6 (b := 0) rfl rfl) (rfl)) (gw ?_)
 refine z7 (l8 (Pre := [Blk cb 331 [sL A1 lr.length c1, sL A2 br.length c2, sL O tt.length d]]) (R := _) en rfl pm1 (fun w hw => zcq cb A1 lr c1 (sL A2 br.length c2) (sL O tt.length d) ow hc1 hm1 w hw.sat.left (u5 hw hA1)) ?_)
 rintro v L' ⟨rfl, rfl⟩
 refine j9 rfl (HY _ rfl ?_)
 refine gw ?_
 refine a9 ?_
 refine finQ.ret (j7 rfl (i4 N3 rT (o5 ce49)) rv) (sT (sk (sk (sk (sd I8)))) (sk (sT (sk (sT (sk sr) (e5 pm1))) (e5 pm1)))) ?_
 refine ⟨if c1 = 1 then A1 else A1.map (·.add (1 * 32)), c1 - 1, A2, c2, O, d, [], ?_, ?_, rfl, ?_, by rw [jQ he]; exact Less.zero hc2⟩
 ·rw [rW he, vO ow]; rfl
 ·rw [List.append_nil, jQ he, List.length_nil, List.drop_zero, I0, List.length_drop, h1]
 ·rw [h1]; exact Less.one hc1 hb1
theorem zcl (gh : Nat) (hh : gh ≤ 32) (l p : Nat) (xs : List Nat) (A : y8) (c cb : Nat) (A1 : y8) (lr : List i6) (c1 : Nat) (A2 : y8) (br : List i6) (c2 : Nat) (O : y8) (tt : List Tx) (d : Nat) (w0 : World) (ho : N0 gh (l + 1, p)) (hs : xs.Pairwise (· < ·)) (hx : ∀ x ∈ xs, x / 2 ^ (l + 1) = p) (hc : xs.length ≤ c) (hn : xs.length ≤ 256) (hl1 : xs.length ≤ lr.length) (hl2 : (l7 (l + 1) xs p).length ≤ br.length) (hc1 : lr.length ≤ c1) (hc2 : br.length ≤ c2) (htt : tt.length + xs.length * (l + 1) ≤ 16384) (hm1 : lr.length ≤ 65536) (hm2 : br.length ≤ 65536) (h0 : Sat w0 (I0 331 112 cb A1 lr c1 A2 br c2 O tt d)) (hR : Ro w0 (A8 (I0 331 112 cb A1 lr c1 A2 br c2 O tt d)) (SlA A (w6 xs))) (hA1 : Ro w0 (A8 (I0 331 112 cb A1 lr c1 A2 br c2 O tt d)) (SlA A1 (m9 lr))) (hA2 : Ro w0 (A8 (I0 331 112 cb A1 lr c1 A2 br c2 O tt d)) (SlA A2 (m9 br))) (hT : Tabs 3 1 w0 (A8 (I0 331 112 cb A1 lr c1 A2 br c2 O tt d))) (he : xs ≠ []) (hrec : ID gh l) :
    Calls prog 206 #[.pointer (some ⟨cb, 0, none⟩), .slice A xs.length c, .int .i64 ((l + 1 : Nat) : Int), .int .u64 (p : Int)] w0 (D0 w0 (A8 (I0 331 112 cb A1 lr c1 A2 br c2 O tt d)) fun v L => ∃ A1' c1' A2' c2' O' d' tt', v = .tuple #[hv (F2 (l + 1) xs p (lr.take xs.length) (br.take (l7 (l + 1) xs p).length)), .nilIface] ∧ L = I0 331 112 cb A1' (lr.drop xs.length) c1' A2' (br.drop (l7 (l + 1) xs p).length) c2' O' (tt ++ tt') d' ∧ tt'.map (fun t => t.2.2) = S0 (l + 1) xs p (lr.take xs.length) (br.take (l7 (l + 1) xs p).length) ∧ Less A1 lr xs.length A1' c1' ∧ Less A2 br (l7 (l + 1) xs p).length A2' c2') := by
  refine N4 (L := I0 331 112 cb A1 lr c1 A2 br c2 O tt d) (n := 90) (rs := [.cell 8 49, .tmp 9]) func206 rfl rfl rfl (Nat.le_of_ble_eq_true rfl) (h0) ?_
  have hpos := List.length_pos_iff.2 he
  obtain ⟨hl32, hp32⟩ := aX hh ho
  obtain ⟨okl, okr⟩ := bG ho
  have hcl := eP xs l (2 * p)
  have hcr := eP xs l (2 * p + 1)
  have hnn := congrArg List.length (eY l p xs hs hx)
  rw [List.length_append] at hnn
  have hsp := congrArg List.length (W7 (l := l) (p := p) he)
  rw [List.length_append] at hsp
  have hmul : xs.length * (l + 1) = (n6 xs l (2 * p)).length * l + (n6 xs l (2 * p + 1)).length * l + xs.length := by rw [Nat.mul_succ, hnn, Nat.add_mul]
  obtain ⟨eV, eT⟩ := zba (lr := lr) (br := br) he hs hx
  refine c8 ?_
  refine c7 ?_
  refine z7 (z4 zT (fun b8 => ?_))
  refine C3 ?_
  refine l3 ?_
  refine c8 ?_
  refine C5 ?_
  refine c8 ?_
  refine c7 ?_
  refine o8 ?_
  refine e6 (D6 uT rfl) ?_
  refine e6 (Qt.dF (z6 (b := 0) rfl rfl) ow) ?_
  refine C3 ?_
  refine l3 ?_
  refine C4 rfl ?_
  refine c8 ?_
  refine c7 ?_
  refine o8 ?_
  refine e6 (Qt.dF (z6 (b := 0) rfl rfl) ow) ?_
  refine C3 ?_
  refine l3 ?_
  refine C4 rfl ?_
  refine w8 ?_
  refine c8 ?_
  refine c7 ?_
  refine o8 ?_
  refine o8 ?_
  refine o8 ?_
  refine z7 (l8 (Pre := []) (R := _) J187 rfl pr (fun w hw => xQ gh l p hh ho A c xs hs hx hc hn w (Rd.ro hR w hw)) ?_)
  rintro v L' ⟨A', c', rfl, rfl, hc', hro⟩
  refine o8 ?_
  refine e6 (s8 rfl rfl) ?_
  refine e6 (s8 rfl rfl) ?_
  refine C3 ?_
  refine C3 ?_
  refine l3 ?_
  refine c8 ?_
  refine c7 ?_
  refine o8 ?_
  refine o8 ?_
  refine o8 ?_
  refine e6 (n8 (o7 (a := l + 1) (b := 1) rfl rfl ow km) (by rw [Nat.add_sub_cancel])) ?_
  refine o8 ?_
  refine e6 (F3 (a := 2) rfl rfl km) ?_
  refine z7 (l8 (Pre := I0 331 112 cb A1 lr c1 A2 br c2 O tt d) (R := _) J206 rfl (pm1.trans (pc (pm1.trans (pc pm1)))) (fun w hw => hrec (2 * p) (n6 xs l (2 * p)) A c cb A1 lr c1 A2 br c2 O tt d w okl (eB hs) cZ ow ow ow ow hc1 hc2 ow hm1 hm2 hw.sat.left (hro w _ (u5 hw hR)).1 (u5 hw hA1) (u5 hw hA2) (hT.pre hw)) ?_)
  rintro v L' ⟨A1l, c1l, A2l, c2l, Ol, dl, tl, rfl, rfl, etl, le1, le2⟩
  have ltl := congrArg List.length etl
  rw [List.length_map] at ltl
  have btl := Y8 l (n6 xs l (2 * p)) (2 * p) (lr.take (n6 xs l (2 * p)).length) (br.take (l7 l (n6 xs l (2 * p)) (2 * p)).length)
  refine o8 ?_
  refine e6 (s8 rfl rfl) ?_
  refine e6 (s8 rfl rfl) ?_
  refine z7 (z4 zT (fun b12 => ?_))
  refine j9 rfl (j5 (v := hv (_)) rfl rfl (o5 ce49) (N7 _) (v9 _) ?_)
  refine C3 ?_
  refine l3 ?_
  refine c8 ?_
  refine c8 ?_
  refine c7 ?_
  refine o8 ?_
  refine e6 (F0 uT rfl) ?_
  refine l3 ?_
  refine C4 rfl ?_
  refine w8 ?_
  refine c8 ?_
  refine c7 ?_
  refine o8 ?_
  refine o8 ?_
  refine o8 ?_
  refine e6 (n8 (o7 (a := l + 1) (b := 1) rfl rfl ow km) (by rw [Nat.add_sub_cancel])) ?_
  refine o8 ?_
  refine e6 (F3 (a := 2) rfl rfl km) ?_
  refine e6 (v4 (b := 1) rfl rfl km) ?_
  refine z7 (l8 (Pre := I0 331 112 cb A1l (lr.drop (n6 xs l (2 * p)).length) c1l A2l (br.drop (l7 l (n6 xs l (2 * p)) (2 * p)).length) c2l Ol (tt ++ tl) dl) (R := _) J206 rfl (pm1.trans (pc (pm1.trans (pc pm1)))) (fun w hw => hrec (2 * p + 1) (n6 xs l (2 * p + 1)) A' c' cb A1l (lr.drop (n6 xs l (2 * p)).length) c1l A2l (br.drop (l7 l (n6 xs l (2 * p)) (2 * p)).length) c2l Ol (tt ++ tl) dl w okr (eB hs) cZ hc' ow (by rw [List.length_drop]; omega) (by rw [List.length_drop]; omega) le1.cap le2.cap (by rw [List.length_append]; omega) (by rw [List.length_drop]; omega) (by rw [List.length_drop]; omega) hw.sat.left (hro w _ (u5 hw hR)).2 (le1.ro w _ (u5 hw hA1)) (le2.ro w _ (u5 hw hA2)) (hT.pre hw)) ?_)
  rintro v L' ⟨A1r, c1r, A2r, c2r, Or, dr, tr, rfl, rfl, etr, lf1, lf2⟩
  have ltr := congrArg List.length etr
  rw [List.length_map] at ltr
  have btr := Y8 l (n6 xs l (2 * p + 1)) (2 * p + 1) ((lr.drop (n6 xs l (2 * p)).length).take (n6 xs l (2 * p + 1)).length) ((br.drop (l7 l (n6 xs l (2 * p)) (2 * p)).length).take (l7 l (n6 xs l (2 * p + 1)) (2 * p + 1)).length)
  have hlen : (tt ++ tl ++ tr).length ≤ 16384 := by rw [List.length_append, List.length_append]; omega
  have ptl := le1.next lf1
  have ptr := le2.next lf2
  refine o8 ?_
  refine e6 (s8 rfl rfl) ?_
  refine e6 (s8 rfl rfl) ?_
  refine z7 (z4 zT (fun b14 => ?_))
  refine j9 rfl (j5 (v := hv (_)) rfl rfl (o5 ce49) (N7 _) (v9 _) ?_)
  refine C3 ?_
  refine l3 ?_
  refine c8 ?_
  refine c8 ?_
  refine c7 ?_
  refine o8 ?_
  refine e6 (F0 uT rfl) ?_
  refine l3 ?_
  refine C4 rfl ?_
  refine w8 ?_
  refine c8 ?_
  refine c7 ?_
  refine o8 ?_
  refine e6 (a8 rfl (gR (x := F2 l (n6 xs l (2 * p)) (2 * p) (lr.take (n6 xs l (2 * p)).length) (br.take (l7 l (n6 xs l (2 * p)) (2 * p)).length)) (s6 4 rfl) rT ce49)) ?_
  refine e6 (a8 rfl (gR (x := F2 l (n6 xs l (2 * p + 1)) (2 * p + 1) ((lr.drop (n6 xs l (2 * p)).length).take (n6 xs l (2 * p + 1)).length) ((br.drop (l7 l (n6 xs l (2 * p)) (2 * p)).length).take (l7 l (n6 xs l (2 * p + 1)) (2 * p + 1)).length)) w5 rT ce49)) ?_
  refine z7 (l8 (Pre := []) (R := _) J176 rfl pr (fun w hw => gM (l + 1) ow ow (F2 l (n6 xs l (2 * p)) (2 * p) (lr.take (n6 xs l (2 * p)).length) (br.take (l7 l (n6 xs l (2 * p)) (2 * p)).length)) (F2 l (n6 xs l (2 * p + 1)) (2 * p + 1) ((lr.drop (n6 xs l (2 * p)).length).take (n6 xs l (2 * p + 1)).length) ((br.drop (l7 l (n6 xs l (2 * p)) (2 * p)).length).take (l7 l (n6 xs l (2 * p + 1)) (2 * p + 1)).length)) w) ?_)
  rintro v L' ⟨Ot, dt, rfl, rfl⟩
  refine T4 (pc pm3) ?_
  refine o8 ?_
  refine e6 (s8 rfl rfl) ?_
  refine e6 (s8 rfl rfl) ?_
  refine C3 ?_
  refine C3 ?_
  refine l3 ?_
  refine c8 ?_
  refine c8 ?_
  refine c7 ?_
  refine o8 ?_
  refine e6 (F0 uT rfl) ?_
  refine l3 ?_
  refine C4 rfl ?_
  refine w8 ?_
  refine c8 ?_
  refine c7 ?_
  refine o8 ?_
  refine o8 ?_
  refine e6 (H8 rfl) ?_
  refine e6 (x9 uT rfl ce111 rfl) ?_
  refine e6 (a8 rfl (i9 (v := .slice Or (tt ++ tl ++ tr).length dr) aH oT rfl)) ?_
  refine o8 ?_
  refine z7 (m5 (bytes := 24) (v := .slice Ot (x5 (l + 1) (F2 l (n6 xs l (2 * p)) (2 * p) (lr.take (n6 xs l (2 * p)).length) (br.take (l7 l (n6 xs l (2 * p)) (2 * p)).length)) (F2 l (n6 xs l (2 * p + 1)) (2 * p + 1) ((lr.drop (n6 xs l (2 * p)).length).take (n6 xs l (2 * p + 1)).length) ((br.drop (l7 l (n6 xs l (2 * p)) (2 * p)).length).take (l7 l (n6 xs l (2 * p + 1)) (2 * p + 1)).length))).length dt) uT elem112 (by decide) rfl rfl (fun g84 => ?_))
  refine z7 (jV (bytes := 24) (news := [.slice Ot (x5 (l + 1) (F2 l (n6 xs l (2 * p)) (2 * p) (lr.take (n6 xs l (2 * p)).length) (br.take (l7 l (n6 xs l (2 * p)) (2 * p)).length)) (F2 l (n6 xs l (2 * p + 1)) (2 * p + 1) ((lr.drop (n6 xs l (2 * p)).length).take (n6 xs l (2 * p + 1)).length) ((br.drop (l7 l (n6 xs l (2 * p)) (2 * p)).length).take (l7 l (n6 xs l (2 * p + 1)) (2 * p + 1)).length))).length dt]) uT elem112 rfl rfl (j8 (cs := [.slice Ot (x5 (l + 1) (F2 l (n6 xs l (2 * p)) (2 * p) (lr.take (n6 xs l (2 * p)).length) (br.take (l7 l (n6 xs l (2 * p)) (2 * p)).length)) (F2 l (n6 xs l (2 * p + 1)) (2 * p + 1) ((lr.drop (n6 xs l (2 * p)).length).take (n6 xs l (2 * p + 1)).length) ((br.drop (l7 l (n6 xs l (2 * p)) (2 * p)).length).take (l7 l (n6 xs l (2 * p + 1)) (2 * p + 1)).length))).length dt]) w5) rfl (by intro u hu; rw [List.mem_singleton.1 hu]; rfl) (by simp only [maxLen]; omega) ow (fun O3 d3 => ?_))
  refine e6 (H8 rfl) ?_
  refine e6 (x9 uT rfl ce111 rfl) ?_
  refine j9 rfl (jX rfl cw cT rfl rfl (Nat.le_of_ble_eq_true rfl) ?_)
  refine l3 ?_
  refine c8 ?_
  refine c7 ?_
  refine o8 ?_
  refine z7 (R1 J114 rfl (fun w hw => Calls.ret (fC Ot dt (x5 (l + 1) (F2 l (n6 xs l (2 * p)) (2 * p) (lr.take (n6 xs l (2 * p)).length) (br.take (l7 l (n6 xs l (2 * p)) (2 * p)).length)) (F2 l (n6 xs l (2 * p + 1)) (2 * p + 1) ((lr.drop (n6 xs l (2 * p)).length).take (n6 xs l (2 * p + 1)).length) ((br.drop (l7 l (n6 xs l (2 * p)) (2 * p)).length).take (l7 l (n6 xs l (2 * p + 1)) (2 * p + 1)).length))) w (Rd.own (e := 5) (sz := 1) (Rd.many (A := OwnA 5 1 Ot (x5 (l + 1) (F2 l (n6 xs l (2 * p)) (2 * p) (lr.take (n6 xs l (2 * p)).length) (br.take (l7 l (n6 xs l (2 * p)) (2 * p)).length)) (F2 l (n6 xs l (2 * p + 1)) (2 * p + 1) ((lr.drop (n6 xs l (2 * p)).length).take (n6 xs l (2 * p + 1)).length) ((br.drop (l7 l (n6 xs l (2 * p)) (2 * p)).length).take (l7 l (n6 xs l (2 * p + 1)) (2 * p + 1)).length))).length dt (e9 (x5 (l + 1) (F2 l (n6 xs l (2 * p)) (2 * p) (lr.take (n6 xs l (2 * p)).length) (br.take (l7 l (n6 xs l (2 * p)) (2 * p)).length)) (F2 l (n6 xs l (2 * p + 1)) (2 * p + 1) ((lr.drop (n6 xs l (2 * p)).length).take (n6 xs l (2 * p + 1)).length) ((br.drop (l7 l (n6 xs l (2 * p)) (2 * p)).length).take (l7 l (n6 xs l (2 * p + 1)) (2 * p + 1)).length))))) (Rd.at 1 rfl) (List.mem_append.2 (.inr (List.mem_singleton.2 rfl)))) w hw) (by rw [L9]; decide) (hT.at hw))) ?_)
  refine j9 rfl (Y7 (v := hv (_)) rfl rfl (o5 ce49) (N7 _) (v9 _) ?_)
  refine C3 ?_
  refine l3 ?_
  refine a9 ?_
  refine finQ.ret (j7 rfl (i4 (s6 6 rfl) rT (o5 ce49)) rv) (Sub.trans (sk (sk (sk (sd (sd (sd (sd I8))))))) (Sub.trans (sk (Sub.trans (sk (Sub.trans (sk sr) (e5 pm1))) (e5 pm3))) (e5 pm3))) ?_
  refine ⟨A1r, c1r, A2r, c2r, O3, d3, tl ++ tr ++ [(Ot, dt, x5 (l + 1) (F2 l (n6 xs l (2 * p)) (2 * p) (lr.take (n6 xs l (2 * p)).length) (br.take (l7 l (n6 xs l (2 * p)) (2 * p)).length)) (F2 l (n6 xs l (2 * p + 1)) (2 * p + 1) ((lr.drop (n6 xs l (2 * p)).length).take (n6 xs l (2 * p + 1)).length) ((br.drop (l7 l (n6 xs l (2 * p)) (2 * p)).length).take (l7 l (n6 xs l (2 * p + 1)) (2 * p + 1)).length)))], ?_, ?_, ?_, ?_, ?_⟩
  · rw [eV]; rfl
  · rw [hsp, hnn, ← List.drop_drop, ← List.drop_drop]
    simp only [I0, List.length_append, List.append_assoc, List.flatMap_append, List.map_append]
    rfl
  · rw [eT, List.map_append, List.map_append, etl, etr]; rfl
  · rw [hnn]; exact ptl
  · rw [hsp]; exact ptr
theorem GK (gh : Nat) (hh : gh ≤ 32) : ∀ l, l ≤ gh → ID gh l
 | 0, hl => fun p xs A c cb A1 lr c1 A2 br c2 O tt d w0 ho hs hx hc hn hl1 hl2 hc1 hc2 htt hm1 hm2 h0 hR hA1 hA2 hT => by
  by_cases he : xs = []
  ·exact rX gh hh 0 p xs A c cb A1 lr c1 A2 br c2 O tt d w0 ho hs hx hc hn hl1 hl2 hc1 hc2 htt hm1 hm2 h0 hR hA1 hA2 hT he
  ·exact zck gh hh p xs A c cb A1 lr c1 A2 br c2 O tt d w0 ho hs hx hc hn hl1 hl2 hc1 hc2 htt hm1 hm2 h0 hR hA1 hA2 hT he
 | l + 1, hl => fun p xs A c cb A1 lr c1 A2 br c2 O tt d w0 ho hs hx hc hn hl1 hl2 hc1 hc2 htt hm1 hm2 h0 hR hA1 hA2 hT => by
  by_cases he : xs = []
  ·exact rX gh hh (l + 1) p xs A c cb A1 lr c1 A2 br c2 O tt d w0 ho hs hx hc hn hl1 hl2 hc1 hc2 htt hm1 hm2 h0 hR hA1 hA2 hT he
  ·exact zcl gh hh l p xs A c cb A1 lr c1 A2 br c2 O tt d w0 ho hs hx hc hn hl1 hl2 hc1 hc2 htt hm1 hm2 h0 hR hA1 hA2 hT he (GK gh hh l ow)
theorem buildClimb (A : y8) (n c : Nat) (B : y8) (m d : Nat) (w : World) : (Instr.build 331 #[(0, .slice A n c), (1, .slice B m d)]).run prog w = .ok (.agg #[.slice A n c, .slice B m d, .slice none 0 0]) w := by kernel_rfl
def zjq (n a b : Nat) : Prop := (40 < n ∧ n ≤ 256) ∨ 300 < n ∨ 300 < a ∨ 1500 < b
instance (n a b : Nat) : Decidable (zjq n a b) := inferInstanceAs (Decidable (_ ∨ _))
theorem zdr (z : Int) (A) (c : Nat) (xs : List Nat) (B) (b : Nat) (ls : List i6) (Z) (e : Nat) (bs : List i6) (hr : ∀ w, Ro w [] (SlA A (w6 xs)) → cR 41 #[iI z, sL A xs.length c] w (.bool false)) (w0) (hR : Ro w0 [] (SlA A (w6 xs))) :
  cP 188 #[iI z, sL A xs.length c, sL B ls.length b, sL Z bs.length e] w0 fun v L => v = .tuple #[hv e7, sL none 0 0, .iface 73 (iI 1)] ∧ L = [] := by
 refine co 61 [.cell 8 49, .tmp 9, .tmp 10] func188 ?_
 refine gw ?_
 intro b8
 refine gw ?_
 refine u7 en (fun w hw => cQ (zat z A c xs w (fun w1 h => hr w1 h) (Rd.ro hR w hw))) (gw ?_)
 refine e6 (C8 (v := hv e7) rfl (fun _ => by kernel_rfl)) (gw ?_)
 refine j9 rfl (W9 (e7) rfl (gw ?_))
 refine a9 (finQ.ret (j7 rfl (i4 w5 rT (o5 ce49)) rv) sn ?_)
 exact rr
theorem zds (gh : Nat) (hh : gh ≤ 32) (A) (c : Nat) (xs : List Nat) (hc : xs.length ≤ c) (B) (b : Nat) (ls : List i6) (Z) (e : Nat) (bs : List i6) (hi : idxOk gh xs) (h2 : ls.length ≠ xs.length) (w0) (lw : lW xs) (hR : Ro w0 [] (SlA A (w6 xs))) (hB : Ro w0 [] (SlA B (m9 ls))) (hD : Ro w0 [] (SlA Z (m9 bs))) :
  cP 188 #[iI gh, sL A xs.length c, sL B ls.length b, sL Z bs.length e] w0 fun v L => v = .tuple #[hv e7, sL none 0 0, .iface 73 (iI 2)] ∧ L = [] := by
 refine co 61 [.cell 8 49, .tmp 9, .tmp 10] func188 ?_
 refine gw ?_
 intro b8
 refine gw ?_
 refine u7 en (fun w hw => cQ (iY gh hh A c xs hc hi w lw (Rd.ro hR w hw))) (gw ?_)
 refine e6 (Qt.dT (C7 rfl rfl) (h2)) (gw ?_)
 refine e6 (C8 (v := hv e7) rfl (fun _ => by kernel_rfl)) (gw ?_)
 refine j9 rfl (W9 (e7) rfl (gw ?_))
 refine a9 (finQ.ret (j7 rfl (i4 w5 rT (o5 ce49)) rv) sn ?_)
 exact rr
theorem zdt (gh : Nat) (hh : gh ≤ 32) (A) (c : Nat) (xs : List Nat) (hc : xs.length ≤ c) (B) (b : Nat) (ls : List i6) (Z) (e : Nat) (bs : List i6) (hi : idxOk gh xs) (h2 : ls.length = xs.length) (h3 : bs.length ≠ (l7 gh xs 0).length) (w0) (lw : lW xs) (hR : Ro w0 [] (SlA A (w6 xs))) (hB : Ro w0 [] (SlA B (m9 ls))) (hD : Ro w0 [] (SlA Z (m9 bs))) :
  cP 188 #[iI gh, sL A xs.length c, sL B ls.length b, sL Z bs.length e] w0 fun v L => v = .tuple #[hv e7, sL none 0 0, .iface 73 (iI 5)] ∧ L = [] := by
 refine co 61 [.cell 8 49, .tmp 9, .tmp 10] func188 ?_
 refine gw ?_
 intro b8
 refine gw ?_
 refine u7 en (fun w hw => cQ (iY gh hh A c xs hc hi w lw (Rd.ro hR w hw))) (gw ?_)
 refine e6 (Qt.dF (C7 rfl rfl) (fun k => k h2)) (gw ?_)
 refine e6 (Qt.dT (C7 rfl rfl) (h3)) (gw ?_)
 refine e6 (C8 (v := hv e7) rfl (fun _ => by kernel_rfl)) (gw ?_)
 refine j9 rfl (W9 (e7) rfl (gw ?_))
 refine a9 (finQ.ret (j7 rfl (i4 w5 rT (o5 ce49)) rv) sn ?_)
 exact rr
theorem zdq (gh : Nat) (hh : gh ≤ 32) (A : y8) (c : Nat) (xs : List Nat) (hc : xs.length ≤ c) (B : y8) (b : Nat) (ls : List i6) (Z : y8) (e : Nat) (bs : List i6) (hi : idxOk gh xs) (h2 : ls.length = xs.length) (h3 : bs.length = (l7 gh xs 0).length) (hb : ls.length ≤ b) (hbs : bs.length ≤ e) (w0 : World) (lw : ∀ x ∈ xs, x < 18446744073709551616) (hR : Ro w0 [] (SlA A (w6 xs))) (hB : Ro w0 [] (SlA B (m9 ls))) (hD : Ro w0 [] (SlA Z (m9 bs))) (hT : Tabs 3 1 w0 []) :
    Calls prog 188 #[.int .i64 (gh : Int), .slice A xs.length c, .slice B ls.length b, .slice Z bs.length e] w0 (D0 w0 [] fun v L => ∃ (O : y8) (d : Nat) (tt : List Tx), v = .tuple #[hv (F2 gh xs 0 ls bs), .slice O tt.length d, .nilIface] ∧ L = [OwnA 112 1 O (tt).length d ((tt).flatMap aI), C1 ((tt).map u3)] ∧ tt.map (fun t => t.2.2) = S0 gh xs 0 ls bs) := by
  refine N4 (L := []) (n := 61) (rs := [.cell 8 49, .tmp 9, .tmp 10]) func188 rfl rfl rfl (Nat.le_of_ble_eq_true rfl) (Sat.nil _) ?_
  have hn := hi.2.1
  have hsp : (l7 gh xs 0).length ≤ 8193 := by have h1 := eG gh xs 0; have h2 : xs.length * gh ≤ 256 * 32 := Nat.mul_le_mul hi.2.1 hh; omega
  have hmu : xs.length * gh ≤ 256 * 32 := Nat.mul_le_mul hi.2.1 hh
  refine m6 112 1 ?_
  refine x3 ?_
  refine c8 ?_
  refine c7 ?_
  refine z7 (z4 zT (fun b8 => ?_))
  refine C3 ?_
  refine C3 ?_
  refine l3 ?_
  refine c8 ?_
  refine c7 ?_
  refine o8 ?_
  refine o8 ?_
  refine z7 (R1 J205 rfl (fun w hw => Calls.ret (iY gh hh A c xs hc hi w lw (Rd.ro hR w hw))) ?_)
  refine o8 ?_
  refine e6 (s8 rfl rfl) ?_
  refine e6 (s8 rfl rfl) ?_
  refine C3 ?_
  refine C3 ?_
  refine l3 ?_
  refine c8 ?_
  refine C5 ?_
  refine c8 ?_
  refine c7 ?_
  refine o8 ?_
  refine e6 (F0 uT rfl) ?_
  refine C3 ?_
  refine l3 ?_
  refine C4 rfl ?_
  refine c8 ?_
  refine c7 ?_
  refine o8 ?_
  refine e6 (D6 uT rfl) ?_
  refine o8 ?_
  refine e6 (D6 uT rfl) ?_
  refine e6 (Qt.dF (C7 rfl rfl) (fun k => k h2)) ?_
  refine C3 ?_
  refine l3 ?_
  refine C4 rfl ?_
  refine c8 ?_
  refine c7 ?_
  refine o8 ?_
  refine e6 (D6 uT rfl) ?_
  refine o8 ?_
  refine e6 (Qt.dF (C7 rfl rfl) (fun k => k h3)) ?_
  refine C3 ?_
  refine l3 ?_
  refine C4 rfl ?_
  refine w8 ?_
  refine c8 ?_
  refine c7 ?_
  refine o8 ?_
  refine o8 ?_
  refine e6 (A5 (a := .slice B ls.length b) (b := .slice Z bs.length e) rfl rfl (buildClimb B ls.length b Z bs.length e)) ?_
  refine z7 (iR (v := .agg #[.slice B ls.length b, .slice Z bs.length e, .slice none 0 0]) rfl (fun b44 => ?_))
  refine C3 ?_
  refine l3 ?_
  refine c8 ?_
  refine c7 ?_
  refine o8 ?_
  refine o8 ?_
  refine o8 ?_
  refine z7 (l8 (Pre := I0 331 112 b44 B ls b Z bs e none [] 0) (R := _) J206 rfl (pc (pm2.trans (pc pm1))) (fun w hw => GK gh hh gh (Nat.le_refl _) 0 xs A c b44 B ls b Z bs e none [] 0 w (cE gh) hi.rise hi.root hc hn ow ow hb hbs (by rw [List.length_nil]; omega) ow ow hw.sat.left (u5 hw hR) (u5 hw hB) (u5 hw hD) (hT.pre hw)) ?_)
  rintro v L' ⟨A1', c1', A2', c2', O, d, tt, rfl, rfl, ett, le1, le2⟩
  refine o8 ?_
  refine e6 (s8 rfl rfl) ?_
  refine e6 (s8 rfl rfl) ?_
  refine z7 (z4 zT (fun b14 => ?_))
  refine j9 rfl (j5 (v := hv (_)) rfl rfl (o5 ce49) (N7 _) (v9 _) ?_)
  refine C3 ?_
  refine l3 ?_
  refine c8 ?_
  refine c8 ?_
  refine c7 ?_
  refine o8 ?_
  refine e6 (F0 uT rfl) ?_
  refine l3 ?_
  refine C4 rfl ?_
  refine w8 ?_
  refine c8 ?_
  refine D1 ([5], []) mixed (sk (sk (sk (sk (sd I8))))) ?_
  refine c6 0 rfl (a8 rfl (gR (x := F2 gh xs 0 (ls.take xs.length) (bs.take (l7 gh xs 0).length)) w5 rT ce49)) ?_
  refine jU 1 rfl (m8 cw) ?_
  refine jU 2 rfl (H8 rfl) ?_
  refine jU 3 rfl (x9 uT rfl ce111 rfl) ?_
  refine jU 4 rfl (a8 rfl (i9 (v := .slice O ([] ++ tt).length d) N3 oT rfl)) ?_
  refine fH (k := 5) (sk (sk (sk (sk (sd I8))))) rfl (by kernel_rfl) (by kernel_rfl) rfl (fK (v := hv (_)) rfl rfl (o5 ce49) (N7 _) (v9 _) ⟨sk (sk (sk (sk (sd I8)))), ?_⟩)
  refine c6 6 rfl (G9 cw) ?_
  refine c6 7 rfl (G9 cw) ?_
  refine R2 (sk (sk (sk (sk (sd I8))))) (by kernel_rfl) ?_
  refine a9 ?_
  refine finQ.ret (j7 rfl (i4 (s6 4 rfl) rT (o5 ce49)) rv) (Sub.trans (sk (sk (sd (sd (sd I8))))) (Sub.trans (sk (Sub.trans (sk sr) (e5 pm2))) (e5 pm2))) ?_
  rw [← h2, List.take_length, ← h3, List.take_length] at *
  exact ⟨O, d, tt, rfl, rfl, ett⟩
theorem GL (z : Int) (A) (c : Nat) (xs : List Nat) (hc : xs.length ≤ c) (B) (b : Nat) (ls : List i6) (Z) (e : Nat) (bs : List i6) (h : z < 0 ∨ 32 < z ∨ ∃ gh : Nat, z = (gh : Int) ∧ gh ≤ 32 ∧ ¬ idxOk gh xs) (lw : lW xs) (w) (hR : Ro w [] (SlA A (w6 xs))) : cR 188 #[iI z, sL A xs.length c, sL B ls.length b, sL Z bs.length e] w (.tuple #[hv e7, sL none 0 0, .iface 73 (iI 1)]) := by
 refine cQ (zdr z A c xs B b ls Z e bs (fun w1 h1 => ?_) w hR)
 rcases h with h | h | ⟨gh, rfl, hh, hi⟩
 ·exact xA z (.inl h) A c xs w1
 ·exact xA z (.inr h) A c xs w1
 ·exact eD gh hh A c xs hi w1 lw h1
end Go.Proofs.YtgdjcmehlhebdaaGreatDoor
namespace Go.E
section
variable {C : Ctx} {env : Env} {L : List Assn} {dst : Option Tmp} {ty ty2 : TypeId} {po : String} {af : Array Edge} {gj : Option (Nat × Bool)} {x y : Operand} {T e src dstT : TypeId}
theorem rR {bs : List UInt8} {j : Nat} (hj : j < bs.length) : (e9 bs)[j]? = some (.int .u8 (bs[j].toNat : Int)) := by simp [e9, hj]
theorem zbY {A : y8} {n c : Nat} {bs : List UInt8} (hs : C.P.underlying src = some (.slice e)) (he : C.P.underlying e = some (.int .u8)) (hd : C.P.underlying dstT = some .string) (hx : env.ev x = .slice A n c) (hn : n = bs.length) (hpos : 0 < bs.length) (h : Has C L (SlA A (e9 bs))) :
  Qt C L ⟨dst, .convert src dstT x, ty, po, af, gj⟩ env (.string ⟨bs.toArray⟩) := fun w hw => by
 subst hn
 obtain ⟨a, rfl, _⟩ := h w hw 0 _ (rR hpos)
 have k := run_convert_bytes_back (P := C.P) w src dstT e a c bs hs he hd fun j hj => by
  obtain ⟨a', e', hu⟩ := h w hw j _ (rR hj)
  injection e' with e'; subst e'; exact hu
 simp [execOp, hx, k]
theorem lD {a b : Nat × Nat} (hm : C.P.eqGuardType C.P.depth T = false) (law : KeyLaw C.P T p6) (hx : env.ev x = p6 a) (hy : env.ev y = p6 b) : Qt C L ⟨dst, .binOp .eql T x y ty2, ty, po, af, gj⟩ env (.bool (decide (a = b))) := fun w _ => by
 have h := law.eq a b w
 have h2 : (binOp .eql T (p6 a) (p6 b)).run C.P w = .ok (.bool (decide (a = b))) w := by
  rw [show p6 a = .agg #[.int .i64 (a.1 : Int), .int .u64 (a.2 : Int)] from rfl, show p6 b = .agg #[.int .i64 (b.1 : Int), .int .u64 (b.2 : Int)] from rfl] at h ⊢
  rw [run_eql_struct]
  rw [show (Op.equalIn 10000 T (.agg #[.int .i64 (a.1 : Int), .int .u64 (a.2 : Int)]) (.agg #[.int .i64 (b.1 : Int), .int .u64 (b.2 : Int)])).run C.P w = .ok (decide (a = b)) w from h]; rfl
 have h3 : (eqGuard .eql T x y (p6 a) (p6 b)).run C.P w = .ok () w := run_eqGuard_agg w .eql T x y _ _ hm
 simp [execOp, hx, hy, h2, h3]
end
variable {C : Ctx} {Q : EQ} {env : Env} {ops : Array Oper}
theorem St.many_two {w0 w : World} {M : List Nat} {L1 L2 R : List Assn} (h : St w0 M (C1 L1 :: C1 L2 :: R) w) : St w0 M (C1 (L1 ++ L2) :: R) w := by
 refine St.many.2 ?_
 have h1 := St.many.1 h
 have h2 : St w0 M (C1 L2 :: (L1 ++ R)) w := h1.perm List.perm_middle
 have h3 := St.many.1 h2
 refine h3.perm ?_
 rw [← List.append_assoc]
 exact List.Perm.append_right _ List.perm_append_comm
theorem eL {L1 L2 R L0 : List Assn} {l : List Oper} (s : L0.Perm (C1 L1 :: C1 L2 :: R)) (h : TL C ops Q l env (C1 (L1 ++ L2) :: R)) : TL C ops Q l env L0 := fun a w ha hw => h a w ha ((hw.perm s).many_two)
theorem tU {α : Type} {s : List α} {k : Nat} (d : α) (h : k < s.length) : s.getD k d = s[k] := by simp [List.getD, h]
theorem W2 {κ : Type} [DecidableEq κ] {s : List κ} {bs : List i6} {a : κ} (d : κ) (h : ∀ j, j < s.length → s.getD j d ≠ a) : look a (s.zip bs) = none :=
 P9 a s bs fun hm => by
  obtain ⟨j, hj, e⟩ := List.mem_iff_getElem.1 hm
  exact h j hj (by rw [tU d hj, e])
theorem W0 {κ : Type} [DecidableEq κ] {a : κ} (d : κ) : ∀ {s : List κ} {bs : List i6} {k : Nat}, k < s.length → s.length = bs.length → (∀ j, j < k → s.getD j d ≠ a) → s.getD k d = a → look a (s.zip bs) = some (bs.getD k e7)
 | [], _, _, hk, _, _, _ => absurd hk (Nat.not_lt_zero _)
 | _ :: _, [], _, _, hl, _, _ => by cases hl
 | x :: s, b :: bs, 0, _, _, _, h2 => by
  rw [List.zip_cons_cons, A6, if_pos (by simpa using h2.symm)]; simp
 | x :: s, b :: bs, k + 1, hk, hl, h1, h2 => by
  rw [List.zip_cons_cons, A6, if_neg (fun e => h1 0 (Nat.succ_pos _) (by simpa using e.symm))]
  have := W0 d (s := s) (bs := bs) (k := k) (a := a) (by simpa using hk) (by simpa using hl) (fun j hj => by have := h1 (j + 1) ow; simpa using this) (by simpa using h2)
  simpa using this
def RefOk (zs : List ((Nat × Nat) × i6)) (zl : List (Nat × i6)) (l p : Nat) : Prop := ∃ xs ls bs, Part zs zl l p xs ls bs ∧ xs.length ≤ 256
variable {zs : List ((Nat × Nat) × i6)} {zl : List (Nat × i6)} {l p : Nat}
theorem lR {h : i6} (e : look (l, p) zs = some h) : X5 zs zl l p = h ∧ nH zs zl l p = [] := by cases l <;> simp [X5, nH, e]
theorem zfN {h : i6} (e : look (0, p) zs = none) (e2 : look p zl = some h) : X5 zs zl 0 p = h := by rw [X5, e]; simp [e2]
theorem zfM (e : look (l + 1, p) zs = none) : X5 zs zl (l + 1) p = F8 (l + 1) (X5 zs zl l (2 * p)) (X5 zs zl l (2 * p + 1)) ∧ nH zs zl (l + 1) p = nH zs zl l (2 * p) ++ nH zs zl l (2 * p + 1) ++ [x5 (l + 1) (X5 zs zl l (2 * p)) (X5 zs zl l (2 * p + 1))] := by
 constructor
 ·rw [X5, e]
 ·rw [nH, e]
theorem RefOk.kids (h : RefOk zs zl (l + 1) p) (e : look (l + 1, p) zs = none) : RefOk zs zl l (2 * p) ∧ RefOk zs zl l (2 * p + 1) := by
 obtain ⟨xs, ls, bs, k, kn⟩ := h
 have hx : xs ≠ [] := fun e0 => by subst e0; rw [k.found] at e; cases e
 exact ⟨⟨_, _, _, k.left hx, Nat.le_trans (eP ..) kn⟩, ⟨_, _, _, k.right hx, Nat.le_trans (eP ..) kn⟩⟩
theorem RefOk.leaf (h : RefOk zs zl 0 p) (e : look (0, p) zs = none) (e2 : look p zl = none) : False := by
 obtain ⟨xs, ls, bs, k, _⟩ := h
 by_cases hx : xs = []
 ·subst hx; rw [k.found] at e; cases e
 ·rw [(k.leaf hx).2] at e2; cases e2
theorem RefOk.len (h : RefOk zs zl l p) : (nH zs zl l p).length ≤ 256 * l := by
 obtain ⟨xs, ls, bs, k, kn⟩ := h
 rw [nT l p xs ls bs k]; exact Nat.le_trans (Y8 ..) (Nat.mul_le_mul_right _ kn)
theorem lU {s : Sd} {k : Nat} (h : k < s.length) : ∀ (j : Nat) (v : Value), ([.int .i64 ((s.getD k (0, 0)).1 : Int), .int .u64 ((s.getD k (0, 0)).2 : Int)] : List Value)[j]? = some v → (iQ s)[k * 2 + j]? = some v :=
 aW (encL := fun a : Nat × Nat => [.int .i64 (a.1 : Int), .int .u64 (a.2 : Int)]) (sz := 2) (fun _ => rfl) s k _ (getD_some (0, 0) h)
theorem qA : ∀ (l : Nat) (xs : List Nat) (p : Nat) (ls bs : List i6), ∀ t ∈ S0 l xs p ls bs, t.length = 66
 | 0, xs, p, ls, bs, t, ht => by cases ht
 | l + 1, xs, p, ls, bs, t, ht => by
  rw [S0] at ht
  split at ht
  ·cases ht
  ·rcases List.mem_append.1 ht with h | h
   ·rcases List.mem_append.1 h with h | h
    ·exact qA l _ _ _ _ t h
    ·exact qA l _ _ _ _ t h
   ·rw [List.mem_singleton.1 h]; exact L9 ..
end Go.E
namespace Go.Proofs.YtgdjcmehlhebdaaGreatDoor
open _root_.Go.Proofs.Tryz
open Go.E
set_option maxRecDepth 4000
theorem key182 : KeyLaw prog 264 p6 := Go.E.keyAt underlying264 (by decide) (by decide) rfl rfl underlying3 underlying40 (by kernel_rfl)
def GE (gh : Nat) (A : y8) (c : Nat) (xs : List Nat) (B : y8) (b : Nat) (ls : List i6) (P : y8) (q : Nat) (s : Sd) (Z : y8) (e : Nat) (bs : List i6) (l : Nat) : Prop := ∀ (p : Nat) (w0 : World), N0 gh (l, p) → RefOk (s.zip bs) (xs.zip ls) l p → Ro w0 [] (SlA A (w6 xs)) → Ro w0 [] (SlA B (m9 ls)) → Ro w0 [] (SlA P (iQ s)) → Ro w0 [] (SlA Z (m9 bs)) → Tabs 2 0 w0 [] →
 Calls prog 189 #[.slice A xs.length c, .slice B ls.length b, .slice P s.length q, .slice Z bs.length e, .int .i64 ((l : Nat) : Int), .int .u64 (p : Int)] w0 (D0 w0 [] fun v L => ∃ (O : y8) (d : Nat) (tt : List Tx), v = .tuple #[.slice O tt.length d, hv (X5 (s.zip bs) (xs.zip ls) (l) (p))] ∧ L = [OwnA 112 1 O tt.length d (tt.flatMap aI), C1 (tt.map u3)] ∧ tt.map (fun t => t.2.2) = nH (s.zip bs) (xs.zip ls) (l) (p))
theorem zau (gh : Nat) (hh : gh ≤ 32) (A) (c : Nat) (xs : List Nat) (B) (b : Nat) (ls : List i6) (P) (q : Nat) (s : Sd) (Z) (e : Nat) (bs : List i6) (hsl : s.length = bs.length) (hxl : xs.length = ls.length) (hsn : s.length ≤ 16384) (hn : xs.length ≤ 256) (p : Nat) (w0) (ho : N0 gh (0, p)) (hok : RefOk (s.zip bs) (xs.zip ls) (0) p) (hR : Ro w0 [] (SlA A (w6 xs))) (hB : Ro w0 [] (SlA B (m9 ls))) (hP : Ro w0 [] (SlA P (iQ s))) (hZ : Ro w0 [] (SlA Z (m9 bs))) (hT : Tabs 2 0 w0 [])  :
  cP 189 #[sL A xs.length c, sL B ls.length b, sL P s.length q, sL Z bs.length e, iI (0 : Nat), uI p] w0 fun v L => ∃ (O : y8) (d : Nat) (tt : List Tx), v = .tuple #[sL O tt.length d, hv (X5 (s.zip bs) (xs.zip ls) (0) (p))] ∧ L = [OwnA 112 1 O tt.length d (tt.flatMap aI), C1 (tt.map u3)] ∧ tt.map (fun t => t.2.2) = nH (s.zip bs) (xs.zip ls) (0) (p) := by
 refine co 94 [.tmp 12, .cell 13 49] func189 ?_
 obtain ⟨hl32, hp32⟩ := aX hh ho
 refine m6 112 1 (x3 (gw ?_))
 intro b13
 refine gw ?_
 refine l5 (γ := Nat) (mr 21 18 [12, 14]) (fun k => [(14, iI k)]) (fun _ => _) (fun k => k ≤ s.length ∧ ∀ i, i < k → s.getD i (0, 0) ≠ (0, p)) (fun k => s.length - k) (0)
  ⟨Nat.zero_le _, fun i h => absurd h (Nat.not_lt_zero _)⟩ oa sr ?_
 rintro k u ⟨hk, hq⟩
 refine gw ?_
 refine j0 rfl rfl (p9 rfl rfl) (fun h24 => gw ?_) (fun h24 => gw ?_)
 ·refine e6 (i5 uT cT rfl rfl ow (c9 hP) (by rw [W4]; omega)) (e6 (a8 rfl (H4 (vs := [iI ((s.getD k (0, 0)).1 : Int), uI ((s.getD k (0, 0)).2 : Int)]) (c9 hP) rT ce264 (Nat.zero_lt_succ _) (lU h24))) (gw ?_))
  refine e6 (n8 (F5 (vs := [iI (0 : Nat), uI p]) (pls := #[(0, 1), (1, 1)]) uT (fun w => by kernel_rfl) ze264 rfl ⟨rfl, rfl, trivial⟩ rfl) (show _ = p6 (0, p) from rfl)) (j0 rfl rfl (lD (a := s.getD k (0, 0)) (b := (0, p)) kr key182 rfl rfl) (fun h34 => gw ?_) (fun h34 => gw ?_))
  ·refine D1 ([5], []) mixed (sd (sk (sk I8))) (gw ?_)
   refine c6 2 rfl (i5 uT cT rfl rfl ow (c9 hZ) (by rw [m7]; omega)) (c6 3 rfl (a8 rfl (E4 (c9 hZ) k rT ce49 ow rfl)) (gw ?_))
   refine F7 5 rfl (W9 _ rfl (G0 ?_))
   refine p7 (a9 (finQ.ret (aV cw (j7 rfl (i4 w5 rT (o5 ce49)) n9)) (sx [2, 1]) ?_))
   have hf := W0 (0, 0) h24 hsl hq h34
   exact ⟨none, 0, [], by rw [(lR hf).1]; rfl, rfl, by rw [(lR hf).2]; rfl⟩
  ·refine ⟨k + 1, ?_, od, oz, sr⟩
   exact ⟨by show _ ≤ _; omega, fun i hi => (Nat.lt_or_ge i k).elim (hq i) (fun h => by (obtain rfl : i = k := by omega); exact h34)⟩
 ·refine i7 (c8 ?_)
  have hno : Go.E.look (0, p) (s.zip bs) = none := W2 (0, 0) (fun i hi => hq i ow)
  refine gw ?_
  refine e6 (Qt.dT (z6 (b := 0) rfl rfl) (rfl)) (gw ?_)
  refine l5 (γ := Nat) (mr 41 16 [12, 15]) (fun j => [(15, iI j)]) (fun _ => _) (fun j => j ≤ xs.length ∧ ∀ i, i < j → xs.getD i 0 ≠ p) (fun j => xs.length - j) (0)
   ⟨Nat.zero_le _, fun i h => absurd h (Nat.not_lt_zero _)⟩ oa sr ?_
  rintro j u ⟨hj, hq2⟩
  refine gw ?_
  refine j0 rfl rfl (p9 rfl rfl) (fun h44 => gw ?_) (fun h44 => gw ?_)
  ·refine e6 (i5 uT cT rfl rfl ow (c9 hR) (by rw [D5]; omega)) (e6 (a8 rfl (A9 (v := uI ↑(xs.getD j 0)) (c9 hR) oT (F6 h44))) (gw ?_))
   refine j0 rfl rfl (z6 rfl rfl) (fun h52 => gw ?_) (fun h52 => gw ?_)
   ·refine D1 ([5], []) mixed (sd (sk (sk I8))) (gw ?_)
    refine c6 2 rfl (i5 uT cT rfl rfl ow (c9 hB) (by rw [m7]; omega)) (c6 3 rfl (a8 rfl (E4 (c9 hB) j rT ce49 ow rfl)) (gw ?_))
    refine F7 5 rfl (W9 _ rfl (G0 ?_))
    refine p7 (a9 (finQ.ret (aV cw (j7 rfl (i4 w5 rT (o5 ce49)) n9)) (sx [2, 1]) ?_))
    have hf := W0 0 h44 hxl hq2 h52
    exact ⟨none, 0, [], by rw [zfN hno hf]; rfl, rfl, rfl⟩
   ·refine ⟨j + 1, ?_, od, oz, sr⟩
    exact ⟨by show _ ≤ _; omega, fun i hi => (Nat.lt_or_ge i j).elim (hq2 i) (fun h => by (obtain rfl : i = j := by omega); exact h52)⟩
  ·refine i7 (c8 (gw ?_))
   exact (hok.leaf hno (W2 0 (fun i hi => hq2 i ow))).elim
theorem zav (gh : Nat) (hh : gh ≤ 32) (A) (c : Nat) (xs : List Nat) (B) (b : Nat) (ls : List i6) (P) (q : Nat) (s : Sd) (Z) (e : Nat) (bs : List i6) (hsl : s.length = bs.length) (hxl : xs.length = ls.length) (hsn : s.length ≤ 16384) (hn : xs.length ≤ 256) (l p : Nat) (w0) (ho : N0 gh (l + 1, p)) (hok : RefOk (s.zip bs) (xs.zip ls) (l + 1) p) (hR : Ro w0 [] (SlA A (w6 xs))) (hB : Ro w0 [] (SlA B (m9 ls))) (hP : Ro w0 [] (SlA P (iQ s))) (hZ : Ro w0 [] (SlA Z (m9 bs))) (hT : Tabs 2 0 w0 []) (hrec : GE gh A c xs B b ls P q s Z e bs l) :
  cP 189 #[sL A xs.length c, sL B ls.length b, sL P s.length q, sL Z bs.length e, iI ↑(l + 1), uI p] w0 fun v L => ∃ (O : y8) (d : Nat) (tt : List Tx), v = .tuple #[sL O tt.length d, hv (X5 (s.zip bs) (xs.zip ls) (l + 1) (p))] ∧ L = [OwnA 112 1 O tt.length d (tt.flatMap aI), C1 (tt.map u3)] ∧ tt.map (fun t => t.2.2) = nH (s.zip bs) (xs.zip ls) (l + 1) (p) := by
 refine co 94 [.tmp 12, .cell 13 49] func189 ?_
 obtain ⟨hl32, hp32⟩ := aX hh ho
 refine m6 112 1 (x3 ?_)
 obtain ⟨okl, okr⟩ := bG ho
 refine gw ?_
 intro b13
 refine gw ?_
 refine l5 (γ := Nat) (mr 21 18 [12, 14]) (fun k => [(14, iI k)]) (fun _ => _) (fun k => k ≤ s.length ∧ ∀ i, i < k → s.getD i (0, 0) ≠ (l + 1, p)) (fun k => s.length - k) (0)
  ⟨Nat.zero_le _, fun i h => absurd h (Nat.not_lt_zero _)⟩ oa sr ?_
 rintro k u ⟨hk, hq⟩
 refine gw ?_
 refine j0 rfl rfl (p9 rfl rfl) (fun h24 => gw ?_) (fun h24 => gw ?_)
 ·refine e6 (i5 uT cT rfl rfl ow (c9 hP) (by rw [W4]; omega)) (e6 (a8 rfl (H4 (vs := [iI ((s.getD k (0, 0)).1 : Int), uI ((s.getD k (0, 0)).2 : Int)]) (c9 hP) rT ce264 (Nat.zero_lt_succ _) (lU h24))) (gw ?_))
  refine e6 (n8 (F5 (vs := [iI ↑(l + 1), uI p]) (pls := #[(0, 1), (1, 1)]) uT (fun w => by kernel_rfl) ze264 rfl ⟨rfl, rfl, trivial⟩ rfl) (show _ = p6 (l + 1, p) from rfl)) (j0 rfl rfl (lD (a := s.getD k (0, 0)) (b := (l + 1, p)) kr key182 rfl rfl) (fun h34 => gw ?_) (fun h34 => gw ?_))
  ·refine D1 ([5], []) mixed (sd (sk (sk I8))) (gw ?_)
   refine c6 2 rfl (i5 uT cT rfl rfl ow (c9 hZ) (by rw [m7]; omega)) (c6 3 rfl (a8 rfl (E4 (c9 hZ) k rT ce49 ow rfl)) (gw ?_))
   refine F7 5 rfl (W9 _ rfl (G0 ?_))
   refine p7 (a9 (finQ.ret (aV cw (j7 rfl (i4 w5 rT (o5 ce49)) n9)) (sx [2, 1]) ?_))
   have hf := W0 (0, 0) h24 hsl hq h34
   exact ⟨none, 0, [], by rw [(lR hf).1]; rfl, rfl, by rw [(lR hf).2]; rfl⟩
  ·refine ⟨k + 1, ?_, od, oz, sr⟩
   exact ⟨by show _ ≤ _; omega, fun i hi => (Nat.lt_or_ge i k).elim (hq i) (fun h => by (obtain rfl : i = k := by omega); exact h34)⟩
 ·refine i7 (c8 (c8 (c7 ?_)))
  have hno : Go.E.look (l + 1, p) (s.zip bs) = none := W2 (0, 0) (fun i hi => hq i ow)
  obtain ⟨kl, krq⟩ := hok.kids hno
  have bl := kl.len
  have br := krq.len
  obtain ⟨eV, eT⟩ := zfM hno
  refine gw ?_
  refine e6 (Qt.dF (z6 (b := 0) rfl rfl) ow) (gw ?_)
  refine e6 (n8 (o7 (a := l + 1) (b := 1) rfl rfl ow km) (by rw [Nat.add_sub_cancel])) (gw ?_)
  refine e6 (F3 (a := 2) rfl rfl km) (z9 en (fun w hw => hrec (2 * p) w okl kl (Rd.ro hR w hw) (Rd.ro hB w hw) (Rd.ro hP w hw) (Rd.ro hZ w hw) (hT.at hw)) ?_)
  rintro v L' ⟨O1, d1, t1, rfl, rfl, e1⟩
  have n1 := congrArg List.length e1
  rw [List.length_map] at n1
  refine gw ?_
  intro b17
  refine gw ?_
  refine j9 rfl (W9 _ rfl (gw ?_))
  refine e6 (n8 (o7 (a := l + 1) (b := 1) rfl rfl ow km) (by rw [Nat.add_sub_cancel])) (gw ?_)
  refine e6 (F3 (a := 2) rfl rfl km) (gw ?_)
  refine z9 en (fun w hw => hrec (2 * p + 1) w okr krq (Rd.ro hR w hw) (Rd.ro hB w hw) (Rd.ro hP w hw) (Rd.ro hZ w hw) (hT.at hw)) ?_
  rintro v L' ⟨O2, d2, t2, rfl, rfl, e2⟩
  have n2 := congrArg List.length e2
  rw [List.length_map] at n2
  refine gw ?_
  intro b19
  refine gw ?_
  refine j9 rfl (W9 _ rfl (gw ?_))
  refine z9 en (fun w hw => Z5 (l + 1) ow (X5 (s.zip bs) (xs.zip ls) (l) (2 * p)) (X5 (s.zip bs) (xs.zip ls) (l) (2 * p + 1)) w) ?_
  rintro v L' ⟨Ot, dt, rfl, rfl⟩
  refine eL (pm6.trans (pc pm3)) (T4 pm1 (gw ?_))
  refine z7 (jV (news := t2.flatMap aI) uT elem112 rfl rfl (x8 aH) (by rw [mB, Nat.mul_one]) (zi1 _) kx ow (fun O3 d3 => (gw ?_)))
  refine z7 (m5 (v := sL Ot (x5 (l + 1) (X5 (s.zip bs) (xs.zip ls) (l) (2 * p)) (X5 (s.zip bs) (xs.zip ls) (l) (2 * p + 1))).length dt) uT elem112 dc rfl rfl (fun g90 => (z7 (CR (news := [sL Ot (x5 (l + 1) (X5 (s.zip bs) (xs.zip ls) (l) (2 * p)) (X5 (s.zip bs) (xs.zip ls) (l) (2 * p + 1))).length dt]) uT elem112 rfl rfl (j8 (cs := [sL Ot (x5 (l + 1) (X5 (s.zip bs) (xs.zip ls) (l) (2 * p)) (X5 (s.zip bs) (xs.zip ls) (l) (2 * p + 1))).length dt]) w5) (rfl) (by intro u hu; rw [List.mem_singleton.1 hu]; rfl) kx ow (fun O4 d4 => (gw ?_))))))
  refine u7 en (fun w hw => cQ (Y2 Ot dt (x5 (l + 1) (X5 (s.zip bs) (xs.zip ls) (l) (2 * p)) (X5 (s.zip bs) (xs.zip ls) (l) (2 * p + 1))) w (Rd.own (e := 5) (sz := 1) (Rd.many (A := OwnA 5 1 Ot (x5 (l + 1) (X5 (s.zip bs) (xs.zip ls) (l) (2 * p)) (X5 (s.zip bs) (xs.zip ls) (l) (2 * p + 1))).length dt (e9 (x5 (l + 1) (X5 (s.zip bs) (xs.zip ls) (l) (2 * p)) (X5 (s.zip bs) (xs.zip ls) (l) (2 * p + 1))))) (Rd.at 1 rfl) (List.mem_append.2 (.inr (List.mem_singleton.2 rfl)))) w hw) (by rw [L9]; decide) (hT.at hw))) (gw ?_)
  refine j9 rfl (Y7 (v := hv (_)) rfl rfl (o5 ce49) (N7 _) (v9 _) (gw ?_))
  refine a9 (finQ.ret (aV cw (j7 rfl (i4 (s6 6 rfl) rT (o5 ce49)) n9)) (sx [5, 1]) ?_)
  refine ⟨O4, d4, t1 ++ t2 ++ [(Ot, dt, x5 (l + 1) (X5 (s.zip bs) (xs.zip ls) (l) (2 * p)) (X5 (s.zip bs) (xs.zip ls) (l) (2 * p + 1)))], ?_, ?_, ?_⟩
  ·rw [eV]; simp only [List.length_append]; rfl
  ·simp only [List.length_append, List.flatMap_append, List.map_append]; rfl
  ·rw [eT, List.map_append, List.map_append, e1, e2]; rfl
theorem wY (gh : Nat) (hh : gh ≤ 32) (A) (c : Nat) (xs : List Nat) (B) (b : Nat) (ls : List i6) (P) (q : Nat) (s : Sd) (Z) (e : Nat) (bs : List i6) (hsl : s.length = bs.length) (hxl : xs.length = ls.length) (hsn : s.length ≤ 16384) (hn : xs.length ≤ 256) : ∀ l, GE gh A c xs B b ls P q s Z e bs l
 | 0 => fun p w0 ho hok hR hB hP hZ hT => zau gh hh A c xs B b ls P q s Z e bs hsl hxl hsn hn p w0 ho hok hR hB hP hZ hT
 | l + 1 => fun p w0 ho hok hR hB hP hZ hT => zav gh hh A c xs B b ls P q s Z e bs hsl hxl hsn hn l p w0 ho hok hR hB hP hZ hT (wY gh hh A c xs B b ls P q s Z e bs hsl hxl hsn hn l)
theorem zfX (z : Int) (A) (c : Nat) (xs : List Nat) (B) (b : Nat) (ls : List i6) (Z) (e : Nat) (bs : List i6) (hr : ∀ w, Ro w [] (SlA A (w6 xs)) → cR 87 #[iI z, sL A xs.length c] w (.bool false)) (w0) (hR : Ro w0 [] (SlA A (w6 xs))) :
  cP 148 #[iI z, sL A xs.length c, sL B ls.length b, sL Z bs.length e] w0 fun v L => v = .tuple #[sL none 0 0, hv e7, iI 1] ∧ L = [] := by
 refine co 45 [.tmp 8, .cell 9 49, .tmp 10] func148 ?_
 refine gw ?_
 intro b9
 refine gw ?_
 refine u7 en (fun w hw => hr w (Rd.ro hR w hw)) (gw ?_)
 refine e6 (C8 (v := hv e7) rfl (fun _ => by kernel_rfl)) (gw ?_)
 refine j9 rfl (W9 (e7) rfl (gw ?_))
 refine a9 (finQ.ret (aV cw (j7 rfl (i4 w5 rT (o5 ce49)) rv)) sn ?_)
 exact rr
theorem zfY (gh : Nat) (hh : gh ≤ 32) (A) (c : Nat) (xs : List Nat) (hc : xs.length ≤ c) (B) (b : Nat) (ls : List i6) (Z) (e : Nat) (bs : List i6) (hi : idxOk gh xs) (h2 : ls.length ≠ xs.length) (w0) (lw : lW xs) (hR : Ro w0 [] (SlA A (w6 xs))) (hB : Ro w0 [] (SlA B (m9 ls))) (hD : Ro w0 [] (SlA Z (m9 bs))) :
  cP 148 #[iI gh, sL A xs.length c, sL B ls.length b, sL Z bs.length e] w0 fun v L => v = .tuple #[sL none 0 0, hv e7, iI 2] ∧ L = [] := by
 refine co 45 [.tmp 8, .cell 9 49, .tmp 10] func148 ?_
 refine gw ?_
 intro b9
 refine gw ?_
 refine u7 en (fun w hw => nK gh hh A c xs hi w lw (Rd.ro hR w hw)) (gw ?_)
 refine e6 (Qt.dT (C7 rfl rfl) (h2)) (gw ?_)
 refine e6 (C8 (v := hv e7) rfl (fun _ => by kernel_rfl)) (gw ?_)
 refine j9 rfl (W9 (e7) rfl (gw ?_))
 refine a9 (finQ.ret (aV cw (j7 rfl (i4 w5 rT (o5 ce49)) rv)) sn ?_)
 exact rr
theorem zfZ (gh : Nat) (hh : gh ≤ 32) (A) (c : Nat) (xs : List Nat) (hc : xs.length ≤ c) (B) (b : Nat) (ls : List i6) (Z) (e : Nat) (bs : List i6) (hi : idxOk gh xs) (h2 : ls.length = xs.length) (h3 : bs.length ≠ (l7 gh xs 0).length) (w0) (lw : lW xs) (hR : Ro w0 [] (SlA A (w6 xs))) (hB : Ro w0 [] (SlA B (m9 ls))) (hD : Ro w0 [] (SlA Z (m9 bs))) :
  cP 148 #[iI gh, sL A xs.length c, sL B ls.length b, sL Z bs.length e] w0 fun v L => v = .tuple #[sL none 0 0, hv e7, iI 5] ∧ L = [] := by
 refine co 45 [.tmp 8, .cell 9 49, .tmp 10] func148 ?_
 have hse : E0 gh xs 0 = l7 gh xs 0 := by rw [cK, gX hi.root]
 have hsp : (E0 gh xs 0).length ≤ 8193 := by have h1 := jM gh xs 0; have h2 : xs.length * gh ≤ 256 * 32 := Nat.mul_le_mul hi.2.1 hh; omega
 refine gw ?_
 intro b9
 refine gw ?_
 refine u7 en (fun w hw => nK gh hh A c xs hi w lw (Rd.ro hR w hw)) (gw ?_)
 refine e6 (Qt.dF (C7 rfl rfl) (fun k => k h2)) (gw ?_)
 refine z9 en (fun w hw => CH gh hh A c xs hi.2.1 lw gh 0 w (cE gh) (Rd.ro hR w hw)) ?_
 rintro v L' ⟨P0, sdq, rfl, rfl⟩
 refine gw ?_
 refine e6 (Qt.dT (C7 rfl rfl) (by rw [hse]; exact h3)) (gw ?_)
 refine e6 (C8 (v := hv e7) rfl (fun _ => by kernel_rfl)) (gw ?_)
 refine j9 rfl (HY (e7) rfl (gw ?_))
 refine a9 (finQ.ret (aV cw (j7 rfl (i4 N3 rT (o5 ce49)) rv)) sn ?_)
 exact rr
theorem zfW (gh : Nat) (hh : gh ≤ 32) (A : y8) (c : Nat) (xs : List Nat) (hc : xs.length ≤ c) (B : y8) (b : Nat) (ls : List i6) (Z : y8) (e : Nat) (bs : List i6) (hi : idxOk gh xs) (h2 : ls.length = xs.length) (h3 : bs.length = (l7 gh xs 0).length) (w0 : World) (lw : ∀ x ∈ xs, x < 18446744073709551616) (hR : Ro w0 [] (SlA A (w6 xs))) (hB : Ro w0 [] (SlA B (m9 ls))) (hD : Ro w0 [] (SlA Z (m9 bs))) (hT : Tabs 2 0 w0 []) :
    Calls prog 148 #[.int .i64 (gh : Int), .slice A xs.length c, .slice B ls.length b, .slice Z bs.length e] w0 (D0 w0 [] fun v L => ∃ (O : y8) (d : Nat) (tt : List Tx), v = .tuple #[.slice O tt.length d, hv (F2 gh xs 0 ls bs), .int .i64 0] ∧ L = [OwnA 112 1 O tt.length d (tt.flatMap aI), C1 (tt.map u3)] ∧ tt.map (fun t => t.2.2) = S0 gh xs 0 ls bs) := by
  refine N4 (L := []) (n := 45) (rs := [.tmp 8, .cell 9 49, .tmp 10]) func148 rfl rfl rfl (Nat.le_of_ble_eq_true rfl) (Sat.nil _) ?_
  have hse : E0 gh xs 0 = l7 gh xs 0 := by rw [cK, gX hi.root]
  have hsp : (E0 gh xs 0).length ≤ 8193 := by have h1 := jM gh xs 0; have h2 : xs.length * gh ≤ 256 * 32 := Nat.mul_le_mul hi.2.1 hh; omega
  have hn := hi.2.1
  have hpart : Part ((E0 gh xs 0).zip bs) (xs.zip ls) gh 0 xs ls bs := by rw [hse]; exact zdb hi h2 h3
  refine c8 ?_
  refine c7 ?_
  refine C3 ?_
  refine z7 (z4 zT (fun b9 => ?_))
  refine C3 ?_
  refine l3 ?_
  refine c8 ?_
  refine c8 ?_
  refine c7 ?_
  refine o8 ?_
  refine o8 ?_
  refine z7 (R1 J87 rfl (fun w hw => nK gh hh A c xs hi w lw (Rd.ro hR w hw)) ?_)
  refine e6 (uO rfl) ?_
  refine l3 ?_
  refine C4 rfl ?_
  refine w8 ?_
  refine c8 ?_
  refine c8 ?_
  refine c7 ?_
  refine o8 ?_
  refine e6 (D6 uT rfl) ?_
  refine o8 ?_
  refine e6 (D6 uT rfl) ?_
  refine e6 (Qt.dF (C7 rfl rfl) (fun k => k h2)) ?_
  refine l3 ?_
  refine C4 rfl ?_
  refine w8 ?_
  refine c8 ?_
  refine c7 ?_
  refine o8 ?_
  refine o8 ?_
  refine z7 (l8 (Pre := []) (R := _) J149 rfl pr (fun w hw => CH gh hh A c xs hi.2.1 lw gh 0 w (cE gh) (Rd.ro hR w hw)) ?_)
  rintro v L' ⟨P0, sdq, rfl, rfl⟩
  refine C3 ?_
  refine l3 ?_
  refine c8 ?_
  refine c8 ?_
  refine c7 ?_
  refine o8 ?_
  refine e6 (D6 uT rfl) ?_
  refine o8 ?_
  refine e6 (D6 uT rfl) ?_
  refine e6 (Qt.dF (C7 rfl rfl) (fun k => k (by rw [hse]; exact h3))) ?_
  refine l3 ?_
  refine C4 rfl ?_
  refine w8 ?_
  refine c8 ?_
  refine c7 ?_
  refine o8 ?_
  refine o8 ?_
  refine o8 ?_
  refine o8 ?_
  refine o8 ?_
  refine z7 (l8 (Pre := []) (R := _) J189 rfl pr (fun w hw => wY gh hh A c xs B b ls P0 sdq (E0 gh xs 0) Z e bs (by rw [hse]; exact h3.symm) h2.symm ow hn gh 0 w (cE gh) ⟨xs, ls, bs, hpart, hn⟩ (Rd.ro hR w hw) (Rd.ro hB w hw) (Rd.own (Rd.at 0 rfl) w hw) (Rd.ro hD w hw) (hT.at hw)) ?_)
  rintro v L' ⟨O, d, tt, rfl, rfl, ett⟩
  refine o8 ?_
  refine e6 (s8 rfl rfl) ?_
  refine e6 (s8 rfl rfl) ?_
  refine z7 (z4 zT (fun b13 => ?_))
  refine C3 ?_
  refine j9 rfl (j5 (v := hv (_)) rfl rfl (o5 ce49) (N7 _) (v9 _) ?_)
  refine l3 ?_
  refine c8 ?_
  refine D1 ([3], []) mixed (sk (sk (sk (sk (sd I8))))) ?_
  refine c6 0 rfl (m8 cw) ?_
  refine c6 1 rfl (a8 rfl (gR (x := X5 ((E0 gh xs 0).zip bs) (xs.zip ls) gh 0) w5 rT ce49)) ?_
  refine c6 2 rfl (G9 cw) ?_
  refine fH (k := 3) (sk (sk (sk (sk (sd I8))))) rfl (by kernel_rfl) (by kernel_rfl) rfl (fK (v := hv (_)) rfl rfl (o5 ce49) (N7 _) (v9 _) ⟨sk (sk (sk (sk (sd I8)))), ?_⟩)
  refine c6 4 rfl (G9 cw) ?_
  refine R2 (sk (sk (sk (sk (sd I8))))) (by kernel_rfl) ?_
  refine a9 ?_
  refine finQ.ret (aV cw (j7 rfl (i4 (s6 4 rfl) rT (o5 ce49)) rv)) (Sub.trans (sk (sk (sd (sd (sd I8))))) (Sub.trans (sk (Sub.trans (sk sr) (e5 pm1))) (e5 pm1))) ?_
  rw [Part.val gh 0 xs ls bs hpart]
  rw [nT gh 0 xs ls bs hpart] at ett
  exact ⟨O, d, tt, rfl, rfl, ett⟩
theorem zge (z : Int) (k : Nat) (A) (c : Nat) (xs : List Nat) (B) (b : Nat) (ls : List i6) (Z) (e : Nat) (bs : List i6) (hce : ∀ w, Ro w [] (SlA A (w6 xs)) → Ro w [] (SlA B (m9 ls)) → Ro w [] (SlA Z (m9 bs)) → cR 188 #[iI z, sL A xs.length c, sL B ls.length b, sL Z bs.length e] w (.tuple #[hv e7, sL none 0 0, .iface 73 (iI k)])) (w0) (hR : Ro w0 [] (SlA A (w6 xs))) (hB : Ro w0 [] (SlA B (m9 ls))) (hD : Ro w0 [] (SlA Z (m9 bs))) :
  cP 144 #[iI z, sL A xs.length c, sL B ls.length b, sL Z bs.length e] w0 fun v L => v = .tuple #[sL none 0 0, .iface 73 (iI k)] ∧ L = [] := by
 refine co 24 [.tmp 8, .tmp 9] func144 ?_
 refine gw ?_
 refine u7 en (fun w hw => hce w (Rd.ro hR w hw) (Rd.ro hB w hw) (Rd.ro hD w hw)) (gw ?_)
 intro b10
 refine j9 rfl (W9 _ rfl (gw ?_))
 exact tR
theorem zgd (gh : Nat) (hh : gh ≤ 32) (A) (c : Nat) (xs : List Nat) (hc : xs.length ≤ c) (B) (b : Nat) (ls : List i6) (Z) (e : Nat) (bs : List i6) (hi : idxOk gh xs) (h2 : ls.length = xs.length) (h3 : bs.length = (l7 gh xs 0).length) (hb : ls.length ≤ b) (hbs : bs.length ≤ e) (w0) (lw : lW xs) (hR : Ro w0 [] (SlA A (w6 xs))) (hB : Ro w0 [] (SlA B (m9 ls))) (hD : Ro w0 [] (SlA Z (m9 bs))) (hT : Tabs 3 1 w0 []) :
  cP 144 #[iI gh, sL A xs.length c, sL B ls.length b, sL Z bs.length e] w0 fun v L => ∃ (O : y8) (d : Nat) (tt : List Tx), v = .tuple #[sL O tt.length d, .nilIface] ∧ L = [OwnA 112 1 O tt.length d (tt.flatMap aI), C1 (tt.map u3)] ∧ tt.map (fun t => t.2.2) = S0 gh xs 0 ls bs := by
 refine co 24 [.tmp 8, .tmp 9] func144 ?_
 refine gw ?_
 refine z9 en (fun w hw => zdq gh hh A c xs hc B b ls Z e bs hi h2 h3 hb hbs w lw (Rd.ro hR w hw) (Rd.ro hB w hw) (Rd.ro hD w hw) (hT.at hw)) ?_
 rintro v L' ⟨O, d, tt, rfl, rfl, ett⟩
 refine gw ?_
 intro b10
 refine j9 rfl (W9 _ rfl (gw ?_))
 refine a9 (finQ.ret rv (sx [1, 1]) ?_)
 exact ⟨O, d, tt, rfl, rfl, ett⟩
theorem JK (z : Int) (A) (c : Nat) (xs : List Nat) (hc : xs.length ≤ c) (B) (b : Nat) (ls : List i6) (Z) (e : Nat) (bs : List i6) (h : z < 0 ∨ 32 < z ∨ ∃ gh : Nat, z = (gh : Int) ∧ gh ≤ 32 ∧ ¬ idxOk gh xs) (lw : lW xs) (w) (hR : Ro w [] (SlA A (w6 xs))) : cR 148 #[iI z, sL A xs.length c, sL B ls.length b, sL Z bs.length e] w (.tuple #[sL none 0 0, hv e7, iI 1]) := by
 refine cQ (zfX z A c xs B b ls Z e bs (fun w1 h1 => ?_) w hR)
 rcases h with h | h | ⟨gh, rfl, hh, hi⟩
 ·exact sY z (.inl h) A c xs w1
 ·exact sY z (.inr h) A c xs w1
 ·exact zed gh hh A c xs hi w1 lw h1
end Go.Proofs.YtgdjcmehlhebdaaGreatDoor
