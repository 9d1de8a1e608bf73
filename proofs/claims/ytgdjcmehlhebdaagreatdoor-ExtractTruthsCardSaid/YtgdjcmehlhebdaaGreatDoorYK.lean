/- Facts of the table that the turned walks need -/
import Derived.Test.YtgdjcmehlhebdaaGreatDoorYQ
set_option maxHeartbeats 25600000
set_option linter.all false
namespace Go.Proofs.YtgdjcmehlhebdaaGreatDoor
open _root_.Go.Proofs.Tryz
open Go.E
set_option maxRecDepth 4000
theorem J68 : p8 prog 68 := ⟨_, func68, by kernel_rfl, rfl⟩
theorem J104 : p8 prog 104 := ⟨_, func104, by kernel_rfl, rfl⟩
theorem J127 : p8 prog 127 := ⟨_, func127, by kernel_rfl, rfl⟩
theorem J132 : p8 prog 132 := ⟨_, func132, by kernel_rfl, rfl⟩
theorem J145 : p8 prog 145 := ⟨_, func145, by kernel_rfl, rfl⟩
theorem J146 : p8 prog 146 := ⟨_, func146, by kernel_rfl, rfl⟩
theorem J186 : p8 prog 186 := ⟨_, func186, by kernel_rfl, rfl⟩
theorem elem173 : S3 prog 173 33 40 := S4 (by kernel_rfl)
theorem elem265 : S3 prog 265 2 16 := S4 (by kernel_rfl)
theorem AQ (f k : Nat) : w6 ((List.range k).map (f + ·)) ++ [uI ↑(f + k)] = w6 ((List.range (k + 1)).map (f + ·)) := by
 rw [List.range_succ, List.map_append]; simp [w6]
theorem JC {n : Nat} (h : n % 2 ≠ 0) : n % 2 = 1 := by omega
theorem GW {n : Nat} (h : ¬ n % 2 ≠ 0) : ¬ n % 2 = 1 := by omega
theorem JZ {n : Nat} (h : n % 2 ≠ 1) : n % 2 = 0 := by omega
theorem GX {n : Nat} (h : ¬ n % 2 ≠ 1) : ¬ n % 2 = 0 := by omega
theorem CA (h : Nat) (h2 : h ≤ 32) (l r : i6) (w0) (hT : Tabs 2 0 w0 []) : cR 184 #[iI h, hv l, hv r] w0 (hv (F8 h l r)) := by
 refine cQ (co 12 [.cell 6 49] func184 ?_)
 refine gw ?_
 intro b4
 refine gw ?_
 intro b5
 refine gw ?_
 intro b6
 refine gw ?_
 refine z9 en (fun w hw => Z5 h h2 l r w) ?_
 rintro v L' ⟨O, d, rfl, rfl⟩
 refine u7 en (fun w hw => cQ (Y2 O d (x5 h l r) w (Rd.own (Rd.at 0 rfl) w hw) (by rw [L9]; decide) (hT.at hw))) ?_
 refine j9 rfl (HY (F8 h l r) rfl (gw ?_))
 exact a9 (finQ.ret (j7 rfl (i4 N3 rT (o5 ce49)) n9) sn (rr))
theorem zaw (E : Nat → i6) (hE0 : E 0 = K3 [0]) (hE : ∀ h, E (h + 1) = F8 (h + 1) (E h) (E h)) (w0) (hT : Tabs 2 0 w0 []) :
  cP 137 #[] w0 fun v L => ∃ O d, v = sL O 33 d ∧ L = [OwnA 49 32 O 33 d (m9 (H3 E))] := by
 refine co 26 [.tmp 0] func137 ?_
 refine gw ?_
 refine z7 (m5 (v := .int .u8 ↑((0 : UInt8).toNat)) uT elem5 dc rfl rfl (fun g3 => (u7 en (fun w hw => (by rw [hE0]; exact cQ (Y2 (some ⟨g3, 0, none⟩) 1 [0] w (e4 (bl := [0]) (Rd.at 0 rfl) w hw) dc (hT.at hw)) : cR 57 #[sL (some ⟨g3, 0, none⟩) 1 1] w (hv (E 0)))) ?_)))
 refine z7 (Q2 (vs := [hv (E 0)]) uT elem49 rfl dc rfl (by intro v hv; rw [List.mem_singleton.1 hv]; exact v9 _) (fun g5 => (gw ?_)))
 refine l5 (γ := Nat × y8 × Nat) (mr 6 19 [1, 2]) (fun g => [(2, iI g.1), (1, sL g.2.1 g.1 g.2.2)]) (fun g => [OwnA 49 32 g.2.1 g.1 g.2.2 (m9 ((List.range g.1).map E))]) (fun g => 1 ≤ g.1 ∧ g.1 ≤ 33) (fun g => 33 - g.1) ((1, some ⟨g5, 0, none⟩, 1))
  ⟨Nat.le_refl _, by show 1 ≤ 33; decide⟩ oa ((by dsimp only; rw [zd4, List.flatMap_singleton]; exact sk sn)) ?_
 rintro ⟨k, O, d⟩ u ⟨hk1, hk⟩
 dsimp only at hk1 hk
 refine gw ?_
 refine j0 rfl rfl (bM (b := 32) rfl rfl) (fun h7 => gw ?_) (fun h7 => gw ?_)
 ·refine dw ([14], [13]) (gw ?_)
  refine c6 4 rfl (o7 (b := 1) rfl rfl ow km) (c6 5 rfl (i5 uT cT rfl rfl ow (x8 w5) (by rw [m7, List.length_map, List.length_range]; omega)) (c6 6 rfl (n8 (a8 rfl (E4 (x8 w5) (k - 1) rT ce49 (by rw [List.length_map, List.length_range]; omega) rfl)) (by rw [wX E ow])) (gw ?_)))
  refine c6 9 rfl (o7 (b := 1) rfl rfl ow km) (c6 10 rfl (i5 uT cT rfl rfl ow (x8 w5) (by rw [m7, List.length_map, List.length_range]; omega)) (c6 11 rfl (n8 (a8 rfl (E4 (x8 w5) (k - 1) rT ce49 (by rw [List.length_map, List.length_range]; omega) rfl)) (by rw [wX E ow])) ?_))
  have hEk : E k = F8 k (E (k - 1)) (E (k - 1)) := by have := hE (k - 1); rwa [show k - 1 + 1 = k by omega] at this
  refine I7 12 rfl en (fun w hw => (by rw [hEk]; exact CA k ow (E (k - 1)) (E (k - 1)) w (hT.at hw) : cR 184 #[iI k, hv (E (k - 1)), hv (E (k - 1))] w (hv (E k)))) ?_
  refine aO 13 rfl (m5 (v := hv (E k)) uT elem49 dc rfl (v9 _) (fun g23 => (G0 ?_)))
  refine V5 14 rfl (G1 (news := L8 (E k)) uT elem49 rfl rfl (j8 (cs := L8 (E k)) w5) (by rw [l6]) (r9 _) kx ow (fun O' d' => (G0 (gw ?_))))
  refine p7 (gw ?_)
  refine ⟨(k + 1, O', d'), ?_, od, oz, (by dsimp only; rw [← zcO]; exact sd sr)⟩
  exact ⟨by show 1 ≤ k + 1; omega, by show k + 1 ≤ 33; omega⟩
 ·refine i7 (c8 (gw ?_))
  refine a9 (D7 sr ?_)
  obtain rfl : k = 33 := by omega
  exact ⟨O, d, rfl, rfl⟩
theorem zaP (w0) (hT : Tabs 2 0 w0 []) : cP 137 #[] w0 fun v L => ∃ O d, v = sL O 33 d ∧ L = [OwnA 49 32 O 33 d (m9 (H3 mY))] := zaw mY rfl (fun _ => rfl) w0 hT
theorem zjj (n : Nat) (h : fE n) (w0) : cR 74 #[uI n] w0 (.tuple #[iI ↑(s7 n), .bool true]) := by
 refine cQ (co 20 [.tmp 2, .tmp 3] func74 ?_)
 obtain ⟨hn1, hn2⟩ := id h
 refine gw ?_
 refine e6 (Qt.dF (z6 (b := 0) rfl rfl) ow) (gw ?_)
 refine E8 rfl rfl rfl (Qt.dF (M0 (b := 4294967296) rfl rfl) ow) (gw ?_)
 refine l5 (γ := Nat) (mr 12 7 [4, 5]) (fun k => [(4, iI k), (5, uI (2 ^ k : Nat))]) (fun _ => _) (fun k => k ≤ 32 ∧ (k = 0 ∨ 2 ^ (k - 1) < n)) (fun k => 32 - k) (0)
  ⟨by omega, .inl rfl⟩ oa sr ?_
 rintro k u ⟨hk, hk1⟩
 refine gw ?_
 refine j0 rfl rfl (p9 rfl rfl) (fun h14 => gw ?_) (fun h14 => gw ?_)
 ·have hk2 : k < 32 := by
   rcases Nat.lt_or_ge k 32 with h1 | h1
   ·exact h1
   ·have : 2 ^ 32 ≤ 2 ^ k := Nat.pow_le_pow_right dc h1
    omega
  refine e6 (F3 (b := 2) rfl rfl km) (gw ?_)
  refine ⟨k + 1, ?_, od, oz, sr⟩
  exact ⟨by omega, .inr (by rw [Nat.add_sub_cancel]; exact h14)⟩
 ·refine i7 (c8 (gw ?_))
  refine a9 (fR ?_)
  have e := zgZ h (Nat.le_of_not_lt h14) hk1
  rw [← e]
  exact rr
theorem zdF (a b : Nat) (ha : fE a) (hb : fE b) (w0) :
  cP 169 #[uI a, uI b] w0 fun v L => v = .tuple #[iI ↑(s7 a), iI ↑(s7 b), .nilIface] ∧ L = [] := by
 refine co 26 [.tmp 4, .tmp 5, .tmp 6] func169 ?_
 refine gw ?_
 refine u7 en (fun w hw => oR a ha w) (gw ?_)
 refine u7 en (fun w hw => oR b hb w) (gw ?_)
 exact tR
theorem zjl (a b : Nat) (ha : fE a) (hb : fE b) (w0) : cR 169 #[uI a, uI b] w0 (.tuple #[iI ↑(s7 a), iI ↑(s7 b), .nilIface]) := cQ (zdF a b ha hb w0)
theorem ze6 (a b : Nat) (ha : ¬ fE a) (w0) :
  cP 169 #[uI a, uI b] w0 fun v L => v = .tuple #[iI 0, iI 0, .iface 73 (iI 1)] ∧ L = [] := by
 refine co 26 [.tmp 4, .tmp 5, .tmp 6] func169 ?_
 refine gw ?_
 refine u7 en (fun w hw => vP a ha w) (gw ?_)
 exact tR
theorem zjY (a b : Nat) (ha : ¬ fE a) (w0) : cR 169 #[uI a, uI b] w0 (.tuple #[iI 0, iI 0, .iface 73 (iI 1)]) := cQ (ze6 a b ha w0)
theorem zdE (a b : Nat) (ha : fE a) (hb : ¬ fE b) (w0) :
  cP 169 #[uI a, uI b] w0 fun v L => v = .tuple #[iI ↑(s7 a), iI 0, .iface 73 (iI 1)] ∧ L = [] := by
 refine co 26 [.tmp 4, .tmp 5, .tmp 6] func169 ?_
 refine gw ?_
 refine u7 en (fun w hw => oR a ha w) (gw ?_)
 refine u7 en (fun w hw => vP b hb w) (gw ?_)
 exact tR
theorem zjk (a b : Nat) (ha : fE a) (hb : ¬ fE b) (w0) : cR 169 #[uI a, uI b] w0 (.tuple #[iI ↑(s7 a), iI 0, .iface 73 (iI 1)]) := cQ (zdE a b ha hb w0)
theorem zji (root : i6) (a b : Nat) (h : ¬ (fE a ∧ fE b ∧ a ≤ b)) (w0) :
  cP 108 #[hv root, uI a, uI b] w0 fun v L => v = .tuple #[hv e7, .iface 73 (iI 1)] ∧ L = [] := by
 refine co 54 [.cell 6 49, .tmp 7] func108 ?_
 refine gw ?_
 intro b3
 refine gw ?_
 intro b6
 refine C3 (l3 (c8 (c7 (o8 (o8 ?_)))))
 rcases zdC h with ha | ⟨ha, hb⟩ | ⟨ha, hb, hc⟩
 ·refine u7 en (fun w hw => zjY a b ha w) (gw ?_)
  refine e6 (C8 (v := hv e7) rfl (fun _ => by kernel_rfl)) (gw ?_)
  refine j9 rfl (W9 (e7) rfl (gw ?_))
  refine a9 (finQ.ret (j7 rfl (i4 w5 rT (o5 ce49)) rv) sn ?_)
  exact rr
 ·refine u7 en (fun w hw => zjk a b ha hb w) (gw ?_)
  refine e6 (C8 (v := hv e7) rfl (fun _ => by kernel_rfl)) (gw ?_)
  refine j9 rfl (W9 (e7) rfl (gw ?_))
  refine a9 (finQ.ret (j7 rfl (i4 w5 rT (o5 ce49)) rv) sn ?_)
  exact rr
 ·refine u7 en (fun w hw => zjl a b ha hb w) (gw ?_)
  refine E8 rfl rfl rfl (Qt.dT (p9 rfl rfl) ow) (gw ?_)
  refine e6 (C8 (v := hv e7) rfl (fun _ => by kernel_rfl)) (gw ?_)
  refine j9 rfl (W9 (e7) rfl (gw ?_))
  refine a9 (finQ.ret (j7 rfl (i4 w5 rT (o5 ce49)) rv) sn ?_)
  exact rr
theorem zbo (w0) :
  cP 68 #[.nilIface] w0 fun v L => v = iI 0 ∧ L = [] := by
 refine co 18 [.tmp 2] func68 ?_
 refine gw ?_
 exact tR
theorem zbp (k : Nat) (hk : 0 < k) (w0) :
  cP 68 #[.iface 73 (iI k)] w0 fun v L => v = iI k ∧ L = [] := by
 refine co 18 [.tmp 2] func68 ?_
 refine gw ?_
 refine e6 (zaC underlying73 (fun _ h => nomatch h) rfl) (gw ?_)
 refine E8 rfl rfl rfl (Qt.dT (C7 (b := 0) rfl rfl) ow) (gw ?_)
 exact tR
theorem KK (k : Nat) (w0) : cR 68 #[HX 73 k] w0 (iI k) := by
 by_cases h : k = 0
 ·subst h; exact cQ (zbo w0)
 ·rw [DJ h]; exact cQ (zbp k ow w0)
theorem EK (E : Nat → i6) (tb mb gh : Nat) (ms : Tm) (l p : Nat) (hl : l ≤ 32) (h : i6) (w0) (hL : Sat w0 [Blk tb 243 (q7 E gh mb), u6 mb p6 hv (ms)]) :
  Calls prog 167 #[pZ tb, p6 (l, p), hv h] w0 (D0 w0 (A8 [Blk tb 243 (q7 E gh mb), u6 mb p6 hv (ms)]) fun v L => v = .tuple #[] ∧ L = [Blk tb 243 (q7 E gh mb), u6 mb p6 hv (wT E ms (l, p) h)]) := by
 refine gW (L := [Blk tb 243 (q7 E gh mb), u6 mb p6 hv (ms)]) 26 [] func167 hL ?_
 refine gw ?_
 intro b4
 refine gw ?_
 intro b5
 refine gw ?_
 refine dw ([], []) (gw ?_)
 refine c6 6 rfl (n7 uT cT rfl rfl ow) (c6 7 rfl (a8 rfl (CQ aH l rT ce49 ow rfl)) (aY (k := 8) rfl kr kr kr rfl rfl (FM (a := h) (b := E l) guard49 uT uT cT rfl rfl) (fun h14 => ?_) (fun h14 => ?_)))
 ·refine p7 (gw ?_)
  refine dw ([5], []) (gw ?_)
  refine c6 4 rfl (a8 rfl (i4 (vs := vl (p6 (l, p))) N3 rT ce249)) (F7 5 rfl (zbM (k := (l, p)) rfl uT Tryz.keyAt rfl rfl (G0 ?_)))
  refine p7 (a9 (finQ.ret n9 (sd (sd sr)) ?_))
  exact ⟨rfl, by rw [ziL (a := (l, p)) h14]⟩
 ·refine p7 (gw ?_)
  refine dw ([6], []) (gw ?_)
  refine c6 4 rfl (a8 rfl (i4 (vs := vl (p6 (l, p))) N3 rT ce249)) (gw ?_)
  refine F7 6 rfl (zbO (k := (l, p)) (a := h) uT Tryz.keyAt rfl rfl rfl (G0 ?_))
  refine p7 (finQ.normal n9 (sd (sd sr)) ?_)
  exact ⟨rfl, by rw [ziM (a := (l, p)) h14]⟩
theorem xK (E : Nat → i6) (tb mb gh : Nat) (ms : Tm) (i : Nat) (h : i6) (hh : gh ≤ 32) (hi : i < 2 ^ gh) (w0) (hL : Sat w0 [Blk tb 243 (q7 E gh mb), u6 mb p6 hv (ms)]) (hT : Tabs 3 1 w0 (A8 [Blk tb 243 (q7 E gh mb), u6 mb p6 hv (ms)])) :
  Calls prog 102 #[pZ tb, uI i, hv h] w0 (D0 w0 (A8 [Blk tb 243 (q7 E gh mb), u6 mb p6 hv (ms)]) fun v L => v = .nilIface ∧ L = [Blk tb 243 (q7 E gh mb), u6 mb p6 hv (mG E ms i h gh)]) := by
 refine gW (L := [Blk tb 243 (q7 E gh mb), u6 mb p6 hv (ms)]) 65 [.tmp 6] func102 hL ?_
 have hi32 := HE hh hi
 refine gw ?_
 intro b5
 refine gw ?_
 refine e6 (A5 (v := p6 (0, i)) (a := iI (0 : Nat)) (b := uI i) rfl rfl (buildAt (0) (i))) (u7 en (fun w hw => IW E tb mb gh 0 i hh (JE hi) w (Rd.at 1 rfl w hw)) (gw ?_))
 refine e6 (A5 (v := p6 (0, i)) (a := iI (0 : Nat)) (b := uI i) rfl rfl (buildAt (0) (i))) (gw ?_)
 refine z7 (l8 (Pre := [Blk tb 243 (q7 E gh mb), u6 mb p6 hv (ms)]) (R := _) en rfl (pm1.trans (pc pm1)) (fun w hw => EK E tb mb gh ms 0 i dc h w hw.sat.left) ?_)
 rintro v L' ⟨rfl, rfl⟩
 refine gw ?_
 refine l5 (γ := Nat) (mr 26 39 (mr 6 4 [1])) (fun j => [(7, iI ↑(j + 1)), (1, uI (i / 2 ^ j : Nat))]) (fun j => [Blk tb 243 (q7 E gh mb), u6 mb p6 hv (mG E ms i h j), Blk b5 49 (L8 h)]) (fun j => j ≤ gh) (fun j => gh - j) (0)
  (Nat.zero_le _) ⟨Out.refl _ _, (fm rfl (fm (by show uI i = uI (i / 2 ^ 0 : Nat); rw [Nat.pow_zero, Nat.div_one]) nb))⟩ sr ?_
 rintro j u hj
 have hd1 := Nat.div_le_self i (2 ^ j)
 have hd2 := Nat.div_le_self i (2 ^ (j + 1))
 refine gw ?_
 refine j0 rfl rfl (bM rfl rfl) (fun h31 => gw ?_) (fun h31 => gw ?_)
 ·refine e6 (n8 (G5 (s := 1) rfl rfl km) (by rw [vN])) (gw ?_)
  refine e6 (o7 (b := 1) rfl rfl ow km) (gw ?_)
  refine e6 (F3 (a := 2) rfl rfl km) (e6 (A5 (v := p6 (j, 2 * (i / 2 ^ (j + 1)))) (a := iI j) (b := uI (2 * (i / 2 ^ (j + 1)) : Nat)) rfl rfl (buildAt (j) (2 * (i / 2 ^ (j + 1))))) (u7 en (fun w hw => yY E tb mb gh (mG E ms i h j) j (2 * (i / 2 ^ (j + 1))) ow w (Rd.at 0 rfl w hw) (Rd.at 1 rfl w hw)) (gw ?_)))
  refine e6 (o7 (b := 1) rfl rfl ow km) (gw ?_)
  refine e6 (F3 (a := 2) rfl rfl km) (gw ?_)
  refine e6 (A5 (v := p6 (j, 2 * (i / 2 ^ (j + 1)) + 1)) (a := iI j) (b := uI (2 * (i / 2 ^ (j + 1)) + 1 : Nat)) rfl rfl (buildAt (j) (2 * (i / 2 ^ (j + 1)) + 1))) (u7 en (fun w hw => yY E tb mb gh (mG E ms i h j) j (2 * (i / 2 ^ (j + 1)) + 1) ow w (Rd.at 0 rfl w hw) (Rd.at 1 rfl w hw)) ?_)
  refine u7 en (fun w hw => vV (j + 1) ow ow _ _ w (hT.at hw)) (gw ?_)
  intro b8
  refine j9 rfl (W9 _ rfl (gw ?_))
  refine e6 (A5 (v := p6 (j + 1, i / 2 ^ (j + 1))) (a := iI ↑(j + 1)) (b := uI (i / 2 ^ (j + 1) : Nat)) rfl rfl (buildAt (j + 1) (i / 2 ^ (j + 1)))) (gw ?_)
  refine z7 (l8 (Pre := [Blk tb 243 (q7 E gh mb), u6 mb p6 hv (mG E ms i h j)]) (R := _) en rfl (pm1.trans (pc pm1)) (fun w hw => EK E tb mb gh (mG E ms i h j) (j + 1) (i / 2 ^ (j + 1)) ow _ w hw.sat.left) ?_)
  rintro v L' ⟨rfl, rfl⟩
  refine gw ?_
  exact ⟨j + 1, od, od, oz, sk (sk (sd sr))⟩
 ·refine i7 (c8 (gw ?_))
  refine a9 (D7 (sx [0, 0]) ?_)
  obtain rfl : j = gh := by omega
  exact rr
theorem zjy (E : Nat → i6) (tb mb gh : Nat) (ms : Tm) (hh : gh ≤ 32) (w0) (hB : Ro w0 [] (Blk tb 243 (q7 E gh mb))) (hM : Ro w0 [] (u6 mb p6 hv (ms))) : cR 72 #[pZ tb] w0 (hv (s4 E ms (gh, 0))) := by
 refine cQ (co 13 [.cell 2 49] func72 ?_)
 refine gw ?_
 intro b2
 refine gw ?_
 refine e6 (A5 (v := p6 (gh, 0)) (a := iI gh) (b := uI (0 : Nat)) rfl rfl (buildAt (gh) (0))) (u7 en (fun w hw => yY E tb mb gh ms gh 0 hh w (Rd.ro hB w hw) (Rd.ro hM w hw)) (j9 rfl (W9 _ rfl (gw ?_))))
 exact a9 (finQ.ret (j7 rfl (i4 w5 rT (o5 ce49)) n9) sn (rr))
theorem buildTree (h : Nat) (O : y8) (d : Nat) (w : World) : (Instr.build 83 #[(0, .int .i64 (h : Int)), (2, .slice O 33 d)]).run prog w = .ok (.agg #[.int .i64 (h : Int), .slice none 0 0, .slice O 33 d]) w := by kernel_rfl
def KE (E : Nat → i6) (l : Nat) : Prop := ∀ (p : Nat) (ls : Ls) (A : y8) (c ht : Nat) (A0 : y8) (n0 c0 : Nat) (O : y8) (d : Nat) (w0 : World), (p + 1) * 2 ^ l ≤ 9223372036854775808 → ls.length ≤ 4096 → (∀ x ∈ ls, x.1 < 18446744073709551616) → (∀ x ∈ ls, x.1 / 2 ^ l = p) →
 Ro w0 [] (SlA A (ls.flatMap L5)) → Ro w0 [] (SlA O (m9 (H3 E))) → Tabs 2 0 w0 [] → Calls prog 136 #[.agg #[.int .i64 (ht : Int), .slice A0 n0 c0, .slice O 33 d], .slice A ls.length c, .int .i64 (l : Int), .int .u64 (p : Int)] w0 (nX w0 (hv (s5 (fL E ls) l p)))
theorem zfP (E : Nat → i6) (hEr : ∀ w, Tabs 2 0 w [] → cP 137 #[] w fun v L => ∃ O d, v = sL O 33 d ∧ L = [OwnA 49 32 O 33 d (m9 (H3 E))]) (gh : Nat) (w0) (hT : Tabs 2 0 w0 []) :
  cP 75 #[iI gh] w0 fun v L => ∃ O d, v = .agg #[iI gh, sL none 0 0, sL O 33 d] ∧ L = [OwnA 49 32 O 33 d (m9 (H3 E))] := by
 refine co 6 [.cell 2 83] func75 ?_
 refine gw ?_
 intro b2
 refine gw ?_
 refine z9 en (fun w hw => hEr w (hT.at hw)) ?_
 rintro v L' ⟨O, d, rfl, rfl⟩
 refine e6 (A5 (a := iI gh) (b := sL O 33 d) rfl rfl (buildTree gh O d)) (j9 rfl (F9 rfl cw (by exact ce83) (by rfl) (by rfl) (gw ?_)))
 refine a9 (finQ.ret (j7 rfl (i4 N3 rT (ce83)) n9) (sx [0]) ?_)
 exact ⟨O, d, rfl, rfl⟩
theorem wL (E : Nat → i6) (l p : Nat) (ls : Ls) (A) (c ht : Nat) (A0) (n0 c0 : Nat) (O) (d : Nat) (w0) (hp : (p + 1) * 2 ^ (l) ≤ 9223372036854775808) (hlen : ls.length ≤ 4096) (lw : ∀ x ∈ ls, x.1 < 18446744073709551616) (hall : ∀ x ∈ ls, x.1 / 2 ^ (l) = p) (hL : Ro w0 [] (SlA A (ls.flatMap L5))) (hO : Ro w0 [] (SlA O (m9 (H3 E)))) (hT : Tabs 2 0 w0 []) (hE : ∀ h, E (h + 1) = F8 (h + 1) (E h) (E h)) (hl : l ≤ 32) (h0 : ls = []) :
  cP 136 #[.agg #[iI ht, sL A0 n0 c0, sL O 33 d], sL A ls.length c, iI l, uI p] w0 fun v L => v = hv (s5 (fL E ls) l p) ∧ L = [] := by
 subst h0
 refine co 75 [.cell 8 49] func136 ?_
 refine gw ?_
 intro b4
 refine gw ?_
 intro b8
 refine gw ?_
 refine e6 (Qt.dT (z6 (b := 0) rfl rfl) (rfl)) (gw ?_)
 refine e6 (i5 uT cT rfl rfl ow (c9 hO) (by rw [m7, T5]; omega)) ?_
 refine e6 (n8 (a8 rfl (E4 (c9 hO) (l) rT ce49 (by rw [T5]; omega) rfl)) (by rw [qD E ow])) ?_
 refine j9 rfl (W9 _ rfl ?_)
 refine gw ?_
 refine a9 ?_
 refine finQ.ret (j7 rfl (i4 w5 rT (o5 ce49)) n9) sn ?_
 exact ⟨congrArg hv (zhd hE l p).symm, rfl⟩
theorem zdW (E : Nat → i6) (p : Nat) (ls : Ls) (A) (c ht : Nat) (A0) (n0 c0 : Nat) (O) (d : Nat) (w0) (hp : (p + 1) * 2 ^ (0) ≤ 9223372036854775808) (hlen : ls.length ≤ 4096) (lw : ∀ x ∈ ls, x.1 < 18446744073709551616) (hall : ∀ x ∈ ls, x.1 / 2 ^ (0) = p) (hL : Ro w0 [] (SlA A (ls.flatMap L5))) (hO : Ro w0 [] (SlA O (m9 (H3 E)))) (hT : Tabs 2 0 w0 []) (h0 : 0 < ls.length) :
  cP 136 #[.agg #[iI ht, sL A0 n0 c0, sL O 33 d], sL A ls.length c, iI (0 : Nat), uI p] w0 fun v L => v = hv (s5 (fL E ls) 0 p) ∧ L = [] := by
 refine co 75 [.cell 8 49] func136 ?_
 refine gw ?_
 intro b4
 refine gw ?_
 intro b8
 refine gw ?_
 refine e6 (Qt.dF (z6 (b := 0) rfl rfl) ow) (gw ?_)
 refine e6 (Qt.dT (z6 (b := 0) rfl rfl) (rfl)) (gw ?_)
 refine e6 (i5 (i := 0) uT cT rfl rfl ow (c9 hL) (by rw [aA]; omega)) (e6 (z5 uT rfl ce49 rfl (c9 hL) (by rw [aA]; omega)) (e6 (a8 rfl (H4 (vs := L8 (ls.getD 0 P6).2) (c9 hL) rT (by rw [l6]; exact ce49) (by rw [l6]; decide) (fun j v hj => by have := lO (k := 0) h0 (1 + j) v (zdN _ j v hj); rw [← Nat.add_assoc] at this; exact this))) (j9 rfl (W9 ((ls.getD 0 P6).2) rfl (gw ?_)))))
 refine a9 (finQ.ret (j7 rfl (i4 w5 rT (o5 ce49)) n9) sn ?_)
 exact ⟨congrArg hv (zfo h0 hall).symm, rfl⟩
theorem zdX (E : Nat → i6) (l p : Nat) (ls : Ls) (A) (c ht : Nat) (A0) (n0 c0 : Nat) (O) (d : Nat) (w0) (hp : (p + 1) * 2 ^ (l + 1) ≤ 9223372036854775808) (hlen : ls.length ≤ 4096) (lw : ∀ x ∈ ls, x.1 < 18446744073709551616) (hall : ∀ x ∈ ls, x.1 / 2 ^ (l + 1) = p) (hL : Ro w0 [] (SlA A (ls.flatMap L5))) (hO : Ro w0 [] (SlA O (m9 (H3 E)))) (hT : Tabs 2 0 w0 []) (hl : l + 1 ≤ 32) (h0 : 0 < ls.length) (hrec : KE E l) :
  cP 136 #[.agg #[iI ht, sL A0 n0 c0, sL O 33 d], sL A ls.length c, iI ↑(l + 1), uI p] w0 fun v L => v = hv (s5 (fL E ls) (l + 1) p) ∧ L = [] := by
 refine co 75 [.cell 8 49] func136 ?_
 obtain ⟨hp1, hp2, hp3⟩ := zdm hp
 refine m6 173 33 (m6 173 33 (gw ?_))
 intro b4
 refine gw ?_
 intro b8
 refine gw ?_
 refine e6 (Qt.dF (z6 (b := 0) rfl rfl) ow) (gw ?_)
 refine e6 (Qt.dF (z6 (b := 0) rfl rfl) ow) (gw ?_)
 refine l5 (γ := Nat × Ls × Ls × (y8 × Nat) × (y8 × Nat)) (mr 26 32 [9, 10, 11]) (fun g => [(11, iI g.1), (9, sL g.2.2.2.1.1 g.2.1.length g.2.2.2.1.2), (10, sL g.2.2.2.2.1 g.2.2.1.length g.2.2.2.2.2)]) (fun g => [Blk b8 49 (List.replicate 32 (.int .u8 0)), Blk b4 83 (vl (.agg #[iI ht, sL A0 n0 c0, sL O 33 d])), OwnA 173 33 g.2.2.2.1.1 (g.2.1).length g.2.2.2.1.2 ((g.2.1).flatMap L5), OwnA 173 33 g.2.2.2.2.1 (g.2.2.1).length g.2.2.2.2.2 ((g.2.2.1).flatMap L5)]) (fun g => g.1 ≤ ls.length ∧ g.2.1 = mD (ls.take g.1) l (2 * p) ∧ g.2.2.1 = kT (ls.take g.1) l (2 * p)) (fun g => ls.length - g.1) ((0, [], [], (none, 0), (none, 0)))
  ⟨Nat.zero_le _, rfl, rfl⟩ oa sr ?_
 rintro ⟨k, a, b, ⟨A1, c1⟩, ⟨A2, c2⟩⟩ u ⟨hk, ha, hb⟩
 dsimp only at hk ha hb
 have hal : a.length ≤ k := by rw [ha]; exact oH ls k l _ hk
 have hbl : b.length ≤ k := by rw [hb]; exact zaR ls k l _ hk
 refine gw ?_
 refine j0 rfl rfl (p9 rfl rfl) (fun h29 => gw ?_) (fun h29 => gw ?_)
 ·refine e6 (i5 uT cT rfl rfl ow (c9 hL) (by rw [aA]; omega)) (e6 (z5 uT rfl ce40 rfl (c9 hL) (by rw [aA]; omega)) (e6 (a8 rfl (A9 (v := uI ((ls.getD k P6).1 : Int)) (c9 hL) oT (lO ow 0 _ rfl))) (gw ?_)))
  refine e6 (o7 (b := 1) rfl rfl ow km) (e6 (r8 uT uT rfl km) (e6 (n8 (G5 rfl rfl (by have := lw _ (E6 (k := k) P6 h29); simp only [H1]; omega)) (show _ = uI ((ls.getD k P6).1 / 2 ^ l : Nat) from rfl)) (gw ?_)))
  refine e6 (F3 (a := 2) rfl rfl km) (j0 rfl rfl (z6 rfl rfl) (fun h43 => gw ?_) (fun h43 => gw ?_))
  ·refine e6 (i5 uT cT rfl rfl ow (c9 hL) (by rw [aA]; omega)) (e6 (a8 rfl (H4 (vs := L5 (ls.getD k P6)) (c9 hL) rT (by rw [I9]; exact ce173) (by rw [I9]; decide) (lO ow))) (z7 (m5 (v := .agg (L5 (ls.getD k P6)).toArray) uT elem173 dc rfl (oZ _) (fun g49 => (z7 (S9 (news := L5 (ls.getD k P6)) uT elem173 rfl rfl (j8 (cs := L5 (ls.getD k P6)) w5) (by rw [I9]) (lN _) kx od (fun O1 d1 => (gw ?_))))))))
   refine ⟨(k + 1, a ++ [ls.getD k P6], b, (O1, d1), (A2, c2)), ?_, ?_, ⟨?_, (fm rfl (fm (by show sL O1 (a.length + 1) d1 = sL O1 (a ++ [ls.getD k P6]).length d1; rw [s9]) ag))⟩, (by dsimp only; simp only [s9, Y0]; exact sp)⟩
   ·exact ⟨by show _ ≤ _; dsimp only; omega, by dsimp only; rw [oG ls l _ h29, if_pos h43, ha], by dsimp only; rw [zV ls l _ h29, if_pos h43, hb]⟩
   ·show _ < _; dsimp only; omega
   exact K8
  ·refine e6 (i5 uT cT rfl rfl ow (c9 hL) (by rw [aA]; omega)) (e6 (a8 rfl (H4 (vs := L5 (ls.getD k P6)) (c9 hL) rT (by rw [I9]; exact ce173) (by rw [I9]; decide) (lO ow))) (z7 (m5 (v := .agg (L5 (ls.getD k P6)).toArray) uT elem173 dc rfl (oZ _) (fun g56 => (z7 (jV (news := L5 (ls.getD k P6)) uT elem173 rfl rfl (j8 (cs := L5 (ls.getD k P6)) w5) (by rw [I9]) (lN _) kx od (fun O1 d1 => (gw ?_))))))))
   refine ⟨(k + 1, a, b ++ [ls.getD k P6], (A1, c1), (O1, d1)), ?_, ?_, ⟨?_, (fm rfl (fm rfl (fm (by show sL O1 (b.length + 1) d1 = sL O1 (b ++ [ls.getD k P6]).length d1; rw [s9]) nb)))⟩, (by dsimp only; simp only [s9, Y0]; exact sp)⟩
   ·exact ⟨by show _ ≤ _; dsimp only; omega, by dsimp only; rw [oG ls l _ h29, if_neg h43, ha], by dsimp only; rw [zV ls l _ h29, if_neg h43, hb]⟩
   ·show _ < _; dsimp only; omega
   exact K8
 ·refine i7 (c8 (dw ([17], []) (gw ?_)))
  refine c6 1 rfl (a8 rfl (i4 (vs := vl (.agg #[iI ht, sL A0 n0 c0, sL O 33 d])) N3 rT ce83)) (gw ?_)
  refine c6 4 rfl (o7 (b := 1) rfl rfl ow km) (gw ?_)
  refine c6 6 rfl (F3 (a := 2) rfl rfl km) (I7 7 rfl en (fun w hw => hrec (2 * p) a A1 c1 ht A0 n0 c0 O d w ow ow (fun x hx => lw x (by rw [ha, iN ls ow] at hx; exact (List.mem_filter.1 hx).1)) (fun x hx => vA x (by rw [ha] at hx; exact hx)) (Rd.own (Rd.at 2 rfl) w hw) (Rd.ro hO w hw) (hT.at hw)) ?_)
  refine c6 8 rfl (a8 rfl (i4 (vs := vl (.agg #[iI ht, sL A0 n0 c0, sL O 33 d])) N3 rT ce83)) (gw ?_)
  refine c6 11 rfl (o7 (b := 1) rfl rfl ow km) (gw ?_)
  refine c6 13 rfl (F3 (a := 2) rfl rfl km) (gw ?_)
  refine I7 15 rfl en (fun w hw => hrec (2 * p + 1) b A2 c2 ht A0 n0 c0 O d w ow ow (fun x hx => lw x (by rw [hb, iN ls ow] at hx; exact (List.mem_filter.1 hx).1)) (fun x hx => by rw [hb, iN ls ow, EO hall] at hx; exact vA x hx) (Rd.own (Rd.at 3 rfl) w hw) (Rd.ro hO w hw) (hT.at hw)) ?_
  refine I7 16 rfl en (fun w hw => (by have h := CA (l + 1) ow (s5 (fL E a) l (2 * p)) (s5 (fL E b) l (2 * p + 1)) w (hT.at hw); rw [show F8 (l + 1) (s5 (fL E a) l (2 * p)) (s5 (fL E b) l (2 * p + 1)) = s5 (fL E ls) (l + 1) p by rw [ha, hb, iN ls ow]; exact zdR hall] at h; exact h : cR 184 #[iI ↑(l + 1), hv (s5 (fL E a) l (2 * p)), hv (s5 (fL E b) l (2 * p + 1))] w (hv (s5 (fL E ls) (l + 1) p)))) ?_
  refine F7 17 rfl (W9 _ rfl (G0 ?_))
  exact p7 (a9 (finQ.ret (j7 rfl (i4 w5 rT (o5 ce49)) n9) sn (rr)))
theorem JH (E : Nat → i6) (hE : ∀ h, E (h + 1) = F8 (h + 1) (E h) (E h)) : ∀ l, l ≤ 32 → KE E l
 | 0, hl => fun p ls A c ht A0 n0 c0 O d w0 hp hlen lw hall hL hO hT => by
  rcases Nat.eq_zero_or_pos ls.length with h0 | h0
  ·exact cQ (wL E 0 p ls A c ht A0 n0 c0 O d w0 hp hlen lw hall hL hO hT hE hl (List.eq_nil_of_length_eq_zero h0))
  ·exact cQ (zdW E p ls A c ht A0 n0 c0 O d w0 hp hlen lw hall hL hO hT h0)
 | l + 1, hl => fun p ls A c ht A0 n0 c0 O d w0 hp hlen lw hall hL hO hT => by
  rcases Nat.eq_zero_or_pos ls.length with h0 | h0
  ·exact cQ (wL E (l + 1) p ls A c ht A0 n0 c0 O d w0 hp hlen lw hall hL hO hT hE hl (List.eq_nil_of_length_eq_zero h0))
  ·exact cQ (zdX E l p ls A c ht A0 n0 c0 O d w0 hp hlen lw hall hL hO hT hl h0 (JH E hE l ow))
theorem jK (E : Nat → i6) (hE : ∀ h, E (h + 1) = F8 (h + 1) (E h) (E h)) (gh : Nat) (hh : gh ≤ 32) (ls : Ls) (A) (c : Nat) (O) (d : Nat) (l p : Nat) (ho : N0 gh (l, p)) (w0) (hlen : ls.length ≤ 4096) (lw : ∀ x ∈ ls, x.1 < 18446744073709551616) (hL : Ro w0 [] (SlA A (ls.flatMap L5))) (hO : Ro w0 [] (SlA O (m9 (H3 E)))) (hT : Tabs 2 0 w0 []) : cR 73 #[.agg #[iI gh, sL A ls.length c, sL O 33 d], iI l, uI p] w0 (hv (s5 (fL E ls) l p)) := by
 refine cQ (co 40 [.cell 6 49] func73 ?_)
 obtain ⟨hl32, hp32⟩ := aX hh ho
 refine m6 173 33 (gw ?_)
 intro b3
 refine gw ?_
 intro b6
 refine gw ?_
 refine l5 (γ := Nat × Ls × y8 × Nat) (mr 7 28 []) (fun g => [(8, iI g.1), (7, sL g.2.2.1 g.2.1.length g.2.2.2)]) (fun g => [Blk b6 49 (List.replicate 32 (.int .u8 0)), Blk b3 83 (vl (.agg #[iI gh, sL A ls.length c, sL O 33 d])), OwnA 173 33 g.2.2.1 (g.2.1).length g.2.2.2 ((g.2.1).flatMap L5)]) (fun g => g.1 ≤ ls.length ∧ g.2.1 = mD (ls.take g.1) l p) (fun g => ls.length - g.1) ((0, [], none, 0))
  ⟨Nat.zero_le _, rfl⟩ oa sr ?_
 rintro ⟨k, a, A1, c1⟩ u ⟨hk, ha⟩
 dsimp only at hk ha
 have hal : a.length ≤ k := by rw [ha]; exact oH ls k l _ hk
 refine gw ?_
 refine j0 rfl rfl (p9 rfl rfl) (fun h13 => gw ?_) (fun h13 => gw ?_)
 ·refine e6 (i5 uT cT rfl rfl ow (c9 hL) (by rw [aA]; omega)) (e6 (z5 uT rfl ce40 rfl (c9 hL) (by rw [aA]; omega)) (e6 (a8 rfl (A9 (v := uI ((ls.getD k P6).1 : Int)) (c9 hL) oT (lO ow 0 _ rfl))) (gw ?_)))
  refine e6 (r8 uT uT rfl km) (e6 (G5 rfl rfl (by have := lw _ (E6 (k := k) P6 h13); simp only [H1]; omega)) (gw ?_))
  refine j0 rfl rfl (z6 rfl rfl) (fun h26 => gw ?_) (fun h26 => gw ?_)
  ·refine e6 (i5 uT cT rfl rfl ow (c9 hL) (by rw [aA]; omega)) (e6 (a8 rfl (H4 (vs := L5 (ls.getD k P6)) (c9 hL) rT (by rw [I9]; exact ce173) (by rw [I9]; decide) (lO ow))) (z7 (m5 (v := .agg (L5 (ls.getD k P6)).toArray) uT elem173 dc rfl (oZ _) (fun g33 => (z7 (S9 (news := L5 (ls.getD k P6)) uT elem173 rfl rfl (j8 (cs := L5 (ls.getD k P6)) w5) (by rw [I9]) (lN _) kx od (fun O1 d1 => (gw ?_))))))))
   refine ⟨(k + 1, a ++ [ls.getD k P6], O1, d1), ?_, ?_, ⟨?_, (fm rfl (fm (by show sL O1 (a.length + 1) d1 = sL O1 (a ++ [ls.getD k P6]).length d1; rw [s9]) nb))⟩, (by dsimp only; simp only [s9, Y0]; exact sp)⟩
   ·exact ⟨by show _ ≤ _; dsimp only; omega, by dsimp only; rw [oG ls l _ h13, if_pos h26, ha]⟩
   ·show _ < _; dsimp only; omega
   exact K8
  ·refine ⟨(k + 1, a, A1, c1), ?_, od, oz, sr⟩
   exact ⟨by show _ ≤ _; dsimp only; omega, by dsimp only; rw [oG ls l _ h13, if_neg h26, ha]⟩
 ·refine i7 (c8 (gw ?_))
  refine e6 (a8 rfl (i4 (vs := vl (.agg #[iI gh, sL A ls.length c, sL O 33 d])) N3 rT ce83)) (gw ?_)
  refine u7 en (fun w hw => (by have h := JH E hE l hl32 p a A1 c1 gh A ls.length c O d w (wG hh ho) ow (fun x hx => lw x (by rw [ha, iN ls ow] at hx; exact (List.mem_filter.1 hx).1)) (fun x hx => vA x (by rw [ha] at hx; exact hx)) (Rd.own (Rd.at 2 rfl) w hw) (Rd.ro hO w hw) (hT.at hw); rw [show s5 (fL E a) l p = s5 (fL E ls) l p by rw [ha, iN ls ow, wE]] at h; exact h : cR 136 #[.agg #[iI gh, sL A ls.length c, sL O 33 d], sL A1 a.length c1, iI l, uI p] w (hv (s5 (fL E ls) l p)))) ?_
  refine j9 rfl (W9 _ rfl (gw ?_))
  exact a9 (finQ.ret (j7 rfl (i4 w5 rT (o5 ce49)) n9) sn (rr))
theorem ziT (E : Nat → i6) (hE : ∀ h, E (h + 1) = F8 (h + 1) (E h) (E h)) (gh : Nat) (hh : gh ≤ 32) (ls : Ls) (A) (c : Nat) (O) (d : Nat) (w0) (hlen : ls.length ≤ 4096) (lw : ∀ x ∈ ls, x.1 < 18446744073709551616) (hL : Ro w0 [] (SlA A (ls.flatMap L5))) (hO : Ro w0 [] (SlA O (m9 (H3 E)))) (hT : Tabs 2 0 w0 []) : cR 25 #[.agg #[iI gh, sL A ls.length c, sL O 33 d]] w0 (hv (s5 (fL E ls) gh 0)) := by
 refine cQ (co 7 [.cell 2 49] func25 ?_)
 refine gw ?_
 intro b1
 refine gw ?_
 intro b2
 refine gw ?_
 refine e6 (a8 rfl (i4 (vs := vl (.agg #[iI gh, sL A ls.length c, sL O 33 d])) N3 rT ce83)) (gw ?_)
 refine u7 en (fun w hw => jK E hE gh hh ls A c O d (gh) (0) (cE gh) w hlen lw (Rd.ro hL w hw) (Rd.ro hO w hw) (hT.at hw)) (j9 rfl (W9 _ rfl (gw ?_)))
 exact a9 (finQ.ret (j7 rfl (i4 w5 rT (o5 ce49)) n9) sn (rr))
theorem zec (E : Nat → i6) (hE : ∀ h, E (h + 1) = F8 (h + 1) (E h) (E h)) (gh : Nat) (hh : gh ≤ 32) (ls : Ls) (A) (c : Nat) (O) (d : Nat) (i : Nat) (hi : i < 2 ^ gh) (w0) (hlen : ls.length ≤ 4096) (lw : ∀ x ∈ ls, x.1 < 18446744073709551616) (hL : Ro w0 [] (SlA A (ls.flatMap L5))) (hO : Ro w0 [] (SlA O (m9 (H3 E)))) (hT : Tabs 2 0 w0 []) :
  cP 98 #[.agg #[iI gh, sL A ls.length c, sL O 33 d], uI i] w0 fun v L => ∃ P q, v = sL P gh q ∧ L = [OwnA 49 32 P gh q (m9 (gA (fL E ls) gh i))] := by
 refine co 33 [.tmp 4] func98 ?_
 have hi32 := HE hh hi
 refine m6 49 32 (gw ?_)
 intro b2
 refine gw ?_
 refine l5 (γ := Nat × y8 × Nat) (mr 5 27 []) (fun g => [(6, iI g.1), (5, sL g.2.1 g.1 g.2.2)]) (fun g => [Blk b2 83 (vl (.agg #[iI gh, sL A ls.length c, sL O 33 d])), OwnA 49 32 g.2.1 g.1 g.2.2 (m9 (gA (fL E ls) g.1 i))]) (fun g => g.1 ≤ gh) (fun g => gh - g.1) ((0, none, 0))
  (Nat.zero_le _) oa sr ?_
 rintro ⟨k, P, q⟩ u hk
 dsimp only at hk
 refine gw ?_
 refine j0 rfl rfl (p9 rfl rfl) (fun h11 => gw ?_) (fun h11 => gw ?_)
 ·refine e6 (r8 uT uT rfl km) (e6 (n8 (G5 rfl rfl km) rfl) (gw ?_))
  refine e6 (V9 (b := 2) rfl rfl ow) (j0 rfl rfl (z6 (b := 0) rfl rfl) (fun h20 => gw ?_) (fun h20 => gw ?_))
  ·refine e6 (n8 (v4 (b := 1) rfl rfl (by have := Nat.div_le_self i (2 ^ k); simp only [H1]; omega)) (congrArg (fun n : Nat => uI n) (zcf h20))) (gw ?_)
   refine e6 (a8 rfl (i4 (vs := vl (.agg #[iI gh, sL A ls.length c, sL O 33 d])) w5 rT ce83)) (gw ?_)
   refine u7 en (fun w hw => jK E hE gh hh ls A c O d (k) ((i / 2 ^ k) ^^^ 1) (yR hi h11) w hlen lw (Rd.ro hL w hw) (Rd.ro hO w hw) (hT.at hw)) (z7 (m5 (v := hv (s5 (fL E ls) k ((i / 2 ^ k) ^^^ 1))) uT elem49 dc rfl (v9 _) (fun g30 => (z7 (Q1 (news := L8 (s5 (fL E ls) k ((i / 2 ^ k) ^^^ 1))) uT elem49 rfl rfl (j8 (cs := L8 (s5 (fL E ls) k ((i / 2 ^ k) ^^^ 1))) w5) (by rw [l6]) (r9 _) kx ow (fun O' d' => (gw ?_)))))))
   exact ⟨(k + 1, O', d'), od, od, oz, (by dsimp only; rw [wM]; exact sp)⟩
  ·refine e6 (n8 (o7 (b := 1) rfl rfl (by have h20b : ¬ (i / 2 ^ k) % 2 = 0 := h20; show 1 ≤ i / 2 ^ k; generalize i / 2 ^ k = n at h20b ⊢; omega) (by have := Nat.div_le_self i (2 ^ k); simp only [H1]; omega)) (congrArg (fun n : Nat => uI n) (zdh h20))) (gw ?_)
   refine e6 (a8 rfl (i4 (vs := vl (.agg #[iI gh, sL A ls.length c, sL O 33 d])) w5 rT ce83)) (gw ?_)
   refine u7 en (fun w hw => jK E hE gh hh ls A c O d (k) ((i / 2 ^ k) ^^^ 1) (yR hi h11) w hlen lw (Rd.ro hL w hw) (Rd.ro hO w hw) (hT.at hw)) (z7 (m5 (v := hv (s5 (fL E ls) k ((i / 2 ^ k) ^^^ 1))) uT elem49 dc rfl (v9 _) (fun g30 => (z7 (Q1 (news := L8 (s5 (fL E ls) k ((i / 2 ^ k) ^^^ 1))) uT elem49 rfl rfl (j8 (cs := L8 (s5 (fL E ls) k ((i / 2 ^ k) ^^^ 1))) w5) (by rw [l6]) (r9 _) kx ow (fun O' d' => (gw ?_)))))))
   exact ⟨(k + 1, O', d'), od, od, oz, (by dsimp only; rw [wM]; exact sp)⟩
 ·refine i7 (c8 (gw ?_))
  refine a9 (D7 (sx [1]) ?_)
  obtain rfl : k = gh := by omega
  exact ⟨P, q, rfl, rfl⟩
theorem is_R (k n : Nat) (w0) : cR 22 #[HX 73 k, iI n] w0 (.bool (decide (k = n))) := by
 refine cQ (co 9 [.tmp 4] func22 ?_)
 refine gw ?_
 refine u7 en (fun w hw => KK k w) (gw ?_)
 refine e6 (z6 rfl rfl) (gw ?_)
 exact tR
theorem LU (w) : cR 22 #[.iface 73 (iI 1), iI 1] w (.bool true) := is_R 1 1 w
theorem pM (h f n : Nat) (hh : h ≤ 32) (hf : f < 18446744073709551616) (h1 : 1 ≤ n) (h2 : n ≤ 256) (w0) : cR 104 #[iI h, uI f, iI n] w0 (.bool (decide (f + n ≤ 2 ^ h))) := by
 refine cQ (co 35 [.tmp 6] func104 ?_)
 have hpw : 2 ^ h ≤ 4294967296 := (show 2 ^ h ≤ 2 ^ 32 from Nat.pow_le_pow_right dc hh)
 refine gw ?_
 refine e6 (Qt.dF (p9 (b := 0) rfl rfl) ow) (gw ?_)
 refine E8 rfl rfl rfl (Qt.dF (M0 (b := 32) rfl rfl) ow) (gw ?_)
 refine E8 rfl rfl rfl (Qt.dF (p9 (b := 1) rfl rfl) ow) (gw ?_)
 refine E8 rfl rfl rfl (Qt.dF (M0 (b := 256) rfl rfl) ow) (gw ?_)
 refine e6 (n8 (GD (a := 1) rfl rfl km) (by rw [Nat.one_mul])) (gw ?_)
 refine j0 rfl rfl (p9 rfl rfl) (fun h26 => gw ?_) (fun h26 => gw ?_)
 ·refine E8 rfl rfl rfl (r8 uT uT rfl km) (gw ?_)
  refine E8 rfl rfl rfl (o7 rfl rfl ow km) (D9 rfl rfl rfl (bM rfl rfl) (fun h33 => gw ?_) (fun h33 => gw ?_))
  ·refine a9 (fR ?_)
   exact ⟨(dT ow).symm, rfl⟩
  ·refine a9 (fR ?_)
   exact ⟨(dF ow).symm, rfl⟩
 ·refine a9 (fR ?_)
  exact ⟨(dF ow).symm, rfl⟩
theorem EP (h f : Nat) (m : Int) (hm : m < 1 ∨ 256 < m) (hh : h ≤ 32) (w0) : cR 104 #[iI h, uI f, iI m] w0 (.bool false) := by
 refine cQ (co 35 [.tmp 6] func104 ?_)
 refine gw ?_
 refine e6 (Qt.dF (p9 (b := 0) rfl rfl) ow) (gw ?_)
 refine E8 rfl rfl rfl (Qt.dF (M0 (b := 32) rfl rfl) ow) (gw ?_)
 refine D9 rfl rfl rfl (iU rfl rfl) (fun h16 => gw ?_) (fun h16 => gw ?_)
 ·exact tR
 ·refine E8 rfl rfl rfl (Qt.dT (mR rfl rfl) ow) (gw ?_)
  exact tR
theorem AA (h f : Nat) (m : Int) (hm : m < 1 ∨ 256 < m) (hh : h ≤ 32) (w0) : cR 147 #[iI h, uI f, iI m] w0 (.bool false) := by
 refine cQ (co 47 [.tmp 6] func147 ?_)
 refine gw ?_
 refine e6 (Qt.dF (p9 (b := 0) rfl rfl) ow) (gw ?_)
 refine E8 rfl rfl rfl (Qt.dF (M0 (b := 32) rfl rfl) ow) (gw ?_)
 refine D9 rfl rfl rfl (iU rfl rfl) (fun h18 => gw ?_) (fun h18 => gw ?_)
 ·exact tR
 ·refine E8 rfl rfl rfl (Qt.dT (mR rfl rfl) ow) (gw ?_)
  exact tR
theorem pP (h f n : Nat) (hh : h ≤ 32) (hf : f < 18446744073709551616) (h1 : 1 ≤ n) (h2 : n ≤ 256) (w0) : cR 147 #[iI h, uI f, iI n] w0 (.bool (decide (f + n ≤ 2 ^ h))) := by
 refine cQ (co 47 [.tmp 6] func147 ?_)
 have hpw : 2 ^ h ≤ 4294967296 := (show 2 ^ h ≤ 2 ^ 32 from Nat.pow_le_pow_right dc hh)
 refine gw ?_
 refine e6 (Qt.dF (p9 (b := 0) rfl rfl) ow) (gw ?_)
 refine E8 rfl rfl rfl (Qt.dF (M0 (b := 32) rfl rfl) ow) (gw ?_)
 refine E8 rfl rfl rfl (Qt.dF (p9 (b := 1) rfl rfl) ow) (gw ?_)
 refine E8 rfl rfl rfl (Qt.dF (M0 (b := 256) rfl rfl) ow) (gw ?_)
 refine l5 (γ := Nat) (mr 24 7 [7, 8]) (fun k => [(8, iI k), (7, uI (2 ^ k : Nat))]) (fun _ => _) (fun k => k ≤ h) (fun k => h - k) (0)
  (Nat.zero_le _) oa sr ?_
 rintro k u hk
 refine gw ?_
 refine j0 rfl rfl (p9 rfl rfl) (fun h26 => ?_) (fun h26 => ?_)
 ·have hm : 2 ^ k < 4294967296 := Nat.lt_of_lt_of_le (Nat.pow_lt_pow_right dc (show k < 32 by omega)) dc
  refine gw ?_
  refine e6 (F3 (b := 2) rfl rfl km) (gw ?_)
  refine ⟨k + 1, ?_, ?_, ⟨?_, (fm rfl (fm (by show uI (2 ^ k * 2 : Nat) = uI (2 ^ (k + 1) : Nat); rw [Nat.pow_succ]) nb))⟩, sr⟩
  ·show _ ≤ _; omega
  ·show _ < _; dsimp only; omega
  exact K8
 ·refine gw ?_
  refine i7 (c8 (c8 (c7 (C3 (l3 (C5 ?_))))))
  obtain rfl : k = h := by omega
  refine l5 (γ := Nat) (mr 31 16 [6, 9]) (fun j => [(9, iI j)]) (fun _ => _) (fun j => j ≤ n ∧ (j = 0 ∨ f + j ≤ 2 ^ k)) (fun j => n - j) (0)
   ⟨Nat.zero_le _, .inl rfl⟩ oa sr ?_
  rintro j u ⟨hj, hj2⟩
  refine gw ?_
  refine j0 rfl rfl (p9 rfl rfl) (fun h33 => gw ?_) (fun h33 => gw ?_)
  ·refine j0 rfl rfl (T0 rfl rfl) (fun h38 => gw ?_) (fun h38 => gw ?_)
   ·refine a9 (fR ?_)
    exact ⟨(dF ow).symm, rfl⟩
   ·refine E8 rfl rfl rfl (r8 uT uT rfl km) (gw ?_)
    refine E8 rfl rfl rfl (o7 rfl rfl ow km) (D9 rfl rfl rfl (T0 rfl rfl) (fun h45 => gw ?_) (fun h45 => gw ?_))
    ·refine a9 (fR ?_)
     exact ⟨(dF ow).symm, rfl⟩
    ·refine ⟨j + 1, ?_, od, oz, sr⟩
     exact ⟨by omega, by omega⟩
  ·refine i7 (c8 (gw ?_))
   refine a9 (fR ?_)
   exact ⟨(dT ow).symm, rfl⟩
theorem zbi (f n : Nat) (h1 : 1 ≤ n) (h2 : n ≤ 256) (hf : f + n ≤ 2 ^ 32) (w0) :
  cP 40 #[uI f, iI n] w0 fun v L => ∃ O d, v = sL O n d ∧ L = [OwnA 40 1 O n d (w6 ((List.range n).map (f + ·)))] := by
 refine co 24 [.tmp 4] func40 ?_
 refine m6 40 1 ?_
 have hf32 : f + n ≤ 4294967296 := hf
 refine gw ?_
 refine u7 en (fun w hw => (by have h := pM 32 f n dc ow h1 h2 w; rw [decide_eq_true hf] at h; exact h : cR 104 #[iI 32, uI f, iI n] w (.bool true))) (gw ?_)
 refine e6 (r8 uT uT rfl km) (gw ?_)
 refine l5 (γ := Nat × y8 × Nat) (mr 13 10 [5, 6]) (fun g => [(13, uI g.1), (5, sL g.2.1 g.1 g.2.2)]) (fun g => [OwnA 40 1 g.2.1 g.1 g.2.2 (w6 ((List.range g.1).map (f + ·)))]) (fun g => g.1 ≤ n) (fun g => n - g.1) ((0, none, 0))
  (Nat.zero_le _) oa sr ?_
 rintro ⟨k, O, d⟩ u hk
 dsimp only at hk
 refine gw ?_
 refine j0 rfl rfl (p9 rfl rfl) (fun h14 => gw ?_) (fun h14 => gw ?_)
 ·refine e6 (v4 rfl rfl km) (z7 (m5 (v := uI ↑(f + k)) uT elem40 dc rfl rfl (fun g20 => (z7 (G1 (news := [uI ↑(f + k)]) uT elem40 rfl rfl (j8 w5) rfl (by intro u hu; rw [List.mem_singleton.1 hu]; rfl) kx ow (fun O' d' => (gw ?_)))))))
  exact ⟨(k + 1, O', d'), od, od, oz, (by dsimp only; rw [← AQ]; exact sd sr)⟩
 ·refine i7 (c8 (gw ?_))
  refine a9 (D7 sr ?_)
  obtain rfl : k = n := by omega
  exact ⟨O, d, rfl, rfl⟩
theorem xN (J : Sd → Sd → List Assn → Prop) (h f n : Nat) (hh : h ≤ 32) (hf : f + n ≤ 2 ^ h) (h1 : 1 ≤ n) (h2 : n ≤ 256) (fl fr : FuncId) (cl cr : Array Value) (hel : p8 prog fl) (her : p8 prog fr) (L0 : List Assn) (w0) (h0 : Sat w0 L0) (hJ0 : J [] [] L0)
  (hleft : ∀ (k : Nat) (rs : Sd) (L : List Assn) (w : World), k < h → f / 2 ^ k % 2 = 1 → J (l4 f k) rs L → St w0 (A8 L0) L w → Calls prog fl ((([iI k, uI (f / 2 ^ k - 1 : Nat)] : List Value) ++ cl.toList).toArray) w (D0 w (A8 L) fun v L' => J (l4 f (k + 1)) rs L'))
  (hright : ∀ (k : Nat) (ls : Sd) (L : List Assn) (w : World), k < h → (f + n - 1) / 2 ^ k % 2 = 0 → J ls (j6 (f + n - 1) k) L → St w0 (A8 L0) L w → Calls prog fr ((([iI k, uI ((f + n - 1) / 2 ^ k + 1 : Nat)] : List Value) ++ cr.toList).toArray) w (D0 w (A8 L) fun v L' => J ls (j6 (f + n - 1) (k + 1)) L')) :
  Calls prog 127 #[iI h, uI f, iI n, .func (.func fl) #[] cl, .func (.func fr) #[] cr] w0 (D0 w0 (A8 L0) fun v L => J (l4 f h) (j6 (f + n - 1) h) L) := by
 refine gW (L := L0) 44 [] func127 h0 ?_
 have hpw : 2 ^ h ≤ 4294967296 := (show 2 ^ h ≤ 2 ^ 32 from Nat.pow_le_pow_right dc hh)
 refine gw ?_
 refine e6 (r8 uT uT rfl km) (e6 (v4 rfl rfl km) (e6 (o7 (b := 1) rfl rfl ow km) (gw ?_)))
 refine l5 (γ := Nat × List Assn) (mr 20 24 [10, 11, 12]) (fun g => [(20, iI g.1), (10, uI (f / 2 ^ g.1 : Nat)), (11, uI ((f + n - 1) / 2 ^ g.1 : Nat))]) (fun g => g.2) (fun g => g.1 ≤ h ∧ J (l4 f g.1) (j6 (f + n - 1) g.1) g.2) (fun g => h - g.1) ((0, L0))
  ⟨Nat.zero_le _, hJ0⟩ ⟨Out.refl _ _, (fm rfl (fm (by show uI f = uI (f / 2 ^ 0 : Nat); rw [Nat.pow_zero, Nat.div_one]) (fm (by show uI ↑(f + n - 1) = uI ((f + n - 1) / 2 ^ 0 : Nat); rw [Nat.pow_zero, Nat.div_one]) nb)))⟩ sr ?_
 rintro ⟨k, Lk⟩ u ⟨hk, hJ⟩
 dsimp only at hk hJ
 refine gw ?_
 refine j0 rfl rfl (p9 rfl rfl) (fun h21 => gw ?_) (fun h21 => gw ?_)
 ·refine e6 (V9 (b := 2) rfl rfl ow) (j0 rfl rfl (z6 (b := 1) rfl rfl) (fun h25 => gw ?_) (fun h25 => gw ?_))
  ·refine e6 (o7 (b := 1) rfl rfl (by have h25b : f / 2 ^ k % 2 = 1 := h25; generalize f / 2 ^ k = m at h25b ⊢; omega) (by have := Nat.div_le_self f (2 ^ k); simp only [H1]; omega)) (z7 (l8 (Pre := Lk) (R := []) hel rfl ((by show List.Perm Lk (Lk ++ []); rw [List.append_nil])) (fun w hw => hleft k _ Lk w h21 h25 hJ (by have h := hw; rw [List.append_nil] at h; exact h)) ?_))
   rintro v L1 hJ1
   rw [List.append_nil]
   refine gw ?_
   refine e6 (V9 (b := 2) rfl rfl ow) (j0 rfl rfl (z6 (b := 0) rfl rfl) (fun h33 => gw ?_) (fun h33 => gw ?_))
   ·refine e6 (v4 (b := 1) rfl rfl (by have := Nat.div_le_self (f + n - 1) (2 ^ k); simp only [H1]; omega)) (z7 (l8 (Pre := L1) (R := []) her rfl ((by show List.Perm L1 (L1 ++ []); rw [List.append_nil])) (fun w hw => hright k _ _ w h21 h33 hJ1 (by have h := hw; rw [List.append_nil] at h; exact h)) ?_))
    rintro v L2 hJ2
    rw [List.append_nil]
    refine gw ?_
    refine e6 (n8 (I2 (b := 2) rfl rfl ow (by have := Nat.div_le_self f (2 ^ k); simp only [H1]; omega)) (by rw [v8])) (gw ?_)
    refine e6 (n8 (I2 (b := 2) rfl rfl ow (by have := Nat.div_le_self (f + n - 1) (2 ^ k); simp only [H1]; omega)) (by rw [v8])) (gw ?_)
    refine ⟨(k + 1, L2), ?_, od, oz, sr⟩
    exact ⟨by show _ ≤ _; dsimp only; omega, hJ2⟩
   ·refine e6 (n8 (I2 (b := 2) rfl rfl ow (by have := Nat.div_le_self f (2 ^ k); simp only [H1]; omega)) (by rw [v8])) (gw ?_)
    refine e6 (n8 (I2 (b := 2) rfl rfl ow (by have := Nat.div_le_self (f + n - 1) (2 ^ k); simp only [H1]; omega)) (by rw [v8])) (gw ?_)
    refine ⟨(k + 1, L1), ?_, od, oz, sr⟩
    exact ⟨by show _ ≤ _; dsimp only; omega, by rw [W6 h33]; exact hJ1⟩
  ·refine e6 (V9 (b := 2) rfl rfl ow) (j0 rfl rfl (z6 (b := 0) rfl rfl) (fun h33 => gw ?_) (fun h33 => gw ?_))
   ·refine e6 (v4 (b := 1) rfl rfl (by have := Nat.div_le_self (f + n - 1) (2 ^ k); simp only [H1]; omega)) (z7 (l8 (Pre := Lk) (R := []) her rfl ((by show List.Perm Lk (Lk ++ []); rw [List.append_nil])) (fun w hw => hright k _ _ w h21 h33 (by rw [← W5 h25] at hJ; exact hJ) (by have h := hw; rw [List.append_nil] at h; exact h)) ?_))
    rintro v L2 hJ2
    rw [List.append_nil]
    refine gw ?_
    refine e6 (n8 (I2 (b := 2) rfl rfl ow (by have := Nat.div_le_self f (2 ^ k); simp only [H1]; omega)) (by rw [v8])) (gw ?_)
    refine e6 (n8 (I2 (b := 2) rfl rfl ow (by have := Nat.div_le_self (f + n - 1) (2 ^ k); simp only [H1]; omega)) (by rw [v8])) (gw ?_)
    refine ⟨(k + 1, L2), ?_, od, oz, sr⟩
    exact ⟨by show _ ≤ _; dsimp only; omega, hJ2⟩
   ·refine e6 (n8 (I2 (b := 2) rfl rfl ow (by have := Nat.div_le_self f (2 ^ k); simp only [H1]; omega)) (by rw [v8])) (gw ?_)
    refine e6 (n8 (I2 (b := 2) rfl rfl ow (by have := Nat.div_le_self (f + n - 1) (2 ^ k); simp only [H1]; omega)) (by rw [v8])) (gw ?_)
    refine ⟨(k + 1, Lk), ?_, od, oz, sr⟩
    exact ⟨by show _ ≤ _; dsimp only; omega, by rw [W6 h33, W5 h25]; exact hJ⟩
 ·refine i7 (finQ.normal n9 sr ?_)
  obtain rfl : k = h := by omega
  exact hJ
theorem zeM (a b m n l p : Nat) (hm : m ≤ 4096) (hn : n ≤ 4096) (w0) (hL : Sat w0 [Blk a 3 [iI m], Blk b 3 [iI n]]) :
  Calls prog 128 #[iI l, uI p, pZ a] w0 (D0 w0 (A8 [Blk a 3 [iI m], Blk b 3 [iI n]]) fun v L => L = [Blk a 3 [iI ↑(m + 1)], Blk b 3 [iI n]]) := by
 refine gW (L := [Blk a 3 [iI m], Blk b 3 [iI n]]) 7 [] func128 hL ?_
 refine gw ?_
 refine j9 rfl (j5 rfl cw (by exact ce3) (by rfl) (by rfl) (gw ?_))
 refine finQ.normal n9 sr ?_
 rfl
theorem zeN (a b m n l p : Nat) (hm : m ≤ 4096) (hn : n ≤ 4096) (w0) (hL : Sat w0 [Blk a 3 [iI m], Blk b 3 [iI n]]) :
  Calls prog 129 #[iI l, uI p, pZ b] w0 (D0 w0 (A8 [Blk a 3 [iI m], Blk b 3 [iI n]]) fun v L => L = [Blk a 3 [iI m], Blk b 3 [iI ↑(n + 1)]]) := by
 refine gW (L := [Blk a 3 [iI m], Blk b 3 [iI n]]) 7 [] func129 hL ?_
 refine gw ?_
 refine j9 rfl (F9 rfl cw (by exact ce3) (by rfl) (by rfl) (gw ?_))
 refine finQ.normal n9 sr ?_
 rfl
theorem rY (h f n : Nat) (hh : h ≤ 32) (hf64 : f < 18446744073709551616) (hf : f + n ≤ 2 ^ h) (h1 : 1 ≤ n) (h2 : n ≤ 256) (w0) :
  cP 63 #[iI h, uI f, iI n] w0 fun v L => v = .tuple #[iI ↑((l4 f h).length), iI ↑((j6 (f + n - 1) h).length), .nilIface] ∧ L = [] := by
 refine co 23 [.cell 6 3, .cell 7 3, .tmp 8] func63 ?_
 refine gw ?_
 intro b6
 refine gw ?_
 intro b7
 refine gw ?_
 refine u7 en (fun w hw => (by have k := pM h f n hh hf64 h1 h2 w; rw [decide_eq_true hf] at k; exact k : cR 104 #[iI h, uI f, iI n] w (.bool true))) (gw ?_)
 refine e6 (E9 (fs := []) (cs := [pZ b6]) rfl rfl) (e6 (E9 (fs := []) (cs := [pZ b7]) rfl rfl) (z7 (l8 (Pre := [Blk b6 3 [iI (0 : Nat)], Blk b7 3 [iI (0 : Nat)]]) (R := _) en rfl pm1 (fun w hw => xN (fun ls rs L => ls.length ≤ 64 ∧ rs.length ≤ 64 ∧ L = [Blk b6 3 [iI ls.length], Blk b7 3 [iI rs.length]]) h f n hh hf h1 h2 128 129 #[pZ b6] #[pZ b7] en en _ w hw.sat.left ⟨Nat.zero_le _, Nat.zero_le _, rfl⟩ (fun k rs L w' hk hb hJ hst => by obtain ⟨j1, j2, rfl⟩ := hJ; exact (zeM b6 b7 _ _ k _ ow ow w' hst.sat).mono fun e w'' ⟨v, L', q1, q2, q3⟩ => ⟨v, L', q1, q2, (by have := bI f (k + 1); omega), j2, by subst q3; rw [T9 hb, s9]⟩) (fun k ls L w' hk hb hJ hst => by obtain ⟨j1, j2, rfl⟩ := hJ; exact (zeN b6 b7 _ _ k _ ow ow w' hst.sat).mono fun e w'' ⟨v, L', q1, q2, q3⟩ => ⟨v, L', q1, q2, j1, (by have := Y3 (f + n - 1) (k + 1); omega), by subst q3; rw [U0 hb, s9]⟩)) ?_)))
 rintro v L' ⟨hj1, hj2, rfl⟩
 refine gw ?_
 refine dr ([2, 3], []) (gw ?_)
 refine F7 2 rfl (j5 rfl cw (by exact ce3) (by rfl) (by rfl) (G0 ?_))
 refine F7 3 rfl (F9 rfl cw (by exact ce3) (by rfl) (by rfl) (G0 (gw ?_)))
 refine p7 (a9 (finQ.ret (j7 rfl (i9 w5 oT (rfl)) (j7 rfl (i9 N3 oT (rfl)) rv)) sn ?_))
 exact rr
theorem zE (p : Addr) (u v2 : Value) (w0) :
  cP 145 #[.pointer (some p), u, v2] w0 fun v L => ∃ b, v = .func (.func 146) #[] #[u, v2, pZ b] ∧ L = [Blk b 257 [.pointer (some p)]] := by
 refine co 6 [.tmp 4] func145 ?_
 refine gw ?_
 intro b3
 refine gw ?_
 refine e6 (E9 (fs := []) (cs := [u, v2, pZ b3]) rfl rfl) (gw ?_)
 refine a9 (D7 sr ?_)
 exact ⟨_, rfl, rfl⟩
theorem zeC (E : Nat → i6) (tb mb gh : Nat) (ms : Tm) (hh : gh ≤ 32) (pb tv eb qb : Nat) (ls rs : Sd) (hl : ls.length ≤ 64) (Ol) (c : Nat) (Or) (d : Nat) (l p : Nat) (ho : N0 gh (l, p)) (w0) (hL : Sat w0 [Blk pb 43 [sL Ol ls.length c, sL Or rs.length d], OwnA 49 32 Ol (ls).length c (m9 ((ls).map (fun a => s4 E ms a))), OwnA 49 32 Or (rs).length d (m9 ((rs).map (fun a => s4 E ms a)))]) (hB : Ro w0 (A8 [Blk pb 43 [sL Ol ls.length c, sL Or rs.length d], OwnA 49 32 Ol (ls).length c (m9 ((ls).map (fun a => s4 E ms a))), OwnA 49 32 Or (rs).length d (m9 ((rs).map (fun a => s4 E ms a)))]) (Blk tb 243 (q7 E gh mb))) (hM : Ro w0 (A8 [Blk pb 43 [sL Ol ls.length c, sL Or rs.length d], OwnA 49 32 Ol (ls).length c (m9 ((ls).map (fun a => s4 E ms a))), OwnA 49 32 Or (rs).length d (m9 ((rs).map (fun a => s4 E ms a)))]) (u6 mb p6 hv (ms))) (hV : Ro w0 (A8 [Blk pb 43 [sL Ol ls.length c, sL Or rs.length d], OwnA 49 32 Ol (ls).length c (m9 ((ls).map (fun a => s4 E ms a))), OwnA 49 32 Or (rs).length d (m9 ((rs).map (fun a => s4 E ms a)))]) (Blk tv 155 [pZ tb])) (hQ : Ro w0 (A8 [Blk pb 43 [sL Ol ls.length c, sL Or rs.length d], OwnA 49 32 Ol (ls).length c (m9 ((ls).map (fun a => s4 E ms a))), OwnA 49 32 Or (rs).length d (m9 ((rs).map (fun a => s4 E ms a)))]) (Blk qb 257 [pZ pb])) :
  Calls prog 146 #[iI l, uI p, pZ tv, pZ eb, pZ qb] w0 (D0 w0 (A8 [Blk pb 43 [sL Ol ls.length c, sL Or rs.length d], OwnA 49 32 Ol (ls).length c (m9 ((ls).map (fun a => s4 E ms a))), OwnA 49 32 Or (rs).length d (m9 ((rs).map (fun a => s4 E ms a)))]) fun v L => ∃ O2 d2, L = [Blk pb 43 [sL O2 (ls ++ [(l, p)]).length d2, sL Or rs.length d], OwnA 49 32 O2 (ls ++ [(l, p)]).length d2 (m9 ((ls ++ [(l, p)]).map (fun a => s4 E ms a))), OwnA 49 32 Or (rs).length d (m9 ((rs).map (fun a => s4 E ms a)))]) := by
 refine gW (L := [Blk pb 43 [sL Ol ls.length c, sL Or rs.length d], OwnA 49 32 Ol (ls).length c (m9 ((ls).map (fun a => s4 E ms a))), OwnA 49 32 Or (rs).length d (m9 ((rs).map (fun a => s4 E ms a)))]) 27 [] func146 hL ?_
 refine gw ?_
 refine u7 en (fun w hw => cQ (lP E tb mb gh ms l p ho hh w (Rd.ro hB w hw) (Rd.ro hM w hw))) (gw ?_)
 intro b7
 refine j9 rfl (W9 _ rfl (gw ?_))
 refine dw ([6, 8], [5]) (gw ?_)
 refine aO 5 rfl (m5 (v := hv (s4 E ms (l, p))) uT elem49 dc rfl (v9 _) (fun g24 => (G0 ?_)))
 refine V5 6 rfl (S9 (news := L8 (s4 E ms (l, p))) uT elem49 rfl rfl (j8 (cs := L8 (s4 E ms (l, p))) w5) (by rw [l6]) (r9 _) kx ow (fun O2 d2 => (G0 (gw ?_))))
 refine F7 8 rfl (R4 rfl cw cT rfl rfl (Nat.le_of_ble_eq_true rfl) (G0 ?_))
 refine p7 (finQ.normal n9 (sx [2, 2, 2]) ?_)
 refine ⟨O2, d2, ?_⟩
 simp only [s9, List.map_append, M3, List.map_cons, List.map_nil, N6, iZ, List.append_nil]
 rfl
theorem zeE (E : Nat → i6) (tb mb gh : Nat) (ms : Tm) (hh : gh ≤ 32) (pb tv eb qb : Nat) (ls rs : Sd) (hl : rs.length ≤ 64) (Ol) (c : Nat) (Or) (d : Nat) (l p : Nat) (ho : N0 gh (l, p)) (w0) (hL : Sat w0 [Blk pb 43 [sL Ol ls.length c, sL Or rs.length d], OwnA 49 32 Ol (ls).length c (m9 ((ls).map (fun a => s4 E ms a))), OwnA 49 32 Or (rs).length d (m9 ((rs).map (fun a => s4 E ms a)))]) (hB : Ro w0 (A8 [Blk pb 43 [sL Ol ls.length c, sL Or rs.length d], OwnA 49 32 Ol (ls).length c (m9 ((ls).map (fun a => s4 E ms a))), OwnA 49 32 Or (rs).length d (m9 ((rs).map (fun a => s4 E ms a)))]) (Blk tb 243 (q7 E gh mb))) (hM : Ro w0 (A8 [Blk pb 43 [sL Ol ls.length c, sL Or rs.length d], OwnA 49 32 Ol (ls).length c (m9 ((ls).map (fun a => s4 E ms a))), OwnA 49 32 Or (rs).length d (m9 ((rs).map (fun a => s4 E ms a)))]) (u6 mb p6 hv (ms))) (hV : Ro w0 (A8 [Blk pb 43 [sL Ol ls.length c, sL Or rs.length d], OwnA 49 32 Ol (ls).length c (m9 ((ls).map (fun a => s4 E ms a))), OwnA 49 32 Or (rs).length d (m9 ((rs).map (fun a => s4 E ms a)))]) (Blk tv 155 [pZ tb])) (hQ : Ro w0 (A8 [Blk pb 43 [sL Ol ls.length c, sL Or rs.length d], OwnA 49 32 Ol (ls).length c (m9 ((ls).map (fun a => s4 E ms a))), OwnA 49 32 Or (rs).length d (m9 ((rs).map (fun a => s4 E ms a)))]) (Blk qb 257 [.pointer (some ⟨pb, 1, none⟩)])) :
  Calls prog 146 #[iI l, uI p, pZ tv, pZ eb, pZ qb] w0 (D0 w0 (A8 [Blk pb 43 [sL Ol ls.length c, sL Or rs.length d], OwnA 49 32 Ol (ls).length c (m9 ((ls).map (fun a => s4 E ms a))), OwnA 49 32 Or (rs).length d (m9 ((rs).map (fun a => s4 E ms a)))]) fun v L => ∃ O2 d2, L = [Blk pb 43 [sL Ol ls.length c, sL O2 (rs ++ [(l, p)]).length d2], OwnA 49 32 Ol (ls).length c (m9 ((ls).map (fun a => s4 E ms a))), OwnA 49 32 O2 (rs ++ [(l, p)]).length d2 (m9 ((rs ++ [(l, p)]).map (fun a => s4 E ms a)))]) := by
 refine gW (L := [Blk pb 43 [sL Ol ls.length c, sL Or rs.length d], OwnA 49 32 Ol (ls).length c (m9 ((ls).map (fun a => s4 E ms a))), OwnA 49 32 Or (rs).length d (m9 ((rs).map (fun a => s4 E ms a)))]) 27 [] func146 hL ?_
 refine gw ?_
 refine u7 en (fun w hw => cQ (lP E tb mb gh ms l p ho hh w (Rd.ro hB w hw) (Rd.ro hM w hw))) (gw ?_)
 intro b7
 refine j9 rfl (W9 _ rfl (gw ?_))
 refine dw ([6, 8], [5]) (gw ?_)
 refine aO 5 rfl (m5 (v := hv (s4 E ms (l, p))) uT elem49 dc rfl (v9 _) (fun g24 => (G0 ?_)))
 refine V5 6 rfl (jV (news := L8 (s4 E ms (l, p))) uT elem49 rfl rfl (j8 (cs := L8 (s4 E ms (l, p))) w5) (by rw [l6]) (r9 _) kx ow (fun O2 d2 => (G0 (gw ?_))))
 refine F7 8 rfl (R4 rfl cw cT rfl rfl (Nat.le_of_ble_eq_true rfl) (G0 ?_))
 refine p7 (finQ.normal n9 (sx [2, 2, 2]) ?_)
 refine ⟨O2, d2, ?_⟩
 simp only [s9, List.map_append, M3, List.map_cons, List.map_nil, N6, iZ, List.append_nil]
 rfl
theorem zJ (E : Nat → i6) (tb mb gh : Nat) (ms : Tm) (f n : Nat) (hh : gh ≤ 32) (hf64 : f < 18446744073709551616) (hf : f + n ≤ 2 ^ gh) (h1 : 1 ≤ n) (h2 : n ≤ 256) (w0 : World) (hB : Ro w0 [] (Blk tb 243 (q7 E gh mb))) (hM : Ro w0 [] (u6 mb p6 hv (ms))) :
    Calls prog 85 #[.pointer (some ⟨tb, 0, none⟩), .int .u64 (f : Int), .int .i64 (n : Int)] w0 (D0 w0 [] fun v L => ∃ Ol c Or d, v = .tuple #[.agg #[.slice Ol (l4 f gh).length c, .slice Or (j6 (f + n - 1) gh).length d], .nilIface] ∧ L = [OwnA 49 32 Ol (l4 f gh).length c (m9 ((l4 f gh).map (fun a => s4 E ms a))), OwnA 49 32 Or (j6 (f + n - 1) gh).length d (m9 ((j6 (f + n - 1) gh).map (fun a => s4 E ms a)))]) := by
  refine N4 (L := []) (n := 42) (rs := [.cell 6 43, .tmp 7]) func85 rfl rfl rfl (Nat.le_of_ble_eq_true rfl) (Sat.nil _) ?_
  refine m6 49 32 ?_
  refine m6 49 32 ?_
  refine c8 ?_
  refine c7 ?_
  refine z7 (iR cw (fun b3 => ?_))
  refine z7 (z4 zT (fun b6 => ?_))
  refine C3 ?_
  refine l3 ?_
  refine c8 ?_
  refine C5 ?_
  refine c8 ?_
  refine c7 ?_
  refine e6 (a8 rfl (i9 N3 oT rfl)) ?_
  refine e6 (fO uT rfl) ?_
  refine C3 ?_
  refine l3 ?_
  refine C4 rfl ?_
  refine c8 ?_
  refine c7 ?_
  refine e6 (a8 rfl (i9 N3 oT rfl)) ?_
  refine z7 (R1 J80 rfl (fun w hw => M4 E tb mb gh w (Rd.ro hB w hw)) ?_)
  refine o8 ?_
  refine o8 ?_
  refine z7 (R1 J104 rfl (fun w hw => (by have k := pM gh f n hh hf64 h1 h2 w; rw [decide_eq_true hf] at k; exact k : Calls prog 104 #[.int .i64 (gh : Int), .int .u64 (f : Int), .int .i64 (n : Int)] w (nX w (.bool true)))) ?_)
  refine e6 (uO rfl) ?_
  refine C3 ?_
  refine l3 ?_
  refine C4 rfl ?_
  refine w8 ?_
  refine c8 ?_
  refine c7 ?_
  refine z7 (z4 zT (fun b8 => ?_))
  refine l3 ?_
  refine c8 ?_
  refine c7 ?_
  refine z7 (z4 zT (fun b9 => ?_))
  refine l3 ?_
  refine c8 ?_
  refine c7 ?_
  refine e6 (E9 (fs := []) (cs := [.pointer (some ⟨b3, 0, none⟩), .pointer (some ⟨b9, 0, none⟩)]) rfl rfl) ?_
  refine C3 ?_
  refine l3 ?_
  refine c8 ?_
  refine c7 ?_
  refine e6 (a8 rfl (i9 tV oT rfl)) ?_
  refine z7 (R1 J80 rfl (fun w hw => M4 E tb mb gh w (Rd.ro hB w hw)) ?_)
  refine o8 ?_
  refine o8 ?_
  refine o8 ?_
  refine e6 (x9 uT rfl ce33 rfl) ?_
  refine z7 (l8 (Pre := []) (R := _) J145 rfl pr (fun w hw => zE ⟨b8, 0, none⟩ (.pointer (some ⟨b3, 0, none⟩)) (.pointer (some ⟨b9, 0, none⟩)) w) ?_)
  rintro v L' ⟨qb1, rfl, rfl⟩
  refine o8 ?_
  refine e6 (x9 uT rfl ce33 rfl) ?_
  refine z7 (l8 (Pre := []) (R := _) J145 rfl pr (fun w hw => zE ⟨b8, 1, none⟩ (.pointer (some ⟨b3, 0, none⟩)) (.pointer (some ⟨b9, 0, none⟩)) w) ?_)
  rintro v L' ⟨qb2, rfl, rfl⟩
  refine z7 (l8 (Pre := [Blk b8 43 [.slice none ([] : Sd).length 0, .slice none ([] : Sd).length 0], OwnA 49 32 none (([] : Sd)).length 0 (m9 ((([] : Sd)).map (fun a => s4 E ms a))), OwnA 49 32 none (([] : Sd)).length 0 (m9 ((([] : Sd)).map (fun a => s4 E ms a)))]) (R := _) J127 rfl (pm3.trans (pc (pm5.trans (pc pm5)))) (fun w hw => xN (fun ls rs L => ls.length ≤ 64 ∧ rs.length ≤ 64 ∧ ∃ Ol c Or d, L = [Blk b8 43 [.slice Ol ls.length c, .slice Or rs.length d], OwnA 49 32 Ol (ls).length c (m9 ((ls).map (fun a => s4 E ms a))), OwnA 49 32 Or (rs).length d (m9 ((rs).map (fun a => s4 E ms a)))]) gh f n hh hf h1 h2 146 146 #[.pointer (some ⟨b3, 0, none⟩), .pointer (some ⟨b9, 0, none⟩), .pointer (some ⟨qb1, 0, none⟩)] #[.pointer (some ⟨b3, 0, none⟩), .pointer (some ⟨b9, 0, none⟩), .pointer (some ⟨qb2, 0, none⟩)] J146 J146 _ w hw.sat.left ⟨Nat.zero_le _, Nat.zero_le _, none, 0, none, 0, rfl⟩ (fun k rs L w' hk hb hJ hst => by obtain ⟨j1, j2, Ol, c, Or, d, rfl⟩ := hJ; exact (zeC E tb mb gh ms hh b8 b3 b9 qb1 _ _ ow Ol c Or d k _ (AF ow hk hb) w' hst.sat (u5 (R := []) (by rw [List.append_nil]; exact hst) (u5 hw hB)) (u5 (R := []) (by rw [List.append_nil]; exact hst) (u5 hw hM)) (u5 (R := []) (by rw [List.append_nil]; exact hst) (y9 hw (List.mem_of_getElem? (i := 4) rfl))) (u5 (R := []) (by rw [List.append_nil]; exact hst) (y9 hw (List.mem_of_getElem? (i := 1) rfl)))).mono fun e w'' ⟨v, L', q1, q2, q3'⟩ => by obtain ⟨O2, c2, q3⟩ := q3'; exact ⟨v, L', q1, q2, (by have := bI f (k + 1); omega), j2, ⟨O2, c2, Or, d, by subst q3; rw [T9 hb]⟩⟩) (fun k ls L w' hk hb hJ hst => by obtain ⟨j1, j2, Ol, c, Or, d, rfl⟩ := hJ; exact (zeE E tb mb gh ms hh b8 b3 b9 qb2 _ _ ow Ol c Or d k _ (xM ow hk hb) w' hst.sat (u5 (R := []) (by rw [List.append_nil]; exact hst) (u5 hw hB)) (u5 (R := []) (by rw [List.append_nil]; exact hst) (u5 hw hM)) (u5 (R := []) (by rw [List.append_nil]; exact hst) (y9 hw (List.mem_of_getElem? (i := 4) rfl))) (u5 (R := []) (by rw [List.append_nil]; exact hst) (y9 hw (List.mem_of_getElem? (i := 0) rfl)))).mono fun e w'' ⟨v, L', q1, q2, q3'⟩ => by obtain ⟨O2, c2, q3⟩ := q3'; exact ⟨v, L', q1, q2, j1, (by have := Y3 (f + n - 1) (k + 1); omega), ⟨Ol, c, O2, c2, by subst q3; rw [U0 hb]⟩⟩)) ?_)
  rintro v L' ⟨hj1, hj2, Ol, c, Or, d, rfl⟩
  refine l3 ?_
  refine c8 ?_
  refine c8 ?_
  refine c7 ?_
  refine e6 (a8 rfl (i9 (s6 5 rfl) oT rfl)) ?_
  refine e6 (F0 uT rfl) ?_
  refine l3 ?_
  refine C4 rfl ?_
  refine w8 ?_
  refine c8 ?_
  refine c7 ?_
  refine e6 (a8 rfl (i4 w5 rT (ce43))) ?_
  refine j9 rfl (Y7 rfl cw (by exact ce43) (by rfl) (by rfl) ?_)
  refine C3 ?_
  refine l3 ?_
  refine a9 ?_
  refine finQ.ret (j7 rfl (i4 (s6 6 rfl) rT (ce43)) rv) (Sub.trans (sk (sk (sd (sd (sd (sd (sd (sd I8)))))))) (Sub.trans (sk (Sub.trans (sk sr) (e5 pm1))) (e5 pm1))) ?_
  exact ⟨Ol, c, Or, d, rfl, rfl⟩
theorem zaJ (f n : Nat) (hf64 : f < 18446744073709551616) (h1 : 1 ≤ n) (h2 : n ≤ 256) (hf : ¬ f + n ≤ 2 ^ 32) (w0) :
  cP 40 #[uI f, iI n] w0 fun v L => v = sL none 0 0 ∧ L = [] := by
 refine co 24 [.tmp 4] func40 ?_
 refine gw ?_
 refine u7 en (fun w hw => (by have h := pM 32 f n dc hf64 h1 h2 w; rw [decide_eq_false hf] at h; exact h : cR 104 #[iI 32, uI f, iI n] w (.bool false))) (gw ?_)
 exact tR
theorem zaK (f : Nat) (m : Int) (hm : m < 1 ∨ 256 < m) (w0) :
  cP 40 #[uI f, iI m] w0 fun v L => v = sL none 0 0 ∧ L = [] := by
 refine co 24 [.tmp 4] func40 ?_
 refine gw ?_
 refine u7 en (fun w hw => EP 32 f m hm dc w) (gw ?_)
 exact tR
end Go.Proofs.YtgdjcmehlhebdaaGreatDoor
