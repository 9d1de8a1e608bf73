/- Walks: a truth's small calls -/
import Derived.Test.YtgdjcmehlhebdaaGreatDoorYJ2
set_option maxHeartbeats 25600000
set_option linter.all false
namespace Go.Proofs.YtgdjcmehlhebdaaGreatDoor
open _root_.Go.Proofs.Tryz
open Go.E
set_option maxRecDepth 4000
theorem elem138 : S3 prog 138 50 64 := S4 (by kernel_rfl)
theorem zv136 : gI prog 136 = some (sv A4) := by kernel_rfl
theorem ziw (Y : Sm) (i : Nat) : Value.tuple #[HT sv (sv A4) (E.look i Y), .bool (E.look i Y).isSome] = .tuple #[.agg (o4 (Z0 Y i).s).toArray, .bool (Z0 Y i).there] := by
 unfold Z0; cases E.look i Y <;> rfl
theorem vU (Y : Sm) (xs : List Nat) {k : Nat} (h : k < xs.length) : ((xs.take (k + 1)).map (Z0 Y)).flatMap u9 = ((xs.take k).map (Z0 Y)).flatMap u9 ++ u9 (Z0 Y (xs.getD k 0)) := by
 rw [List.take_succ_eq_append_getElem h, List.map_append, List.flatMap_append, show xs.getD k 0 = xs[k] by simp [List.getD, h]]; simp
theorem ze4 (tt : List Tx) {k : Nat} (h : k < tt.length) : m9 ((tt.take (k + 1)).map fun t => K3 t.2.2) = m9 ((tt.take k).map fun t => K3 t.2.2) ++ L8 (K3 (tt.getD k X3).2.2) := by
 rw [List.take_succ_eq_append_getElem h, List.map_append, M3, show tt.getD k X3 = tt[k] by simp [List.getD, h]]; simp [m9]
theorem zhA (E : Nat → i6) (qb n sm tb mb : Nat) (ms : Tm) (hn : fE n) (w0) (hQ : Ro w0 [] (Blk qb 160 [uI n, .map (some sm), pZ tb])) (hB : Ro w0 [] (Blk tb 243 (q7 E (s7 n) mb))) (hM : Ro w0 [] (u6 mb p6 hv ms)) : cR 24 #[pZ qb] w0 (hv (s4 E ms (s7 n, 0))) := by
 refine cQ (co 11 [.cell 2 49] func24 ?_)
 refine gw ?_
 intro b2
 refine gw ?_
 refine u7 en (fun w hw => zjy E tb mb (s7 n) ms (aL hn) w (Rd.ro hB w hw) (Rd.ro hM w hw)) (j9 rfl (W9 (s4 E ms (s7 n, 0)) rfl (gw ?_)))
 exact a9 (finQ.ret (j7 rfl (i4 w5 rT (o5 ce49)) n9) sn (rr))
theorem dW (qb n sm tb : Nat) (Y : Sm) (A) (c : Nat) (xs : List Nat) (hx : xs.length ≤ 65536) (w0) (hQ : Ro w0 [] (Blk qb 160 [uI n, .map (some sm), pZ tb])) (hSm : Ro w0 [] (u6 sm Q9 sv Y)) (hR : Ro w0 [] (SlA A (w6 xs))) :
  cP 29 #[pZ qb, sL A xs.length c] w0 fun v L => ∃ O d, v = sL O xs.length d ∧ L = [OwnA 138 50 O xs.length d ((xs.map (Z0 Y)).flatMap u9)] := by
 refine co 35 [.tmp 4] func29 ?_
 refine gw ?_
 refine m6 138 50 ?_
 refine l5 (γ := Nat × y8 × Nat) (mr 14 20 [5, 7, 8, 9]) (fun g => [(14, iI g.1), (5, sL g.2.1 g.1 g.2.2)]) (fun g => [OwnA 138 50 g.2.1 g.1 g.2.2 (((xs.take g.1).map (Z0 Y)).flatMap u9)]) (fun g => g.1 ≤ xs.length) (fun g => xs.length - g.1) ((0, none, 0))
  (Nat.zero_le _) oa sr ?_
 rintro ⟨k, O, d⟩ u hk
 dsimp only at hk
 show TC _ _ _ (puts [(14, iI k), (5, sL O k d)] (scr _ u _)) [OwnA 138 50 O k d (((xs.take k).map (Z0 Y)).flatMap u9)]
 refine gw ?_
 refine j0 rfl rfl (p9 rfl rfl) (fun h15 => gw ?_) (fun h15 => gw ?_)
 ·refine e6 (i5 uT cT rfl rfl ow (c9 hR) (by rw [D5]; omega)) (e6 (a8 rfl (A9 (v := uI ↑(xs.getD k 0)) (c9 hR) oT (F6 ow))) (gw ?_))
  refine e6 (n8 (iT (k := (xs.getD k 0)) uT Tryz.keyU zv136 rfl rfl (c9 hSm)) (ziw Y (xs.getD k 0))) (gw ?_)
  intro b8
  refine j9 rfl (j5 (v := .agg (o4 (Z0 Y (xs.getD k 0)).s).toArray) rfl rfl (by rw [o6, k9]; exact ce136) (aF _) (by rw [o6, k9]; rfl) (gw ?_))
  refine e6 (a8 rfl (i4 (vs := o4 (Z0 Y (xs.getD k 0)).s) w5 rT (by rw [k9]; exact ce136))) (e6 (n8 (F5 (vs := [.bool (Z0 Y (xs.getD k 0)).there, .agg (o4 (Z0 Y (xs.getD k 0)).s).toArray]) (pls := #[(0, 1), (1, 49)]) uT (fun w => by kernel_rfl) ze138 rfl ⟨rfl, (by show some (1, 49) = some (1, (o4 (Z0 Y (xs.getD k 0)).s).length); rw [k9]), trivial⟩ (by rw [bD, m0]; rfl)) (by rw [bD])) (z7 (m5 (v := .agg (u9 (Z0 Y (xs.getD k 0))).toArray) uT elem138 dc rfl (by rw [o6, m0]) (fun g31 => (z7 (Q1 (news := u9 (Z0 Y (xs.getD k 0))) uT elem138 rfl rfl (j8 (cs := u9 (Z0 Y (xs.getD k 0))) w5) (by rw [m0]) (List.all_eq_true.1 (Y1 _)) kx ow (fun O3 d3 => (gw ?_))))))))
  exact ⟨(k + 1, O3, d3), od, od, oz, (by dsimp only; rw [vU Y xs ow]; exact sp)⟩
 ·refine i7 (c8 (gw ?_))
  refine a9 (D7 sr ?_)
  obtain rfl : k = xs.length := by omega
  rw [List.take_length]
  exact ⟨O, d, rfl, rfl⟩
theorem mH (A) (c : Nat) (xs : List Nat) (B) (b : Nat) (l : List Go.E.Item) (hn : xs.length ≤ 16384) (h1 : l.length = xs.length) (h2 : ∀ x ∈ xs, x < 4294967296) (w0) (lw : lW xs) (hR : Ro w0 [] (SlA A (w6 xs))) (hB : Ro w0 [] (SlA B (l.flatMap u9))) (hT : Tabs 3 1 w0 []) :
  cP 81 #[sL A xs.length c, sL B l.length b] w0 fun v L => ∃ O d, v = .tuple #[sL O xs.length d, .nilIface] ∧ L = [OwnA 49 32 O xs.length d (m9 (M8 xs l xs.length))] := by
 refine co 33 [.tmp 4, .tmp 5] func81 ?_
 refine gw ?_
 refine z9 en (fun w hw => (by have q := gL A c xs B b l hn w lw (Rd.ro hR w hw) (Rd.ro hB w hw); rw [oV h1 h2] at q; exact q : cP 47 #[sL A xs.length c, sL B l.length b] w fun v L => X8 (some (vT xs l)) v L)) ?_
 rintro v L' ⟨Ox, dx, tt, rfl, rfl, q1, q2⟩
 have hlen : tt.length = xs.length := by have e := congrArg List.length q1; rwa [List.length_map, lL] at e
 have htx : ∀ t ∈ tt, t.2.2.length ≤ 70368744177664 := fun t ht => vS xs l _ (oV h1 h2) _ (q1 ▸ List.mem_map_of_mem (f := fun t : Tx => t.2.2) ht)
 refine gw ?_
 refine m6 49 32 ?_
 refine l5 (γ := Nat × y8 × Nat) (mr 22 10 [8, 10]) (fun g => [(22, iI g.1), (8, sL g.2.1 g.1 g.2.2)]) (fun g => [OwnA 49 32 g.2.1 g.1 g.2.2 (m9 ((tt.take g.1).map fun t => K3 t.2.2)), OwnA 112 1 Ox tt.length dx (tt.flatMap aI), C1 (tt.map u3)]) (fun g => g.1 ≤ tt.length) (fun g => tt.length - g.1) ((0, none, 0))
  (Nat.zero_le _) oa sr ?_
 rintro ⟨k, O, d⟩ u hk
 dsimp only at hk
 show TC _ _ _ (puts [(22, iI k), (8, sL O k d)] (scr _ u _)) [OwnA 49 32 O k d (m9 ((tt.take k).map fun t => K3 t.2.2)), _, _]
 refine gw ?_
 refine j0 rfl rfl (p9 rfl rfl) (fun h23 => gw ?_) (fun h23 => gw ?_)
 ·refine e6 (i5 uT cT rfl rfl ow (x8 N3) (by rw [mB]; omega)) ?_
  refine e6 (a8 rfl (A9 (v := sL (tt.getD k X3).1 (tt.getD k X3).2.2.length (tt.getD k X3).2.1) (x8 N3) oT (xV ow))) (gw ?_)
  refine u7 en (fun w hw => cQ (fC (tt.getD k X3).1 (tt.getD k X3).2.1 (tt.getD k X3).2.2 w (Rd.own (e := 5) (sz := 1) (Rd.many (A := u3 (tt.getD k X3)) (Rd.at 2 rfl) (List.mem_map_of_mem (E6 X3 h23))) w hw) (htx _ (E6 X3 h23)) (hT.at hw))) ?_
  refine z7 (m5 (v := hv (K3 (tt.getD k X3).2.2)) uT elem49 dc rfl (v9 _) (fun g29 => ?_))
  refine z7 (G1 (news := L8 (K3 (tt.getD k X3).2.2)) uT elem49 rfl rfl (j8 (cs := L8 (K3 (tt.getD k X3).2.2)) w5) (by rw [l6]) (List.all_eq_true.1 (Y4 _)) kx ow (fun O3 d3 => ?_))
  refine gw ?_
  exact ⟨(k + 1, O3, d3), od, od, oz, (by dsimp only; rw [ze4 tt ow]; exact sp)⟩
 ·refine i7 (c8 (gw ?_))
  refine a9 (finQ.ret rv (sk (sd (sd I8))) ?_)
  obtain rfl : k = tt.length := by omega
  refine ⟨O, d, by rw [hlen]; rfl, ?_⟩
  rw [List.take_length, hlen, show (tt.map fun t => K3 t.2.2) = M8 xs l xs.length by (have e : (tt.map fun t => K3 t.2.2) = (tt.map fun t => t.2.2).map K3 := by rw [List.map_map]; rfl); rw [e, q1, vT, List.map_map]; rfl]
theorem zfl (n : Nat) : madeCells (hv e7).cells (n * 32) = (List.replicate (n * 32) (Value.int .u8 0)).toArray := by
 have e : (hv e7).cells = Array.replicate 32 (Value.int .u8 0) := by kernel_rfl
 refine Array.ext (by simp [madeCells]) fun i h1 h2 => ?_
 have h3 : i % 32 < 32 := Nat.mod_lt _ dc
 simp [madeCells, e, h3]
theorem ziN {C : Ctx} {L : List Assn} {g T j k : Nat} {h : i6} {rest : List Value} (hb : Has C L (Blk g T (m9 (List.replicate k h) ++ rest))) (hj : j ≤ k) : Has C L (SlA (some ⟨g, 0, none⟩) (m9 (List.replicate j h))) := by
 have e := CP (j8 hb) (j * 32)
 rwa [List.take_append_of_le_length (by rw [dV]; omega), oQ, List.take_replicate, Nat.min_eq_left hj] at e
theorem zdQ (a b : Nat) (ha : a < 4294967296) (hb : b < 4294967296) (hab : a * b < 4294967296) (w0) :
  cP 210 #[uI a, uI b] w0 fun v L => v = .tuple #[uI (0 : Nat), uI ↑(a * b)] ∧ L = [] := by
 refine co 51 [.tmp 4, .tmp 5] func210 ?_
 refine gw ?_
 refine e6 (n8 (fN (b := 4294967295) rfl rfl km km) (and32 ha)) (gw ?_)
 refine e6 (n8 (G5 (s := 32) rfl rfl km) (shr32 ha)) (gw ?_)
 refine e6 (n8 (fN (b := 4294967295) rfl rfl km km) (and32 hb)) (gw ?_)
 refine e6 (n8 (G5 (s := 32) rfl rfl km) (shr32 hb)) (gw ?_)
 refine e6 (F3 rfl rfl km) (gw ?_)
 refine e6 (n8 (F3 rfl rfl km) (show _ = uI (0 : Nat) by rw [Nat.zero_mul])) (gw ?_)
 refine e6 (n8 (G5 (s := 32) rfl rfl km) (shr32 hab)) (e6 (v4 (a := 0) (b := 0) rfl rfl km) (gw ?_))
 refine e6 (n8 (fN (b := 4294967295) rfl rfl km km) (and32 dc)) (gw ?_)
 refine e6 (n8 (G5 (s := 32) rfl rfl km) (shr32 dc)) (gw ?_)
 refine e6 (n8 (F3 rfl rfl km) (show _ = uI (0 : Nat) by rw [Nat.mul_zero])) ?_
 refine e6 (v4 (a := 0) (b := 0) rfl rfl km) (gw ?_)
 refine e6 (F3 (a := 0) (b := 0) rfl rfl km) (gw ?_)
 refine e6 (n8 (v4 rfl rfl km) (show _ = uI (0 : Nat) from rfl)) (gw ?_)
 refine e6 (n8 (G5 (s := 32) rfl rfl km) (shr32 dc)) (e6 (n8 (v4 rfl rfl km) (show _ = uI (0 : Nat) from rfl)) (gw ?_))
 refine e6 (F3 rfl rfl km) (gw ?_)
 exact tR
theorem zcC (a b : Nat) (ha : a < 4294967296) (hb : b < 4294967296) (hab : a * b < 4294967296) (w0) :
  cP 195 #[uI a, uI b] w0 fun v L => v = .tuple #[uI (0 : Nat), uI ↑(a * b)] ∧ L = [] := by
 refine co 30 [.tmp 4, .tmp 5] func195 ?_
 refine gw ?_
 refine u7 en (fun w hw => cQ (zdQ a b ha hb hab w)) (gw ?_)
 exact tR
theorem zaF (E : Nat → i6) (hEm : ∀ w, Tabs 3 1 w [] → Calls prog 55 #[] w (nX w (.agg (m9 (H3 E)).toArray))) (w0 : World) (hT : Tabs 3 1 w0 []) :
    Calls prog 164 #[.int .i64 ((0 : Nat) : Int)] w0 (D0 w0 [] fun v L => v = .tuple #[hv (E 0), .nilIface] ∧ L = []) := by
  refine N4 (L := []) (n := 17) (rs := [.cell 2 49, .tmp 3]) func164 rfl rfl rfl (Nat.le_of_ble_eq_true rfl) (Sat.nil _) ?_
  refine c8 ?_
  refine c7 ?_
  refine z7 (z4 zT (fun b2 => ?_))
  refine C3 ?_
  refine l3 ?_
  refine c8 ?_
  refine c7 ?_
  refine z7 (R1 J55 rfl (fun w hw => hEm w (hT.at hw)) ?_)
  refine z7 (z4 zT (fun b4 => ?_))
  refine j9 rfl (j5 (v := .agg (m9 (H3 E)).toArray) rfl rfl (by rw [o6, m7, T5]; exact ce140) (BO _) (by rw [o6, m7, T5, List.length_replicate]) ?_)
  refine l3 ?_
  refine c8 ?_
  refine c8 ?_
  refine c7 ?_
  refine o8 ?_
  refine e6 (Qt.dF (p9 (b := 0) rfl rfl) ow) ?_
  refine o8 ?_
  refine E8 rfl rfl rfl (m8 cw) ?_
  refine E8 rfl rfl rfl (Qt.dF (T0 (b := 33) rfl rfl) ow) ?_
  refine e6 (X7 rfl cw) ?_
  refine l3 ?_
  refine C4 rfl ?_
  refine w8 ?_
  refine c8 ?_
  refine c7 ?_
  refine o8 ?_
  refine e6 (n7 (i := 0) uT cT rfl rfl (by decide)) ?_
  refine e6 (n8 (a8 rfl (uJ (l := H3 E) w5 0 rT ce49 (by rw [T5]; decide) rfl)) (by rw [qD E (by decide)])) ?_
  refine j9 rfl (F9 (v := hv (E 0)) rfl rfl (o5 ce49) (N7 _) (v9 _) ?_)
  refine C3 ?_
  refine l3 ?_
  refine a9 ?_
  refine finQ.ret (j7 rfl (i4 N3 rT (o5 ce49)) rv) sn ?_
  exact ⟨rfl, rfl⟩
theorem zcS (A) (c : Nat) (h : i6) (n : Nat) (h1 : 1 ≤ n) (h2 : n ≤ 65536) (w0) (hA : Ro w0 [] (SlA A (L8 h))) :
  cP 165 #[sL A 1 c, iI n] w0 fun v L => ∃ O d, v = sL O n d ∧ L = [OwnA 49 32 O n d (m9 (List.replicate n h))] := by
 refine co 48 [.tmp 4] func165 ?_
 refine gw ?_
 refine e6 (Qt.dF (p9 (b := 0) rfl rfl) ow) (gw ?_)
 refine e6 (r8 (a := 1) uT uT rfl km) (gw ?_)
 refine e6 (r8 uT uT rfl km) (u7 en (fun w hw => cQ (zcC 1 n dc ow ow w)) (gw ?_))
 refine e6 (Qt.dF (M0 (b := 0) rfl rfl) ow) (gw ?_)
 refine E8 rfl rfl rfl (Qt.dF (M0 (b := 9223372036854775807) rfl rfl) ow) (e6 (X7 rfl cw) (l3 (C4 rfl (w8 (c8 (c7 ?_))))))
 refine e6 (n8 (m8 rfl) (show uI ↑(1 * n) = uI n by rw [Nat.one_mul])) ?_
 refine e6 (r8 uT uT rfl km) (z7 (pU (n := n) (cs := List.replicate (n * 32) (.int .u8 0)) uT elem49 zv23 rfl rfl ow ow ow (zfl n) (fun g30 => (gw ?_))))
 refine z7 (eA (N := n) (news := L8 h) (cs' := L8 h ++ (List.replicate (n * 32) (Value.int .u8 0)).drop 32) uT cT rfl rfl (c9 hA) (by rw [l6]; omega) (List.all_eq_true.1 (Y4 _)) (by rw [l6, List.length_replicate]; omega) (by rw [l6, Nat.zero_add]; rfl) (gw ?_))
 refine l5 (γ := Nat × List Value) (mr 34 13 [8]) (fun g => [(8, iI g.1)]) (fun g => [Blk g30 49 (m9 (List.replicate g.1 h) ++ g.2)]) (fun g => 1 ≤ g.1 ∧ g.1 ≤ n ∧ g.2.length = (n - g.1) * 32) (fun g => n - g.1) ((1, (List.replicate (n * 32) (Value.int .u8 0)).drop 32))
  ⟨Nat.le_refl _, h1, by rw [List.length_drop, List.length_replicate]; dsimp only; omega⟩ ⟨Out.refl _ _, (fm (by show iI ↑(min 1 n) = iI (1 : Nat); rw [Nat.min_eq_left h1]) nb)⟩ ((by dsimp only; rw [show m9 (List.replicate 1 h) = L8 h by simp [m9]]; exact sr)) ?_
 rintro ⟨k, rest⟩ u ⟨hk1, hk2, hr⟩
 dsimp only at hk1 hk2 hr
 refine gw ?_
 refine j0 rfl rfl (p9 rfl rfl) (fun h37 => gw ?_) (fun h37 => gw ?_)
 ·refine dw ([7], []) (gw ?_)
  refine c6 3 rfl (n8 (v' := sL (some ⟨g30, k * 32, none⟩) (n - k) (n - k)) (D3 uT cT rfl rfl ow) (by rw [if_neg ow]; show sL (some (Addr.add ⟨g30, 0, none⟩ (k * 32))) _ _ = _; rw [Q4, Nat.zero_add])) (gw ?_)
  refine c6 6 rfl (T3 uT cT rfl rfl ow) (V5 7 rfl (eA (N := n - k) (news := m9 (List.replicate (min k (n - k)) h)) uT cT rfl rfl (ziN w5 (Nat.min_le_left _ _)) (by rw [dV]) (lK _) (by rw [dV, List.length_append, dV, hr]; omega) (zhr h rest k _ n hr (Nat.min_le_right _ _)) (G0 ?_)))
  refine c6 8 rfl (v4 rfl rfl km) (gw ?_)
  refine p7 ?_
  refine ⟨(k + min k (n - k), rest.drop ((min k (n - k)) * 32)), ?_, od, oz, sr⟩
  exact ⟨by show _ ≤ _; dsimp only; omega, by show _ ≤ _; dsimp only; omega, by rw [List.length_drop, hr]; dsimp only; omega⟩
 ·refine i7 (c8 (c7 ?_))
  obtain rfl : n = k := by omega
  obtain rfl : rest = [] := List.eq_nil_of_length_eq_zero (by rw [hr]; omega)
  refine TL.shutOwn (n := n) (c := n) (sz := 32) (by rw [List.append_nil, dV]) (Nat.le_refl _) kx pr ?_
  rw [List.append_nil, List.take_of_length_le (by rw [dV]; omega)]
  refine gw ?_
  refine a9 (D7 sr ?_)
  exact ⟨_, _, rfl, rfl⟩
theorem zdO (E : Nat → i6) (hEm : ∀ w, Tabs 3 1 w [] → cR 55 #[] w (.agg (m9 (H3 E)).toArray)) (hE0 : E 0 = K3 [0]) (A) (c : Nat) (B) (d : Nat) (o : Order) (hss : o.ss.length ≤ 65536) (hxx : o.xs.length ≤ 65536) (h : A7 o) (hk : o.kind ≠ 3) (w0) (lw : ∀ x ∈ o.xs, x < 18446744073709551616) (hR : Ro w0 [] (SlA A (w6 o.xs))) (hS : Ro w0 [] (SlA B (o.ss.flatMap o4))) (hT : Tabs 3 1 w0 []) :
  cP 101 #[.agg (G3 A c B d o).toArray] w0 fun v L => ∃ O q, v = .tuple #[sL O o.xs.length q, .nilIface] ∧ L = [OwnA 49 32 O o.xs.length q (m9 ((List.range o.xs.length).map (eW o)))] := by
 refine co 60 [.tmp 2, .tmp 3] func101 ?_
 obtain ⟨hsx, hi32⟩ := zhx h hk
 have hx1 : 0 < o.xs.length := hi32.1
 refine gw ?_
 intro b1
 refine gw ?_
 refine e6 (a8 rfl (i4 (vs := G3 A c B d o) w5 rT ce58)) ?_
 refine u7 en (fun w hw => (by have q := cH A c B d o hss hxx w lw (Rd.ro hR w hw) (Rd.ro hS w hw); rw [decide_eq_true h] at q; exact q : cR 99 #[.agg (G3 A c B d o).toArray] w (.bool true))) (gw ?_)
 refine E8 rfl rfl rfl (Qt.dF (I5 rfl rfl) (hk)) (gw ?_)
 refine u7 en (fun w hw => cQ (zaF E hEm w (hT.at hw))) (gw ?_)
 intro b4
 refine j9 rfl (W9 (E 0) rfl ?_)
 refine gw ?_
 refine z7 (m5 (v := hv (E 0)) uT elem49 dc rfl (v9 _) (fun g28 => ?_))
 refine gw ?_
 refine z9 en (fun w hw => zcS (some ⟨g28, 0, none⟩) 1 (E 0) o.xs.length hx1 hxx w (Rd.blk (cs := L8 (E 0)) (Rd.at 0 rfl) w hw)) ?_
 rintro v L' ⟨O, d2, rfl, rfl⟩
 refine zb6 hx1 (fun g cs hO hct hcl hnc hcm => ?_)
 subst hO
 obtain ⟨rest, rfl⟩ : ∃ rest, cs = m9 (hH o (E 0) 0) ++ rest := ⟨_, by rw [zdM]; exact zfE hct⟩
 refine gw ?_
 refine l5 (γ := Nat) (mr 36 23 (mr 7 4 [2, 3])) (fun k => [(36, iI k)]) (fun k => [Blk g 49 (m9 (hH o (E 0) k) ++ rest), Blk b4 49 (vl (hv (E 0))), Blk b1 58 (G3 A c B d o)]) (fun k => k ≤ o.ss.length) (fun k => o.ss.length - k) (0)
  (Nat.zero_le _) oa sp ?_
 rintro k u hk2
 refine gw ?_
 refine j0 rfl rfl (p9 rfl rfl) (fun h37 => gw ?_) (fun h37 => gw ?_)
 ·refine e6 (i5 uT cT rfl rfl ow (c9 hS) (by rw [K2]; omega)) ?_
  refine e6 (a8 rfl (H4 (vs := o4 (o.ss.getD k A4)) (c9 hS) rT (by rw [k9]; exact ce136) (by rw [k9]; decide) (X6 ow rfl))) (gw ?_)
  intro b8
  refine gw ?_
  refine j9 rfl (j5 (v := .agg (o4 (o.ss.getD k A4)).toArray) rfl rfl (by rw [o6, k9]; exact ce136) (aF _) (by rw [o6, k9]; rfl) ?_)
  refine gw ?_
  refine dr ([11], [10]) (gw ?_)
  refine c6 3 rfl (i5 uT cT rfl rfl ow (c9 hR) (by rw [D5]; omega)) ?_
  refine c6 4 rfl (a8 rfl (A9 (v := uI ↑(o.xs.getD k 0)) (c9 hR) oT (F6 ow))) ?_
  refine c6 5 rfl (a8 rfl (i4 (vs := o4 (o.ss.getD k A4)) w5 rT (by rw [k9]; exact ce136))) ?_
  refine I7 6 rfl en (fun w hw => cQ (zcA (o.xs.getD k 0) (hi32.low _ (E6 0 ow)) (o.ss.getD k A4) w (hT.at hw))) (gw ?_)
  refine aO 10 rfl (z4 zT (fun b9 => (G0 ?_)))
  refine F7 11 rfl (W9 (K3 (R6 (o.xs.getD k 0) (o.ss.getD k A4))) rfl (G0 ?_))
  refine gw ?_
  refine p7 (gw ?_)
  refine e6 (zey uT cT rfl rfl ow) ?_
  refine j9 rfl (zbU (v := hv (K3 (R6 (o.xs.getD k 0) (o.ss.getD k A4)))) rfl rfl (o5 ce49) (N7 _) (by rw [v9, List.length_append, m7, lM]; omega) (by rw [Nat.zero_add, zcw _ _ _ _ (by rw [lM]; omega), zfk o (E 0) ow]) ?_)
  refine gw ?_
  exact ⟨k + 1, od, od, oz, sp⟩
 ·refine i7 (c8 (c7 ?_))
  obtain rfl : k = o.ss.length := by omega
  refine TL.shutOwn (n := o.xs.length) (c := d2) (sz := 32) (by rw [List.length_append, m7, lM] at hcl ⊢; exact hcl) hnc hcm pr ?_
  rw [List.take_left' (by rw [m7, lM])]
  refine gw ?_
  refine a9 (finQ.ret rv (sk (sd (sd I8))) ?_)
  exact ⟨_, d2, rfl, by rw [hE0, zfj h hk]⟩
theorem J161 : p8 prog 161 := ⟨_, func161, by kernel_rfl, rfl⟩
theorem J162 : p8 prog 162 := ⟨_, func162, by kernel_rfl, rfl⟩
theorem J163 : p8 prog 163 := ⟨_, func163, by kernel_rfl, rfl⟩
theorem xG (b3 q x : Nat) (s : Sealed) (w0) (h3 : Ro w0 [] (Blk b3 40 [uI q])) :
  cP 163 #[uI x, .agg (o4 s).toArray, pZ b3] w0 fun v L => v = .bool (decide (q ≤ x)) ∧ L = [] := by
 refine co 9 [.tmp 5] func163 ?_
 refine gw ?_
 intro b4
 refine gw ?_
 refine j0 rfl rfl (T0 rfl rfl) (fun h8 => gw ?_) (fun h8 => gw ?_)
 ·refine a9 (fR ?_)
  exact ⟨by rw [decide_eq_true (show q ≤ x from h8)]; rfl, rfl⟩
 ·refine a9 (fR ?_)
  exact ⟨by rw [decide_eq_false (show ¬ q ≤ x from h8)]; rfl, rfl⟩
theorem ziV (b3 q x : Nat) (s : Sealed) (w0) (h3 : Ro w0 [] (Blk b3 40 [uI q])) (h : q ≤ x) : cR 163 #[uI x, .agg (o4 s).toArray, pZ b3] w0 (.bool true) :=
 cQ ((xG b3 q x s w0 h3).mono fun e w ⟨v, L, h1, h2, h3, h4⟩ => ⟨v, L, h1, h2, by rw [h3, decide_eq_true h], h4⟩)
theorem ziU (b3 q x : Nat) (s : Sealed) (w0) (h3 : Ro w0 [] (Blk b3 40 [uI q])) (h : ¬ q ≤ x) : cR 163 #[uI x, .agg (o4 s).toArray, pZ b3] w0 (.bool false) :=
 cQ ((xG b3 q x s w0 h3).mono fun e w ⟨v, L, h1, h2, h3, h4⟩ => ⟨v, L, h1, h2, by rw [h3, decide_eq_false h], h4⟩)
theorem zcn (bm b3 q : Nat) (ms : Sm) (w0 : World) (hL : Sat w0 [u6 bm Q9 sv ms]) (h3 : Ro w0 [bm] (Blk b3 40 [.int .u64 (q : Int)])) :
    Calls prog 162 #[.map (some bm), .func (.func 163) #[] #[.pointer (some ⟨b3, 0, none⟩)]] w0 (D0 w0 [bm] fun v L => L = [u6 bm Q9 sv (dH q ms)]) := by
  refine N4 (L := [u6 bm Q9 sv ms]) (n := 19) (rs := []) func162 rfl rfl rfl (Nat.le_of_ble_eq_true rfl) (hL) ?_
  refine zb5 w5 (fun hn => ?_)
  refine c8 ?_
  refine c7 ?_
  refine o8 ?_
  refine z7 (zc8 uT rfl (fun it => ?_))
  refine l3 ?_
  refine C5 ?_
  refine l5 (γ := List Nat) [8, 9, 10, 11, 12, 5, 4, 13, 14, 15, 16, 17, 18] (fun done => []) (fun done => [aJ bm it Q9 sv (tI q ms done) done]) (fun done => done.Nodup ∧ ∀ x ∈ done, x ∈ o9 ms) (fun done => ms.length - done.length) ([])
    ⟨List.nodup_nil, (fun _ h => nomatch h)⟩ ⟨Out.refl _ _, (fun _ h => nomatch h)⟩ (by rw [zgR]; exact sr) ?_
  rintro done u hinv
  refine c8 ?_
  refine c7 ?_
  refine z7 (zc6 (fun _ _ => DI) rfl (fun hend => ?_) (fun x a hm hd => ?_))
  · refine zgz ?_
    refine e6 (s8 rfl rfl) ?_
    refine l3 ?_
    refine c8 ?_
    refine C4 rfl ?_
    refine i7 ?_
    refine finQ.normal n9 sr ?_
    rw [zgQ hend]
  · refine e6 (s8 rfl rfl) ?_
    refine l3 ?_
    refine c8 ?_
    refine Q3 rfl ?_
    refine w8 ?_
    refine C5 ?_
    refine c8 ?_
    refine c7 ?_
    refine e6 (zev (fun _ _ => DI) rfl w5 hm) ?_
    refine e6 (s8 rfl rfl) ?_
    refine e6 (s8 rfl rfl) ?_
    refine z7 (z4 zT (fun b5 => ?_))
    refine C3 ?_
    refine j9 rfl (j5 (v := .agg (o4 a).toArray) rfl rfl (by rw [o6, k9]; exact ce136) (aF _) (by rw [o6, k9]; rfl) ?_)
    refine l3 ?_
    refine c8 ?_
    refine c7 ?_
    refine o8 ?_
    refine o8 ?_
    refine e6 (a8 rfl (i4 (vs := o4 a) w5 rT (by rw [k9]; exact ce136))) ?_
    by_cases hq : q ≤ x
    · refine z7 (R1 J163 rfl (fun w hw => ziV b3 q x a w (Rd.ro h3 w hw) hq) ?_)
      refine l3 ?_
      refine Q3 rfl ?_
      refine c7 ?_
      refine o8 ?_
      refine o8 ?_
      refine j9 rfl (zer rfl uT Tryz.keyU rfl rfl ?_)
      refine l3 ?_
      refine ⟨done ++ [x], ?_, ?_, ⟨?_, (fun _ h => nomatch h)⟩, (by dsimp only; rw [← zgP hn done hq]; exact sd sr)⟩
      · exact (bB hinv.1 hinv.2 (oF hm) hd).1
      · exact (bB hinv.1 hinv.2 (oF hm) hd).2
      repeat (first | exact Out.refl _ _ | refine Out.put rfl ?_ | refine U3 rfl ?_ | refine Out.scr ?_ | refine X4 rfl ?_)
    · refine z7 (R1 J163 rfl (fun w hw => ziU b3 q x a w (Rd.ro h3 w hw) hq) ?_)
      refine l3 ?_
      refine C4 rfl ?_
      refine w8 ?_
      refine ⟨done ++ [x], ?_, ?_, ⟨?_, (fun _ h => nomatch h)⟩, (by dsimp only; rw [zeO ms done hq]; exact sd sr)⟩
      · exact (bB hinv.1 hinv.2 (oF hm) hd).1
      · exact (bB hinv.1 hinv.2 (oF hm) hd).2
      repeat (first | exact Out.refl _ _ | refine Out.put rfl ?_ | refine U3 rfl ?_ | refine Out.scr ?_ | refine X4 rfl ?_)
theorem zax (E : Nat → i6) (hEm : ∀ w, Tabs 3 1 w [] → Calls prog 55 #[] w (nX w (.agg (m9 (H3 E)).toArray))) (hE : ∀ h, E (h + 1) = F8 (h + 1) (E h) (E h)) (qb n sm tb mb : Nat) (Y : Sm) (ms : Tm) (g : Nat → i6) (ht : TreeOk E (s7 n) g ms) (hn : (iA (o9 ms)).length < 4294967296) (q : Nat) (hq : fE q) (w0 : World) (hL : Sat w0 [Blk qb 160 [.int .u64 (n : Int), .map (some sm), .pointer (some ⟨tb, 0, none⟩)], u6 sm Q9 sv Y, Blk tb 243 (q7 E (s7 n) mb), u6 mb p6 hv ms]) (hT : Tabs 3 1 w0 (A8 [Blk qb 160 [.int .u64 (n : Int), .map (some sm), .pointer (some ⟨tb, 0, none⟩)], u6 sm Q9 sv Y, Blk tb 243 (q7 E (s7 n) mb), u6 mb p6 hv ms])) :
    Calls prog 100 #[.pointer (some ⟨qb, 0, none⟩), .int .u64 (q : Int)] w0 (D0 w0 (A8 [Blk qb 160 [.int .u64 (n : Int), .map (some sm), .pointer (some ⟨tb, 0, none⟩)], u6 sm Q9 sv Y, Blk tb 243 (q7 E (s7 n) mb), u6 mb p6 hv ms]) fun v L => ∃ tb2 m2 ms2, v = .nilIface ∧ L = [Blk qb 160 [.int .u64 (q : Int), .map (some sm), .pointer (some ⟨tb2, 0, none⟩)], u6 sm Q9 sv (dH q Y), Blk tb2 243 (q7 E (s7 q) m2), u6 m2 p6 hv ms2] ∧ TreeOk E (s7 q) (tJ E g (fX ms) q) ms2) := by
  refine N4 (L := [Blk qb 160 [.int .u64 (n : Int), .map (some sm), .pointer (some ⟨tb, 0, none⟩)], u6 sm Q9 sv Y, Blk tb 243 (q7 E (s7 n) mb), u6 mb p6 hv ms]) (n := 33) (rs := [.tmp 4]) func100 rfl rfl rfl (Nat.le_of_ble_eq_true rfl) (hL) ?_
  refine c8 ?_
  refine c7 ?_
  refine z7 (iR (v := .int .u64 (q : Int)) rfl (fun b3 => ?_))
  refine C3 ?_
  refine l3 ?_
  refine c8 ?_
  refine dw ([], [5]) ?_
  refine c6 0 rfl (m8 cw) ?_
  refine c6 1 rfl (H8 rfl) ?_
  refine c6 2 rfl (x9 uT rfl ce155 rfl) ?_
  refine c6 3 rfl (a8 rfl (i9 (v := .pointer (some ⟨tb, 0, none⟩)) N3 oT rfl)) ?_
  refine c6 4 rfl (a8 rfl (i9 (v := .int .u64 (q : Int)) w5 oT rfl)) ?_
  refine tH (k := 5) sn rfl (by kernel_rfl) (by kernel_rfl) rfl rfl (l8 (Pre := []) (R := _) J161 rfl pr (fun w hw => zaQ E hEm hE tb mb (s7 n) ms g ht hn q hq w (Rd.at 3 rfl w hw) (Rd.at 4 rfl w hw) (hT.at hw)) ?_)
  rintro v L' ⟨tb2, m2, ms2, rfl, rfl, ht2⟩
  refine ⟨sd (sd (sk (sk (sk (sk (sk I8)))))), ?_⟩
  refine c6 6 rfl (m8 cw) ?_
  refine c6 7 rfl (s8 rfl rfl) ?_
  refine c6 8 rfl (s8 rfl rfl) ?_
  refine c6 9 rfl (G9 cw) ?_
  refine c6 10 rfl (G9 cw) ?_
  refine R2 sn (by kernel_rfl) ?_
  refine c8 ?_
  refine c8 ?_
  refine c7 ?_
  refine o8 ?_
  refine e6 (F0 uT rfl) ?_
  refine l3 ?_
  refine C4 rfl ?_
  refine w8 ?_
  refine c8 ?_
  refine c7 ?_
  refine o8 ?_
  refine e6 (H8 rfl) ?_
  refine e6 (x9 uT rfl ce158 rfl) ?_
  refine e6 (a8 rfl (i9 (v := .map (some sm)) tV oT rfl)) ?_
  refine e6 (E9 (fs := []) (cs := [.pointer (some ⟨b3, 0, none⟩)]) rfl rfl) ?_
  refine z7 (l8 (Pre := [u6 sm Q9 sv Y]) (R := _) J162 rfl pm4 (fun w hw => zcn sm b3 q Y w hw.sat.left (y9 hw (List.mem_of_getElem? (i := 2) rfl))) ?_)
  rintro v L' rfl
  refine l3 ?_
  refine c8 ?_
  refine D1 ([6, 9], []) mixed (sk (sk (sk (sk (sd (sk (sk I8))))))) ?_
  refine c6 0 rfl (m8 cw) ?_
  refine jU 1 rfl (m8 cw) ?_
  refine c6 2 rfl (m8 cw) ?_
  refine jU 3 rfl (a8 rfl (i9 (v := .int .u64 (q : Int)) tV oT rfl)) ?_
  refine c6 4 rfl (H8 rfl) ?_
  refine c6 5 rfl (x9 uT rfl ce155 rfl) ?_
  refine fH (k := 6) (sk (sk (sk (sk (sd (sk (sk I8))))))) rfl (by kernel_rfl) (by kernel_rfl) rfl (rI rfl cw cT rfl rfl (Nat.le_of_ble_eq_true rfl) ⟨sk (sk (sk (sk (sd (sk (sk I8)))))), ?_⟩)
  refine c6 7 rfl (H8 rfl) ?_
  refine c6 8 rfl (x9 uT rfl ce40 rfl) ?_
  refine fH (k := 9) (sk (sk (sk (sk (sd (sk (sk I8))))))) rfl (by kernel_rfl) (by kernel_rfl) rfl (rI rfl cw cT rfl rfl (Nat.le_of_ble_eq_true rfl) ⟨sk (sk (sk (sk (sd (sk (sk I8)))))), ?_⟩)
  refine R2 (sk (sk (sk (sk (sd (sk (sk I8))))))) (by kernel_rfl) ?_
  refine c8 ?_
  refine c7 ?_
  refine C3 ?_
  refine l3 ?_
  refine a9 (finQ.ret rv (Sub.trans (sk (sk (sk (sk (sd (sd (sd I8))))))) (Sub.trans (sk sr) (e5 pm4))) ?_)
  exact ⟨tb2, m2, ms2, rfl, rfl, ht2⟩
theorem zdv (qb : Nat) (A) (c : Nat) (B) (d : Nat) (o : Order) (hss : o.ss.length ≤ 65536) (hxx : o.xs.length ≤ 65536) (h : ¬ A7 o) (w0) (lw : ∀ x ∈ o.xs, x < 18446744073709551616) (hR : Ro w0 [] (SlA A (w6 o.xs))) (hS : Ro w0 [] (SlA B (o.ss.flatMap o4))) :
  cP 38 #[pZ qb, .agg (G3 A c B d o).toArray] w0 fun v L => v = .iface 73 (iI 2) ∧ L = [] := by
 refine co 84 [.tmp 4] func38 ?_
 refine gw ?_
 intro b3
 refine gw ?_
 refine e6 (a8 rfl (i4 (vs := G3 A c B d o) w5 rT ce58)) (u7 en (fun w hw => (by have q := cH A c B d o hss hxx w lw (Rd.ro hR w hw) (Rd.ro hS w hw); rw [decide_eq_false h] at q; exact q : cR 99 #[.agg (G3 A c B d o).toArray] w (.bool false))) (gw ?_))
 exact tR
theorem zdw (qb n sm tb : Nat) (A) (c : Nat) (B) (d : Nat) (o : Order) (hss : o.ss.length ≤ 65536) (hxx : o.xs.length ≤ 65536) (h : A7 o) (hf : ¬ T6 o n) (w0) (hQ : Ro w0 [] (Blk qb 160 [uI n, .map (some sm), pZ tb])) (lw : ∀ x ∈ o.xs, x < 18446744073709551616) (hR : Ro w0 [] (SlA A (w6 o.xs))) (hS : Ro w0 [] (SlA B (o.ss.flatMap o4))) :
  cP 38 #[pZ qb, .agg (G3 A c B d o).toArray] w0 fun v L => v = .iface 73 (iI 1) ∧ L = [] := by
 refine co 84 [.tmp 4] func38 ?_
 refine gw ?_
 intro b3
 refine gw ?_
 refine e6 (a8 rfl (i4 (vs := G3 A c B d o) w5 rT ce58)) (u7 en (fun w hw => (by have q := cH A c B d o hss hxx w lw (Rd.ro hR w hw) (Rd.ro hS w hw); rw [decide_eq_true h] at q; exact q : cR 99 #[.agg (G3 A c B d o).toArray] w (.bool true))) (gw ?_))
 refine dw ([], []) (c6 0 rfl (a8 rfl (i4 (vs := G3 A c B d o) w5 rT ce58)) (gw ?_))
 refine I7 5 rfl en (fun w hw => (by have q := kG A c B d o hss hxx n w lw (Rd.ro hR w hw) (Rd.ro hS w hw); rw [decide_eq_false hf] at q; exact q : cR 93 #[.agg (G3 A c B d o).toArray, uI n] w (.bool false))) (gw ?_)
 refine p7 (gw ?_)
 exact tR
theorem zdx (E : Nat → i6) (hEm : ∀ w, Tabs 3 1 w [] → cR 55 #[] w (.agg (m9 (H3 E)).toArray)) (hE : ∀ h, E (h + 1) = F8 (h + 1) (E h) (E h)) (hE0 : E 0 = K3 [0]) (cN : Nat) (hcN : cN < 4294967296) (qb n sm tb mb : Nat) (Y : Sm) (ms : Tm) (A) (c : Nat) (B) (d : Nat) (o : Order) (hss : o.ss.length ≤ 65536) (hxx : o.xs.length ≤ 65536) (hf : T6 o n) (hk : o.kind = 3) (hok : TruOk E n Y ms cN) (w0) (hL : Sat w0 [Blk qb 160 [uI n, .map (some sm), pZ tb], u6 sm Q9 sv Y, Blk tb 243 (q7 E (s7 n) mb), u6 mb p6 hv ms]) (lw : ∀ x ∈ o.xs, x < 18446744073709551616) (hR : Ro w0 (A8 [Blk qb 160 [uI n, .map (some sm), pZ tb], u6 sm Q9 sv Y, Blk tb 243 (q7 E (s7 n) mb), u6 mb p6 hv ms]) (SlA A (w6 o.xs))) (hS : Ro w0 (A8 [Blk qb 160 [uI n, .map (some sm), pZ tb], u6 sm Q9 sv Y, Blk tb 243 (q7 E (s7 n) mb), u6 mb p6 hv ms]) (SlA B (o.ss.flatMap o4))) (hT : Tabs 3 1 w0 (A8 [Blk qb 160 [uI n, .map (some sm), pZ tb], u6 sm Q9 sv Y, Blk tb 243 (q7 E (s7 n) mb), u6 mb p6 hv ms])) :
  Calls prog 38 #[pZ qb, .agg (G3 A c B d o).toArray] w0 (D0 w0 (A8 [Blk qb 160 [uI n, .map (some sm), pZ tb], u6 sm Q9 sv Y, Blk tb 243 (q7 E (s7 n) mb), u6 mb p6 hv ms]) fun v L => ∃ tb2 m2 ms2, v = .nilIface ∧ L = [Blk qb 160 [uI (o.blocks : Int), .map (some sm), pZ tb2], u6 sm Q9 sv (dH o.blocks Y), Blk tb2 243 (q7 E (s7 o.blocks) m2), u6 m2 p6 hv ms2] ∧ TruOk E o.blocks (dH o.blocks Y) ms2 cN) := by
 refine gW (L := [Blk qb 160 [uI n, .map (some sm), pZ tb], u6 sm Q9 sv Y, Blk tb 243 (q7 E (s7 n) mb), u6 mb p6 hv ms]) 84 [.tmp 4] func38 hL ?_
 refine gw ?_
 intro b3
 refine gw ?_
 refine e6 (a8 rfl (i4 (vs := G3 A c B d o) w5 rT ce58)) (u7 en (fun w hw => (by have q := cH A c B d o hss hxx w lw (Rd.ro hR w hw) (Rd.ro hS w hw); rw [decide_eq_true hf.1] at q; exact q : cR 99 #[.agg (G3 A c B d o).toArray] w (.bool true))) (gw ?_))
 refine dw ([], []) (c6 0 rfl (a8 rfl (i4 (vs := G3 A c B d o) w5 rT ce58)) (gw ?_))
 refine I7 5 rfl en (fun w hw => (by have q := kG A c B d o hss hxx n w lw (Rd.ro hR w hw) (Rd.ro hS w hw); rw [decide_eq_true hf] at q; exact q : cR 93 #[.agg (G3 A c B d o).toArray, uI n] w (.bool true))) (gw ?_)
 refine p7 (gw ?_)
 refine e6 (Qt.dT (I5 rfl rfl) (hk)) (gw ?_)
 refine z7 (l8 (Pre := [Blk qb 160 [uI n, .map (some sm), pZ tb], u6 sm Q9 sv Y, Blk tb 243 (q7 E (s7 n) mb), u6 mb p6 hv ms]) (R := _) en rfl (pm1.trans (pc (pm1.trans (pc (pm1.trans (pc pm1)))))) (fun w hw => zax E hEm hE qb n sm tb mb Y ms _ hok.ok (hok.cnt hE0 hcN) o.blocks (N5 hf hk) w hw.sat.left (hT.pre hw)) ?_)
 rintro v L' ⟨tb2, m2, ms2, rfl, rfl, ht2⟩
 refine gw ?_
 refine a9 (D7 (sx [0, 0, 0, 0]) ?_)
 exact ⟨tb2, m2, ms2, rfl, rfl, hok.cut hE0 (N5 hf hk) ht2⟩
theorem zdy (E : Nat → i6) (hEm : ∀ w, Tabs 3 1 w [] → cR 55 #[] w (.agg (m9 (H3 E)).toArray)) (hE0 : E 0 = K3 [0]) (cN : Nat) (qb n sm tb mb : Nat) (Y : Sm) (ms : Tm) (A) (c : Nat) (B) (d : Nat) (o : Order) (hss : o.ss.length ≤ 65536) (hxx : o.xs.length ≤ 65536) (hf : T6 o n) (hk : o.kind ≠ 3) (hok : TruOk E n Y ms cN) (w0) (hL : Sat w0 [Blk qb 160 [uI n, .map (some sm), pZ tb], u6 sm Q9 sv Y, Blk tb 243 (q7 E (s7 n) mb), u6 mb p6 hv ms]) (lw : ∀ x ∈ o.xs, x < 18446744073709551616) (hR : Ro w0 (A8 [Blk qb 160 [uI n, .map (some sm), pZ tb], u6 sm Q9 sv Y, Blk tb 243 (q7 E (s7 n) mb), u6 mb p6 hv ms]) (SlA A (w6 o.xs))) (hS : Ro w0 (A8 [Blk qb 160 [uI n, .map (some sm), pZ tb], u6 sm Q9 sv Y, Blk tb 243 (q7 E (s7 n) mb), u6 mb p6 hv ms]) (SlA B (o.ss.flatMap o4))) (hT : Tabs 3 1 w0 (A8 [Blk qb 160 [uI n, .map (some sm), pZ tb], u6 sm Q9 sv Y, Blk tb 243 (q7 E (s7 n) mb), u6 mb p6 hv ms])) :
  Calls prog 38 #[pZ qb, .agg (G3 A c B d o).toArray] w0 (D0 w0 (A8 [Blk qb 160 [uI n, .map (some sm), pZ tb], u6 sm Q9 sv Y, Blk tb 243 (q7 E (s7 n) mb), u6 mb p6 hv ms]) fun v L => ∃ ms2, v = .nilIface ∧ L = [Blk qb 160 [uI n, .map (some sm), pZ tb], u6 sm Q9 sv (kV o Y o.xs.length), Blk tb 243 (q7 E (s7 n) mb), u6 mb p6 hv ms2] ∧ TruOk E n (kV o Y o.xs.length) ms2 (cN + o.xs.length)) := by
 refine gW (L := [Blk qb 160 [uI n, .map (some sm), pZ tb], u6 sm Q9 sv Y, Blk tb 243 (q7 E (s7 n) mb), u6 mb p6 hv ms]) 84 [.tmp 4] func38 hL ?_
 have hh := aL hok.on
 have hnl := gK hok.on
 refine gw ?_
 intro b3
 refine gw ?_
 refine e6 (a8 rfl (i4 (vs := G3 A c B d o) w5 rT ce58)) ?_
 refine u7 en (fun w hw => (by have q := cH A c B d o hss hxx w lw (Rd.ro hR w hw) (Rd.ro hS w hw); rw [decide_eq_true hf.1] at q; exact q : cR 99 #[.agg (G3 A c B d o).toArray] w (.bool true))) (gw ?_)
 refine dw ([], []) ?_
 refine c6 0 rfl (a8 rfl (i4 (vs := G3 A c B d o) w5 rT ce58)) (gw ?_)
 refine I7 5 rfl en (fun w hw => (by have q := kG A c B d o hss hxx n w lw (Rd.ro hR w hw) (Rd.ro hS w hw); rw [decide_eq_true hf] at q; exact q : cR 93 #[.agg (G3 A c B d o).toArray, uI n] w (.bool true))) (gw ?_)
 refine p7 (gw ?_)
 refine e6 (Qt.dF (I5 rfl rfl) (hk)) (gw ?_)
 refine e6 (a8 rfl (i4 (vs := G3 A c B d o) w5 rT ce58)) ?_
 refine z9 en (fun w hw => zdO E hEm hE0 A c B d o hss hxx hf.1 hk w lw (Rd.ro hR w hw) (Rd.ro hS w hw) (hT.at hw)) ?_
 rintro v L' ⟨O, q2, rfl, rfl⟩
 refine gw ?_
 refine l5 (γ := Nat × Tm) (mr 47 37 [4, 7, 8, 9]) (fun g => [(47, iI g.1)]) (fun g => [OwnA 49 32 O o.xs.length q2 (m9 ((List.range o.xs.length).map (eW o))), Blk qb 160 [uI n, .map (some sm), pZ tb], u6 sm Q9 sv (kV o Y g.1), Blk tb 243 (q7 E (s7 n) mb), u6 mb p6 hv g.2, Blk b3 58 (G3 A c B d o)]) (fun g => g.1 ≤ o.xs.length ∧ TruOk E n (kV o Y g.1) g.2 (cN + g.1)) (fun g => o.xs.length - g.1) ((0, ms))
  ⟨Nat.zero_le _, hok⟩ oa (sk sp) ?_
 rintro ⟨k, ms2⟩ u ⟨hk4, hok2⟩
 dsimp only at hk4 hok2
 refine gw ?_
 refine j0 rfl rfl (p9 rfl rfl) (fun h48 => gw ?_) (fun h48 => gw ?_)
 ·refine e6 (i5 uT cT rfl rfl ow (c9 hR) (by rw [D5]; omega)) ?_
  refine e6 (a8 rfl (A9 (v := uI ↑(o.xs.getD k 0)) (c9 hR) oT (F6 ow))) ?_
  have hxk : (o.xs.getD k 0) < n := hf.2 _ (E6 0 ow)
  refine gw ?_
  refine j9 rfl (zbL (k := (o.xs.getD k 0)) rfl uT Tryz.keyU rfl rfl ?_)
  refine gw ?_
  refine j0 rfl rfl (I5 rfl rfl) (fun h59 => gw ?_) (fun h59 => gw ?_)
  ·refine D1 ([10], []) mixed (sk (sk (sd (sk (sk (sk I8)))))) (gw ?_)
   refine c6 8 rfl (i5 uT cT rfl rfl (by have := jJ hf.1 h59; omega) (c9 hS) (by rw [K2]; have := jJ hf.1 h59; omega)) ?_
   refine c6 9 rfl (a8 rfl (H4 (vs := o4 (o.ss.getD k A4)) (c9 hS) rT (by rw [k9]; exact ce136) (by rw [k9]; decide) (X6 (by have := jJ hf.1 h59; omega) rfl))) ?_
   refine F7 10 rfl (zbN (k := (o.xs.getD k 0)) (a := (o.ss.getD k A4)) uT Tryz.keyU rfl rfl rfl (G0 ?_))
   refine p7 (gw ?_)
   refine D1 ([9], []) mixed (sk (sk (sk (sd (sd (sk I8)))))) (gw ?_)
   refine c6 7 rfl (i5 uT cT rfl rfl ow (x8 w5) (by rw [m7, List.length_map, List.length_range]; omega)) ?_
   refine c6 8 rfl (n8 (a8 rfl (E4 (l := (List.range o.xs.length).map (eW o)) (x8 w5) k rT ce49 (by rw [List.length_map, List.length_range]; omega) rfl)) (by rw [DS o ow])) ?_
   refine V5 9 rfl (l8 (Pre := [Blk tb 243 (q7 E (s7 n) mb), u6 mb p6 hv ms2]) (R := _) en rfl (pm3.trans (pc pm3)) (fun w hw => xK E tb mb (s7 n) ms2 (o.xs.getD k 0) (eW o k) hh ow w hw.sat.left (hT.pre hw)) ?_)
   rintro v L' ⟨rfl, rfl⟩
   refine G0 (gw ?_)
   refine p7 (gw ?_)
   refine ⟨(k + 1, mG E ms2 (o.xs.getD k 0) (eW o k) (s7 n)), ?_, od, oz, (by dsimp only; rw [zjC h59]; exact sp)⟩
   exact ⟨by show _ ≤ _; dsimp only; omega, hok2.step hxk⟩
  ·refine D1 ([9], []) mixed (sk (sk (sk (sd (sd (sk I8)))))) (gw ?_)
   refine c6 7 rfl (i5 uT cT rfl rfl ow (x8 w5) (by rw [m7, List.length_map, List.length_range]; omega)) ?_
   refine c6 8 rfl (n8 (a8 rfl (E4 (l := (List.range o.xs.length).map (eW o)) (x8 w5) k rT ce49 (by rw [List.length_map, List.length_range]; omega) rfl)) (by rw [DS o ow])) ?_
   refine V5 9 rfl (l8 (Pre := [Blk tb 243 (q7 E (s7 n) mb), u6 mb p6 hv ms2]) (R := _) en rfl (pm3.trans (pc pm3)) (fun w hw => xK E tb mb (s7 n) ms2 (o.xs.getD k 0) (eW o k) hh ow w hw.sat.left (hT.pre hw)) ?_)
   rintro v L' ⟨rfl, rfl⟩
   refine G0 (gw ?_)
   refine p7 (gw ?_)
   refine ⟨(k + 1, mG E ms2 (o.xs.getD k 0) (eW o k) (s7 n)), ?_, od, oz, (by dsimp only; rw [zjD h59]; exact sp)⟩
   exact ⟨by show _ ≤ _; dsimp only; omega, hok2.step hxk⟩
 ·refine i7 (c8 (gw ?_))
  refine a9 (D7 (sT (sk (sk (sk (sk (sd (sd I8)))))) (sT (sk (sT (sk (sT (sk (sT (sk sr) (e5 pm1))) (e5 pm1))) (e5 pm1))) (e5 pm1))) ?_)
  obtain rfl : k = o.xs.length := by omega
  exact ⟨ms2, rfl, rfl, hok2⟩
theorem CB {w : World} {M : List Nat} {A : Assn} (h : Ro w M A) : Ro w [] A := ⟨h.1, fun b hb => ⟨(h.2 b hb).1, fun k => by cases k⟩⟩
theorem rD {P : Program} {f : FuncId} {args : Array Value} {w : World} {L : List Assn} {u : Value} {φ : Value → List Assn → Prop} (hL : Sat w L) (h : Calls P f args w (nX w u)) (hφ : φ u L) : Calls P f args w (D0 w (A8 L) φ) :=
 h.mono fun e w' ⟨h1, h2⟩ => ⟨u, L, h1, (eJ hL).after0 h2, hφ⟩
theorem zjc (E : Nat → i6) (hEm : ∀ w, Tabs 3 1 w [] → cR 55 #[] w (.agg (m9 (H3 E)).toArray)) (hE : ∀ h, E (h + 1) = F8 (h + 1) (E h) (E h)) (hE0 : E 0 = K3 [0]) (cN : Nat) (hcN : cN < 4294967296) (qb n sm tb mb : Nat) (Y : Sm) (ms : Tm) (A) (c : Nat) (B) (d : Nat) (o : Order) (hss : o.ss.length ≤ 65536) (hxx : o.xs.length ≤ 65536) (hok : TruOk E n Y ms cN) (w0) (hL : Sat w0 [Blk qb 160 [uI n, .map (some sm), pZ tb], u6 sm Q9 sv Y, Blk tb 243 (q7 E (s7 n) mb), u6 mb p6 hv ms]) (lw : ∀ x ∈ o.xs, x < 18446744073709551616) (hR : Ro w0 (A8 [Blk qb 160 [uI n, .map (some sm), pZ tb], u6 sm Q9 sv Y, Blk tb 243 (q7 E (s7 n) mb), u6 mb p6 hv ms]) (SlA A (w6 o.xs))) (hS : Ro w0 (A8 [Blk qb 160 [uI n, .map (some sm), pZ tb], u6 sm Q9 sv Y, Blk tb 243 (q7 E (s7 n) mb), u6 mb p6 hv ms]) (SlA B (o.ss.flatMap o4))) (hT : Tabs 3 1 w0 (A8 [Blk qb 160 [uI n, .map (some sm), pZ tb], u6 sm Q9 sv Y, Blk tb 243 (q7 E (s7 n) mb), u6 mb p6 hv ms])) :
  Calls prog 38 #[pZ qb, .agg (G3 A c B d o).toArray] w0 (D0 w0 (A8 [Blk qb 160 [uI n, .map (some sm), pZ tb], u6 sm Q9 sv Y, Blk tb 243 (q7 E (s7 n) mb), u6 mb p6 hv ms]) fun v L => ∃ tb2 mb2 ms2, v = HX 73 (yC o n) ∧ L = [Blk qb 160 [uI ((BK o n) : Int), .map (some sm), pZ tb2], u6 sm Q9 sv (CN o n Y), Blk tb2 243 (q7 E (s7 (BK o n)) mb2), u6 mb2 p6 hv ms2] ∧ TruOk E (BK o n) (CN o n Y) ms2 (cN + o.xs.length)) := by
 by_cases hf : T6 o n
 ·have e1 : yC o n = 0 := by rw [yC, if_pos hf]
  by_cases hk : o.kind = 3
  ·rw [e1, show BK o n = o.blocks by rw [BK, if_pos ⟨hf, hk⟩], show CN o n Y = dH o.blocks Y by rw [CN, if_pos hf, if_pos hk]]
   exact (zdx E hEm hE hE0 cN hcN qb n sm tb mb Y ms A c B d o hss hxx hf hk hok w0 hL lw hR hS hT).mono fun e w ⟨v, L, h1, h2, tb2, m2, ms2, h3, h4, h5⟩ => ⟨v, L, h1, h2, tb2, m2, ms2, h3, h4, h5.mono (Nat.le_add_right _ _)⟩
  ·rw [e1, show BK o n = n by rw [BK, if_neg (fun h => hk h.2)], show CN o n Y = kV o Y o.xs.length by rw [CN, if_pos hf, if_neg hk]]
   exact (zdy E hEm hE0 cN qb n sm tb mb Y ms A c B d o hss hxx hf hk hok w0 hL lw hR hS hT).mono fun e w ⟨v, L, h1, h2, ms2, h3, h4, h5⟩ => ⟨v, L, h1, h2, tb, mb, ms2, h3, h4, h5⟩
 ·rw [show BK o n = n by rw [BK, if_neg (fun h => hf h.1)], show CN o n Y = Y by rw [CN, if_neg hf]]
  by_cases hr : A7 o
  ·rw [show yC o n = 1 by rw [yC, if_neg hf, if_pos hr]]
   exact rD hL (cQ (zdw qb n sm tb A c B d o hss hxx hr hf w0 (Rd.at (C := ⟨prog, 0, w0, A8 [Blk qb 160 [uI n, .map (some sm), pZ tb], u6 sm Q9 sv Y, Blk tb 243 (q7 E (s7 n) mb), u6 mb p6 hv ms], none⟩) (L := [Blk qb 160 [uI n, .map (some sm), pZ tb], u6 sm Q9 sv Y, Blk tb 243 (q7 E (s7 n) mb), u6 mb p6 hv ms]) 0 rfl w0 (eJ hL)) lw (CB hR) (CB hS))) ⟨tb, mb, ms, rfl, rfl, hok.mono (Nat.le_add_right _ _)⟩
  ·rw [show yC o n = 2 by rw [yC, if_neg hf, if_neg hr]]
   exact rD hL (cQ (zdv qb A c B d o hss hxx hr w0 lw (CB hR) (CB hS))) ⟨tb, mb, ms, rfl, rfl, hok.mono (Nat.le_add_right _ _)⟩
end Go.Proofs.YtgdjcmehlhebdaaGreatDoor
