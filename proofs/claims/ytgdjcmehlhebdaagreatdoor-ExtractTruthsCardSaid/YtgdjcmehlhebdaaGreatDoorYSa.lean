/- Walks: lists of hashes put together; a row joined by twos, the texts kept -/
import Derived.Test.YtgdjcmehlhebdaaGreatDoorYW
set_option maxHeartbeats 25600000
set_option linter.all false
namespace Go.Proofs.YtgdjcmehlhebdaaGreatDoor
open _root_.Go.Proofs.Tryz
open Go.E
set_option maxRecDepth 4000
theorem zbh (n : Nat) (h1 : 1 ≤ n) (h2 : n ≤ 65536) (w0 : World) :
    Calls prog 182 #[.slice none 0 0, .int .i64 (n : Int)] w0 (D0 w0 [] fun v L => ∃ O d, v = .slice O 0 d ∧ L = [OwnA 49 32 O 0 d ([])]) := by
  refine N4 (L := []) (n := 27) (rs := [.tmp 4]) func182 rfl rfl rfl (Nat.le_of_ble_eq_true rfl) (Sat.nil _) ?_
  refine c8 ?_
  refine c7 ?_
  refine C3 ?_
  refine l3 ?_
  refine c8 ?_
  refine c8 ?_
  refine c7 ?_
  refine o8 ?_
  refine e6 (Qt.dF (p9 (b := 0) rfl rfl) ow) ?_
  refine l3 ?_
  refine C4 rfl ?_
  refine w8 ?_
  refine c8 ?_
  refine c8 ?_
  refine c7 ?_
  refine o8 ?_
  refine o8 ?_
  refine e6 (tL uT rfl) ?_
  refine o8 ?_
  refine e6 (D6 uT rfl) ?_
  refine e6 (o7 (a := 0) (b := 0) rfl rfl (Nat.le_refl _) km) ?_
  refine e6 (n8 (o7 (b := 0) rfl rfl ow km) (by rw [Nat.sub_zero])) ?_
  refine C3 ?_
  refine l3 ?_
  refine c8 ?_
  refine c7 ?_
  refine o8 ?_
  refine e6 (Qt.dT (M0 (b := 0) rfl rfl) ow) ?_
  refine l3 ?_
  refine Q3 rfl ?_
  refine c7 ?_
  refine o8 ?_
  refine o8 ?_
  refine e6 (tL uT rfl) ?_
  refine e6 (T3 (h := 0) uT cT rfl rfl (Nat.le_refl _)) ?_
  refine o8 ?_
  refine z7 (CT uT uT elem49 rfl rfl ow (by simp only [maxLen]; omega) ow (fun n1 c1 cs1 hc1 hm1 hl1 => ?_))
  refine o8 ?_
  refine e6 (D6 uT rfl) ?_
  refine e6 (T3 (h := 0) uT cT rfl rfl (Nat.zero_le _)) ?_
  refine C3 ?_
  refine l3 ?_
  refine c8 ?_
  refine c7 ?_
  refine TL.shutOwn (n := 0) (sz := 32) (hl1) (Nat.zero_le _) (hm1) pr ?_
  rw [Nat.zero_mul, List.take_zero]
  refine o8 ?_
  refine C3 ?_
  refine l3 ?_
  refine a9 (finQ.ret rv sr ?_)
  exact ⟨some ⟨n1, 0, none⟩, c1, rfl, rfl⟩
theorem zas (A) (c : Nat) (ss : List Hx) (hn : ss.length ≤ 16) (h1 : 1 ≤ (jT ss ss.length).length) (h2 : (jT ss ss.length).length ≤ 65536) (w0) (hR : Ro w0 [] (SlA A (ss.flatMap LC))) (hS : ∀ t ∈ ss, Ro w0 [] (SlA t.1 (m9 t.2.2))) :
  cP 122 #[sL A ss.length c] w0 fun v L => ∃ O d, v = sL O (jT ss ss.length).length d ∧ L = [OwnA 49 32 O (jT ss ss.length).length d (m9 (jT ss ss.length))] := by
 refine co 36 [.tmp 2] func122 ?_
 refine gw ?_
 refine l5 (γ := Nat) (mr 11 12 [3, 5]) (fun k => [(11, iI k), (3, iI ↑((jT ss k).length))]) (fun _ => _) (fun k => k ≤ ss.length) (fun k => ss.length - k) (0)
  (Nat.zero_le _) oa sr ?_
 rintro k u hk
 have hc1 : k < ss.length → (jT ss (k + 1)).length = (jT ss k).length + (ss.getD k zA).2.2.length := BI
 have hc2 : k < ss.length → (jT ss (k + 1)).length ≤ (jT ss ss.length).length := fun h => IU ss h (Nat.le_refl _)
 refine gw ?_
 refine j0 rfl rfl (p9 rfl rfl) (fun h12 => gw ?_) (fun h12 => gw ?_)
 ·refine e6 (i5 uT cT rfl rfl ow (c9 hR) (by rw [IX]; omega)) (e6 (a8 rfl (A9 (v := sL (ss.getD k zA).1 (ss.getD k zA).2.2.length (ss.getD k zA).2.1) (c9 hR) oT (KI ow))) (gw ?_))
  refine e6 (v4 rfl rfl km) (gw ?_)
  refine e6 (Qt.dF (p9 (b := 0) rfl rfl) ow) (gw ?_)
  refine ⟨k + 1, ?_, ?_, ⟨?_, (fm rfl (fm (by show iI ↑((jT ss k).length + (ss.getD k zA).2.2.length) = iI ↑((jT ss (k + 1)).length); rw [hc1 ow]) nb))⟩, sr⟩
  ·show _ ≤ _; omega
  ·show _ < _; dsimp only; omega
  exact K8
 ·refine i7 (c8 (c7 (o8 ?_)))
  obtain rfl : k = ss.length := by omega
  refine z9 en (fun w hw => zbh (jT ss ss.length).length h1 h2 w) ?_
  rintro v L' ⟨O0, d0, rfl, rfl⟩
  refine gw ?_
  refine l5 (γ := Nat × y8 × Nat) (mr 27 8 [6, 8]) (fun g => [(27, iI g.1), (6, sL g.2.1 (jT ss g.1).length g.2.2)]) (fun g => [OwnA 49 32 g.2.1 (jT ss g.1).length g.2.2 (m9 (jT ss g.1))]) (fun g => g.1 ≤ ss.length) (fun g => ss.length - g.1) ((0, O0, d0))
   (Nat.zero_le _) oa sr ?_
  rintro ⟨j, O, d⟩ u hk
  dsimp only at hk
  have hc1 : j < ss.length → (jT ss (j + 1)).length = (jT ss j).length + (ss.getD j zA).2.2.length := BI
  have hc2 : j < ss.length → (jT ss (j + 1)).length ≤ (jT ss ss.length).length := fun h => IU ss h (Nat.le_refl _)
  refine gw ?_
  refine j0 rfl rfl (p9 rfl rfl) (fun h28 => gw ?_) (fun h28 => gw ?_)
  ·refine e6 (i5 uT cT rfl rfl ow (c9 hR) (by rw [IX]; omega)) (e6 (a8 rfl (A9 (v := sL (ss.getD j zA).1 (ss.getD j zA).2.2.length (ss.getD j zA).2.1) (c9 hR) oT (KI ow))) (gw ?_))
   refine z7 (Y6 (news := m9 (ss.getD j zA).2.2) uT elem49 rfl rfl (c9 (hS _ (E6 zA ow))) (by rw [m7]) (lK _) (by have a := hc1 ow; have b := hc2 ow; simp only [maxLen]; omega) (by show ((jT ss j).length + (ss.getD j zA).2.2.length) * 32 ≤ 140737488355328; have a := hc1 ow; have b := hc2 ow; omega) (fun O3 d3 => (gw ?_)))
   refine ⟨(j + 1, O3, d3), ?_, ?_, ⟨?_, (fm rfl (fm (by show sL O3 ((jT ss j).length + (ss.getD j zA).2.2.length) d3 = sL O3 (jT ss (j + 1)).length d3; rw [hc1 ow]) nb))⟩, (by dsimp only; rw [hc1 ow, DC ow, M3]; exact sr)⟩
   ·show _ ≤ _; dsimp only; omega
   ·show _ < _; dsimp only; omega
   exact K8
  ·refine i7 (c8 (gw ?_))
   refine a9 (D7 sr ?_)
   obtain rfl : j = ss.length := by omega
   exact ⟨O, d, rfl, rfl⟩
theorem gB (cb : Nat) (Ot0 : y8) (tt : List Tx) (dt0 : Nat) (lv : Nat) (h1 : 1 ≤ lv) (h2 : lv ≤ 32) (A : y8) (m c : Nat) (xs : List i6) (hm : xs.length = 2 * m) (hc : 2 * m ≤ c) (hcm : c ≤ 9223372036854775807) (hb : tt.length + m ≤ 16384) (w0 : World) (h0 : Sat w0 [Blk cb 229 [.slice Ot0 (tt).length dt0], OwnA 112 1 Ot0 (tt).length dt0 ((tt).flatMap aI), C1 ((tt).map u3)]) (hR : Ro w0 (A8 [Blk cb 229 [.slice Ot0 (tt).length dt0], OwnA 112 1 Ot0 (tt).length dt0 ((tt).flatMap aI), C1 ((tt).map u3)]) (SlA A (m9 xs))) (hT : Tabs 3 1 w0 (A8 [Blk cb 229 [.slice Ot0 (tt).length dt0], OwnA 112 1 Ot0 (tt).length dt0 ((tt).flatMap aI), C1 ((tt).map u3)])) :
  Calls prog 123 #[.pointer (some ⟨cb, 0, none⟩), .int .i64 (lv : Int), .slice A (2 * m) c] w0 (D0 w0 (A8 [Blk cb 229 [.slice Ot0 (tt).length dt0], OwnA 112 1 Ot0 (tt).length dt0 ((tt).flatMap aI), C1 ((tt).map u3)]) fun v L => ∃ O d Ot dt, ∃ t3 : List Tx, v = .tuple #[.slice O m d, .nilIface] ∧ L = [OwnA 49 32 O m d (m9 ((List.finRange m).map (fun i : Fin m => N8 lv xs i.val))), Blk cb 229 [.slice Ot (t3).length dt], OwnA 112 1 Ot (t3).length dt ((t3).flatMap aI), C1 ((t3).map u3)] ∧ (t3).map (fun t => t.2.2) = (tt).map (fun t => t.2.2) ++ (List.finRange m).map (fun i : Fin m => x5 lv (xs.getD (2 * i.val) e7) (xs.getD (2 * i.val + 1) e7))) := by
 refine gW (L := [Blk cb 229 [.slice Ot0 (tt).length dt0], OwnA 112 1 Ot0 (tt).length dt0 ((tt).flatMap aI), C1 ((tt).map u3)]) 35 [.cell 6 33, .cell 7 51] func123 h0 ?_
 refine m6 49 32 (gw ?_)
 intro b3
 refine gw ?_
 intro b4
 refine gw ?_
 intro b6
 refine gw ?_
 intro b7
 refine gw ?_
 intro b8
 refine gw ?_
 refine z9 J132 (fun w hw => rS A (2 * m) c 2 (by decide) w) ?_
 rintro v L' ⟨c2, c3, rfl, rfl⟩
 refine gw ?_
 refine gJ (α := Fin m) (fun i : Fin m => [Value.slice (A.map (·.add (2 * i.val * 32))) 2 2]) (fun ys => ys = List.finRange m) (fun _ => True) (fun ys : List (Fin m) => ∃ j, j ≤ m ∧ ys = (List.finRange m).take j) (fun pre L' => ∃ O d Ot dt, ∃ t3 : List Tx, L' = [Blk b8 33 [.slice O pre.length d], OwnA 49 32 O pre.length d (m9 (pre.map (fun i : Fin m => N8 lv xs i.val))), Blk cb 229 [.slice Ot (t3).length dt], OwnA 112 1 Ot (t3).length dt ((t3).flatMap aI), C1 ((t3).map u3)] ∧ (t3).map (fun t => t.2.2) = (tt).map (fun t => t.2.2) ++ pre.map (fun i : Fin m => x5 lv (xs.getD (2 * i.val) e7) (xs.getD (2 * i.val + 1) e7))) (fun _ _ _ => False) (L0 := [Blk b8 33 [.slice none ([] : List (Fin m)).length 0], OwnA 49 32 none ([] : List (Fin m)).length 0 (m9 (([] : List (Fin m)).map (fun i : Fin m => N8 lv xs i.val))), Blk cb 229 [.slice Ot0 (tt).length dt0], OwnA 112 1 Ot0 (tt).length dt0 ((tt).flatMap aI), C1 ((tt).map u3)]) rfl rfl J186 rfl (fun _ => rfl) (pm2.trans (pc (pm6.trans (pc (pm6.trans (pc (pm6.trans (pc pm6)))))))) ⟨none, 0, Ot0, dt0, tt, rfl, (List.append_nil _).symm⟩ (fun w L' hw => uX A m c 2 (by decide) hc hcm c2 c3 w L' hw.sat.left (y9 hw (.tail _ (.head _))) (y9 hw (.head _))) ?_ ?_ (fun _ _ _ _ _ h => h.elim)
 ·rintro w' l Dd Rr Rb pre x L' hPf ⟨O, d, Ot, dt, t3, rfl, e3⟩ hst
  have hpl : pre.length + 1 ≤ m := by obtain ⟨j, hj, e⟩ := hPf; have q := congrArg List.length e; rw [s9, List.length_take, List.length_finRange] at q; omega
  have htl : t3.length = tt.length + pre.length := by have q := congrArg List.length e3; rw [List.length_append, List.length_map, List.length_map, List.length_map] at q; exact q
  have hP : Ro w' (A8 (Rr :: eQ Dd :: [Blk b8 33 [.slice O pre.length d], OwnA 49 32 O pre.length d (m9 (pre.map (fun i : Fin m => N8 lv xs i.val))), Blk cb 229 [.slice Ot (t3).length dt], OwnA 112 1 Ot (t3).length dt ((t3).flatMap aI), C1 ((t3).map u3)])) (SlA (A.map (·.add (2 * x.val * 32))) (m9 [(xs.getD (2 * x.val) e7), (xs.getD (2 * x.val + 1) e7)])) := by
   rw [← zQ hm x.isLt]; exact (u5 hst hR).part _ _
  have hLv : Ro w' (A8 (Rr :: eQ Dd :: [Blk b8 33 [.slice O pre.length d], OwnA 49 32 O pre.length d (m9 (pre.map (fun i : Fin m => N8 lv xs i.val))), Blk cb 229 [.slice Ot (t3).length dt], OwnA 112 1 Ot (t3).length dt ((t3).flatMap aI), C1 ((t3).map u3)])) (Blk b4 3 [.int .i64 (lv : Int)]) := y9 hst (List.mem_of_getElem? (i := 4) rfl)
  have hCb : Ro w' (A8 (Rr :: eQ Dd :: [Blk b8 33 [.slice O pre.length d], OwnA 49 32 O pre.length d (m9 (pre.map (fun i : Fin m => N8 lv xs i.val))), Blk cb 229 [.slice Ot (t3).length dt], OwnA 112 1 Ot (t3).length dt ((t3).flatMap aI), C1 ((t3).map u3)])) (Blk b3 227 [.pointer (some ⟨cb, 0, none⟩)]) := y9 hst (List.mem_of_getElem? (i := 5) rfl)
  have hT2 := Tabs.pre hT hst
  refine gw ?_
  refine ⟨_, sr, ?_⟩
  refine gw ?_
  refine dw ([8, 13], [12]) (gw ?_)
  refine c6 3 rfl (i5 (i := 0) uT cT rfl rfl (by decide) (c9 hP) (by rw [m7]; show 0 * 32 < 2 * 32; decide)) ?_
  refine c6 4 rfl (a8 rfl (E4 (l := [(xs.getD (2 * x.val) e7), (xs.getD (2 * x.val + 1) e7)]) (c9 hP) 0 rT ce49 (show 0 < 2 by decide) rfl)) (gw ?_)
  refine c6 6 rfl (i5 (i := 1) uT cT rfl rfl (by decide) (c9 hP) (by rw [m7]; show 1 * 32 < 2 * 32; decide)) ?_
  refine c6 7 rfl (a8 rfl (E4 (l := [(xs.getD (2 * x.val) e7), (xs.getD (2 * x.val + 1) e7)]) (c9 hP) 1 rT ce49 (show 1 < 2 by decide) rfl)) ?_
  refine zi3 (k1 := 12) (k2 := 8) sn rfl rfl (by kernel_rfl) (by kernel_rfl) rfl rfl rfl rfl ?_ ?_
  ·refine (z4 zT (fun b10 => (G0 ?_)))
   refine V5 8 rfl (l8 (Pre := [Blk cb 229 [.slice Ot (t3).length dt], OwnA 112 1 Ot (t3).length dt ((t3).flatMap aI), C1 ((t3).map u3)]) (R := _) J183 rfl (pm5.trans (pc (pm5.trans (pc pm5)))) (fun w hw => fU cb Ot t3 dt lv h1 h2 (xs.getD (2 * x.val) e7) (xs.getD (2 * x.val + 1) e7) ow w hw.sat.left (hT2.pre hw)) ?_)
   rintro v L' ⟨O5, d5, t, rfl, rfl, et⟩
   refine G0 (gw ?_)
   refine F7 13 rfl (R5 (v := hv (N8 lv xs x.val)) rfl rfl (o5 ce49) (N7 _) (v9 _) (G0 ?_))
   refine gw ?_
   refine p7 (gw ?_)
   refine z7 (m5 (bytes := 32) (v := hv (N8 lv xs x.val)) uT elem49 (by decide) rfl (v9 _) (fun g32 => ?_))
   refine z7 (CS (bytes := 32) (news := L8 (N8 lv xs x.val)) uT elem49 rfl rfl (j8 (cs := L8 (N8 lv xs x.val)) w5) (by rw [l6]) (r9 _) (by simp only [maxLen]; omega) ow (fun O' d' => ?_))
   refine j9 rfl (fM rfl cw (by exact ce33) (by rfl) (by rfl) ?_)
   refine gw ?_
   refine ⟨_, Sub.trans (sk (sk (sk (sk (sk (sk (sk (sd (sd I8))))))))) (Sub.trans (sk (Sub.trans (sk (Sub.trans (sk (Sub.trans (sk (Sub.trans (sk (Sub.trans (sk (Sub.trans (sk sr) (e5 pm1))) (e5 pm1))) (e5 pm1))) (e5 pm5))) (e5 pm5))) (e5 pm5))) (e5 pm5)), O', d', O5, d5, t3 ++ [t], ?_, ?_⟩
   ·simp only [s9, List.map_append, M3, List.map_cons, List.map_nil, N6, iZ, List.append_nil]
    rfl
   ·rw [List.map_append, List.map_append, e3, List.append_assoc, List.map_singleton, List.map_singleton, et]
  ·refine (l8 (Pre := [Blk cb 229 [.slice Ot (t3).length dt], OwnA 112 1 Ot (t3).length dt ((t3).flatMap aI), C1 ((t3).map u3)]) (R := _) J183 rfl (pm4.trans (pc (pm4.trans (pc pm4)))) (fun w hw => fU cb Ot t3 dt lv h1 h2 (xs.getD (2 * x.val) e7) (xs.getD (2 * x.val + 1) e7) ow w hw.sat.left (hT2.pre hw)) ?_)
   rintro v L' ⟨O5, d5, t, rfl, rfl, et⟩
   refine G0 (gw ?_)
   refine aO 12 rfl (z4 zT (fun b10 => (G0 ?_)))
   refine F7 13 rfl (j5 (v := hv (N8 lv xs x.val)) rfl rfl (o5 ce49) (N7 _) (v9 _) (G0 ?_))
   refine gw ?_
   refine p7 (gw ?_)
   refine z7 (m5 (bytes := 32) (v := hv (N8 lv xs x.val)) uT elem49 (by decide) rfl (v9 _) (fun g32 => ?_))
   refine z7 (CS (bytes := 32) (news := L8 (N8 lv xs x.val)) uT elem49 rfl rfl (j8 (cs := L8 (N8 lv xs x.val)) w5) (by rw [l6]) (r9 _) (by simp only [maxLen]; omega) ow (fun O' d' => ?_))
   refine j9 rfl (fM rfl cw (by exact ce33) (by rfl) (by rfl) ?_)
   refine gw ?_
   refine ⟨_, Sub.trans (sk (sk (sk (sk (sk (sk (sk (sd (sd I8))))))))) (Sub.trans (sk (Sub.trans (sk (Sub.trans (sk (Sub.trans (sk (Sub.trans (sk (Sub.trans (sk (Sub.trans (sk sr) (e5 pm2))) (e5 pm2))) (e5 pm2))) (e5 pm5))) (e5 pm5))) (e5 pm5))) (e5 pm5)), O', d', O5, d5, t3 ++ [t], ?_, ?_⟩
   ·simp only [s9, List.map_append, M3, List.map_cons, List.map_nil, N6, iZ, List.append_nil]
    rfl
   ·rw [List.map_append, List.map_append, e3, List.append_assoc, List.map_singleton, List.map_singleton, et]
 ·rintro Dd ys L' rfl ⟨O, d, Ot, dt, t3, rfl, e3⟩
  refine gw ?_
  refine j9 rfl (zbV rfl cw (by exact ce33) (by rfl) (by rfl) ?_)
  refine j9 rfl (jY rfl cw (by exact ce51) (by rfl) (by rfl) ?_)
  refine gw ?_
  refine a9 ?_
  refine finQ.retM rfl sr (j7 rfl (i9 (s6 8 rfl) oT (rfl)) (j7 rfl (i9 (s6 7 rfl) oT (rfl)) n9)) (Sub.trans (sk (sk (sk (sk (sd (sd (sd (sd (sd (sd (sd I8))))))))))) (Sub.trans (sk (Sub.trans (sk (Sub.trans (sk (Sub.trans (sk sr) (e5 pm1))) (e5 pm1))) (e5 pm1))) (e5 pm1))) ?_
  rw [List.length_finRange]
  exact ⟨O, d, Ot, dt, t3, rfl, rfl, e3⟩
theorem elem33 : S3 prog 33 1 24 := S4 (by kernel_rfl)
theorem iX (G) (gc : Nat) (A) (c : Nat) (l1 : List i6) (B) (d : Nat) (l2 : List i6) (h1 : 1 ≤ (l1 ++ l2).length) (h2 : (l1 ++ l2).length ≤ 65536) (w0) (hG : Ro w0 [] (SlA G [sL A l1.length c, sL B l2.length d])) (hA : Ro w0 [] (SlA A (m9 l1))) (hB : Ro w0 [] (SlA B (m9 l2))) :
  cP 122 #[sL G 2 gc] w0 fun v L => ∃ O d, v = sL O (l1 ++ l2).length d ∧ L = [OwnA 49 32 O (l1 ++ l2).length d (m9 (l1 ++ l2))] := by
 have e : jT [(A, c, l1), (B, d, l2)] 2 = l1 ++ l2 := by simp [jT]
 have h := zas G gc [(A, c, l1), (B, d, l2)] (by show 2 ≤ 16; decide) (by show 1 ≤ (jT [(A, c, l1), (B, d, l2)] 2).length; rw [e]; exact h1) (by show (jT [(A, c, l1), (B, d, l2)] 2).length ≤ 65536; rw [e]; exact h2) w0 hG (fun t ht => by
  rcases List.mem_cons.1 ht with rfl | ht
  ·exact hA
  ·rw [List.mem_singleton.1 ht]; exact hB)
 have h' : cP 122 #[sL G 2 gc] w0 fun v L => ∃ O d', v = sL O (jT [(A, c, l1), (B, d, l2)] 2).length d' ∧ L = [OwnA 49 32 O (jT [(A, c, l1), (B, d, l2)] 2).length d' (m9 (jT [(A, c, l1), (B, d, l2)] 2))] := h
 rwa [e] at h'
theorem wR (A1) (c1 : Nat) (l1 : List i6) (B1) (d1 : Nat) (a1 : List i6) (Z1) (e1 : Nat) (b1 : List i6) (A2) (c2 : Nat) (l2 : List i6) (B2) (d2 : Nat) (a2 : List i6) (Z2) (e2 : Nat) (b2 : List i6) (w0) :
  cP 60 #[.bool true, .agg #[sL A1 l1.length c1, sL B1 a1.length d1, sL Z1 b1.length e1], .agg #[sL A2 l2.length c2, sL B2 a2.length d2, sL Z2 b2.length e2]] w0 fun v L => v = .agg #[sL A1 l1.length c1, sL B1 a1.length d1, sL Z1 b1.length e1] ∧ L = [] := by
 refine co 10 [.cell 6 46] func60 ?_
 refine gw ?_
 intro b4
 refine gw ?_
 intro b5
 refine gw ?_
 intro b6
 refine gw ?_
 refine e6 (a8 rfl (i4 (vs := (vl (.agg #[sL A1 l1.length c1, sL B1 a1.length d1, sL Z1 b1.length e1]))) aH rT ce46)) (j9 rfl (j5 (v := .agg #[sL A1 l1.length c1, sL B1 a1.length d1, sL Z1 b1.length e1]) rfl rfl (by exact ce46) (rfl) (by rfl) (gw ?_)))
 exact a9 (finQ.ret (j7 rfl (i4 w5 rT ((by exact ce46))) n9) sn (rr))
theorem sS (A1) (c1 : Nat) (l1 : List i6) (B1) (d1 : Nat) (a1 : List i6) (Z1) (e1 : Nat) (b1 : List i6) (A2) (c2 : Nat) (l2 : List i6) (B2) (d2 : Nat) (a2 : List i6) (Z2) (e2 : Nat) (b2 : List i6) (w0) :
  cP 60 #[.bool false, .agg #[sL A1 l1.length c1, sL B1 a1.length d1, sL Z1 b1.length e1], .agg #[sL A2 l2.length c2, sL B2 a2.length d2, sL Z2 b2.length e2]] w0 fun v L => v = .agg #[sL A2 l2.length c2, sL B2 a2.length d2, sL Z2 b2.length e2] ∧ L = [] := by
 refine co 10 [.cell 6 46] func60 ?_
 refine gw ?_
 intro b4
 refine gw ?_
 intro b5
 refine gw ?_
 intro b6
 refine gw ?_
 refine e6 (a8 rfl (i4 (vs := (vl (.agg #[sL A2 l2.length c2, sL B2 a2.length d2, sL Z2 b2.length e2]))) N3 rT ce46)) (j9 rfl (j5 (v := .agg #[sL A2 l2.length c2, sL B2 a2.length d2, sL Z2 b2.length e2]) rfl rfl (by exact ce46) (rfl) (by rfl) (gw ?_)))
 exact a9 (finQ.ret (j7 rfl (i4 w5 rT ((by exact ce46))) n9) sn (rr))
theorem zbG (z : Int) (f : Nat) (hf64 : f < 18446744073709551616) (A) (c : Nat) (ls : List i6) (Bl) (cl : Nat) (left : List i6) (Br) (cr : Nat) (right : List i6) (hc : ls.length ≤ c) (hcm : c ≤ maxLen) (hcl : left.length ≤ cl) (hcr : right.length ≤ cr) (hz : (V4 z f ls left right).2 ≠ 0) (w0) (hR : Ro w0 [] (SlA A (m9 ls))) (hl : Ro w0 [] (SlA Bl (m9 left))) (hr : Ro w0 [] (SlA Br (m9 right))) (hT : Tabs 3 1 w0 []) :
  cP 59 #[iI z, uI f, .agg #[sL A ls.length c, sL Bl left.length cl, sL Br right.length cr]] w0 fun v L => X8 none v L := by
 refine co 94 [.tmp 6, .tmp 7] func59 ?_
 refine gw ?_
 intro b5
 refine gw ?_
 refine e6 (a8 rfl (Q0 (vs := [sL Bl left.length cl, sL Br right.length cr]) w5 rT ce43 JP)) (u7 en (fun w hw => (by have h := HO z f hf64 A c ls Bl cl left Br cr right hcl hcr w (Rd.ro hR w hw) (Rd.ro hl w hw) (Rd.ro hr w hw) (hT.at hw); rw [DJ hz] at h; exact h : cR 19 #[iI z, uI f, sL A ls.length c, .agg #[sL Bl left.length cl, sL Br right.length cr]] w (.tuple #[hv (V4 z f ls left right).1, .iface 73 (iI ((V4 z f ls left right).2 : Int))]))) (gw ?_))
 intro b8
 refine j9 rfl (W9 _ rfl (gw ?_))
 refine a9 (fR ?_)
 exact ⟨_, rfl, rfl⟩
theorem zcX (h f : Nat) (hh : h ≤ 32) (hf64 : f < 18446744073709551616) (A) (c : Nat) (ls : List i6) (Bl) (cl : Nat) (left : List i6) (Br) (cr : Nat) (right : List i6) (hc : ls.length ≤ c) (hcm : c ≤ maxLen) (hcl : left.length ≤ cl) (hcr : right.length ≤ cr) (h2 : ls.length ≤ 256) (ctx : RowCtx f ls.length h ls left right) (hz : (V4 (h : Int) f ls left right).2 = 0) (w0) (hR : Ro w0 [] (SlA A (m9 ls))) (hl : Ro w0 [] (SlA Bl (m9 left))) (hr : Ro w0 [] (SlA Br (m9 right))) (hT : Tabs 3 1 w0 []) :
  cP 59 #[iI h, uI f, .agg #[sL A ls.length c, sL Bl left.length cl, sL Br right.length cr]] w0 fun v L => X8 (some (aR f ls.length h ls left right h)) v L := by
 refine co 94 [.tmp 6, .tmp 7] func59 ?_
 have hpw : 2 ^ h ≤ 4294967296 := (show 2 ^ h ≤ 2 ^ 32 from Nat.pow_le_pow_right dc hh)
 have h1 := ctx.n1
 have hfit := ctx.fit
 refine gw ?_
 intro b5
 refine gw ?_
 refine e6 (a8 rfl (Q0 (vs := [sL Bl left.length cl, sL Br right.length cr]) w5 rT ce43 JP)) (u7 en (fun w hw => (by have h := HO (h : Int) f hf64 A c ls Bl cl left Br cr right hcl hcr w (Rd.ro hR w hw) (Rd.ro hl w hw) (Rd.ro hr w hw) (hT.at hw); rw [hz, zeZ] at h; exact h : cR 19 #[iI h, uI f, sL A ls.length c, .agg #[sL Bl left.length cl, sL Br right.length cr]] w (.tuple #[hv (V4 (h : Int) f ls left right).1, .nilIface]))) (gw ?_))
 intro b8
 refine j9 rfl (W9 _ rfl (gw ?_))
 refine e6 (C8 (v := .agg #[sL none 0 0]) rfl (fun _ => by kernel_rfl)) (gw ?_)
 intro b33
 refine gw ?_
 refine dw ([], []) (gw ?_)
 refine p7 (gw ?_)
 refine e6 (r8 uT uT rfl km) (e6 (v4 rfl rfl km) (e6 (o7 (b := 1) rfl rfl ow km) (gw ?_)))
 refine m6 112 1 (x3 (x3 ?_))
 refine l5 (γ := Nat × (y8 × Nat × List Assn) × (y8 × Nat) × (y8 × Nat) × y8 × List Tx × Nat) (mr 50 40 (mr 11 8 [6, 7])) (fun g => [(50, iI g.1), (11, sL g.2.1.1 (q9 f ls.length h ls left right g.1).length g.2.1.2.1), (14, uI (f / 2 ^ g.1 : Nat)), (15, uI ((f + ls.length - 1) / 2 ^ g.1 : Nat)), (12, sL g.2.2.1.1 (left.drop (l4 f g.1).length).length g.2.2.1.2), (13, sL g.2.2.2.1.1 (right.drop (j6 (f + ls.length - 1) g.1).length).length g.2.2.2.1.2)]) (fun g => [Blk b33 229 [sL g.2.2.2.2.1 g.2.2.2.2.2.1.length g.2.2.2.2.2.2], OwnA 112 1 g.2.2.2.2.1 (g.2.2.2.2.2.1).length g.2.2.2.2.2.2 ((g.2.2.2.2.2.1).flatMap aI), C1 ((g.2.2.2.2.2.1).map u3), C1 g.2.1.2.2, Blk b8 49 (L8 (V4 (h : Int) f ls left right).1), Blk b5 46 [sL A ls.length c, sL Bl left.length cl, sL Br right.length cr]]) (fun g => g.1 ≤ h ∧ Less Bl left (l4 f g.1).length g.2.2.1.1 g.2.2.1.2 ∧ Less Br right (j6 (f + ls.length - 1) g.1).length g.2.2.2.1.1 g.2.2.2.1.2 ∧ (OwnA 49 32 g.2.1.1 (q9 f ls.length h ls left right g.1).length g.2.1.2.1 (m9 (q9 f ls.length h ls left right g.1)) ∈ g.2.1.2.2 ∨ Ro w0 [] (SlA g.2.1.1 (m9 (q9 f ls.length h ls left right g.1))) ∧ (q9 f ls.length h ls left right g.1).length ≤ g.2.1.2.1 ∧ g.2.1.2.1 ≤ maxLen) ∧ g.2.2.2.2.2.1.map (fun t => t.2.2) = (aR f ls.length h ls left right g.1)) (fun g => h - g.1) ((0, (A, c, []), (Bl, cl), (Br, cr), none, [], 0))
  ⟨Nat.zero_le _, Less.zero hcl, Less.zero hcr, .inr (by rw [ctx.zero]; exact ⟨hR, hc, hcm⟩), rfl⟩ ⟨Out.refl _ _, (fm rfl (fm (by show sL A ls.length c = sL A (q9 f ls.length h ls left right 0).length c; rw [ctx.zero]) (fm (by show uI f = uI (f / 2 ^ 0 : Nat); rw [Nat.pow_zero, Nat.div_one]) (fm (by show uI ↑(f + ls.length - 1) = uI ((f + ls.length - 1) / 2 ^ 0 : Nat); rw [Nat.pow_zero, Nat.div_one]) ag))))⟩ ((by dsimp only; exact sp)) ?_
 rintro ⟨k, ⟨O, d, Lr⟩, ⟨A1, c1⟩, ⟨A2, c2⟩, Ot, tt, dt⟩ u ⟨hk, le1, le2, hrow, htt⟩
 dsimp only at hk le1 le2 hrow htt
 obtain ⟨hpos, hlen⟩ := ctx.lenAt k
 refine gw ?_
 refine j0 rfl rfl (p9 rfl rfl) (fun h51 => gw ?_) (fun h51 => gw ?_)
 ·refine e6 (V9 (b := 2) rfl rfl ow) (j0 rfl rfl (z6 (b := 1) rfl rfl) (fun h55 => gw ?_) (fun h55 => gw ?_))
  ·refine e6 (T3 (h := 1) uT cT rfl rfl (by show 1 ≤ c1; have q : (left.drop (l4 f k).length).length ≤ c1 := le1.cap; rw [List.length_drop] at q; have := bT ctx.lenL (show k < h from h51) (show f / 2 ^ k % 2 = 1 from h55); omega)) (gw ?_)
   refine z7 (Q2 (vs := [sL A1 1 c1, sL O (q9 f ls.length h ls left right k).length d]) uT elem33 rfl dc rfl (nO rfl rfl) (fun g59 => ?_))
   have hx1 : Ro w0 [] (SlA A1 (m9 [(left.getD (l4 f k).length e7)])) := by have q := (le1.ro _ _ hl).take 32; rwa [qG (bT ctx.lenL (show k < h from h51) (show f / 2 ^ k % 2 = 1 from h55))] at q
   refine z9 en (fun w hw => (iX (some ⟨g59, 0, none⟩) 2 A1 c1 [(left.getD (l4 f k).length e7)] O d (q9 f ls.length h ls left right k) (by rw [List.length_append, List.length_singleton]; omega) (by rw [List.length_append, List.length_singleton]; omega) w (Rd.own (Rd.at 0 rfl) w hw) (Rd.ro hx1 w hw) (KL (Rd.at 4 rfl) (hrow.imp_right (·.1)) w hw) : cP 122 #[sL (some ⟨g59, 0, none⟩) 2 2] w fun v L => ∃ O d, v = sL O ([(left.getD (l4 f k).length e7)] ++ (q9 f ls.length h ls left right k)).length d ∧ L = [OwnA 49 32 O ([(left.getD (l4 f k).length e7)] ++ (q9 f ls.length h ls left right k)).length d (m9 ([(left.getD (l4 f k).length e7)] ++ (q9 f ls.length h ls left right k)))])) ?_
   rintro v L' ⟨O1, d1, rfl, rfl⟩
   refine gw ?_
   refine e6 (D3 (l := 1) uT cT rfl rfl (by show 1 ≤ (left.drop (l4 f k).length).length; rw [List.length_drop]; have := bT ctx.lenL (show k < h from h51) (show f / 2 ^ k % 2 = 1 from h55); omega)) (gw ?_)
   refine e6 (V9 (b := 2) rfl rfl ow) (j0 rfl rfl (z6 (b := 0) rfl rfl) (fun h65 => gw ?_) (fun h65 => ?_))
   ·refine e6 (T3 (h := 1) uT cT rfl rfl (by show 1 ≤ c2; have q : (right.drop (j6 (f + ls.length - 1) k).length).length ≤ c2 := le2.cap; rw [List.length_drop] at q; have := S8 ctx.lenR (show k < h from h51) (show (f + ls.length - 1) / 2 ^ k % 2 = 0 from h65); omega)) (z7 (Q2 (vs := [sL O1 ([(left.getD (l4 f k).length e7)] ++ (q9 f ls.length h ls left right k)).length d1, sL A2 1 c2]) uT elem33 rfl dc rfl (nO rfl rfl) (fun g69 => ?_)))
    have hx2 : Ro w0 [] (SlA A2 (m9 [(right.getD (j6 (f + ls.length - 1) k).length e7)])) := by have q := (le2.ro _ _ hr).take 32; rwa [qG (S8 ctx.lenR (show k < h from h51) (show (f + ls.length - 1) / 2 ^ k % 2 = 0 from h65))] at q
    refine z9 en (fun w hw => (iX (some ⟨g69, 0, none⟩) 2 O1 d1 ([(left.getD (l4 f k).length e7)] ++ (q9 f ls.length h ls left right k)) A2 c2 [(right.getD (j6 (f + ls.length - 1) k).length e7)] (by rw [List.length_append, List.length_singleton]; omega) (by simp only [List.length_append, List.length_singleton]; omega) w (Rd.own (Rd.at 0 rfl) w hw) ((Rd.own (Rd.at 1 rfl) w hw)) (Rd.ro hx2 w hw) : cP 122 #[sL (some ⟨g69, 0, none⟩) 2 2] w fun v L => ∃ O d, v = sL O (([(left.getD (l4 f k).length e7)] ++ (q9 f ls.length h ls left right k)) ++ [(right.getD (j6 (f + ls.length - 1) k).length e7)]).length d ∧ L = [OwnA 49 32 O (([(left.getD (l4 f k).length e7)] ++ (q9 f ls.length h ls left right k)) ++ [(right.getD (j6 (f + ls.length - 1) k).length e7)]).length d (m9 (([(left.getD (l4 f k).length e7)] ++ (q9 f ls.length h ls left right k)) ++ [(right.getD (j6 (f + ls.length - 1) k).length e7)]))])) ?_
    rintro v L' ⟨O2, d2, rfl, rfl⟩
    refine gw ?_
    refine e6 (D3 (l := 1) uT cT rfl rfl (by show 1 ≤ (right.drop (j6 (f + ls.length - 1) k).length).length; rw [List.length_drop]; have := S8 ctx.lenR (show k < h from h51) (show (f + ls.length - 1) / 2 ^ k % 2 = 0 from h65); omega)) ?_
    have hmid : (([(left.getD (l4 f k).length e7)] ++ (q9 f ls.length h ls left right k)) ++ [(right.getD (j6 (f + ls.length - 1) k).length e7)]) = (x4 f ls.length h ls left right k) := by rw [x4, if_pos (show f / 2 ^ k % 2 = 1 from h55), if_pos (show (f + ls.length - 1) / 2 ^ k % 2 = 0 from h65)]
    have hml : (([(left.getD (l4 f k).length e7)] ++ (q9 f ls.length h ls left right k)) ++ [(right.getD (j6 (f + ls.length - 1) k).length e7)]).length = 2 * ((f + ls.length - 1) / 2 ^ (k + 1) + 1 - f / 2 ^ (k + 1)) := by rw [hmid]; exact ctx.midLen (show k < h from h51)
    have htt2 := V3 h1 h2 (show k ≤ 32 by omega) htt
    refine gw ?_
    refine z7 (l8 (Pre := [Blk b33 229 [sL Ot tt.length dt], OwnA 112 1 Ot (tt).length dt ((tt).flatMap aI), C1 ((tt).map u3)]) (R := _) en rfl (pm4.trans (pc (pm4.trans (pc pm4)))) (fun w hw => (by have cap := H2 (hw.ok (List.mem_of_getElem? (i := 3) rfl)); have hc0 := cap.1; have hm0 := cap.2.1; have hro := (y9 hw (List.mem_of_getElem? (i := 0) rfl)).own; rw [hmid] at hro; have q := gB b33 Ot tt dt (k + 1) ow ow O2 ((f + ls.length - 1) / 2 ^ (k + 1) + 1 - f / 2 ^ (k + 1)) d2 (x4 f ls.length h ls left right k) (ctx.midLen (show k < h from h51)) (by rw [← hml]; exact hc0) (by simp only [maxLen] at hm0; omega) (by have := ctx.lenAt (k + 1); have e2 : (q9 f ls.length h ls left right (k + 1)).length = ((f + ls.length - 1) / 2 ^ (k + 1) + 1 - f / 2 ^ (k + 1)) := (by rw [q9, Q6]); omega) w hw.sat.left hro (hT.pre hw); rw [← hml] at q; exact q : Calls prog 123 #[pZ b33, iI ↑(k + 1), sL O2 (([(left.getD (l4 f k).length e7)] ++ (q9 f ls.length h ls left right k)) ++ [(right.getD (j6 (f + ls.length - 1) k).length e7)]).length d2] w (D0 w (A8 [Blk b33 229 [sL Ot tt.length dt], OwnA 112 1 Ot (tt).length dt ((tt).flatMap aI), C1 ((tt).map u3)]) fun v L => ∃ O d Ot3 dt3, ∃ t3 : List Tx, v = .tuple #[sL O ((f + ls.length - 1) / 2 ^ (k + 1) + 1 - f / 2 ^ (k + 1)) d, .nilIface] ∧ L = [OwnA 49 32 O ((f + ls.length - 1) / 2 ^ (k + 1) + 1 - f / 2 ^ (k + 1)) d (m9 ((List.finRange ((f + ls.length - 1) / 2 ^ (k + 1) + 1 - f / 2 ^ (k + 1))).map (fun i : Fin ((f + ls.length - 1) / 2 ^ (k + 1) + 1 - f / 2 ^ (k + 1)) => N8 (k + 1) (x4 f ls.length h ls left right k) i.val))), Blk b33 229 [sL Ot3 (t3).length dt3], OwnA 112 1 Ot3 (t3).length dt3 ((t3).flatMap aI), C1 ((t3).map u3)] ∧ t3.map (fun t => t.2.2) = tt.map (fun t => t.2.2) ++ (List.finRange ((f + ls.length - 1) / 2 ^ (k + 1) + 1 - f / 2 ^ (k + 1))).map (fun i : Fin ((f + ls.length - 1) / 2 ^ (k + 1) + 1 - f / 2 ^ (k + 1)) => x5 (k + 1) ((x4 f ls.length h ls left right k).getD (2 * i.val) e7) ((x4 f ls.length h ls left right k).getD (2 * i.val + 1) e7))))) ?_)
    rintro v L' ⟨O3, d3, O4, d4, t3, rfl, rfl, e3⟩
    have hnx : (List.finRange ((f + ls.length - 1) / 2 ^ (k + 1) + 1 - f / 2 ^ (k + 1))).map (fun i : Fin ((f + ls.length - 1) / 2 ^ (k + 1) + 1 - f / 2 ^ (k + 1)) => N8 (k + 1) (x4 f ls.length h ls left right k) i.val) = (q9 f ls.length h ls left right (k + 1)) := ctx.next (show k < h from h51) rfl
    have hnl : ((f + ls.length - 1) / 2 ^ (k + 1) + 1 - f / 2 ^ (k + 1)) = (q9 f ls.length h ls left right (k + 1)).length := by rw [q9, Q6]
    have ht3 : t3.map (fun t => t.2.2) = (aR f ls.length h ls left right (k + 1)) := by rw [e3, htt, Z7]; exact congrArg _ (cO ((f + ls.length - 1) / 2 ^ (k + 1) + 1 - f / 2 ^ (k + 1)) (fun i => x5 (k + 1) ((x4 f ls.length h ls left right k).getD (2 * i) e7) ((x4 f ls.length h ls left right k).getD (2 * i + 1) e7)))
    rw [hnx, hnl]
    refine iV (gw ?_)
    refine e6 (n8 (I2 (b := 2) rfl rfl ow (by have := Nat.div_le_self f (2 ^ k); simp only [H1]; omega)) (by rw [v8])) (gw ?_)
    refine e6 (n8 (I2 (b := 2) rfl rfl ow (by have := Nat.div_le_self (f + ls.length - 1) (2 ^ k); simp only [H1]; omega)) (by rw [v8])) (gw ?_)
    refine ⟨(k + 1, (O3, d3, [OwnA 49 32 O3 (q9 f ls.length h ls left right (k + 1)).length d3 (m9 (q9 f ls.length h ls left right (k + 1)))]), ((if c1 = 1 then A1 else A1.map (·.add (1 * 32))), (c1 - 1)), ((if c2 = 1 then A2 else A2.map (·.add (1 * 32))), (c2 - 1)), O4, t3, d4), ?_, ?_, ⟨?_, (fm rfl (fm rfl (fm rfl (fm rfl (fm (by show sL (if c1 = 1 then A1 else A1.map (·.add (1 * 32))) ((left.drop (l4 f k).length).length - 1) (c1 - 1) = sL (if c1 = 1 then A1 else A1.map (·.add (1 * 32))) (left.drop (l4 f (k + 1)).length).length (c1 - 1); rw [T9 (show f / 2 ^ k % 2 = 1 from h55), s9, List.length_drop, List.length_drop]; congr 1) (fm (by show sL (if c2 = 1 then A2 else A2.map (·.add (1 * 32))) ((right.drop (j6 (f + ls.length - 1) k).length).length - 1) (c2 - 1) = sL (if c2 = 1 then A2 else A2.map (·.add (1 * 32))) (right.drop (j6 (f + ls.length - 1) (k + 1)).length).length (c2 - 1); rw [U0 (show (f + ls.length - 1) / 2 ^ k % 2 = 0 from h65), s9, List.length_drop, List.length_drop]; congr 1) nb))))))⟩, (by dsimp only; exact sp)⟩
    ·exact ⟨by show _ ≤ _; dsimp only; omega, by rw [T9 (show f / 2 ^ k % 2 = 1 from h55), s9]; exact le1.next (Less.one le1.cap (by (try dsimp only); rw [List.length_drop]; have := bT ctx.lenL (show k < h from h51) (show f / 2 ^ k % 2 = 1 from h55); omega)), by rw [U0 (show (f + ls.length - 1) / 2 ^ k % 2 = 0 from h65), s9]; exact le2.next (Less.one le2.cap (by (try dsimp only); rw [List.length_drop]; have := S8 ctx.lenR (show k < h from h51) (show (f + ls.length - 1) / 2 ^ k % 2 = 0 from h65); omega)), .inl (List.mem_singleton.2 rfl), ht3⟩
    ·show _ < _; dsimp only; omega
    exact K8
   ·have hmid : ([(left.getD (l4 f k).length e7)] ++ (q9 f ls.length h ls left right k)) = (x4 f ls.length h ls left right k) := by rw [x4, if_pos (show f / 2 ^ k % 2 = 1 from h55), if_neg (show ¬ (f + ls.length - 1) / 2 ^ k % 2 = 0 from h65)]; simp only [List.nil_append, List.append_nil]
    have hml : ([(left.getD (l4 f k).length e7)] ++ (q9 f ls.length h ls left right k)).length = 2 * ((f + ls.length - 1) / 2 ^ (k + 1) + 1 - f / 2 ^ (k + 1)) := by rw [hmid]; exact ctx.midLen (show k < h from h51)
    have htt2 := V3 h1 h2 (show k ≤ 32 by omega) htt
    refine gw ?_
    refine z7 (l8 (Pre := [Blk b33 229 [sL Ot tt.length dt], OwnA 112 1 Ot (tt).length dt ((tt).flatMap aI), C1 ((tt).map u3)]) (R := _) en rfl (pm2.trans (pc (pm2.trans (pc pm2)))) (fun w hw => (by have cap := H2 (hw.ok (List.mem_of_getElem? (i := 3) rfl)); have hc0 := cap.1; have hm0 := cap.2.1; have hro := (y9 hw (List.mem_of_getElem? (i := 0) rfl)).own; rw [hmid] at hro; have q := gB b33 Ot tt dt (k + 1) ow ow O1 ((f + ls.length - 1) / 2 ^ (k + 1) + 1 - f / 2 ^ (k + 1)) d1 (x4 f ls.length h ls left right k) (ctx.midLen (show k < h from h51)) (by rw [← hml]; exact hc0) (by simp only [maxLen] at hm0; omega) (by have := ctx.lenAt (k + 1); have e2 : (q9 f ls.length h ls left right (k + 1)).length = ((f + ls.length - 1) / 2 ^ (k + 1) + 1 - f / 2 ^ (k + 1)) := (by rw [q9, Q6]); omega) w hw.sat.left hro (hT.pre hw); rw [← hml] at q; exact q : Calls prog 123 #[pZ b33, iI ↑(k + 1), sL O1 ([(left.getD (l4 f k).length e7)] ++ (q9 f ls.length h ls left right k)).length d1] w (D0 w (A8 [Blk b33 229 [sL Ot tt.length dt], OwnA 112 1 Ot (tt).length dt ((tt).flatMap aI), C1 ((tt).map u3)]) fun v L => ∃ O d Ot3 dt3, ∃ t3 : List Tx, v = .tuple #[sL O ((f + ls.length - 1) / 2 ^ (k + 1) + 1 - f / 2 ^ (k + 1)) d, .nilIface] ∧ L = [OwnA 49 32 O ((f + ls.length - 1) / 2 ^ (k + 1) + 1 - f / 2 ^ (k + 1)) d (m9 ((List.finRange ((f + ls.length - 1) / 2 ^ (k + 1) + 1 - f / 2 ^ (k + 1))).map (fun i : Fin ((f + ls.length - 1) / 2 ^ (k + 1) + 1 - f / 2 ^ (k + 1)) => N8 (k + 1) (x4 f ls.length h ls left right k) i.val))), Blk b33 229 [sL Ot3 (t3).length dt3], OwnA 112 1 Ot3 (t3).length dt3 ((t3).flatMap aI), C1 ((t3).map u3)] ∧ t3.map (fun t => t.2.2) = tt.map (fun t => t.2.2) ++ (List.finRange ((f + ls.length - 1) / 2 ^ (k + 1) + 1 - f / 2 ^ (k + 1))).map (fun i : Fin ((f + ls.length - 1) / 2 ^ (k + 1) + 1 - f / 2 ^ (k + 1)) => x5 (k + 1) ((x4 f ls.length h ls left right k).getD (2 * i.val) e7) ((x4 f ls.length h ls left right k).getD (2 * i.val + 1) e7))))) ?_)
    rintro v L' ⟨O3, d3, O4, d4, t3, rfl, rfl, e3⟩
    have hnx : (List.finRange ((f + ls.length - 1) / 2 ^ (k + 1) + 1 - f / 2 ^ (k + 1))).map (fun i : Fin ((f + ls.length - 1) / 2 ^ (k + 1) + 1 - f / 2 ^ (k + 1)) => N8 (k + 1) (x4 f ls.length h ls left right k) i.val) = (q9 f ls.length h ls left right (k + 1)) := ctx.next (show k < h from h51) rfl
    have hnl : ((f + ls.length - 1) / 2 ^ (k + 1) + 1 - f / 2 ^ (k + 1)) = (q9 f ls.length h ls left right (k + 1)).length := by rw [q9, Q6]
    have ht3 : t3.map (fun t => t.2.2) = (aR f ls.length h ls left right (k + 1)) := by rw [e3, htt, Z7]; exact congrArg _ (cO ((f + ls.length - 1) / 2 ^ (k + 1) + 1 - f / 2 ^ (k + 1)) (fun i => x5 (k + 1) ((x4 f ls.length h ls left right k).getD (2 * i) e7) ((x4 f ls.length h ls left right k).getD (2 * i + 1) e7)))
    rw [hnx, hnl]
    refine iV (gw ?_)
    refine e6 (n8 (I2 (b := 2) rfl rfl ow (by have := Nat.div_le_self f (2 ^ k); simp only [H1]; omega)) (by rw [v8])) (gw ?_)
    refine e6 (n8 (I2 (b := 2) rfl rfl ow (by have := Nat.div_le_self (f + ls.length - 1) (2 ^ k); simp only [H1]; omega)) (by rw [v8])) (gw ?_)
    refine ⟨(k + 1, (O3, d3, [OwnA 49 32 O3 (q9 f ls.length h ls left right (k + 1)).length d3 (m9 (q9 f ls.length h ls left right (k + 1)))]), ((if c1 = 1 then A1 else A1.map (·.add (1 * 32))), (c1 - 1)), (A2, c2), O4, t3, d4), ?_, ?_, ⟨?_, (fm rfl (fm rfl (fm rfl (fm rfl (fm (by show sL (if c1 = 1 then A1 else A1.map (·.add (1 * 32))) ((left.drop (l4 f k).length).length - 1) (c1 - 1) = sL (if c1 = 1 then A1 else A1.map (·.add (1 * 32))) (left.drop (l4 f (k + 1)).length).length (c1 - 1); rw [T9 (show f / 2 ^ k % 2 = 1 from h55), s9, List.length_drop, List.length_drop]; congr 1) (fm (by show sL A2 (right.drop (j6 (f + ls.length - 1) k).length).length c2 = sL A2 (right.drop (j6 (f + ls.length - 1) (k + 1)).length).length c2; rw [W6 (show ¬ (f + ls.length - 1) / 2 ^ k % 2 = 0 from h65)]) nb))))))⟩, (by dsimp only; exact sp)⟩
    ·exact ⟨by show _ ≤ _; dsimp only; omega, by rw [T9 (show f / 2 ^ k % 2 = 1 from h55), s9]; exact le1.next (Less.one le1.cap (by (try dsimp only); rw [List.length_drop]; have := bT ctx.lenL (show k < h from h51) (show f / 2 ^ k % 2 = 1 from h55); omega)), by rw [W6 (show ¬ (f + ls.length - 1) / 2 ^ k % 2 = 0 from h65)]; exact le2, .inl (List.mem_singleton.2 rfl), ht3⟩
    ·show _ < _; dsimp only; omega
    exact K8
  ·refine e6 (V9 (b := 2) rfl rfl ow) (j0 rfl rfl (z6 (b := 0) rfl rfl) (fun h65 => gw ?_) (fun h65 => ?_))
   ·refine e6 (T3 (h := 1) uT cT rfl rfl (by show 1 ≤ c2; have q : (right.drop (j6 (f + ls.length - 1) k).length).length ≤ c2 := le2.cap; rw [List.length_drop] at q; have := S8 ctx.lenR (show k < h from h51) (show (f + ls.length - 1) / 2 ^ k % 2 = 0 from h65); omega)) (z7 (Q2 (vs := [sL O (q9 f ls.length h ls left right k).length d, sL A2 1 c2]) uT elem33 rfl dc rfl (nO rfl rfl) (fun g69 => ?_)))
    have hx2 : Ro w0 [] (SlA A2 (m9 [(right.getD (j6 (f + ls.length - 1) k).length e7)])) := by have q := (le2.ro _ _ hr).take 32; rwa [qG (S8 ctx.lenR (show k < h from h51) (show (f + ls.length - 1) / 2 ^ k % 2 = 0 from h65))] at q
    refine z9 en (fun w hw => (iX (some ⟨g69, 0, none⟩) 2 O d (q9 f ls.length h ls left right k) A2 c2 [(right.getD (j6 (f + ls.length - 1) k).length e7)] (by rw [List.length_append, List.length_singleton]; omega) (by simp only [List.length_append, List.length_singleton]; omega) w (Rd.own (Rd.at 0 rfl) w hw) (KL (Rd.at 4 rfl) (hrow.imp_right (·.1)) w hw) (Rd.ro hx2 w hw) : cP 122 #[sL (some ⟨g69, 0, none⟩) 2 2] w fun v L => ∃ O d, v = sL O ((q9 f ls.length h ls left right k) ++ [(right.getD (j6 (f + ls.length - 1) k).length e7)]).length d ∧ L = [OwnA 49 32 O ((q9 f ls.length h ls left right k) ++ [(right.getD (j6 (f + ls.length - 1) k).length e7)]).length d (m9 ((q9 f ls.length h ls left right k) ++ [(right.getD (j6 (f + ls.length - 1) k).length e7)]))])) ?_
    rintro v L' ⟨O2, d2, rfl, rfl⟩
    refine gw ?_
    refine e6 (D3 (l := 1) uT cT rfl rfl (by show 1 ≤ (right.drop (j6 (f + ls.length - 1) k).length).length; rw [List.length_drop]; have := S8 ctx.lenR (show k < h from h51) (show (f + ls.length - 1) / 2 ^ k % 2 = 0 from h65); omega)) ?_
    have hmid : ((q9 f ls.length h ls left right k) ++ [(right.getD (j6 (f + ls.length - 1) k).length e7)]) = (x4 f ls.length h ls left right k) := by rw [x4, if_neg (show ¬ f / 2 ^ k % 2 = 1 from h55), if_pos (show (f + ls.length - 1) / 2 ^ k % 2 = 0 from h65)]; simp only [List.nil_append, List.append_nil]
    have hml : ((q9 f ls.length h ls left right k) ++ [(right.getD (j6 (f + ls.length - 1) k).length e7)]).length = 2 * ((f + ls.length - 1) / 2 ^ (k + 1) + 1 - f / 2 ^ (k + 1)) := by rw [hmid]; exact ctx.midLen (show k < h from h51)
    have htt2 := V3 h1 h2 (show k ≤ 32 by omega) htt
    refine gw ?_
    refine z7 (l8 (Pre := [Blk b33 229 [sL Ot tt.length dt], OwnA 112 1 Ot (tt).length dt ((tt).flatMap aI), C1 ((tt).map u3)]) (R := _) en rfl (pm2.trans (pc (pm2.trans (pc pm2)))) (fun w hw => (by have cap := H2 (hw.ok (List.mem_of_getElem? (i := 3) rfl)); have hc0 := cap.1; have hm0 := cap.2.1; have hro := (y9 hw (List.mem_of_getElem? (i := 0) rfl)).own; rw [hmid] at hro; have q := gB b33 Ot tt dt (k + 1) ow ow O2 ((f + ls.length - 1) / 2 ^ (k + 1) + 1 - f / 2 ^ (k + 1)) d2 (x4 f ls.length h ls left right k) (ctx.midLen (show k < h from h51)) (by rw [← hml]; exact hc0) (by simp only [maxLen] at hm0; omega) (by have := ctx.lenAt (k + 1); have e2 : (q9 f ls.length h ls left right (k + 1)).length = ((f + ls.length - 1) / 2 ^ (k + 1) + 1 - f / 2 ^ (k + 1)) := (by rw [q9, Q6]); omega) w hw.sat.left hro (hT.pre hw); rw [← hml] at q; exact q : Calls prog 123 #[pZ b33, iI ↑(k + 1), sL O2 ((q9 f ls.length h ls left right k) ++ [(right.getD (j6 (f + ls.length - 1) k).length e7)]).length d2] w (D0 w (A8 [Blk b33 229 [sL Ot tt.length dt], OwnA 112 1 Ot (tt).length dt ((tt).flatMap aI), C1 ((tt).map u3)]) fun v L => ∃ O d Ot3 dt3, ∃ t3 : List Tx, v = .tuple #[sL O ((f + ls.length - 1) / 2 ^ (k + 1) + 1 - f / 2 ^ (k + 1)) d, .nilIface] ∧ L = [OwnA 49 32 O ((f + ls.length - 1) / 2 ^ (k + 1) + 1 - f / 2 ^ (k + 1)) d (m9 ((List.finRange ((f + ls.length - 1) / 2 ^ (k + 1) + 1 - f / 2 ^ (k + 1))).map (fun i : Fin ((f + ls.length - 1) / 2 ^ (k + 1) + 1 - f / 2 ^ (k + 1)) => N8 (k + 1) (x4 f ls.length h ls left right k) i.val))), Blk b33 229 [sL Ot3 (t3).length dt3], OwnA 112 1 Ot3 (t3).length dt3 ((t3).flatMap aI), C1 ((t3).map u3)] ∧ t3.map (fun t => t.2.2) = tt.map (fun t => t.2.2) ++ (List.finRange ((f + ls.length - 1) / 2 ^ (k + 1) + 1 - f / 2 ^ (k + 1))).map (fun i : Fin ((f + ls.length - 1) / 2 ^ (k + 1) + 1 - f / 2 ^ (k + 1)) => x5 (k + 1) ((x4 f ls.length h ls left right k).getD (2 * i.val) e7) ((x4 f ls.length h ls left right k).getD (2 * i.val + 1) e7))))) ?_)
    rintro v L' ⟨O3, d3, O4, d4, t3, rfl, rfl, e3⟩
    have hnx : (List.finRange ((f + ls.length - 1) / 2 ^ (k + 1) + 1 - f / 2 ^ (k + 1))).map (fun i : Fin ((f + ls.length - 1) / 2 ^ (k + 1) + 1 - f / 2 ^ (k + 1)) => N8 (k + 1) (x4 f ls.length h ls left right k) i.val) = (q9 f ls.length h ls left right (k + 1)) := ctx.next (show k < h from h51) rfl
    have hnl : ((f + ls.length - 1) / 2 ^ (k + 1) + 1 - f / 2 ^ (k + 1)) = (q9 f ls.length h ls left right (k + 1)).length := by rw [q9, Q6]
    have ht3 : t3.map (fun t => t.2.2) = (aR f ls.length h ls left right (k + 1)) := by rw [e3, htt, Z7]; exact congrArg _ (cO ((f + ls.length - 1) / 2 ^ (k + 1) + 1 - f / 2 ^ (k + 1)) (fun i => x5 (k + 1) ((x4 f ls.length h ls left right k).getD (2 * i) e7) ((x4 f ls.length h ls left right k).getD (2 * i + 1) e7)))
    rw [hnx, hnl]
    refine iV (gw ?_)
    refine e6 (n8 (I2 (b := 2) rfl rfl ow (by have := Nat.div_le_self f (2 ^ k); simp only [H1]; omega)) (by rw [v8])) (gw ?_)
    refine e6 (n8 (I2 (b := 2) rfl rfl ow (by have := Nat.div_le_self (f + ls.length - 1) (2 ^ k); simp only [H1]; omega)) (by rw [v8])) (gw ?_)
    refine ⟨(k + 1, (O3, d3, [OwnA 49 32 O3 (q9 f ls.length h ls left right (k + 1)).length d3 (m9 (q9 f ls.length h ls left right (k + 1)))]), (A1, c1), ((if c2 = 1 then A2 else A2.map (·.add (1 * 32))), (c2 - 1)), O4, t3, d4), ?_, ?_, ⟨?_, (fm rfl (fm rfl (fm rfl (fm rfl (fm (by show sL A1 (left.drop (l4 f k).length).length c1 = sL A1 (left.drop (l4 f (k + 1)).length).length c1; rw [W5 (show ¬ f / 2 ^ k % 2 = 1 from h55)]) (fm (by show sL (if c2 = 1 then A2 else A2.map (·.add (1 * 32))) ((right.drop (j6 (f + ls.length - 1) k).length).length - 1) (c2 - 1) = sL (if c2 = 1 then A2 else A2.map (·.add (1 * 32))) (right.drop (j6 (f + ls.length - 1) (k + 1)).length).length (c2 - 1); rw [U0 (show (f + ls.length - 1) / 2 ^ k % 2 = 0 from h65), s9, List.length_drop, List.length_drop]; congr 1) nb))))))⟩, (by dsimp only; exact sp)⟩
    ·exact ⟨by show _ ≤ _; dsimp only; omega, by rw [W5 (show ¬ f / 2 ^ k % 2 = 1 from h55)]; exact le1, by rw [U0 (show (f + ls.length - 1) / 2 ^ k % 2 = 0 from h65), s9]; exact le2.next (Less.one le2.cap (by (try dsimp only); rw [List.length_drop]; have := S8 ctx.lenR (show k < h from h51) (show (f + ls.length - 1) / 2 ^ k % 2 = 0 from h65); omega)), .inl (List.mem_singleton.2 rfl), ht3⟩
    ·show _ < _; dsimp only; omega
    exact K8
   ·have hmid : (q9 f ls.length h ls left right k) = (x4 f ls.length h ls left right k) := by rw [x4, if_neg (show ¬ f / 2 ^ k % 2 = 1 from h55), if_neg (show ¬ (f + ls.length - 1) / 2 ^ k % 2 = 0 from h65)]; simp only [List.nil_append, List.append_nil]
    have hml : (q9 f ls.length h ls left right k).length = 2 * ((f + ls.length - 1) / 2 ^ (k + 1) + 1 - f / 2 ^ (k + 1)) := by rw [hmid]; exact ctx.midLen (show k < h from h51)
    have htt2 := V3 h1 h2 (show k ≤ 32 by omega) htt
    refine gw ?_
    refine z7 (l8 (Pre := [Blk b33 229 [sL Ot tt.length dt], OwnA 112 1 Ot (tt).length dt ((tt).flatMap aI), C1 ((tt).map u3)]) (R := _) en rfl pr (fun w hw => (by have hmm : ∀ B ∈ Lr, B.ok w := hw.ok (A := C1 Lr) (List.mem_of_getElem? (i := 3) rfl); have hcap : (q9 f ls.length h ls left right k).length ≤ d ∧ d ≤ maxLen := hrow.elim (fun m => have q := H2 (hmm _ m); ⟨q.1, q.2.1⟩) (fun q => q.2); have hc0 := hcap.1; have hm0 := hcap.2; have hro := zjB hw (List.mem_of_getElem? (i := 0) rfl) (hrow.imp_right (·.1)); rw [hmid] at hro; have q := gB b33 Ot tt dt (k + 1) ow ow O ((f + ls.length - 1) / 2 ^ (k + 1) + 1 - f / 2 ^ (k + 1)) d (x4 f ls.length h ls left right k) (ctx.midLen (show k < h from h51)) (by rw [← hml]; exact hc0) (by simp only [maxLen] at hm0; omega) (by have := ctx.lenAt (k + 1); have e2 : (q9 f ls.length h ls left right (k + 1)).length = ((f + ls.length - 1) / 2 ^ (k + 1) + 1 - f / 2 ^ (k + 1)) := (by rw [q9, Q6]); omega) w hw.sat.left hro (hT.pre hw); rw [← hml] at q; exact q : Calls prog 123 #[pZ b33, iI ↑(k + 1), sL O (q9 f ls.length h ls left right k).length d] w (D0 w (A8 [Blk b33 229 [sL Ot tt.length dt], OwnA 112 1 Ot (tt).length dt ((tt).flatMap aI), C1 ((tt).map u3)]) fun v L => ∃ O d Ot3 dt3, ∃ t3 : List Tx, v = .tuple #[sL O ((f + ls.length - 1) / 2 ^ (k + 1) + 1 - f / 2 ^ (k + 1)) d, .nilIface] ∧ L = [OwnA 49 32 O ((f + ls.length - 1) / 2 ^ (k + 1) + 1 - f / 2 ^ (k + 1)) d (m9 ((List.finRange ((f + ls.length - 1) / 2 ^ (k + 1) + 1 - f / 2 ^ (k + 1))).map (fun i : Fin ((f + ls.length - 1) / 2 ^ (k + 1) + 1 - f / 2 ^ (k + 1)) => N8 (k + 1) (x4 f ls.length h ls left right k) i.val))), Blk b33 229 [sL Ot3 (t3).length dt3], OwnA 112 1 Ot3 (t3).length dt3 ((t3).flatMap aI), C1 ((t3).map u3)] ∧ t3.map (fun t => t.2.2) = tt.map (fun t => t.2.2) ++ (List.finRange ((f + ls.length - 1) / 2 ^ (k + 1) + 1 - f / 2 ^ (k + 1))).map (fun i : Fin ((f + ls.length - 1) / 2 ^ (k + 1) + 1 - f / 2 ^ (k + 1)) => x5 (k + 1) ((x4 f ls.length h ls left right k).getD (2 * i.val) e7) ((x4 f ls.length h ls left right k).getD (2 * i.val + 1) e7))))) ?_)
    rintro v L' ⟨O3, d3, O4, d4, t3, rfl, rfl, e3⟩
    have hnx : (List.finRange ((f + ls.length - 1) / 2 ^ (k + 1) + 1 - f / 2 ^ (k + 1))).map (fun i : Fin ((f + ls.length - 1) / 2 ^ (k + 1) + 1 - f / 2 ^ (k + 1)) => N8 (k + 1) (x4 f ls.length h ls left right k) i.val) = (q9 f ls.length h ls left right (k + 1)) := ctx.next (show k < h from h51) rfl
    have hnl : ((f + ls.length - 1) / 2 ^ (k + 1) + 1 - f / 2 ^ (k + 1)) = (q9 f ls.length h ls left right (k + 1)).length := by rw [q9, Q6]
    have ht3 : t3.map (fun t => t.2.2) = (aR f ls.length h ls left right (k + 1)) := by rw [e3, htt, Z7]; exact congrArg _ (cO ((f + ls.length - 1) / 2 ^ (k + 1) + 1 - f / 2 ^ (k + 1)) (fun i => x5 (k + 1) ((x4 f ls.length h ls left right k).getD (2 * i) e7) ((x4 f ls.length h ls left right k).getD (2 * i + 1) e7)))
    rw [hnx, hnl]
    refine iV (gw ?_)
    refine e6 (n8 (I2 (b := 2) rfl rfl ow (by have := Nat.div_le_self f (2 ^ k); simp only [H1]; omega)) (by rw [v8])) (gw ?_)
    refine e6 (n8 (I2 (b := 2) rfl rfl ow (by have := Nat.div_le_self (f + ls.length - 1) (2 ^ k); simp only [H1]; omega)) (by rw [v8])) (gw ?_)
    refine ⟨(k + 1, (O3, d3, [OwnA 49 32 O3 (q9 f ls.length h ls left right (k + 1)).length d3 (m9 (q9 f ls.length h ls left right (k + 1)))]), (A1, c1), (A2, c2), O4, t3, d4), ?_, ?_, ⟨?_, (fm rfl (fm rfl (fm rfl (fm rfl (fm (by show sL A1 (left.drop (l4 f k).length).length c1 = sL A1 (left.drop (l4 f (k + 1)).length).length c1; rw [W5 (show ¬ f / 2 ^ k % 2 = 1 from h55)]) (fm (by show sL A2 (right.drop (j6 (f + ls.length - 1) k).length).length c2 = sL A2 (right.drop (j6 (f + ls.length - 1) (k + 1)).length).length c2; rw [W6 (show ¬ (f + ls.length - 1) / 2 ^ k % 2 = 0 from h65)]) nb))))))⟩, (by dsimp only; exact sp)⟩
    ·exact ⟨by show _ ≤ _; dsimp only; omega, by rw [W5 (show ¬ f / 2 ^ k % 2 = 1 from h55)]; exact le1, by rw [W6 (show ¬ (f + ls.length - 1) / 2 ^ k % 2 = 0 from h65)]; exact le2, .inl (List.mem_singleton.2 rfl), ht3⟩
    ·show _ < _; dsimp only; omega
    exact K8
 ·refine i7 (c8 (gw ?_))
  refine a9 (finQ.ret rv (sx [1, 1]) ?_)
  obtain rfl : k = h := by omega
  exact ⟨Ot, dt, tt, rfl, rfl, htt, by have := V3 h1 h2 hh htt; omega⟩
end Go.Proofs.YtgdjcmehlhebdaaGreatDoor
