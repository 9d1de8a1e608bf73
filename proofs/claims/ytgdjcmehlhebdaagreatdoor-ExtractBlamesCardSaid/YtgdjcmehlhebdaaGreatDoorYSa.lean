/- Walks: lists of hashes put together; a row joined by twos, the texts kept -/
import Derived.Test.YtgdjcmehlhebdaaGreatDoorYR
import Derived.Test.YtgdjcmehlhebdaaGreatDoorXR
import Derived.Test.YtgdjcmehlhebdaaGreatDoorYW
set_option maxHeartbeats 25600000
namespace Go.Proofs.YtgdjcmehlhebdaaGreatDoor
open _root_.Go.Proofs.Tryz
open Go.E
set_option maxRecDepth 4000
theorem J182 : zae prog 182 := ⟨_, func182, by kernel_rfl, rfl⟩
theorem zkb (n : Nat) (h1 : 1 ≤ n) (h2 : n ≤ 65536) (w0 : World) :
    Calls prog 182 #[.slice none 0 0, .int .i64 (n : Int)] w0 (Post w0 [] fun v L => ∃ O d, v = .slice O 0 d ∧ L = [OwnA 49 32 O 0 d ([])]) := by
  refine Calls.of (L := []) (n := 27) (rs := [.tmp 4]) func182 rfl rfl rfl (Nat.le_of_ble_eq_true rfl) (Sat.nil _) ?_
  refine TC.seq ?_
  refine TC.region ?_
  refine S.as ?_
  refine S.nil ?_
  refine TC.seq ?_
  refine TC.seq ?_
  refine TC.region ?_
  refine S.mv ?_
  refine S.r (Qt.dF (Qt.lt (b := 0) rfl rfl) ow) ?_
  refine S.nil ?_
  refine S.if_f rfl ?_
  refine TC.skip ?_
  refine TC.seq ?_
  refine TC.seq ?_
  refine TC.region ?_
  refine S.mv ?_
  refine S.mv ?_
  refine S.r (Qt.capS uT rfl) ?_
  refine S.mv ?_
  refine S.r (Qt.len_slice uT rfl) ?_
  refine S.r (Qt.sub (a := 0) (b := 0) rfl rfl (Nat.le_refl _) km) ?_
  refine S.r (Qt.as (Qt.sub (b := 0) rfl rfl ow km) (by rw [Nat.sub_zero])) ?_
  refine S.as ?_
  refine S.nil ?_
  refine TC.seq ?_
  refine TC.region ?_
  refine S.mv ?_
  refine S.r (Qt.dT (Qt.gt (b := 0) rfl rfl) ow) ?_
  refine S.nil ?_
  refine S.if_t rfl ?_
  refine TC.region ?_
  refine S.mv ?_
  refine S.mv ?_
  refine S.r (Qt.capS uT rfl) ?_
  refine S.r (Qt.slice_hi (h := 0) uT cT rfl rfl (Nat.le_refl _)) ?_
  refine S.mv ?_
  refine S.o (OpV.appZ uT uT elem49 rfl rfl ow (by simp only [maxLen]; omega) ow (fun n1 c1 cs1 hc1 hm1 hl1 => ?_))
  refine S.mv ?_
  refine S.r (Qt.len_slice uT rfl) ?_
  refine S.r (Qt.slice_hi (h := 0) uT cT rfl rfl (Nat.zero_le _)) ?_
  refine S.as ?_
  refine S.nil ?_
  refine TC.seq ?_
  refine TC.region ?_
  refine TL.shutOwn (n := 0) (sz := 32) (hl1) (Nat.zero_le _) (hm1) pr ?_
  rw [Nat.zero_mul, List.take_zero]
  refine S.mv ?_
  refine S.as ?_
  refine S.nil ?_
  refine TC.ret (finQ.ret rv sr ?_)
  exact ⟨some ⟨n1, 0, none⟩, c1, rfl, rfl⟩
theorem zhn (A : OAd) (c : Nat) (ss : List Hx) (hn : ss.length ≤ 16) (h1 : 1 ≤ (cat ss ss.length).length) (h2 : (cat ss ss.length).length ≤ 65536) (w0 : World) (hR : Ro w0 [] (SlA A (ss.flatMap hxL))) (hS : ∀ t ∈ ss, Ro w0 [] (SlA t.1 (hcs t.2.2))) :
  Calls prog 122 #[.slice A ss.length c] w0 (Post w0 [] fun v L => ∃ O d, v = .slice O (cat ss ss.length).length d ∧ L = [OwnA 49 32 O (cat ss ss.length).length d (hcs (cat ss ss.length))]) := by
 refine co 36 [.tmp 2] func122 ?_
 refine gw ?_
 refine TC.loop (γ := Nat) [12, 13, 14, 5, 15, 16, 17, 18, 3, 19, 20, 21, 22, 11] (fun k => [(11, .int .i64 (k : Int)), (3, .int .i64 (((cat ss k).length : Nat) : Int))]) (fun _ => _) (fun k => k ≤ ss.length) (fun k => ss.length - k) (0)
  (Nat.zero_le _) ⟨Out.refl _ _, ag⟩ sr ?_
 rintro k u hk
 have hc1 : k < ss.length → (cat ss (k + 1)).length = (cat ss k).length + (ss.getD k hx0).2.2.length := zlf
 have hc2 : k < ss.length → (cat ss (k + 1)).length ≤ (cat ss ss.length).length := fun h => zrY ss h (Nat.le_refl _)
 refine gw ?_
 refine S.dec rfl rfl (Qt.lt rfl rfl) (fun h12 => gw ?_) (fun h12 => gw ?_)
 ·refine S.r (Qt.index uT cT rfl rfl ow (Has.ro hR) (by rw [zrX]; omega)) ?_
  refine S.r (Qt.load rfl (Ld.sl (v := .slice (ss.getD k hx0).1 (ss.getD k hx0).2.2.length (ss.getD k hx0).2.1) (Has.ro hR) oT (ztq ow))) (gw ?_)
  refine S.r (Qt.add rfl rfl km) (gw ?_)
  refine S.r (Qt.dF (Qt.lt (b := 0) rfl rfl) ow) (gw ?_)
  refine ⟨k + 1, ?_, ?_, ⟨?_, (List.forall_mem_cons.2 ⟨rfl, (List.forall_mem_cons.2 ⟨(by show Value.int .i64 (((cat ss k).length + (ss.getD k hx0).2.2.length : Nat) : Int) = Value.int .i64 (((cat ss (k + 1)).length : Nat) : Int); rw [hc1 ow]), (fun _ h => nomatch h)⟩)⟩)⟩, sr⟩
  ·show _ ≤ _; omega
  ·show _ < _; dsimp only; omega
  exact outs
 ·refine TC.exit (TC.seq (TC.region (S.mv ?_)))
  obtain rfl : k = ss.length := by omega
  refine S.cn J182 (fun w hw => zkb (cat ss ss.length).length h1 h2 w) ?_
  rintro v L' ⟨O0, d0, rfl, rfl⟩
  refine gw ?_
  refine TC.loop (γ := Nat × OAd × Nat) [28, 29, 30, 8, 31, 32, 33, 6, 34, 27] (fun g => [(27, .int .i64 ((g.1 : Nat) : Int)), (6, .slice g.2.1 (cat ss g.1).length g.2.2)]) (fun g => [OwnA 49 32 g.2.1 (cat ss g.1).length g.2.2 (hcs (cat ss g.1))]) (fun g => g.1 ≤ ss.length) (fun g => ss.length - g.1) ((0, O0, d0))
   (Nat.zero_le _) ⟨Out.refl _ _, ag⟩ sr ?_
  rintro ⟨j, O, d⟩ u hk
  dsimp only at hk
  have hc1 : j < ss.length → (cat ss (j + 1)).length = (cat ss j).length + (ss.getD j hx0).2.2.length := zlf
  have hc2 : j < ss.length → (cat ss (j + 1)).length ≤ (cat ss ss.length).length := fun h => zrY ss h (Nat.le_refl _)
  refine gw ?_
  refine S.dec rfl rfl (Qt.lt rfl rfl) (fun h28 => gw ?_) (fun h28 => gw ?_)
  ·refine S.r (Qt.index uT cT rfl rfl ow (Has.ro hR) (by rw [zrX]; omega)) ?_
   refine S.r (Qt.load rfl (Ld.sl (v := .slice (ss.getD j hx0).1 (ss.getD j hx0).2.2.length (ss.getD j hx0).2.1) (Has.ro hR) oT (ztq ow))) (gw ?_)
   refine S.o (OpV.app0 (bytes := 32) (news := hcs (ss.getD j hx0).2.2) uT elem49 rfl rfl (Has.ro (hS _ (zbk hx0 ow))) (by rw [zah]) (zeo _) (by have a := hc1 ow; have b := hc2 ow; simp only [maxLen]; omega) (by show ((cat ss j).length + (ss.getD j hx0).2.2.length) * 32 ≤ 140737488355328; have a := hc1 ow; have b := hc2 ow; omega) (fun O3 d3 => ?_))
   refine gw ?_
   refine ⟨(j + 1, O3, d3), ?_, ?_, ⟨?_, (List.forall_mem_cons.2 ⟨rfl, (List.forall_mem_cons.2 ⟨(by show Value.slice O3 ((cat ss j).length + (ss.getD j hx0).2.2.length) d3 = Value.slice O3 (cat ss (j + 1)).length d3; rw [hc1 ow]), (fun _ h => nomatch h)⟩)⟩)⟩, (by dsimp only; rw [hc1 ow, zmh ow, zbg]; exact sr)⟩
   ·show _ ≤ _; dsimp only; omega
   ·show _ < _; dsimp only; omega
   exact outs
  ·refine TC.exit (TC.seq (gw ?_))
   refine TC.ret (fin1 sr ?_)
   obtain rfl : j = ss.length := by omega
   exact ⟨O, d, rfl, rfl⟩
theorem zdx (cb : Nat) (Ot0 : OAd) (tt : List Tx) (dt0 : Nat) (lv : Nat) (h1 : 1 ≤ lv) (h2 : lv ≤ 32) (A : OAd) (m c : Nat) (xs : List H32) (hm : xs.length = 2 * m) (hc : 2 * m ≤ c) (hcm : c ≤ 9223372036854775807) (hb : tt.length + m ≤ 16384) (w0 : World) (h0 : Sat w0 [Blk cb 229 [.slice Ot0 (tt).length dt0], OwnA 112 1 Ot0 (tt).length dt0 ((tt).flatMap txL), Many ((tt).map zaN)]) (hR : Ro w0 (fps [Blk cb 229 [.slice Ot0 (tt).length dt0], OwnA 112 1 Ot0 (tt).length dt0 ((tt).flatMap txL), Many ((tt).map zaN)]) (SlA A (hcs xs))) (hT : Tabs 3 1 w0 (fps [Blk cb 229 [.slice Ot0 (tt).length dt0], OwnA 112 1 Ot0 (tt).length dt0 ((tt).flatMap txL), Many ((tt).map zaN)])) :
  Calls prog 123 #[.pointer (some ⟨cb, 0, none⟩), .int .i64 (lv : Int), .slice A (2 * m) c] w0 (Post w0 (fps [Blk cb 229 [.slice Ot0 (tt).length dt0], OwnA 112 1 Ot0 (tt).length dt0 ((tt).flatMap txL), Many ((tt).map zaN)]) fun v L => ∃ O d Ot dt, ∃ t3 : List Tx, v = .tuple #[.slice O m d, .nilIface] ∧ L = [OwnA 49 32 O m d (hcs ((List.finRange m).map (fun i : Fin m => zbr lv xs i.val))), Blk cb 229 [.slice Ot (t3).length dt], OwnA 112 1 Ot (t3).length dt ((t3).flatMap txL), Many ((t3).map zaN)] ∧ (t3).map (fun t => t.2.2) = (tt).map (fun t => t.2.2) ++ (List.finRange m).map (fun i : Fin m => zaM lv (xs.getD (2 * i.val) zac) (xs.getD (2 * i.val + 1) zac))) := by
 refine cof (L := [Blk cb 229 [.slice Ot0 (tt).length dt0], OwnA 112 1 Ot0 (tt).length dt0 ((tt).flatMap txL), Many ((tt).map zaN)]) 35 [.cell 6 33, .cell 7 51] func123 h0 ?_
 refine TC.ownNil 49 32 (gw ?_)
 intro b3
 refine gw ?_
 intro b4
 refine gw ?_
 intro b6
 refine gw ?_
 intro b7
 refine gw ?_
 intro b8
 refine gw ?_
 refine S.cn J132 (fun w hw => zg9 A (2 * m) c 2 (by decide) w) ?_
 rintro v L' ⟨c2, c3, rfl, rfl⟩
 refine gw ?_
 refine TC.rangeFunc2 (α := Fin m) (fun i : Fin m => [Value.slice (A.map (·.add (2 * i.val * 32))) 2 2]) (fun ys => ys = List.finRange m) (fun _ => True) (fun ys : List (Fin m) => ∃ j, j ≤ m ∧ ys = (List.finRange m).take j) (fun pre L' => ∃ O d Ot dt, ∃ t3 : List Tx, L' = [Blk b8 33 [.slice O pre.length d], OwnA 49 32 O pre.length d (hcs (pre.map (fun i : Fin m => zbr lv xs i.val))), Blk cb 229 [.slice Ot (t3).length dt], OwnA 112 1 Ot (t3).length dt ((t3).flatMap txL), Many ((t3).map zaN)] ∧ (t3).map (fun t => t.2.2) = (tt).map (fun t => t.2.2) ++ pre.map (fun i : Fin m => zaM lv (xs.getD (2 * i.val) zac) (xs.getD (2 * i.val + 1) zac))) (fun _ _ _ => False) (L0 := [Blk b8 33 [.slice none ([] : List (Fin m)).length 0], OwnA 49 32 none ([] : List (Fin m)).length 0 (hcs (([] : List (Fin m)).map (fun i : Fin m => zbr lv xs i.val))), Blk cb 229 [.slice Ot0 (tt).length dt0], OwnA 112 1 Ot0 (tt).length dt0 ((tt).flatMap txL), Many ((tt).map zaN)]) rfl rfl J186 rfl (fun _ => rfl) (pm2.trans (pc (pm6.trans (pc (pm6.trans (pc (pm6.trans (pc pm6)))))))) ⟨none, 0, Ot0, dt0, tt, rfl, (List.append_nil _).symm⟩ (fun w L' hw => zh4 A m c 2 (by decide) hc hcm c2 c3 w L' hw.sat.left (Ro.of_rest hw (.tail _ (.head _))) (Ro.of_rest hw (.head _))) ?_ ?_ (fun _ _ _ _ _ h => h.elim)
 ·rintro w' l Dd Rr Rb pre x L' hPf ⟨O, d, Ot, dt, t3, rfl, e3⟩ hst
  have hpl : pre.length + 1 ≤ m := by obtain ⟨j, hj, e⟩ := hPf; have q := congrArg List.length e; rw [zaJ, List.length_take, List.length_finRange] at q; omega
  have htl : t3.length = tt.length + pre.length := by have q := congrArg List.length e3; rw [List.length_append, List.length_map, List.length_map, List.length_map] at q; exact q
  have hP : Ro w' (fps (Rr :: dfA Dd :: [Blk b8 33 [.slice O pre.length d], OwnA 49 32 O pre.length d (hcs (pre.map (fun i : Fin m => zbr lv xs i.val))), Blk cb 229 [.slice Ot (t3).length dt], OwnA 112 1 Ot (t3).length dt ((t3).flatMap txL), Many ((t3).map zaN)])) (SlA (A.map (·.add (2 * x.val * 32))) (hcs [(xs.getD (2 * x.val) zac), (xs.getD (2 * x.val + 1) zac)])) := by
   rw [← zj4 hm x.isLt]; exact (Ro.of_pre hst hR).part _ _
  have hLv : Ro w' (fps (Rr :: dfA Dd :: [Blk b8 33 [.slice O pre.length d], OwnA 49 32 O pre.length d (hcs (pre.map (fun i : Fin m => zbr lv xs i.val))), Blk cb 229 [.slice Ot (t3).length dt], OwnA 112 1 Ot (t3).length dt ((t3).flatMap txL), Many ((t3).map zaN)])) (Blk b4 3 [.int .i64 (lv : Int)]) := Ro.of_rest hst (List.mem_of_getElem? (i := 4) rfl)
  have hCb : Ro w' (fps (Rr :: dfA Dd :: [Blk b8 33 [.slice O pre.length d], OwnA 49 32 O pre.length d (hcs (pre.map (fun i : Fin m => zbr lv xs i.val))), Blk cb 229 [.slice Ot (t3).length dt], OwnA 112 1 Ot (t3).length dt ((t3).flatMap txL), Many ((t3).map zaN)])) (Blk b3 227 [.pointer (some ⟨cb, 0, none⟩)]) := Ro.of_rest hst (List.mem_of_getElem? (i := 5) rfl)
  have hT2 := Tabs.pre hT hst
  refine gw ?_
  refine ⟨_, sr, ?_⟩
  refine gw ?_
  refine dw ([8, 13], [12]) (gw ?_)
  refine D.qY 3 rfl (Qt.index (i := 0) uT cT rfl rfl (by decide) (Has.ro hP) (by rw [zah]; show 0 * 32 < 2 * 32; decide)) ?_
  refine D.qY 4 rfl (Qt.load rfl (Ld.hashS (l := [(xs.getD (2 * x.val) zac), (xs.getD (2 * x.val + 1) zac)]) (Has.ro hP) 0 rT ce49 (show 0 < 2 by decide) rfl)) (gw ?_)
  refine D.qY 6 rfl (Qt.index (i := 1) uT cT rfl rfl (by decide) (Has.ro hP) (by rw [zah]; show 1 * 32 < 2 * 32; decide)) ?_
  refine D.qY 7 rfl (Qt.load rfl (Ld.hashS (l := [(xs.getD (2 * x.val) zac), (xs.getD (2 * x.val + 1) zac)]) (Has.ro hP) 1 rT ce49 (show 1 < 2 by decide) rfl)) ?_
  refine D.orNE (k1 := 12) (k2 := 8) sn rfl rfl (by kernel_rfl) (by kernel_rfl) rfl rfl rfl rfl ?_ ?_
  ·refine (OpV.alloc zT (fun b10 => (sbk ?_)))
   refine D.oS 8 rfl (OpV.con (Pre := [Blk cb 229 [.slice Ot (t3).length dt], OwnA 112 1 Ot (t3).length dt ((t3).flatMap txL), Many ((t3).map zaN)]) (R := _) J183 rfl (pm5.trans (pc (pm5.trans (pc pm5)))) (fun w hw => zdp cb Ot t3 dt lv h1 h2 (xs.getD (2 * x.val) zac) (xs.getD (2 * x.val + 1) zac) ow w hw.sat.left (hT2.pre hw)) ?_)
   rintro v L' ⟨O5, d5, t, rfl, rfl, et⟩
   refine sbk (gw ?_)
   refine D.oN 13 rfl (OpV.storeV3 (v := hv (zbr lv xs x.val)) rfl rfl (zab ce49) (zai _) (zaf _) (sbk ?_))
   refine gw ?_
   refine D.fi (gw ?_)
   refine S.o (OpV.slice1 (bytes := 32) (v := hv (zbr lv xs x.val)) uT elem49 (by decide) rfl (zaf _) (fun g32 => ?_))
   refine S.o (OpV.app8 (bytes := 32) (news := hvl (zbr lv xs x.val)) uT elem49 rfl rfl (Has.blk (cs := hvl (zbr lv xs x.val)) hz0) (by rw [zag]) (zaw _) (by simp only [maxLen]; omega) ow (fun O' d' => ?_))
   refine S.opN rfl (OpV.storeV7 rfl cw (by exact ce33) (by rfl) (by rfl) ?_)
   refine gw ?_
   refine ⟨_, Sub.trans (sk (sk (sk (sk (sk (sk (sk (sd (sd sn0))))))))) (Sub.trans (sk (Sub.trans (sk (Sub.trans (sk (Sub.trans (sk (Sub.trans (sk (Sub.trans (sk (Sub.trans (sk sr) (Sub.of_perm pm1))) (Sub.of_perm pm1))) (Sub.of_perm pm1))) (Sub.of_perm pm5))) (Sub.of_perm pm5))) (Sub.of_perm pm5))) (Sub.of_perm pm5)), O', d', O5, d5, t3 ++ [t], ?_, ?_⟩
   ·simp only [zaJ, List.map_append, zbg, List.map_cons, List.map_nil, za7, zen, List.append_nil]
    rfl
   ·rw [List.map_append, List.map_append, e3, List.append_assoc, List.map_singleton, List.map_singleton, et]
  ·refine (OpV.con (Pre := [Blk cb 229 [.slice Ot (t3).length dt], OwnA 112 1 Ot (t3).length dt ((t3).flatMap txL), Many ((t3).map zaN)]) (R := _) J183 rfl (pm4.trans (pc (pm4.trans (pc pm4)))) (fun w hw => zdp cb Ot t3 dt lv h1 h2 (xs.getD (2 * x.val) zac) (xs.getD (2 * x.val + 1) zac) ow w hw.sat.left (hT2.pre hw)) ?_)
   rintro v L' ⟨O5, d5, t, rfl, rfl, et⟩
   refine sbk (gw ?_)
   refine D.nN 12 rfl (OpV.alloc zT (fun b10 => (sbk ?_)))
   refine D.oN 13 rfl (OpV.storeV0 (v := hv (zbr lv xs x.val)) rfl rfl (zab ce49) (zai _) (zaf _) (sbk ?_))
   refine gw ?_
   refine D.fi (gw ?_)
   refine S.o (OpV.slice1 (bytes := 32) (v := hv (zbr lv xs x.val)) uT elem49 (by decide) rfl (zaf _) (fun g32 => ?_))
   refine S.o (OpV.app8 (bytes := 32) (news := hvl (zbr lv xs x.val)) uT elem49 rfl rfl (Has.blk (cs := hvl (zbr lv xs x.val)) hz0) (by rw [zag]) (zaw _) (by simp only [maxLen]; omega) ow (fun O' d' => ?_))
   refine S.opN rfl (OpV.storeV7 rfl cw (by exact ce33) (by rfl) (by rfl) ?_)
   refine gw ?_
   refine ⟨_, Sub.trans (sk (sk (sk (sk (sk (sk (sk (sd (sd sn0))))))))) (Sub.trans (sk (Sub.trans (sk (Sub.trans (sk (Sub.trans (sk (Sub.trans (sk (Sub.trans (sk (Sub.trans (sk sr) (Sub.of_perm pm2))) (Sub.of_perm pm2))) (Sub.of_perm pm2))) (Sub.of_perm pm5))) (Sub.of_perm pm5))) (Sub.of_perm pm5))) (Sub.of_perm pm5)), O', d', O5, d5, t3 ++ [t], ?_, ?_⟩
   ·simp only [zaJ, List.map_append, zbg, List.map_cons, List.map_nil, za7, zen, List.append_nil]
    rfl
   ·rw [List.map_append, List.map_append, e3, List.append_assoc, List.map_singleton, List.map_singleton, et]
 ·rintro Dd ys L' rfl ⟨O, d, Ot, dt, t3, rfl, e3⟩
  refine gw ?_
  refine S.opN rfl (OpV.storeV9 rfl cw (by exact ce33) (by rfl) (by rfl) ?_)
  refine S.opN rfl (OpV.storeV8 rfl cw (by exact ce51) (by rfl) (by rfl) ?_)
  refine gw ?_
  refine TC.ret ?_
  refine finQ.retM rfl sr (RVs.cell rfl (Ld.one (Has.at 8 rfl) oT (rfl)) (RVs.cell rfl (Ld.one (Has.at 7 rfl) oT (rfl)) RVs.nil)) (Sub.trans (sk (sk (sk (sk (sd (sd (sd (sd (sd (sd (sd sn0))))))))))) (Sub.trans (sk (Sub.trans (sk (Sub.trans (sk (Sub.trans (sk sr) (Sub.of_perm pm1))) (Sub.of_perm pm1))) (Sub.of_perm pm1))) (Sub.of_perm pm1))) ?_
  rw [List.length_finRange]
  exact ⟨O, d, Ot, dt, t3, rfl, rfl, e3⟩
theorem J122 : zae prog 122 := ⟨_, func122, by kernel_rfl, rfl⟩
theorem J123 : zae prog 123 := ⟨_, func123, by kernel_rfl, rfl⟩
theorem elem33 : zcn prog 33 1 24 := zcv (by kernel_rfl)
theorem zdY (G : OAd) (gc : Nat) (A : OAd) (c : Nat) (l1 : List H32) (B : OAd) (d : Nat) (l2 : List H32) (h1 : 1 ≤ (l1 ++ l2).length) (h2 : (l1 ++ l2).length ≤ 65536) (w0 : World) (hG : Ro w0 [] (SlA G [.slice A l1.length c, .slice B l2.length d])) (hA : Ro w0 [] (SlA A (hcs l1))) (hB : Ro w0 [] (SlA B (hcs l2))) :
  Calls prog 122 #[.slice G 2 gc] w0 (Post w0 [] fun v L => ∃ O d, v = .slice O (l1 ++ l2).length d ∧ L = [OwnA 49 32 O (l1 ++ l2).length d (hcs (l1 ++ l2))]) := by
 have e : cat [(A, c, l1), (B, d, l2)] 2 = l1 ++ l2 := by simp [cat]
 have h := zhn G gc [(A, c, l1), (B, d, l2)] (by show 2 ≤ 16; decide) (by show 1 ≤ (cat [(A, c, l1), (B, d, l2)] 2).length; rw [e]; exact h1) (by show (cat [(A, c, l1), (B, d, l2)] 2).length ≤ 65536; rw [e]; exact h2) w0 hG (fun t ht => by
  rcases List.mem_cons.1 ht with rfl | ht
  ·exact hA
  ·rw [List.mem_singleton.1 ht]; exact hB)
 have h' : Calls prog 122 #[.slice G 2 gc] w0 (Post w0 [] fun v L => ∃ O d', v = .slice O (cat [(A, c, l1), (B, d, l2)] 2).length d' ∧ L = [OwnA 49 32 O (cat [(A, c, l1), (B, d, l2)] 2).length d' (hcs (cat [(A, c, l1), (B, d, l2)] 2))]) := h
 rwa [e] at h'
theorem zh8 (A1 : OAd) (c1 : Nat) (l1 : List H32) (B1 : OAd) (d1 : Nat) (a1 : List H32) (Z1 : OAd) (e1 : Nat) (b1 : List H32) (A2 : OAd) (c2 : Nat) (l2 : List H32) (B2 : OAd) (d2 : Nat) (a2 : List H32) (Z2 : OAd) (e2 : Nat) (b2 : List H32) (w0 : World) :
  Calls prog 60 #[.bool true, .agg #[.slice A1 l1.length c1, .slice B1 a1.length d1, .slice Z1 b1.length e1], .agg #[.slice A2 l2.length c2, .slice B2 a2.length d2, .slice Z2 b2.length e2]] w0 (Post w0 [] fun v L => v = .agg #[.slice A1 l1.length c1, .slice B1 a1.length d1, .slice Z1 b1.length e1] ∧ L = []) := by
 refine co 10 [.cell 6 46] func60 ?_
 refine gw ?_
 intro b4
 refine gw ?_
 intro b5
 refine gw ?_
 intro b6
 refine gw ?_
 refine S.r (Qt.load rfl (Ld.all (vs := (vl (.agg #[.slice A1 l1.length c1, .slice B1 a1.length d1, .slice Z1 b1.length e1]))) hz2 rT ce46)) ?_
 refine S.opN rfl (OpV.storeV0 (v := .agg #[.slice A1 l1.length c1, .slice B1 a1.length d1, .slice Z1 b1.length e1]) rfl rfl (by exact ce46) (rfl) (by rfl) ?_)
 refine gw ?_
 refine TC.ret ?_
 refine finQ.ret (RVs.cell rfl (Ld.all hz0 rT ((by exact ce46))) RVs.nil) sn ?_
 exact ⟨rfl, rfl⟩
theorem zhc (A1 : OAd) (c1 : Nat) (l1 : List H32) (B1 : OAd) (d1 : Nat) (a1 : List H32) (Z1 : OAd) (e1 : Nat) (b1 : List H32) (A2 : OAd) (c2 : Nat) (l2 : List H32) (B2 : OAd) (d2 : Nat) (a2 : List H32) (Z2 : OAd) (e2 : Nat) (b2 : List H32) (w0 : World) :
  Calls prog 60 #[.bool false, .agg #[.slice A1 l1.length c1, .slice B1 a1.length d1, .slice Z1 b1.length e1], .agg #[.slice A2 l2.length c2, .slice B2 a2.length d2, .slice Z2 b2.length e2]] w0 (Post w0 [] fun v L => v = .agg #[.slice A2 l2.length c2, .slice B2 a2.length d2, .slice Z2 b2.length e2] ∧ L = []) := by
 refine co 10 [.cell 6 46] func60 ?_
 refine gw ?_
 intro b4
 refine gw ?_
 intro b5
 refine gw ?_
 intro b6
 refine gw ?_
 refine S.r (Qt.load rfl (Ld.all (vs := (vl (.agg #[.slice A2 l2.length c2, .slice B2 a2.length d2, .slice Z2 b2.length e2]))) hz1 rT ce46)) ?_
 refine S.opN rfl (OpV.storeV0 (v := .agg #[.slice A2 l2.length c2, .slice B2 a2.length d2, .slice Z2 b2.length e2]) rfl rfl (by exact ce46) (rfl) (by rfl) ?_)
 refine gw ?_
 refine TC.ret ?_
 refine finQ.ret (RVs.cell rfl (Ld.all hz0 rT ((by exact ce46))) RVs.nil) sn ?_
 exact ⟨rfl, rfl⟩
theorem zkc (z : Int) (f : Nat) (hf64 : f < 18446744073709551616) (A : OAd) (c : Nat) (ls : List H32) (Bl : OAd) (cl : Nat) (left : List H32) (Br : OAd) (cr : Nat) (right : List H32) (hc : ls.length ≤ c) (hcm : c ≤ maxLen) (hcl : left.length ≤ cl) (hcr : right.length ≤ cr) (hz : (zbM z f ls left right).2 ≠ 0) (w0 : World) (hR : Ro w0 [] (SlA A (hcs ls))) (hl : Ro w0 [] (SlA Bl (hcs left))) (hr : Ro w0 [] (SlA Br (hcs right))) (hT : Tabs 3 1 w0 []) :
  Calls prog 59 #[.int .i64 z, .int .u64 (f : Int), .agg #[.slice A ls.length c, .slice Bl left.length cl, .slice Br right.length cr]] w0 (Post w0 [] fun v L => TxQ none v L) := by
 refine co 94 [.tmp 6, .tmp 7] func59 ?_
 refine gw ?_
 intro b5
 refine gw ?_
 refine S.r (Qt.load rfl (Ld.row (vs := [.slice Bl left.length cl, .slice Br right.length cr]) hz0 rT ce43 zrZ)) ?_
 refine S.c0 J19 (fun w hw => (by have h := ziO z f hf64 A c ls Bl cl left Br cr right hcl hcr w (Rd.ro hR w hw) (Rd.ro hl w hw) (Rd.ro hr w hw) (hT.at hw); rw [zdd hz] at h; exact h : Calls prog 19 #[.int .i64 z, .int .u64 (f : Int), .slice A ls.length c, .agg #[.slice Bl left.length cl, .slice Br right.length cr]] w (Ret w (.tuple #[hv (zbM z f ls left right).1, .iface 73 (.int .i64 ((zbM z f ls left right).2 : Int))])))) (gw ?_)
 intro b8
 refine S.opN rfl (OpV.storeV0 (v := hv (_)) rfl rfl (zab ce49) (zai _) (zaf _) ?_)
 refine gw ?_
 refine TC.ret (fR ?_)
 exact ⟨_, rfl, rfl⟩
theorem zls (h f : Nat) (hh : h ≤ 32) (hf64 : f < 18446744073709551616) (A : OAd) (c : Nat) (ls : List H32) (Bl : OAd) (cl : Nat) (left : List H32) (Br : OAd) (cr : Nat) (right : List H32) (hc : ls.length ≤ c) (hcm : c ≤ maxLen) (hcl : left.length ≤ cl) (hcr : right.length ≤ cr) (h2 : ls.length ≤ 256) (ctx : RowCtx f ls.length h ls left right) (hz : (zbM (h : Int) f ls left right).2 = 0) (w0 : World) (hR : Ro w0 [] (SlA A (hcs ls))) (hl : Ro w0 [] (SlA Bl (hcs left))) (hr : Ro w0 [] (SlA Br (hcs right))) (hT : Tabs 3 1 w0 []) :
  Calls prog 59 #[.int .i64 (h : Int), .int .u64 (f : Int), .agg #[.slice A ls.length c, .slice Bl left.length cl, .slice Br right.length cr]] w0 (Post w0 [] fun v L => TxQ (some (zdt f ls.length h ls left right h)) v L) := by
 refine co 94 [.tmp 6, .tmp 7] func59 ?_
 have hpw : 2 ^ h ≤ 4294967296 := (show 2 ^ h ≤ 2 ^ 32 from Nat.pow_le_pow_right (by decide) hh)
 have h1 := ctx.n1
 have hfit := ctx.fit
 refine gw ?_
 intro b5
 refine gw ?_
 refine S.r (Qt.load rfl (Ld.row (vs := [.slice Bl left.length cl, .slice Br right.length cr]) hz0 rT ce43 zrZ)) ?_
 refine S.c0 J19 (fun w hw => (by have h := ziO (h : Int) f hf64 A c ls Bl cl left Br cr right hcl hcr w (Rd.ro hR w hw) (Rd.ro hl w hw) (Rd.ro hr w hw) (hT.at hw); rw [hz, znN] at h; exact h : Calls prog 19 #[.int .i64 (h : Int), .int .u64 (f : Int), .slice A ls.length c, .agg #[.slice Bl left.length cl, .slice Br right.length cr]] w (Ret w (.tuple #[hv (zbM (h : Int) f ls left right).1, .nilIface])))) (gw ?_)
 intro b8
 refine S.opN rfl (OpV.storeV0 (v := hv (_)) rfl rfl (zab ce49) (zai _) (zaf _) ?_)
 refine gw ?_
 refine S.r (Qt.build (v := .agg #[.slice none 0 0]) rfl (fun _ => by kernel_rfl)) (gw ?_)
 intro b33
 refine gw ?_
 refine dw ([], []) (gw ?_)
 refine D.fi (gw ?_)
 refine S.r (Qt.convert uT uT rfl km) ?_
 refine S.r (Qt.add rfl rfl km) ?_
 refine S.r (Qt.sub (b := 1) rfl rfl ow km) (gw ?_)
 refine TC.ownNil 112 1 ?_
 refine TC.manyNil ?_
 refine TC.manyNil ?_
 refine TC.loop (γ := Nat × (OAd × Nat × List Assn) × (OAd × Nat) × (OAd × Nat) × OAd × List Tx × Nat) [51, 52, 16, 53, 54, 55, 56, 57, 58, 59, 60, 11, 61, 62, 12, 63, 64, 65, 66, 67, 68, 69, 70, 71, 72, 13, 74, 75, 76, 77, 78, 73, 79, 80, 17, 18, 81, 82, 83, 6, 7, 84, 85, 86, 87, 88, 14, 15, 89, 50] (fun g => [(50, .int .i64 ((g.1 : Nat) : Int)), (11, .slice g.2.1.1 (zat f ls.length h ls left right g.1).length g.2.1.2.1), (14, .int .u64 ((f / 2 ^ g.1 : Nat) : Int)), (15, .int .u64 (((f + ls.length - 1) / 2 ^ g.1 : Nat) : Int)), (12, .slice g.2.2.1.1 (left.drop (zaq f g.1).length).length g.2.2.1.2), (13, .slice g.2.2.2.1.1 (right.drop (zan (f + ls.length - 1) g.1).length).length g.2.2.2.1.2)]) (fun g => [Blk b33 229 [.slice g.2.2.2.2.1 g.2.2.2.2.2.1.length g.2.2.2.2.2.2], OwnA 112 1 g.2.2.2.2.1 (g.2.2.2.2.2.1).length g.2.2.2.2.2.2 ((g.2.2.2.2.2.1).flatMap txL), Many ((g.2.2.2.2.2.1).map zaN), Many g.2.1.2.2, Blk b8 49 (hvl (zbM (h : Int) f ls left right).1), Blk b5 46 [.slice A ls.length c, .slice Bl left.length cl, .slice Br right.length cr]]) (fun g => g.1 ≤ h ∧ Less Bl left (zaq f g.1).length g.2.2.1.1 g.2.2.1.2 ∧ Less Br right (zan (f + ls.length - 1) g.1).length g.2.2.2.1.1 g.2.2.2.1.2 ∧ (OwnA 49 32 g.2.1.1 (zat f ls.length h ls left right g.1).length g.2.1.2.1 (hcs (zat f ls.length h ls left right g.1)) ∈ g.2.1.2.2 ∨ Ro w0 [] (SlA g.2.1.1 (hcs (zat f ls.length h ls left right g.1))) ∧ (zat f ls.length h ls left right g.1).length ≤ g.2.1.2.1 ∧ g.2.1.2.1 ≤ maxLen) ∧ g.2.2.2.2.2.1.map (fun t => t.2.2) = (zdt f ls.length h ls left right g.1)) (fun g => h - g.1) ((0, (A, c, []), (Bl, cl), (Br, cr), none, [], 0))
  ⟨Nat.zero_le _, Less.zero hcl, Less.zero hcr, .inr (by rw [ctx.zero]; exact ⟨hR, hc, hcm⟩), rfl⟩ ⟨Out.refl _ _, (List.forall_mem_cons.2 ⟨rfl, (List.forall_mem_cons.2 ⟨(by show Value.slice A ls.length c = Value.slice A (zat f ls.length h ls left right 0).length c; rw [ctx.zero]), (List.forall_mem_cons.2 ⟨(by show Value.int .u64 (f : Int) = Value.int .u64 ((f / 2 ^ 0 : Nat) : Int); rw [Nat.pow_zero, Nat.div_one]), (List.forall_mem_cons.2 ⟨(by show Value.int .u64 (((f + ls.length - 1) : Nat) : Int) = Value.int .u64 (((f + ls.length - 1) / 2 ^ 0 : Nat) : Int); rw [Nat.pow_zero, Nat.div_one]), ag⟩)⟩)⟩)⟩)⟩ ((by dsimp only; exact Sub.trans (sk (Sub.trans (sk (Sub.trans (sk sr) (Sub.of_perm pm1))) (Sub.of_perm pm2))) (Sub.of_perm pm3))) ?_
 rintro ⟨k, ⟨O, d, Lr⟩, ⟨A1, c1⟩, ⟨A2, c2⟩, Ot, tt, dt⟩ u ⟨hk, le1, le2, hrow, htt⟩
 dsimp only at hk le1 le2 hrow htt
 obtain ⟨hpos, hlen⟩ := ctx.lenAt k
 refine gw ?_
 refine S.dec rfl rfl (Qt.lt rfl rfl) (fun h51 => gw ?_) (fun h51 => gw ?_)
 ·refine S.r (Qt.rem (b := 2) rfl rfl ow) ?_
  refine S.dec rfl rfl (Qt.eq (b := 1) rfl rfl) (fun h55 => gw ?_) (fun h55 => gw ?_)
  ·refine S.r (Qt.slice_hi (h := 1) uT cT rfl rfl (by show 1 ≤ c1; have q : (left.drop (zaq f k).length).length ≤ c1 := le1.cap; rw [List.length_drop] at q; have := zcM ctx.lenL (show k < h from h51) (show f / 2 ^ k % 2 = 1 from h55); omega)) (gw ?_)
   refine S.o (OpV.sliceLO (vs := [.slice A1 1 c1, .slice O (zat f ls.length h ls left right k).length d]) uT elem33 rfl (by decide) rfl (zfs rfl rfl) (fun g59 => ?_))
   have hx1 : Ro w0 [] (SlA A1 (hcs [(left.getD (zaq f k).length zac)])) := by have q := (le1.ro _ _ hl).take 32; rwa [zg4 (zcM ctx.lenL (show k < h from h51) (show f / 2 ^ k % 2 = 1 from h55))] at q
   refine S.cn J122 (fun w hw => (zdY (some ⟨g59, 0, none⟩) 2 A1 c1 [(left.getD (zaq f k).length zac)] O d (zat f ls.length h ls left right k) (by rw [List.length_append, List.length_singleton]; omega) (by rw [List.length_append, List.length_singleton]; omega) w (Rd.own (Rd.at 0 rfl) w hw) (Rd.ro hx1 w hw) (ztr (Rd.at 4 rfl) (hrow.imp_right (·.1)) w hw) : Calls prog 122 #[.slice (some ⟨g59, 0, none⟩) 2 2] w (Post w [] fun v L => ∃ O d, v = .slice O ([(left.getD (zaq f k).length zac)] ++ (zat f ls.length h ls left right k)).length d ∧ L = [OwnA 49 32 O ([(left.getD (zaq f k).length zac)] ++ (zat f ls.length h ls left right k)).length d (hcs ([(left.getD (zaq f k).length zac)] ++ (zat f ls.length h ls left right k)))]))) ?_
   rintro v L' ⟨O1, d1, rfl, rfl⟩
   refine gw ?_
   refine S.r (Qt.slice_lo (l := 1) uT cT rfl rfl (by show 1 ≤ (left.drop (zaq f k).length).length; rw [List.length_drop]; have := zcM ctx.lenL (show k < h from h51) (show f / 2 ^ k % 2 = 1 from h55); omega)) (gw ?_)
   refine S.r (Qt.rem (b := 2) rfl rfl ow) ?_
   refine S.dec rfl rfl (Qt.eq (b := 0) rfl rfl) (fun h65 => gw ?_) (fun h65 => ?_)
   ·refine S.r (Qt.slice_hi (h := 1) uT cT rfl rfl (by show 1 ≤ c2; have q : (right.drop (zan (f + ls.length - 1) k).length).length ≤ c2 := le2.cap; rw [List.length_drop] at q; have := zbw ctx.lenR (show k < h from h51) (show (f + ls.length - 1) / 2 ^ k % 2 = 0 from h65); omega)) ?_
    refine S.o (OpV.sliceLO (vs := [.slice O1 ([(left.getD (zaq f k).length zac)] ++ (zat f ls.length h ls left right k)).length d1, .slice A2 1 c2]) uT elem33 rfl (by decide) rfl (zfs rfl rfl) (fun g69 => ?_))
    have hx2 : Ro w0 [] (SlA A2 (hcs [(right.getD (zan (f + ls.length - 1) k).length zac)])) := by have q := (le2.ro _ _ hr).take 32; rwa [zg4 (zbw ctx.lenR (show k < h from h51) (show (f + ls.length - 1) / 2 ^ k % 2 = 0 from h65))] at q
    refine S.cn J122 (fun w hw => (zdY (some ⟨g69, 0, none⟩) 2 O1 d1 ([(left.getD (zaq f k).length zac)] ++ (zat f ls.length h ls left right k)) A2 c2 [(right.getD (zan (f + ls.length - 1) k).length zac)] (by rw [List.length_append, List.length_singleton]; omega) (by simp only [List.length_append, List.length_singleton]; omega) w (Rd.own (Rd.at 0 rfl) w hw) ((Rd.own (Rd.at 1 rfl) w hw)) (Rd.ro hx2 w hw) : Calls prog 122 #[.slice (some ⟨g69, 0, none⟩) 2 2] w (Post w [] fun v L => ∃ O d, v = .slice O (([(left.getD (zaq f k).length zac)] ++ (zat f ls.length h ls left right k)) ++ [(right.getD (zan (f + ls.length - 1) k).length zac)]).length d ∧ L = [OwnA 49 32 O (([(left.getD (zaq f k).length zac)] ++ (zat f ls.length h ls left right k)) ++ [(right.getD (zan (f + ls.length - 1) k).length zac)]).length d (hcs (([(left.getD (zaq f k).length zac)] ++ (zat f ls.length h ls left right k)) ++ [(right.getD (zan (f + ls.length - 1) k).length zac)]))]))) ?_
    rintro v L' ⟨O2, d2, rfl, rfl⟩
    refine gw ?_
    refine S.r (Qt.slice_lo (l := 1) uT cT rfl rfl (by show 1 ≤ (right.drop (zan (f + ls.length - 1) k).length).length; rw [List.length_drop]; have := zbw ctx.lenR (show k < h from h51) (show (f + ls.length - 1) / 2 ^ k % 2 = 0 from h65); omega)) ?_
    have hmid : (([(left.getD (zaq f k).length zac)] ++ (zat f ls.length h ls left right k)) ++ [(right.getD (zan (f + ls.length - 1) k).length zac)]) = (zaK f ls.length h ls left right k) := by rw [zaK, if_pos (show f / 2 ^ k % 2 = 1 from h55), if_pos (show (f + ls.length - 1) / 2 ^ k % 2 = 0 from h65)]
    have hml : (([(left.getD (zaq f k).length zac)] ++ (zat f ls.length h ls left right k)) ++ [(right.getD (zan (f + ls.length - 1) k).length zac)]).length = 2 * ((f + ls.length - 1) / 2 ^ (k + 1) + 1 - f / 2 ^ (k + 1)) := by rw [hmid]; exact ctx.midLen (show k < h from h51)
    have htt2 := zbP h1 h2 (show k ≤ 32 by omega) htt
    refine gw ?_
    refine S.o (OpV.con (Pre := [Blk b33 229 [.slice Ot tt.length dt], OwnA 112 1 Ot (tt).length dt ((tt).flatMap txL), Many ((tt).map zaN)]) (R := _) J123 rfl (pm4.trans (pc (pm4.trans (pc pm4)))) (fun w hw => (by have cap := zaL (hw.ok (List.mem_of_getElem? (i := 3) rfl)); have hc0 := cap.1; have hm0 := cap.2.1; have hro := (Ro.of_rest hw (List.mem_of_getElem? (i := 0) rfl)).own; rw [hmid] at hro; have q := zdx b33 Ot tt dt (k + 1) ow ow O2 ((f + ls.length - 1) / 2 ^ (k + 1) + 1 - f / 2 ^ (k + 1)) d2 (zaK f ls.length h ls left right k) (ctx.midLen (show k < h from h51)) (by rw [← hml]; exact hc0) (by simp only [maxLen] at hm0; omega) (by have := ctx.lenAt (k + 1); have e2 : (zat f ls.length h ls left right (k + 1)).length = ((f + ls.length - 1) / 2 ^ (k + 1) + 1 - f / 2 ^ (k + 1)) := (by rw [zat, za8]); omega) w hw.sat.left hro (hT.pre hw); rw [← hml] at q; exact q : Calls prog 123 #[.pointer (some ⟨b33, 0, none⟩), .int .i64 ((k + 1 : Nat) : Int), .slice O2 (([(left.getD (zaq f k).length zac)] ++ (zat f ls.length h ls left right k)) ++ [(right.getD (zan (f + ls.length - 1) k).length zac)]).length d2] w (Post w (fps [Blk b33 229 [.slice Ot tt.length dt], OwnA 112 1 Ot (tt).length dt ((tt).flatMap txL), Many ((tt).map zaN)]) fun v L => ∃ O d Ot3 dt3, ∃ t3 : List Tx, v = .tuple #[.slice O ((f + ls.length - 1) / 2 ^ (k + 1) + 1 - f / 2 ^ (k + 1)) d, .nilIface] ∧ L = [OwnA 49 32 O ((f + ls.length - 1) / 2 ^ (k + 1) + 1 - f / 2 ^ (k + 1)) d (hcs ((List.finRange ((f + ls.length - 1) / 2 ^ (k + 1) + 1 - f / 2 ^ (k + 1))).map (fun i : Fin ((f + ls.length - 1) / 2 ^ (k + 1) + 1 - f / 2 ^ (k + 1)) => zbr (k + 1) (zaK f ls.length h ls left right k) i.val))), Blk b33 229 [.slice Ot3 (t3).length dt3], OwnA 112 1 Ot3 (t3).length dt3 ((t3).flatMap txL), Many ((t3).map zaN)] ∧ t3.map (fun t => t.2.2) = tt.map (fun t => t.2.2) ++ (List.finRange ((f + ls.length - 1) / 2 ^ (k + 1) + 1 - f / 2 ^ (k + 1))).map (fun i : Fin ((f + ls.length - 1) / 2 ^ (k + 1) + 1 - f / 2 ^ (k + 1)) => zaM (k + 1) ((zaK f ls.length h ls left right k).getD (2 * i.val) zac) ((zaK f ls.length h ls left right k).getD (2 * i.val + 1) zac))))) ?_)
    rintro v L' ⟨O3, d3, O4, d4, t3, rfl, rfl, e3⟩
    have hnx : (List.finRange ((f + ls.length - 1) / 2 ^ (k + 1) + 1 - f / 2 ^ (k + 1))).map (fun i : Fin ((f + ls.length - 1) / 2 ^ (k + 1) + 1 - f / 2 ^ (k + 1)) => zbr (k + 1) (zaK f ls.length h ls left right k) i.val) = (zat f ls.length h ls left right (k + 1)) := ctx.next (show k < h from h51) rfl
    have hnl : ((f + ls.length - 1) / 2 ^ (k + 1) + 1 - f / 2 ^ (k + 1)) = (zat f ls.length h ls left right (k + 1)).length := by rw [zat, za8]
    have ht3 : t3.map (fun t => t.2.2) = (zdt f ls.length h ls left right (k + 1)) := by rw [e3, htt, zbK]; exact congrArg _ (zcx ((f + ls.length - 1) / 2 ^ (k + 1) + 1 - f / 2 ^ (k + 1)) (fun i => zaM (k + 1) ((zaK f ls.length h ls left right k).getD (2 * i) zac) ((zaK f ls.length h ls left right k).getD (2 * i + 1) zac)))
    rw [hnx, hnl]
    refine TL.manyOne (gw ?_)
    refine S.r (Qt.as (Qt.quo (b := 2) rfl rfl ow (by have := Nat.div_le_self f (2 ^ k); simp only [kmax]; omega)) (by rw [zay])) (gw ?_)
    refine S.r (Qt.as (Qt.quo (b := 2) rfl rfl ow (by have := Nat.div_le_self (f + ls.length - 1) (2 ^ k); simp only [kmax]; omega)) (by rw [zay])) (gw ?_)
    refine ⟨(k + 1, (O3, d3, [OwnA 49 32 O3 (zat f ls.length h ls left right (k + 1)).length d3 (hcs (zat f ls.length h ls left right (k + 1)))]), ((if c1 = 1 then A1 else A1.map (·.add (1 * 32))), (c1 - 1)), ((if c2 = 1 then A2 else A2.map (·.add (1 * 32))), (c2 - 1)), O4, t3, d4), ?_, ?_, ⟨?_, (List.forall_mem_cons.2 ⟨rfl, (List.forall_mem_cons.2 ⟨rfl, (List.forall_mem_cons.2 ⟨rfl, (List.forall_mem_cons.2 ⟨rfl, (List.forall_mem_cons.2 ⟨(by show Value.slice (if c1 = 1 then A1 else A1.map (·.add (1 * 32))) ((left.drop (zaq f k).length).length - 1) (c1 - 1) = Value.slice (if c1 = 1 then A1 else A1.map (·.add (1 * 32))) (left.drop (zaq f (k + 1)).length).length (c1 - 1); rw [zb4 (show f / 2 ^ k % 2 = 1 from h55), zaJ, List.length_drop, List.length_drop]; congr 1), (List.forall_mem_cons.2 ⟨(by show Value.slice (if c2 = 1 then A2 else A2.map (·.add (1 * 32))) ((right.drop (zan (f + ls.length - 1) k).length).length - 1) (c2 - 1) = Value.slice (if c2 = 1 then A2 else A2.map (·.add (1 * 32))) (right.drop (zan (f + ls.length - 1) (k + 1)).length).length (c2 - 1); rw [zb5 (show (f + ls.length - 1) / 2 ^ k % 2 = 0 from h65), zaJ, List.length_drop, List.length_drop]; congr 1), (fun _ h => nomatch h)⟩)⟩)⟩)⟩)⟩)⟩)⟩, (by dsimp only; exact Sub.trans (sk (sk (sk (sk (sk (sk (sd (sd (sd (sd (sd sn0))))))))))) (Sub.trans (sk (Sub.trans (sk (Sub.trans (sk (sk (Sub.trans (sk (Sub.trans (sk sr) (Sub.of_perm pm5))) (Sub.of_perm pm5)))) (Sub.of_perm pm1))) (Sub.of_perm pm1))) (Sub.of_perm pm1)))⟩
    ·exact ⟨by show _ ≤ _; dsimp only; omega, by rw [zb4 (show f / 2 ^ k % 2 = 1 from h55), zaJ]; exact le1.next (Less.one le1.cap (by (try dsimp only); rw [List.length_drop]; have := zcM ctx.lenL (show k < h from h51) (show f / 2 ^ k % 2 = 1 from h55); omega)), by rw [zb5 (show (f + ls.length - 1) / 2 ^ k % 2 = 0 from h65), zaJ]; exact le2.next (Less.one le2.cap (by (try dsimp only); rw [List.length_drop]; have := zbw ctx.lenR (show k < h from h51) (show (f + ls.length - 1) / 2 ^ k % 2 = 0 from h65); omega)), .inl (List.mem_singleton.2 rfl), ht3⟩
    ·show _ < _; dsimp only; omega
    exact outs
   ·have hmid : ([(left.getD (zaq f k).length zac)] ++ (zat f ls.length h ls left right k)) = (zaK f ls.length h ls left right k) := by rw [zaK, if_pos (show f / 2 ^ k % 2 = 1 from h55), if_neg (show ¬ (f + ls.length - 1) / 2 ^ k % 2 = 0 from h65)]; simp only [List.nil_append, List.append_nil]
    have hml : ([(left.getD (zaq f k).length zac)] ++ (zat f ls.length h ls left right k)).length = 2 * ((f + ls.length - 1) / 2 ^ (k + 1) + 1 - f / 2 ^ (k + 1)) := by rw [hmid]; exact ctx.midLen (show k < h from h51)
    have htt2 := zbP h1 h2 (show k ≤ 32 by omega) htt
    refine gw ?_
    refine S.o (OpV.con (Pre := [Blk b33 229 [.slice Ot tt.length dt], OwnA 112 1 Ot (tt).length dt ((tt).flatMap txL), Many ((tt).map zaN)]) (R := _) J123 rfl (pm2.trans (pc (pm2.trans (pc pm2)))) (fun w hw => (by have cap := zaL (hw.ok (List.mem_of_getElem? (i := 3) rfl)); have hc0 := cap.1; have hm0 := cap.2.1; have hro := (Ro.of_rest hw (List.mem_of_getElem? (i := 0) rfl)).own; rw [hmid] at hro; have q := zdx b33 Ot tt dt (k + 1) ow ow O1 ((f + ls.length - 1) / 2 ^ (k + 1) + 1 - f / 2 ^ (k + 1)) d1 (zaK f ls.length h ls left right k) (ctx.midLen (show k < h from h51)) (by rw [← hml]; exact hc0) (by simp only [maxLen] at hm0; omega) (by have := ctx.lenAt (k + 1); have e2 : (zat f ls.length h ls left right (k + 1)).length = ((f + ls.length - 1) / 2 ^ (k + 1) + 1 - f / 2 ^ (k + 1)) := (by rw [zat, za8]); omega) w hw.sat.left hro (hT.pre hw); rw [← hml] at q; exact q : Calls prog 123 #[.pointer (some ⟨b33, 0, none⟩), .int .i64 ((k + 1 : Nat) : Int), .slice O1 ([(left.getD (zaq f k).length zac)] ++ (zat f ls.length h ls left right k)).length d1] w (Post w (fps [Blk b33 229 [.slice Ot tt.length dt], OwnA 112 1 Ot (tt).length dt ((tt).flatMap txL), Many ((tt).map zaN)]) fun v L => ∃ O d Ot3 dt3, ∃ t3 : List Tx, v = .tuple #[.slice O ((f + ls.length - 1) / 2 ^ (k + 1) + 1 - f / 2 ^ (k + 1)) d, .nilIface] ∧ L = [OwnA 49 32 O ((f + ls.length - 1) / 2 ^ (k + 1) + 1 - f / 2 ^ (k + 1)) d (hcs ((List.finRange ((f + ls.length - 1) / 2 ^ (k + 1) + 1 - f / 2 ^ (k + 1))).map (fun i : Fin ((f + ls.length - 1) / 2 ^ (k + 1) + 1 - f / 2 ^ (k + 1)) => zbr (k + 1) (zaK f ls.length h ls left right k) i.val))), Blk b33 229 [.slice Ot3 (t3).length dt3], OwnA 112 1 Ot3 (t3).length dt3 ((t3).flatMap txL), Many ((t3).map zaN)] ∧ t3.map (fun t => t.2.2) = tt.map (fun t => t.2.2) ++ (List.finRange ((f + ls.length - 1) / 2 ^ (k + 1) + 1 - f / 2 ^ (k + 1))).map (fun i : Fin ((f + ls.length - 1) / 2 ^ (k + 1) + 1 - f / 2 ^ (k + 1)) => zaM (k + 1) ((zaK f ls.length h ls left right k).getD (2 * i.val) zac) ((zaK f ls.length h ls left right k).getD (2 * i.val + 1) zac))))) ?_)
    rintro v L' ⟨O3, d3, O4, d4, t3, rfl, rfl, e3⟩
    have hnx : (List.finRange ((f + ls.length - 1) / 2 ^ (k + 1) + 1 - f / 2 ^ (k + 1))).map (fun i : Fin ((f + ls.length - 1) / 2 ^ (k + 1) + 1 - f / 2 ^ (k + 1)) => zbr (k + 1) (zaK f ls.length h ls left right k) i.val) = (zat f ls.length h ls left right (k + 1)) := ctx.next (show k < h from h51) rfl
    have hnl : ((f + ls.length - 1) / 2 ^ (k + 1) + 1 - f / 2 ^ (k + 1)) = (zat f ls.length h ls left right (k + 1)).length := by rw [zat, za8]
    have ht3 : t3.map (fun t => t.2.2) = (zdt f ls.length h ls left right (k + 1)) := by rw [e3, htt, zbK]; exact congrArg _ (zcx ((f + ls.length - 1) / 2 ^ (k + 1) + 1 - f / 2 ^ (k + 1)) (fun i => zaM (k + 1) ((zaK f ls.length h ls left right k).getD (2 * i) zac) ((zaK f ls.length h ls left right k).getD (2 * i + 1) zac)))
    rw [hnx, hnl]
    refine TL.manyOne (gw ?_)
    refine S.r (Qt.as (Qt.quo (b := 2) rfl rfl ow (by have := Nat.div_le_self f (2 ^ k); simp only [kmax]; omega)) (by rw [zay])) (gw ?_)
    refine S.r (Qt.as (Qt.quo (b := 2) rfl rfl ow (by have := Nat.div_le_self (f + ls.length - 1) (2 ^ k); simp only [kmax]; omega)) (by rw [zay])) (gw ?_)
    refine ⟨(k + 1, (O3, d3, [OwnA 49 32 O3 (zat f ls.length h ls left right (k + 1)).length d3 (hcs (zat f ls.length h ls left right (k + 1)))]), ((if c1 = 1 then A1 else A1.map (·.add (1 * 32))), (c1 - 1)), (A2, c2), O4, t3, d4), ?_, ?_, ⟨?_, (List.forall_mem_cons.2 ⟨rfl, (List.forall_mem_cons.2 ⟨rfl, (List.forall_mem_cons.2 ⟨rfl, (List.forall_mem_cons.2 ⟨rfl, (List.forall_mem_cons.2 ⟨(by show Value.slice (if c1 = 1 then A1 else A1.map (·.add (1 * 32))) ((left.drop (zaq f k).length).length - 1) (c1 - 1) = Value.slice (if c1 = 1 then A1 else A1.map (·.add (1 * 32))) (left.drop (zaq f (k + 1)).length).length (c1 - 1); rw [zb4 (show f / 2 ^ k % 2 = 1 from h55), zaJ, List.length_drop, List.length_drop]; congr 1), (List.forall_mem_cons.2 ⟨(by show Value.slice A2 (right.drop (zan (f + ls.length - 1) k).length).length c2 = Value.slice A2 (right.drop (zan (f + ls.length - 1) (k + 1)).length).length c2; rw [zcq (show ¬ (f + ls.length - 1) / 2 ^ k % 2 = 0 from h65)]), (fun _ h => nomatch h)⟩)⟩)⟩)⟩)⟩)⟩)⟩, (by dsimp only; exact Sub.trans (sk (sk (sk (sk (sk (sk (sd (sd (sd sn0))))))))) (Sub.trans (sk (Sub.trans (sk (Sub.trans (sk (sk (Sub.trans (sk (Sub.trans (sk sr) (Sub.of_perm pm3))) (Sub.of_perm pm3)))) (Sub.of_perm pm1))) (Sub.of_perm pm1))) (Sub.of_perm pm1)))⟩
    ·exact ⟨by show _ ≤ _; dsimp only; omega, by rw [zb4 (show f / 2 ^ k % 2 = 1 from h55), zaJ]; exact le1.next (Less.one le1.cap (by (try dsimp only); rw [List.length_drop]; have := zcM ctx.lenL (show k < h from h51) (show f / 2 ^ k % 2 = 1 from h55); omega)), by rw [zcq (show ¬ (f + ls.length - 1) / 2 ^ k % 2 = 0 from h65)]; exact le2, .inl (List.mem_singleton.2 rfl), ht3⟩
    ·show _ < _; dsimp only; omega
    exact outs
  ·refine S.r (Qt.rem (b := 2) rfl rfl ow) ?_
   refine S.dec rfl rfl (Qt.eq (b := 0) rfl rfl) (fun h65 => gw ?_) (fun h65 => ?_)
   ·refine S.r (Qt.slice_hi (h := 1) uT cT rfl rfl (by show 1 ≤ c2; have q : (right.drop (zan (f + ls.length - 1) k).length).length ≤ c2 := le2.cap; rw [List.length_drop] at q; have := zbw ctx.lenR (show k < h from h51) (show (f + ls.length - 1) / 2 ^ k % 2 = 0 from h65); omega)) ?_
    refine S.o (OpV.sliceLO (vs := [.slice O (zat f ls.length h ls left right k).length d, .slice A2 1 c2]) uT elem33 rfl (by decide) rfl (zfs rfl rfl) (fun g69 => ?_))
    have hx2 : Ro w0 [] (SlA A2 (hcs [(right.getD (zan (f + ls.length - 1) k).length zac)])) := by have q := (le2.ro _ _ hr).take 32; rwa [zg4 (zbw ctx.lenR (show k < h from h51) (show (f + ls.length - 1) / 2 ^ k % 2 = 0 from h65))] at q
    refine S.cn J122 (fun w hw => (zdY (some ⟨g69, 0, none⟩) 2 O d (zat f ls.length h ls left right k) A2 c2 [(right.getD (zan (f + ls.length - 1) k).length zac)] (by rw [List.length_append, List.length_singleton]; omega) (by simp only [List.length_append, List.length_singleton]; omega) w (Rd.own (Rd.at 0 rfl) w hw) (ztr (Rd.at 4 rfl) (hrow.imp_right (·.1)) w hw) (Rd.ro hx2 w hw) : Calls prog 122 #[.slice (some ⟨g69, 0, none⟩) 2 2] w (Post w [] fun v L => ∃ O d, v = .slice O ((zat f ls.length h ls left right k) ++ [(right.getD (zan (f + ls.length - 1) k).length zac)]).length d ∧ L = [OwnA 49 32 O ((zat f ls.length h ls left right k) ++ [(right.getD (zan (f + ls.length - 1) k).length zac)]).length d (hcs ((zat f ls.length h ls left right k) ++ [(right.getD (zan (f + ls.length - 1) k).length zac)]))]))) ?_
    rintro v L' ⟨O2, d2, rfl, rfl⟩
    refine gw ?_
    refine S.r (Qt.slice_lo (l := 1) uT cT rfl rfl (by show 1 ≤ (right.drop (zan (f + ls.length - 1) k).length).length; rw [List.length_drop]; have := zbw ctx.lenR (show k < h from h51) (show (f + ls.length - 1) / 2 ^ k % 2 = 0 from h65); omega)) ?_
    have hmid : ((zat f ls.length h ls left right k) ++ [(right.getD (zan (f + ls.length - 1) k).length zac)]) = (zaK f ls.length h ls left right k) := by rw [zaK, if_neg (show ¬ f / 2 ^ k % 2 = 1 from h55), if_pos (show (f + ls.length - 1) / 2 ^ k % 2 = 0 from h65)]; simp only [List.nil_append, List.append_nil]
    have hml : ((zat f ls.length h ls left right k) ++ [(right.getD (zan (f + ls.length - 1) k).length zac)]).length = 2 * ((f + ls.length - 1) / 2 ^ (k + 1) + 1 - f / 2 ^ (k + 1)) := by rw [hmid]; exact ctx.midLen (show k < h from h51)
    have htt2 := zbP h1 h2 (show k ≤ 32 by omega) htt
    refine gw ?_
    refine S.o (OpV.con (Pre := [Blk b33 229 [.slice Ot tt.length dt], OwnA 112 1 Ot (tt).length dt ((tt).flatMap txL), Many ((tt).map zaN)]) (R := _) J123 rfl (pm2.trans (pc (pm2.trans (pc pm2)))) (fun w hw => (by have cap := zaL (hw.ok (List.mem_of_getElem? (i := 3) rfl)); have hc0 := cap.1; have hm0 := cap.2.1; have hro := (Ro.of_rest hw (List.mem_of_getElem? (i := 0) rfl)).own; rw [hmid] at hro; have q := zdx b33 Ot tt dt (k + 1) ow ow O2 ((f + ls.length - 1) / 2 ^ (k + 1) + 1 - f / 2 ^ (k + 1)) d2 (zaK f ls.length h ls left right k) (ctx.midLen (show k < h from h51)) (by rw [← hml]; exact hc0) (by simp only [maxLen] at hm0; omega) (by have := ctx.lenAt (k + 1); have e2 : (zat f ls.length h ls left right (k + 1)).length = ((f + ls.length - 1) / 2 ^ (k + 1) + 1 - f / 2 ^ (k + 1)) := (by rw [zat, za8]); omega) w hw.sat.left hro (hT.pre hw); rw [← hml] at q; exact q : Calls prog 123 #[.pointer (some ⟨b33, 0, none⟩), .int .i64 ((k + 1 : Nat) : Int), .slice O2 ((zat f ls.length h ls left right k) ++ [(right.getD (zan (f + ls.length - 1) k).length zac)]).length d2] w (Post w (fps [Blk b33 229 [.slice Ot tt.length dt], OwnA 112 1 Ot (tt).length dt ((tt).flatMap txL), Many ((tt).map zaN)]) fun v L => ∃ O d Ot3 dt3, ∃ t3 : List Tx, v = .tuple #[.slice O ((f + ls.length - 1) / 2 ^ (k + 1) + 1 - f / 2 ^ (k + 1)) d, .nilIface] ∧ L = [OwnA 49 32 O ((f + ls.length - 1) / 2 ^ (k + 1) + 1 - f / 2 ^ (k + 1)) d (hcs ((List.finRange ((f + ls.length - 1) / 2 ^ (k + 1) + 1 - f / 2 ^ (k + 1))).map (fun i : Fin ((f + ls.length - 1) / 2 ^ (k + 1) + 1 - f / 2 ^ (k + 1)) => zbr (k + 1) (zaK f ls.length h ls left right k) i.val))), Blk b33 229 [.slice Ot3 (t3).length dt3], OwnA 112 1 Ot3 (t3).length dt3 ((t3).flatMap txL), Many ((t3).map zaN)] ∧ t3.map (fun t => t.2.2) = tt.map (fun t => t.2.2) ++ (List.finRange ((f + ls.length - 1) / 2 ^ (k + 1) + 1 - f / 2 ^ (k + 1))).map (fun i : Fin ((f + ls.length - 1) / 2 ^ (k + 1) + 1 - f / 2 ^ (k + 1)) => zaM (k + 1) ((zaK f ls.length h ls left right k).getD (2 * i.val) zac) ((zaK f ls.length h ls left right k).getD (2 * i.val + 1) zac))))) ?_)
    rintro v L' ⟨O3, d3, O4, d4, t3, rfl, rfl, e3⟩
    have hnx : (List.finRange ((f + ls.length - 1) / 2 ^ (k + 1) + 1 - f / 2 ^ (k + 1))).map (fun i : Fin ((f + ls.length - 1) / 2 ^ (k + 1) + 1 - f / 2 ^ (k + 1)) => zbr (k + 1) (zaK f ls.length h ls left right k) i.val) = (zat f ls.length h ls left right (k + 1)) := ctx.next (show k < h from h51) rfl
    have hnl : ((f + ls.length - 1) / 2 ^ (k + 1) + 1 - f / 2 ^ (k + 1)) = (zat f ls.length h ls left right (k + 1)).length := by rw [zat, za8]
    have ht3 : t3.map (fun t => t.2.2) = (zdt f ls.length h ls left right (k + 1)) := by rw [e3, htt, zbK]; exact congrArg _ (zcx ((f + ls.length - 1) / 2 ^ (k + 1) + 1 - f / 2 ^ (k + 1)) (fun i => zaM (k + 1) ((zaK f ls.length h ls left right k).getD (2 * i) zac) ((zaK f ls.length h ls left right k).getD (2 * i + 1) zac)))
    rw [hnx, hnl]
    refine TL.manyOne (gw ?_)
    refine S.r (Qt.as (Qt.quo (b := 2) rfl rfl ow (by have := Nat.div_le_self f (2 ^ k); simp only [kmax]; omega)) (by rw [zay])) (gw ?_)
    refine S.r (Qt.as (Qt.quo (b := 2) rfl rfl ow (by have := Nat.div_le_self (f + ls.length - 1) (2 ^ k); simp only [kmax]; omega)) (by rw [zay])) (gw ?_)
    refine ⟨(k + 1, (O3, d3, [OwnA 49 32 O3 (zat f ls.length h ls left right (k + 1)).length d3 (hcs (zat f ls.length h ls left right (k + 1)))]), (A1, c1), ((if c2 = 1 then A2 else A2.map (·.add (1 * 32))), (c2 - 1)), O4, t3, d4), ?_, ?_, ⟨?_, (List.forall_mem_cons.2 ⟨rfl, (List.forall_mem_cons.2 ⟨rfl, (List.forall_mem_cons.2 ⟨rfl, (List.forall_mem_cons.2 ⟨rfl, (List.forall_mem_cons.2 ⟨(by show Value.slice A1 (left.drop (zaq f k).length).length c1 = Value.slice A1 (left.drop (zaq f (k + 1)).length).length c1; rw [zcp (show ¬ f / 2 ^ k % 2 = 1 from h55)]), (List.forall_mem_cons.2 ⟨(by show Value.slice (if c2 = 1 then A2 else A2.map (·.add (1 * 32))) ((right.drop (zan (f + ls.length - 1) k).length).length - 1) (c2 - 1) = Value.slice (if c2 = 1 then A2 else A2.map (·.add (1 * 32))) (right.drop (zan (f + ls.length - 1) (k + 1)).length).length (c2 - 1); rw [zb5 (show (f + ls.length - 1) / 2 ^ k % 2 = 0 from h65), zaJ, List.length_drop, List.length_drop]; congr 1), (fun _ h => nomatch h)⟩)⟩)⟩)⟩)⟩)⟩)⟩, (by dsimp only; exact Sub.trans (sk (sk (sk (sk (sk (sk (sd (sd (sd sn0))))))))) (Sub.trans (sk (Sub.trans (sk (Sub.trans (sk (sk (Sub.trans (sk (Sub.trans (sk sr) (Sub.of_perm pm3))) (Sub.of_perm pm3)))) (Sub.of_perm pm1))) (Sub.of_perm pm1))) (Sub.of_perm pm1)))⟩
    ·exact ⟨by show _ ≤ _; dsimp only; omega, by rw [zcp (show ¬ f / 2 ^ k % 2 = 1 from h55)]; exact le1, by rw [zb5 (show (f + ls.length - 1) / 2 ^ k % 2 = 0 from h65), zaJ]; exact le2.next (Less.one le2.cap (by (try dsimp only); rw [List.length_drop]; have := zbw ctx.lenR (show k < h from h51) (show (f + ls.length - 1) / 2 ^ k % 2 = 0 from h65); omega)), .inl (List.mem_singleton.2 rfl), ht3⟩
    ·show _ < _; dsimp only; omega
    exact outs
   ·have hmid : (zat f ls.length h ls left right k) = (zaK f ls.length h ls left right k) := by rw [zaK, if_neg (show ¬ f / 2 ^ k % 2 = 1 from h55), if_neg (show ¬ (f + ls.length - 1) / 2 ^ k % 2 = 0 from h65)]; simp only [List.nil_append, List.append_nil]
    have hml : (zat f ls.length h ls left right k).length = 2 * ((f + ls.length - 1) / 2 ^ (k + 1) + 1 - f / 2 ^ (k + 1)) := by rw [hmid]; exact ctx.midLen (show k < h from h51)
    have htt2 := zbP h1 h2 (show k ≤ 32 by omega) htt
    refine gw ?_
    refine S.o (OpV.con (Pre := [Blk b33 229 [.slice Ot tt.length dt], OwnA 112 1 Ot (tt).length dt ((tt).flatMap txL), Many ((tt).map zaN)]) (R := _) J123 rfl pr (fun w hw => (by have hmm : ∀ B ∈ Lr, B.ok w := hw.ok (A := Many Lr) (List.mem_of_getElem? (i := 3) rfl); have hcap : (zat f ls.length h ls left right k).length ≤ d ∧ d ≤ maxLen := hrow.elim (fun m => have q := zaL (hmm _ m); ⟨q.1, q.2.1⟩) (fun q => q.2); have hc0 := hcap.1; have hm0 := hcap.2; have hro := zts hw (List.mem_of_getElem? (i := 0) rfl) (hrow.imp_right (·.1)); rw [hmid] at hro; have q := zdx b33 Ot tt dt (k + 1) ow ow O ((f + ls.length - 1) / 2 ^ (k + 1) + 1 - f / 2 ^ (k + 1)) d (zaK f ls.length h ls left right k) (ctx.midLen (show k < h from h51)) (by rw [← hml]; exact hc0) (by simp only [maxLen] at hm0; omega) (by have := ctx.lenAt (k + 1); have e2 : (zat f ls.length h ls left right (k + 1)).length = ((f + ls.length - 1) / 2 ^ (k + 1) + 1 - f / 2 ^ (k + 1)) := (by rw [zat, za8]); omega) w hw.sat.left hro (hT.pre hw); rw [← hml] at q; exact q : Calls prog 123 #[.pointer (some ⟨b33, 0, none⟩), .int .i64 ((k + 1 : Nat) : Int), .slice O (zat f ls.length h ls left right k).length d] w (Post w (fps [Blk b33 229 [.slice Ot tt.length dt], OwnA 112 1 Ot (tt).length dt ((tt).flatMap txL), Many ((tt).map zaN)]) fun v L => ∃ O d Ot3 dt3, ∃ t3 : List Tx, v = .tuple #[.slice O ((f + ls.length - 1) / 2 ^ (k + 1) + 1 - f / 2 ^ (k + 1)) d, .nilIface] ∧ L = [OwnA 49 32 O ((f + ls.length - 1) / 2 ^ (k + 1) + 1 - f / 2 ^ (k + 1)) d (hcs ((List.finRange ((f + ls.length - 1) / 2 ^ (k + 1) + 1 - f / 2 ^ (k + 1))).map (fun i : Fin ((f + ls.length - 1) / 2 ^ (k + 1) + 1 - f / 2 ^ (k + 1)) => zbr (k + 1) (zaK f ls.length h ls left right k) i.val))), Blk b33 229 [.slice Ot3 (t3).length dt3], OwnA 112 1 Ot3 (t3).length dt3 ((t3).flatMap txL), Many ((t3).map zaN)] ∧ t3.map (fun t => t.2.2) = tt.map (fun t => t.2.2) ++ (List.finRange ((f + ls.length - 1) / 2 ^ (k + 1) + 1 - f / 2 ^ (k + 1))).map (fun i : Fin ((f + ls.length - 1) / 2 ^ (k + 1) + 1 - f / 2 ^ (k + 1)) => zaM (k + 1) ((zaK f ls.length h ls left right k).getD (2 * i.val) zac) ((zaK f ls.length h ls left right k).getD (2 * i.val + 1) zac))))) ?_)
    rintro v L' ⟨O3, d3, O4, d4, t3, rfl, rfl, e3⟩
    have hnx : (List.finRange ((f + ls.length - 1) / 2 ^ (k + 1) + 1 - f / 2 ^ (k + 1))).map (fun i : Fin ((f + ls.length - 1) / 2 ^ (k + 1) + 1 - f / 2 ^ (k + 1)) => zbr (k + 1) (zaK f ls.length h ls left right k) i.val) = (zat f ls.length h ls left right (k + 1)) := ctx.next (show k < h from h51) rfl
    have hnl : ((f + ls.length - 1) / 2 ^ (k + 1) + 1 - f / 2 ^ (k + 1)) = (zat f ls.length h ls left right (k + 1)).length := by rw [zat, za8]
    have ht3 : t3.map (fun t => t.2.2) = (zdt f ls.length h ls left right (k + 1)) := by rw [e3, htt, zbK]; exact congrArg _ (zcx ((f + ls.length - 1) / 2 ^ (k + 1) + 1 - f / 2 ^ (k + 1)) (fun i => zaM (k + 1) ((zaK f ls.length h ls left right k).getD (2 * i) zac) ((zaK f ls.length h ls left right k).getD (2 * i + 1) zac)))
    rw [hnx, hnl]
    refine TL.manyOne (gw ?_)
    refine S.r (Qt.as (Qt.quo (b := 2) rfl rfl ow (by have := Nat.div_le_self f (2 ^ k); simp only [kmax]; omega)) (by rw [zay])) (gw ?_)
    refine S.r (Qt.as (Qt.quo (b := 2) rfl rfl ow (by have := Nat.div_le_self (f + ls.length - 1) (2 ^ k); simp only [kmax]; omega)) (by rw [zay])) (gw ?_)
    refine ⟨(k + 1, (O3, d3, [OwnA 49 32 O3 (zat f ls.length h ls left right (k + 1)).length d3 (hcs (zat f ls.length h ls left right (k + 1)))]), (A1, c1), (A2, c2), O4, t3, d4), ?_, ?_, ⟨?_, (List.forall_mem_cons.2 ⟨rfl, (List.forall_mem_cons.2 ⟨rfl, (List.forall_mem_cons.2 ⟨rfl, (List.forall_mem_cons.2 ⟨rfl, (List.forall_mem_cons.2 ⟨(by show Value.slice A1 (left.drop (zaq f k).length).length c1 = Value.slice A1 (left.drop (zaq f (k + 1)).length).length c1; rw [zcp (show ¬ f / 2 ^ k % 2 = 1 from h55)]), (List.forall_mem_cons.2 ⟨(by show Value.slice A2 (right.drop (zan (f + ls.length - 1) k).length).length c2 = Value.slice A2 (right.drop (zan (f + ls.length - 1) (k + 1)).length).length c2; rw [zcq (show ¬ (f + ls.length - 1) / 2 ^ k % 2 = 0 from h65)]), (fun _ h => nomatch h)⟩)⟩)⟩)⟩)⟩)⟩)⟩, (by dsimp only; exact Sub.trans (sk (sk (sk (sk (sk (sk (sd sn0))))))) (Sub.trans (sk (Sub.trans (sk (Sub.trans (sk (sk (Sub.trans (sk (Sub.trans (sk sr) (Sub.of_perm pm1))) (Sub.of_perm pm1)))) (Sub.of_perm pm1))) (Sub.of_perm pm1))) (Sub.of_perm pm1)))⟩
    ·exact ⟨by show _ ≤ _; dsimp only; omega, by rw [zcp (show ¬ f / 2 ^ k % 2 = 1 from h55)]; exact le1, by rw [zcq (show ¬ (f + ls.length - 1) / 2 ^ k % 2 = 0 from h65)]; exact le2, .inl (List.mem_singleton.2 rfl), ht3⟩
    ·show _ < _; dsimp only; omega
    exact outs
 ·refine TC.exit (TC.seq (gw ?_))
  refine TC.ret (finQ.ret rv (Sub.trans (sk (sk (sd (sd (sd (sd sn0)))))) (Sub.trans (sk (Sub.trans (sk sr) (Sub.of_perm pm1))) (Sub.of_perm pm1))) ?_)
  obtain rfl : k = h := by omega
  exact ⟨Ot, dt, tt, rfl, rfl, htt, by have := zbP h1 h2 hh htt; omega⟩
end Go.Proofs.YtgdjcmehlhebdaaGreatDoor
