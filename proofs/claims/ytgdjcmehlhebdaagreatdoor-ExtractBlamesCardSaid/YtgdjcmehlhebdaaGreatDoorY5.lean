/- Walks: the root that leaves and a proof come to -/
import Derived.Test.YtgdjcmehlhebdaaGreatDoorY4
set_option maxHeartbeats 25600000
namespace Go.Proofs.YtgdjcmehlhebdaaGreatDoor
open _root_.Go.Proofs.Tryz
open Go.E
set_option maxRecDepth 4000
def zrQ (height l : Nat) : Prop := ∀ (p : Nat) (xs : List Nat) (A : OAd) (c cb : Nat) (A1 : OAd) (lr : List H32) (c1 : Nat) (A2 : OAd) (br : List H32) (c2 : Nat) (O : OAd) (tt : List Tx) (d : Nat) (w0 : World),
 okAt height (l, p) → xs.Pairwise (· < ·) → (∀ x ∈ xs, x / 2 ^ l = p) → xs.length ≤ c → xs.length ≤ 256 → xs.length ≤ lr.length → (zaj l xs p).length ≤ br.length → lr.length ≤ c1 → br.length ≤ c2 → tt.length + xs.length * l ≤ 16384 → lr.length ≤ 65536 → br.length ≤ 65536 →
 Sat w0 (zaZ 331 112 cb A1 lr c1 A2 br c2 O tt d) → Ro w0 (fps (zaZ 331 112 cb A1 lr c1 A2 br c2 O tt d)) (SlA A (u64s xs)) → Ro w0 (fps (zaZ 331 112 cb A1 lr c1 A2 br c2 O tt d)) (SlA A1 (hcs lr)) → Ro w0 (fps (zaZ 331 112 cb A1 lr c1 A2 br c2 O tt d)) (SlA A2 (hcs br)) → Tabs 3 1 w0 (fps (zaZ 331 112 cb A1 lr c1 A2 br c2 O tt d)) →
 Calls prog 206 #[.pointer (some ⟨cb, 0, none⟩), .slice A xs.length c, .int .i64 (l : Int), .int .u64 (p : Int)] w0 (Post w0 (fps (zaZ 331 112 cb A1 lr c1 A2 br c2 O tt d)) fun v L => ∃ A1' c1' A2' c2' O' d' tt', v = .tuple #[hv (zaH l xs p (lr.take xs.length) (br.take (zaj l xs p).length)), .nilIface] ∧
  L = zaZ 331 112 cb A1' (lr.drop xs.length) c1' A2' (br.drop (zaj l xs p).length) c2' O' (tt ++ tt') d' ∧ tt'.map (fun t => t.2.2) = zbo l xs p (lr.take xs.length) (br.take (zaj l xs p).length) ∧ Less A1 lr xs.length A1' c1' ∧ Less A2 br (zaj l xs p).length A2' c2')
theorem zkJ (cb : Nat) (B : OAd) (lr : List H32) (c1 : Nat) (u t : Value) (h0 : 0 < lr.length) (hc : lr.length ≤ c1) (hm : lr.length ≤ 65536) (w0 : World) (hL : Sat w0 [Blk cb 331 [.slice B lr.length c1, u, t]]) (hB : Ro w0 (fps [Blk cb 331 [.slice B lr.length c1, u, t]]) (SlA B (hcs lr))) :
  Calls prog 214 #[.pointer (some ⟨cb, 0, none⟩)] w0 (Post w0 (fps [Blk cb 331 [.slice B lr.length c1, u, t]]) fun v L => v = hv (lr.getD 0 zac) ∧ L = [Blk cb 331 [.slice (if c1 = 1 then B else B.map (·.add (1 * 32))) (lr.length - 1) (c1 - 1), u, t]]) := by
 refine cof (L := [Blk cb 331 [.slice B lr.length c1, u, t]]) 16 [.cell 2 49] func214 hL ?_
 refine gw ?_
 intro b2
 refine gw ?_
 refine S.r (Qt.index (i := 0) uT cT rfl rfl ow (Has.ro hB) (by rw [zah]; omega)) ?_
 refine S.r (Qt.load rfl (Ld.hashS (Has.ro hB) 0 rT ce49 h0 rfl)) (gw ?_)
 intro b3
 refine S.opN rfl (OpV.storeV0 (v := hv (_)) rfl rfl (zab ce49) (zai _) (zaf _) ?_)
 refine gw ?_
 refine S.r (Qt.slice_lo (l := 1) uT cT rfl rfl ow) (gw ?_)
 refine S.opN rfl (OpV.storeC2 rfl cw cT rfl rfl (Nat.le_of_ble_eq_true rfl) ?_)
 refine gw ?_
 refine S.opN rfl (OpV.storeV1 (v := hv (_)) rfl rfl (zab ce49) (zai _) (zaf _) ?_)
 refine gw ?_
 refine TC.ret ?_
 refine finQ.ret (RVs.cell rfl (Ld.all hz1 rT (zab ce49)) RVs.nil) (Sub.trans (sk (sd (sd sn0))) (Sub.trans (sk sr) (Sub.of_perm pm2))) ?_
 exact ⟨rfl, rfl⟩
theorem zkK (cb : Nat) (B : OAd) (lr : List H32) (c1 : Nat) (u t : Value) (h0 : 0 < lr.length) (hc : lr.length ≤ c1) (hm : lr.length ≤ 65536) (w0 : World) (hL : Sat w0 [Blk cb 331 [u, .slice B lr.length c1, t]]) (hB : Ro w0 (fps [Blk cb 331 [u, .slice B lr.length c1, t]]) (SlA B (hcs lr))) :
  Calls prog 214 #[.pointer (some ⟨cb, 1, none⟩)] w0 (Post w0 (fps [Blk cb 331 [u, .slice B lr.length c1, t]]) fun v L => v = hv (lr.getD 0 zac) ∧ L = [Blk cb 331 [u, .slice (if c1 = 1 then B else B.map (·.add (1 * 32))) (lr.length - 1) (c1 - 1), t]]) := by
 refine cof (L := [Blk cb 331 [u, .slice B lr.length c1, t]]) 16 [.cell 2 49] func214 hL ?_
 refine gw ?_
 intro b2
 refine gw ?_
 refine S.r (Qt.index (i := 0) uT cT rfl rfl ow (Has.ro hB) (by rw [zah]; omega)) ?_
 refine S.r (Qt.load rfl (Ld.hashS (Has.ro hB) 0 rT ce49 h0 rfl)) (gw ?_)
 intro b3
 refine S.opN rfl (OpV.storeV0 (v := hv (_)) rfl rfl (zab ce49) (zai _) (zaf _) ?_)
 refine gw ?_
 refine S.r (Qt.slice_lo (l := 1) uT cT rfl rfl ow) (gw ?_)
 refine S.opN rfl (OpV.storeC2 rfl cw cT rfl rfl (Nat.le_of_ble_eq_true rfl) ?_)
 refine gw ?_
 refine S.opN rfl (OpV.storeV1 (v := hv (_)) rfl rfl (zab ce49) (zai _) (zaf _) ?_)
 refine gw ?_
 refine TC.ret ?_
 refine finQ.ret (RVs.cell rfl (Ld.all hz1 rT (zab ce49)) RVs.nil) (Sub.trans (sk (sd (sd sn0))) (Sub.trans (sk sr) (Sub.of_perm pm2))) ?_
 exact ⟨rfl, rfl⟩
theorem zgB (height : Nat) (hh : height ≤ 32) (l p : Nat) (xs : List Nat) (A : OAd) (c cb : Nat) (A1 : OAd) (lr : List H32) (c1 : Nat) (A2 : OAd) (br : List H32) (c2 : Nat) (O : OAd) (tt : List Tx) (d : Nat) (w0 : World) (ho : okAt height (l, p)) (hs : xs.Pairwise (· < ·)) (hx : ∀ x ∈ xs, x / 2 ^ (l) = p) (hc : xs.length ≤ c) (hn : xs.length ≤ 256) (hl1 : xs.length ≤ lr.length) (hl2 : (zaj (l) xs p).length ≤ br.length) (hc1 : lr.length ≤ c1) (hc2 : br.length ≤ c2) (htt : tt.length + xs.length * (l) ≤ 16384) (hm1 : lr.length ≤ 65536) (hm2 : br.length ≤ 65536) (h0 : Sat w0 (zaZ 331 112 cb A1 lr c1 A2 br c2 O tt d)) (hR : Ro w0 (fps (zaZ 331 112 cb A1 lr c1 A2 br c2 O tt d)) (SlA A (u64s xs))) (hA1 : Ro w0 (fps (zaZ 331 112 cb A1 lr c1 A2 br c2 O tt d)) (SlA A1 (hcs lr))) (hA2 : Ro w0 (fps (zaZ 331 112 cb A1 lr c1 A2 br c2 O tt d)) (SlA A2 (hcs br))) (hT : Tabs 3 1 w0 (fps (zaZ 331 112 cb A1 lr c1 A2 br c2 O tt d))) (he : xs = []) :
  Calls prog 206 #[.pointer (some ⟨cb, 0, none⟩), .slice A xs.length c, .int .i64 ((l : Nat) : Int), .int .u64 (p : Int)] w0 (Post w0 (fps (zaZ 331 112 cb A1 lr c1 A2 br c2 O tt d)) fun v L => ∃ A1' c1' A2' c2' O' d' tt', v = .tuple #[hv (zaH (l) xs p (lr.take xs.length) (br.take (zaj (l) xs p).length)), .nilIface] ∧ L = zaZ 331 112 cb A1' (lr.drop xs.length) c1' A2' (br.drop (zaj (l) xs p).length) c2' O' (tt ++ tt') d' ∧ tt'.map (fun t => t.2.2) = zbo (l) xs p (lr.take xs.length) (br.take (zaj (l) xs p).length) ∧ Less A1 lr xs.length A1' c1' ∧ Less A2 br (zaj (l) xs p).length A2' c2') := by
 refine cof (L := zaZ 331 112 cb A1 lr c1 A2 br c2 O tt d) 90 [.cell 8 49, .tmp 9] func206 h0 ?_
 subst he
 have hb1 : 1 ≤ br.length := by rw [zbF] at hl2; exact hl2
 refine gw ?_
 intro b8
 refine gw ?_
 refine S.r (Qt.dT (Qt.eq (b := 0) rfl rfl) (rfl)) (gw ?_)
 refine S.o (OpV.con (Pre := [Blk cb 331 [.slice A1 lr.length c1, .slice A2 br.length c2, .slice O tt.length d]]) (R := _) J214 rfl pm1 (fun w hw => zkK cb A2 br c2 (.slice A1 lr.length c1) (.slice O tt.length d) ow hc2 hm2 w hw.sat.left (Ro.of_pre hw hA2)) ?_)
 rintro v L' ⟨rfl, rfl⟩
 refine S.opN rfl (OpV.storeV1 (v := hv (_)) rfl rfl (zab ce49) (zai _) (zaf _) ?_)
 refine gw ?_
 refine TC.ret ?_
 refine finQ.ret (RVs.cell rfl (Ld.all hz1 rT (zab ce49)) rv) (Sub.trans (sk (sk (sk (sd sn0)))) (sk (Sub.trans (sk (Sub.trans (sk sr) (Sub.of_perm pm1))) (Sub.of_perm pm1)))) ?_
 refine ⟨A1, c1, if c2 = 1 then A2 else A2.map (·.add (1 * 32)), c2 - 1, O, d, [], ?_, ?_, by rw [zfh]; rfl, Less.zero hc1, ?_⟩
 ·rw [zbJ, zhJ (by rw [zbF]; exact Nat.zero_lt_one)]; rfl
 ·rw [List.append_nil, List.length_nil, List.drop_zero, zbF, zaZ, List.length_drop]; rfl
 ·rw [zbF]; exact Less.one hc2 hb1
theorem zkL (height : Nat) (hh : height ≤ 32) (p : Nat) (xs : List Nat) (A : OAd) (c cb : Nat) (A1 : OAd) (lr : List H32) (c1 : Nat) (A2 : OAd) (br : List H32) (c2 : Nat) (O : OAd) (tt : List Tx) (d : Nat) (w0 : World) (ho : okAt height (0, p)) (hs : xs.Pairwise (· < ·)) (hx : ∀ x ∈ xs, x / 2 ^ (0) = p) (hc : xs.length ≤ c) (hn : xs.length ≤ 256) (hl1 : xs.length ≤ lr.length) (hl2 : (zaj (0) xs p).length ≤ br.length) (hc1 : lr.length ≤ c1) (hc2 : br.length ≤ c2) (htt : tt.length + xs.length * (0) ≤ 16384) (hm1 : lr.length ≤ 65536) (hm2 : br.length ≤ 65536) (h0 : Sat w0 (zaZ 331 112 cb A1 lr c1 A2 br c2 O tt d)) (hR : Ro w0 (fps (zaZ 331 112 cb A1 lr c1 A2 br c2 O tt d)) (SlA A (u64s xs))) (hA1 : Ro w0 (fps (zaZ 331 112 cb A1 lr c1 A2 br c2 O tt d)) (SlA A1 (hcs lr))) (hA2 : Ro w0 (fps (zaZ 331 112 cb A1 lr c1 A2 br c2 O tt d)) (SlA A2 (hcs br))) (hT : Tabs 3 1 w0 (fps (zaZ 331 112 cb A1 lr c1 A2 br c2 O tt d))) (he : xs ≠ []) :
  Calls prog 206 #[.pointer (some ⟨cb, 0, none⟩), .slice A xs.length c, .int .i64 ((0 : Nat) : Int), .int .u64 (p : Int)] w0 (Post w0 (fps (zaZ 331 112 cb A1 lr c1 A2 br c2 O tt d)) fun v L => ∃ A1' c1' A2' c2' O' d' tt', v = .tuple #[hv (zaH (0) xs p (lr.take xs.length) (br.take (zaj (0) xs p).length)), .nilIface] ∧ L = zaZ 331 112 cb A1' (lr.drop xs.length) c1' A2' (br.drop (zaj (0) xs p).length) c2' O' (tt ++ tt') d' ∧ tt'.map (fun t => t.2.2) = zbo (0) xs p (lr.take xs.length) (br.take (zaj (0) xs p).length) ∧ Less A1 lr xs.length A1' c1' ∧ Less A2 br (zaj (0) xs p).length A2' c2') := by
 refine cof (L := zaZ 331 112 cb A1 lr c1 A2 br c2 O tt d) 90 [.cell 8 49, .tmp 9] func206 h0 ?_
 have hpos := List.length_pos_iff.2 he
 have h1 : xs.length = 1 := by have := zlU hs hx; omega
 have hb1 : 0 < lr.length := by omega
 refine gw ?_
 intro b8
 refine gw ?_
 refine S.r (Qt.dF (Qt.eq (b := 0) rfl rfl) ow) (gw ?_)
 refine S.r (Qt.dT (Qt.eq (b := 0) rfl rfl) (rfl)) (gw ?_)
 refine S.o (OpV.con (Pre := [Blk cb 331 [.slice A1 lr.length c1, .slice A2 br.length c2, .slice O tt.length d]]) (R := _) J214 rfl pm1 (fun w hw => zkJ cb A1 lr c1 (.slice A2 br.length c2) (.slice O tt.length d) ow hc1 hm1 w hw.sat.left (Ro.of_pre hw hA1)) ?_)
 rintro v L' ⟨rfl, rfl⟩
 refine S.opN rfl (OpV.storeV1 (v := hv (_)) rfl rfl (zab ce49) (zai _) (zaf _) ?_)
 refine gw ?_
 refine TC.ret ?_
 refine finQ.ret (RVs.cell rfl (Ld.all hz1 rT (zab ce49)) rv) (Sub.trans (sk (sk (sk (sd sn0)))) (sk (Sub.trans (sk (Sub.trans (sk sr) (Sub.of_perm pm1))) (Sub.of_perm pm1)))) ?_
 refine ⟨if c1 = 1 then A1 else A1.map (·.add (1 * 32)), c1 - 1, A2, c2, O, d, [], ?_, ?_, rfl, ?_, by rw [zd7 he]; exact Less.zero hc2⟩
 ·rw [zdl he, zhJ ow]; rfl
 ·rw [List.append_nil, zd7 he, List.length_nil, List.drop_zero, zaZ, List.length_drop, h1]
 ·rw [h1]; exact Less.one hc1 hb1
theorem zkM (height : Nat) (hh : height ≤ 32) (l p : Nat) (xs : List Nat) (A : OAd) (c cb : Nat) (A1 : OAd) (lr : List H32) (c1 : Nat) (A2 : OAd) (br : List H32) (c2 : Nat) (O : OAd) (tt : List Tx) (d : Nat) (w0 : World) (ho : okAt height (l + 1, p)) (hs : xs.Pairwise (· < ·)) (hx : ∀ x ∈ xs, x / 2 ^ (l + 1) = p) (hc : xs.length ≤ c) (hn : xs.length ≤ 256) (hl1 : xs.length ≤ lr.length) (hl2 : (zaj (l + 1) xs p).length ≤ br.length) (hc1 : lr.length ≤ c1) (hc2 : br.length ≤ c2) (htt : tt.length + xs.length * (l + 1) ≤ 16384) (hm1 : lr.length ≤ 65536) (hm2 : br.length ≤ 65536) (h0 : Sat w0 (zaZ 331 112 cb A1 lr c1 A2 br c2 O tt d)) (hR : Ro w0 (fps (zaZ 331 112 cb A1 lr c1 A2 br c2 O tt d)) (SlA A (u64s xs))) (hA1 : Ro w0 (fps (zaZ 331 112 cb A1 lr c1 A2 br c2 O tt d)) (SlA A1 (hcs lr))) (hA2 : Ro w0 (fps (zaZ 331 112 cb A1 lr c1 A2 br c2 O tt d)) (SlA A2 (hcs br))) (hT : Tabs 3 1 w0 (fps (zaZ 331 112 cb A1 lr c1 A2 br c2 O tt d))) (he : xs ≠ []) (hrec : zrQ height l) :
    Calls prog 206 #[.pointer (some ⟨cb, 0, none⟩), .slice A xs.length c, .int .i64 ((l + 1 : Nat) : Int), .int .u64 (p : Int)] w0 (Post w0 (fps (zaZ 331 112 cb A1 lr c1 A2 br c2 O tt d)) fun v L => ∃ A1' c1' A2' c2' O' d' tt', v = .tuple #[hv (zaH (l + 1) xs p (lr.take xs.length) (br.take (zaj (l + 1) xs p).length)), .nilIface] ∧ L = zaZ 331 112 cb A1' (lr.drop xs.length) c1' A2' (br.drop (zaj (l + 1) xs p).length) c2' O' (tt ++ tt') d' ∧ tt'.map (fun t => t.2.2) = zbo (l + 1) xs p (lr.take xs.length) (br.take (zaj (l + 1) xs p).length) ∧ Less A1 lr xs.length A1' c1' ∧ Less A2 br (zaj (l + 1) xs p).length A2' c2') := by
  refine Calls.of (L := zaZ 331 112 cb A1 lr c1 A2 br c2 O tt d) (n := 90) (rs := [.cell 8 49, .tmp 9]) func206 rfl rfl rfl (Nat.le_of_ble_eq_true rfl) (h0) ?_
  have hpos := List.length_pos_iff.2 he
  obtain ⟨hl32, hp32⟩ := zgu hh ho
  obtain ⟨okl, okr⟩ := zdP ho
  have hcl := zfY xs l (2 * p)
  have hcr := zfY xs l (2 * p + 1)
  have hnn := congrArg List.length (zcy l p xs hs hx)
  rw [List.length_append] at hnn
  have hsp := congrArg List.length (zcc (l := l) (p := p) he)
  rw [List.length_append] at hsp
  have hmul : xs.length * (l + 1) = (cutN xs l (2 * p)).length * l + (cutN xs l (2 * p + 1)).length * l + xs.length := by rw [Nat.mul_succ, hnn, Nat.add_mul]
  obtain ⟨eV, eT⟩ := zjm (lr := lr) (br := br) he hs hx
  refine TC.seq ?_
  refine TC.region ?_
  refine S.o (OpV.alloc zT (fun b8 => ?_))
  refine S.as ?_
  refine S.nil ?_
  refine TC.seq ?_
  refine TC.block ?_
  refine TC.seq ?_
  refine TC.region ?_
  refine S.mv ?_
  refine S.r (Qt.len_slice uT rfl) ?_
  refine S.r (Qt.dF (Qt.eq (b := 0) rfl rfl) ow) ?_
  refine S.as ?_
  refine S.nil ?_
  refine S.if_f rfl ?_
  refine TC.seq ?_
  refine TC.region ?_
  refine S.mv ?_
  refine S.r (Qt.dF (Qt.eq (b := 0) rfl rfl) ow) ?_
  refine S.as ?_
  refine S.nil ?_
  refine S.if_f rfl ?_
  refine TC.skip ?_
  refine TC.seq ?_
  refine TC.region ?_
  refine S.mv ?_
  refine S.mv ?_
  refine S.mv ?_
  refine S.o (OpV.con (Pre := []) (R := _) J187 rfl pr (fun w hw => zhK height l p hh ho A c xs hs hx hc hn w (Rd.ro hR w hw)) ?_)
  rintro v L' ⟨A', c', rfl, rfl, hc', hro⟩
  refine S.mv ?_
  refine S.r (Qt.extract rfl rfl) ?_
  refine S.r (Qt.extract rfl rfl) ?_
  refine S.as ?_
  refine S.as ?_
  refine S.nil ?_
  refine TC.seq ?_
  refine TC.region ?_
  refine S.mv ?_
  refine S.mv ?_
  refine S.mv ?_
  refine S.r (Qt.as (Qt.sub (a := l + 1) (b := 1) rfl rfl ow km) (by rw [Nat.add_sub_cancel])) ?_
  refine S.mv ?_
  refine S.r (Qt.mul (a := 2) rfl rfl km) ?_
  refine S.o (OpV.con (Pre := zaZ 331 112 cb A1 lr c1 A2 br c2 O tt d) (R := _) J206 rfl (pm1.trans (pc (pm1.trans (pc pm1)))) (fun w hw => hrec (2 * p) (cutN xs l (2 * p)) A c cb A1 lr c1 A2 br c2 O tt d w okl (zbN hs) zcg ow ow ow ow hc1 hc2 ow hm1 hm2 hw.sat.left (hro w _ (Ro.of_pre hw hR)).1 (Ro.of_pre hw hA1) (Ro.of_pre hw hA2) (hT.pre hw)) ?_)
  rintro v L' ⟨A1l, c1l, A2l, c2l, Ol, dl, tl, rfl, rfl, etl, le1, le2⟩
  have ltl := congrArg List.length etl
  rw [List.length_map] at ltl
  have btl := zcz l (cutN xs l (2 * p)) (2 * p) (lr.take (cutN xs l (2 * p)).length) (br.take (zaj l (cutN xs l (2 * p)) (2 * p)).length)
  refine S.mv ?_
  refine S.r (Qt.extract rfl rfl) ?_
  refine S.r (Qt.extract rfl rfl) ?_
  refine S.o (OpV.alloc zT (fun b12 => ?_))
  refine S.opN rfl (OpV.storeV0 (v := hv (_)) rfl rfl (zab ce49) (zai _) (zaf _) ?_)
  refine S.as ?_
  refine S.nil ?_
  refine TC.seq ?_
  refine TC.seq ?_
  refine TC.region ?_
  refine S.mv ?_
  refine S.r (Qt.nenil_nil uT rfl) ?_
  refine S.nil ?_
  refine S.if_f rfl ?_
  refine TC.skip ?_
  refine TC.seq ?_
  refine TC.region ?_
  refine S.mv ?_
  refine S.mv ?_
  refine S.mv ?_
  refine S.r (Qt.as (Qt.sub (a := l + 1) (b := 1) rfl rfl ow km) (by rw [Nat.add_sub_cancel])) ?_
  refine S.mv ?_
  refine S.r (Qt.mul (a := 2) rfl rfl km) ?_
  refine S.r (Qt.add (b := 1) rfl rfl km) ?_
  refine S.o (OpV.con (Pre := zaZ 331 112 cb A1l (lr.drop (cutN xs l (2 * p)).length) c1l A2l (br.drop (zaj l (cutN xs l (2 * p)) (2 * p)).length) c2l Ol (tt ++ tl) dl) (R := _) J206 rfl (pm1.trans (pc (pm1.trans (pc pm1)))) (fun w hw => hrec (2 * p + 1) (cutN xs l (2 * p + 1)) A' c' cb A1l (lr.drop (cutN xs l (2 * p)).length) c1l A2l (br.drop (zaj l (cutN xs l (2 * p)) (2 * p)).length) c2l Ol (tt ++ tl) dl w okr (zbN hs) zcg hc' ow (by rw [List.length_drop]; omega) (by rw [List.length_drop]; omega) le1.cap le2.cap (by rw [List.length_append]; omega) (by rw [List.length_drop]; omega) (by rw [List.length_drop]; omega) hw.sat.left (hro w _ (Ro.of_pre hw hR)).2 (le1.ro w _ (Ro.of_pre hw hA1)) (le2.ro w _ (Ro.of_pre hw hA2)) (hT.pre hw)) ?_)
  rintro v L' ⟨A1r, c1r, A2r, c2r, Or, dr, tr, rfl, rfl, etr, lf1, lf2⟩
  have ltr := congrArg List.length etr
  rw [List.length_map] at ltr
  have btr := zcz l (cutN xs l (2 * p + 1)) (2 * p + 1) ((lr.drop (cutN xs l (2 * p)).length).take (cutN xs l (2 * p + 1)).length) ((br.drop (zaj l (cutN xs l (2 * p)) (2 * p)).length).take (zaj l (cutN xs l (2 * p + 1)) (2 * p + 1)).length)
  have hlen : (tt ++ tl ++ tr).length ≤ 16384 := by rw [List.length_append, List.length_append]; omega
  have ptl := le1.next lf1
  have ptr := le2.next lf2
  refine S.mv ?_
  refine S.r (Qt.extract rfl rfl) ?_
  refine S.r (Qt.extract rfl rfl) ?_
  refine S.o (OpV.alloc zT (fun b14 => ?_))
  refine S.opN rfl (OpV.storeV0 (v := hv (_)) rfl rfl (zab ce49) (zai _) (zaf _) ?_)
  refine S.as ?_
  refine S.nil ?_
  refine TC.seq ?_
  refine TC.seq ?_
  refine TC.region ?_
  refine S.mv ?_
  refine S.r (Qt.nenil_nil uT rfl) ?_
  refine S.nil ?_
  refine S.if_f rfl ?_
  refine TC.skip ?_
  refine TC.seq ?_
  refine TC.region ?_
  refine S.mv ?_
  refine S.r (Qt.load rfl (Ld.hash1 (x := zaH l (cutN xs l (2 * p)) (2 * p) (lr.take (cutN xs l (2 * p)).length) (br.take (zaj l (cutN xs l (2 * p)) (2 * p)).length)) (Has.at 4 rfl) rT ce49)) ?_
  refine S.r (Qt.load rfl (Ld.hash1 (x := zaH l (cutN xs l (2 * p + 1)) (2 * p + 1) ((lr.drop (cutN xs l (2 * p)).length).take (cutN xs l (2 * p + 1)).length) ((br.drop (zaj l (cutN xs l (2 * p)) (2 * p)).length).take (zaj l (cutN xs l (2 * p + 1)) (2 * p + 1)).length)) hz0 rT ce49)) ?_
  refine S.o (OpV.con (Pre := []) (R := _) J176 rfl pr (fun w hw => zdi (l + 1) ow ow (zaH l (cutN xs l (2 * p)) (2 * p) (lr.take (cutN xs l (2 * p)).length) (br.take (zaj l (cutN xs l (2 * p)) (2 * p)).length)) (zaH l (cutN xs l (2 * p + 1)) (2 * p + 1) ((lr.drop (cutN xs l (2 * p)).length).take (cutN xs l (2 * p + 1)).length) ((br.drop (zaj l (cutN xs l (2 * p)) (2 * p)).length).take (zaj l (cutN xs l (2 * p + 1)) (2 * p + 1)).length)) w) ?_)
  rintro v L' ⟨Ot, dt, rfl, rfl⟩
  refine TL.manyJoin (pc pm3) ?_
  refine S.mv ?_
  refine S.r (Qt.extract rfl rfl) ?_
  refine S.r (Qt.extract rfl rfl) ?_
  refine S.as ?_
  refine S.as ?_
  refine S.nil ?_
  refine TC.seq ?_
  refine TC.seq ?_
  refine TC.region ?_
  refine S.mv ?_
  refine S.r (Qt.nenil_nil uT rfl) ?_
  refine S.nil ?_
  refine S.if_f rfl ?_
  refine TC.skip ?_
  refine TC.seq ?_
  refine TC.region ?_
  refine S.mv ?_
  refine S.mv ?_
  refine S.r (Qt.nilCheck rfl) ?_
  refine S.r (Qt.field uT rfl ce111 rfl) ?_
  refine S.r (Qt.load rfl (Ld.one (v := .slice Or (tt ++ tl ++ tr).length dr) hz2 oT rfl)) ?_
  refine S.mv ?_
  refine S.o (OpV.slice1 (bytes := 24) (v := .slice Ot (zaM (l + 1) (zaH l (cutN xs l (2 * p)) (2 * p) (lr.take (cutN xs l (2 * p)).length) (br.take (zaj l (cutN xs l (2 * p)) (2 * p)).length)) (zaH l (cutN xs l (2 * p + 1)) (2 * p + 1) ((lr.drop (cutN xs l (2 * p)).length).take (cutN xs l (2 * p + 1)).length) ((br.drop (zaj l (cutN xs l (2 * p)) (2 * p)).length).take (zaj l (cutN xs l (2 * p + 1)) (2 * p + 1)).length))).length dt) uT elem112 (by decide) rfl rfl (fun g84 => ?_))
  refine S.o (OpV.app4 (bytes := 24) (news := [.slice Ot (zaM (l + 1) (zaH l (cutN xs l (2 * p)) (2 * p) (lr.take (cutN xs l (2 * p)).length) (br.take (zaj l (cutN xs l (2 * p)) (2 * p)).length)) (zaH l (cutN xs l (2 * p + 1)) (2 * p + 1) ((lr.drop (cutN xs l (2 * p)).length).take (cutN xs l (2 * p + 1)).length) ((br.drop (zaj l (cutN xs l (2 * p)) (2 * p)).length).take (zaj l (cutN xs l (2 * p + 1)) (2 * p + 1)).length))).length dt]) uT elem112 rfl rfl (Has.blk (cs := [.slice Ot (zaM (l + 1) (zaH l (cutN xs l (2 * p)) (2 * p) (lr.take (cutN xs l (2 * p)).length) (br.take (zaj l (cutN xs l (2 * p)) (2 * p)).length)) (zaH l (cutN xs l (2 * p + 1)) (2 * p + 1) ((lr.drop (cutN xs l (2 * p)).length).take (cutN xs l (2 * p + 1)).length) ((br.drop (zaj l (cutN xs l (2 * p)) (2 * p)).length).take (zaj l (cutN xs l (2 * p + 1)) (2 * p + 1)).length))).length dt]) hz0) rfl (by intro u hu; rw [List.mem_singleton.1 hu]; rfl) (by simp only [maxLen]; omega) ow (fun O3 d3 => ?_))
  refine S.r (Qt.nilCheck rfl) ?_
  refine S.r (Qt.field uT rfl ce111 rfl) ?_
  refine S.opN rfl (OpV.storeC3 rfl cw cT rfl rfl (Nat.le_of_ble_eq_true rfl) ?_)
  refine S.nil ?_
  refine TC.seq ?_
  refine TC.region ?_
  refine S.mv ?_
  refine S.o (OpV.con0 J114 rfl (fun w hw => Calls.ret (zdh Ot dt (zaM (l + 1) (zaH l (cutN xs l (2 * p)) (2 * p) (lr.take (cutN xs l (2 * p)).length) (br.take (zaj l (cutN xs l (2 * p)) (2 * p)).length)) (zaH l (cutN xs l (2 * p + 1)) (2 * p + 1) ((lr.drop (cutN xs l (2 * p)).length).take (cutN xs l (2 * p + 1)).length) ((br.drop (zaj l (cutN xs l (2 * p)) (2 * p)).length).take (zaj l (cutN xs l (2 * p + 1)) (2 * p + 1)).length))) w (Rd.own (e := 5) (sz := 1) (Rd.many (A := OwnA 5 1 Ot (zaM (l + 1) (zaH l (cutN xs l (2 * p)) (2 * p) (lr.take (cutN xs l (2 * p)).length) (br.take (zaj l (cutN xs l (2 * p)) (2 * p)).length)) (zaH l (cutN xs l (2 * p + 1)) (2 * p + 1) ((lr.drop (cutN xs l (2 * p)).length).take (cutN xs l (2 * p + 1)).length) ((br.drop (zaj l (cutN xs l (2 * p)) (2 * p)).length).take (zaj l (cutN xs l (2 * p + 1)) (2 * p + 1)).length))).length dt (zad (zaM (l + 1) (zaH l (cutN xs l (2 * p)) (2 * p) (lr.take (cutN xs l (2 * p)).length) (br.take (zaj l (cutN xs l (2 * p)) (2 * p)).length)) (zaH l (cutN xs l (2 * p + 1)) (2 * p + 1) ((lr.drop (cutN xs l (2 * p)).length).take (cutN xs l (2 * p + 1)).length) ((br.drop (zaj l (cutN xs l (2 * p)) (2 * p)).length).take (zaj l (cutN xs l (2 * p + 1)) (2 * p + 1)).length))))) (Rd.at 1 rfl) (List.mem_append.2 (.inr (List.mem_singleton.2 rfl)))) w hw) (by rw [zba]; decide) (hT.at hw))) ?_)
  refine S.opN rfl (OpV.storeV6 (v := hv (_)) rfl rfl (zab ce49) (zai _) (zaf _) ?_)
  refine S.as ?_
  refine S.nil ?_
  refine TC.ret ?_
  refine finQ.ret (RVs.cell rfl (Ld.all (Has.at 6 rfl) rT (zab ce49)) rv) (Sub.trans (sk (sk (sk (sd (sd (sd (sd sn0))))))) (Sub.trans (sk (Sub.trans (sk (Sub.trans (sk sr) (Sub.of_perm pm1))) (Sub.of_perm pm3))) (Sub.of_perm pm3))) ?_
  refine ⟨A1r, c1r, A2r, c2r, O3, d3, tl ++ tr ++ [(Ot, dt, zaM (l + 1) (zaH l (cutN xs l (2 * p)) (2 * p) (lr.take (cutN xs l (2 * p)).length) (br.take (zaj l (cutN xs l (2 * p)) (2 * p)).length)) (zaH l (cutN xs l (2 * p + 1)) (2 * p + 1) ((lr.drop (cutN xs l (2 * p)).length).take (cutN xs l (2 * p + 1)).length) ((br.drop (zaj l (cutN xs l (2 * p)) (2 * p)).length).take (zaj l (cutN xs l (2 * p + 1)) (2 * p + 1)).length)))], ?_, ?_, ?_, ?_, ?_⟩
  · rw [eV]; rfl
  · rw [hsp, hnn, ← List.drop_drop, ← List.drop_drop]
    simp only [zaZ, List.length_append, List.append_assoc, List.flatMap_append, List.map_append]
    rfl
  · rw [eT, List.map_append, List.map_append, etl, etr]; rfl
  · rw [hnn]; exact ptl
  · rw [hsp]; exact ptr
theorem zou (height : Nat) (hh : height ≤ 32) : ∀ l, l ≤ height → zrQ height l
 | 0, hl => fun p xs A c cb A1 lr c1 A2 br c2 O tt d w0 ho hs hx hc hn hl1 hl2 hc1 hc2 htt hm1 hm2 h0 hR hA1 hA2 hT => by
  by_cases he : xs = []
  ·exact zgB height hh 0 p xs A c cb A1 lr c1 A2 br c2 O tt d w0 ho hs hx hc hn hl1 hl2 hc1 hc2 htt hm1 hm2 h0 hR hA1 hA2 hT he
  ·exact zkL height hh p xs A c cb A1 lr c1 A2 br c2 O tt d w0 ho hs hx hc hn hl1 hl2 hc1 hc2 htt hm1 hm2 h0 hR hA1 hA2 hT he
 | l + 1, hl => fun p xs A c cb A1 lr c1 A2 br c2 O tt d w0 ho hs hx hc hn hl1 hl2 hc1 hc2 htt hm1 hm2 h0 hR hA1 hA2 hT => by
  by_cases he : xs = []
  ·exact zgB height hh (l + 1) p xs A c cb A1 lr c1 A2 br c2 O tt d w0 ho hs hx hc hn hl1 hl2 hc1 hc2 htt hm1 hm2 h0 hR hA1 hA2 hT he
  ·exact zkM height hh l p xs A c cb A1 lr c1 A2 br c2 O tt d w0 ho hs hx hc hn hl1 hl2 hc1 hc2 htt hm1 hm2 h0 hR hA1 hA2 hT he (zou height hh l ow)
theorem buildClimb (A : OAd) (n c : Nat) (B : OAd) (m d : Nat) (w : World) : (Instr.build 331 #[(0, .slice A n c), (1, .slice B m d)]).run prog w = .ok (.agg #[.slice A n c, .slice B m d, .slice none 0 0]) w := by kernel_rfl
def zrR (n a b : Nat) : Prop := (40 < n ∧ n ≤ 256) ∨ 300 < n ∨ 300 < a ∨ 1500 < b
instance (n a b : Nat) : Decidable (zrR n a b) := inferInstanceAs (Decidable (_ ∨ _))
theorem zmM (z : Int) (A : OAd) (c : Nat) (xs : List Nat) (B : OAd) (b : Nat) (ls : List H32) (Z : OAd) (e : Nat) (bs : List H32) (hr : ∀ w, Ro w [] (SlA A (u64s xs)) → Calls prog 41 #[.int .i64 z, .slice A xs.length c] w (Ret w (.bool false))) (w0 : World) (hR : Ro w0 [] (SlA A (u64s xs))) :
  Calls prog 188 #[.int .i64 z, .slice A xs.length c, .slice B ls.length b, .slice Z bs.length e] w0 (Post w0 [] fun v L => v = .tuple #[hv zac, .slice none 0 0, .iface 73 (.int .i64 1)] ∧ L = []) := by
 refine co 61 [.cell 8 49, .tmp 9, .tmp 10] func188 ?_
 refine gw ?_
 intro b8
 refine gw ?_
 refine S.c0 J205 (fun w hw => Calls.ret (zhk z A c xs w (fun w1 h => hr w1 h) (Rd.ro hR w hw))) (gw ?_)
 refine S.r (Qt.build (v := hv zac) rfl (fun _ => by kernel_rfl)) (gw ?_)
 refine S.opN rfl (OpV.storeV0 (v := hv (zac)) rfl rfl (zab ce49) (zai _) (zaf _) ?_)
 refine gw ?_
 refine TC.ret ?_
 refine finQ.ret (RVs.cell rfl (Ld.all hz0 rT (zab ce49)) rv) sn ?_
 exact ⟨rfl, rfl⟩
theorem zhM (height : Nat) (hh : height ≤ 32) (A : OAd) (c : Nat) (xs : List Nat) (hc : xs.length ≤ c) (B : OAd) (b : Nat) (ls : List H32) (Z : OAd) (e : Nat) (bs : List H32) (hi : idxOk height xs) (h2 : ls.length ≠ xs.length) (w0 : World) (hlow : ∀ x ∈ xs, x < 18446744073709551616) (hR : Ro w0 [] (SlA A (u64s xs))) (hB : Ro w0 [] (SlA B (hcs ls))) (hD : Ro w0 [] (SlA Z (hcs bs))) :
  Calls prog 188 #[.int .i64 (height : Int), .slice A xs.length c, .slice B ls.length b, .slice Z bs.length e] w0 (Post w0 [] fun v L => v = .tuple #[hv zac, .slice none 0 0, .iface 73 (.int .i64 2)] ∧ L = []) := by
 refine co 61 [.cell 8 49, .tmp 9, .tmp 10] func188 ?_
 refine gw ?_
 intro b8
 refine gw ?_
 refine S.c0 J205 (fun w hw => Calls.ret (zdQ height hh A c xs hc hi w hlow (Rd.ro hR w hw))) (gw ?_)
 refine S.r (Qt.dT (Qt.ne rfl rfl) (h2)) (gw ?_)
 refine S.r (Qt.build (v := hv zac) rfl (fun _ => by kernel_rfl)) (gw ?_)
 refine S.opN rfl (OpV.storeV0 (v := hv (zac)) rfl rfl (zab ce49) (zai _) (zaf _) ?_)
 refine gw ?_
 refine TC.ret ?_
 refine finQ.ret (RVs.cell rfl (Ld.all hz0 rT (zab ce49)) rv) sn ?_
 exact ⟨rfl, rfl⟩
theorem zhN (height : Nat) (hh : height ≤ 32) (A : OAd) (c : Nat) (xs : List Nat) (hc : xs.length ≤ c) (B : OAd) (b : Nat) (ls : List H32) (Z : OAd) (e : Nat) (bs : List H32) (hi : idxOk height xs) (h2 : ls.length = xs.length) (h3 : bs.length ≠ (zaj height xs 0).length) (w0 : World) (hlow : ∀ x ∈ xs, x < 18446744073709551616) (hR : Ro w0 [] (SlA A (u64s xs))) (hB : Ro w0 [] (SlA B (hcs ls))) (hD : Ro w0 [] (SlA Z (hcs bs))) :
  Calls prog 188 #[.int .i64 (height : Int), .slice A xs.length c, .slice B ls.length b, .slice Z bs.length e] w0 (Post w0 [] fun v L => v = .tuple #[hv zac, .slice none 0 0, .iface 73 (.int .i64 5)] ∧ L = []) := by
 refine co 61 [.cell 8 49, .tmp 9, .tmp 10] func188 ?_
 refine gw ?_
 intro b8
 refine gw ?_
 refine S.c0 J205 (fun w hw => Calls.ret (zdQ height hh A c xs hc hi w hlow (Rd.ro hR w hw))) (gw ?_)
 refine S.r (Qt.dF (Qt.ne rfl rfl) (fun k => k h2)) (gw ?_)
 refine S.r (Qt.dT (Qt.ne rfl rfl) (h3)) (gw ?_)
 refine S.r (Qt.build (v := hv zac) rfl (fun _ => by kernel_rfl)) (gw ?_)
 refine S.opN rfl (OpV.storeV0 (v := hv (zac)) rfl rfl (zab ce49) (zai _) (zaf _) ?_)
 refine gw ?_
 refine TC.ret ?_
 refine finQ.ret (RVs.cell rfl (Ld.all hz0 rT (zab ce49)) rv) sn ?_
 exact ⟨rfl, rfl⟩
theorem zhO (height : Nat) (hh : height ≤ 32) (A : OAd) (c : Nat) (xs : List Nat) (hc : xs.length ≤ c) (B : OAd) (b : Nat) (ls : List H32) (Z : OAd) (e : Nat) (bs : List H32) (hi : idxOk height xs) (h2 : ls.length = xs.length) (h3 : bs.length = (zaj height xs 0).length) (hb : ls.length ≤ b) (hbs : bs.length ≤ e) (w0 : World) (hlow : ∀ x ∈ xs, x < 18446744073709551616) (hR : Ro w0 [] (SlA A (u64s xs))) (hB : Ro w0 [] (SlA B (hcs ls))) (hD : Ro w0 [] (SlA Z (hcs bs))) (hT : Tabs 3 1 w0 []) :
    Calls prog 188 #[.int .i64 (height : Int), .slice A xs.length c, .slice B ls.length b, .slice Z bs.length e] w0 (Post w0 [] fun v L => ∃ (O : OAd) (d : Nat) (tt : List Tx), v = .tuple #[hv (zaH height xs 0 ls bs), .slice O tt.length d, .nilIface] ∧ L = [OwnA 112 1 O (tt).length d ((tt).flatMap txL), Many ((tt).map zaN)] ∧ tt.map (fun t => t.2.2) = zbo height xs 0 ls bs) := by
  refine Calls.of (L := []) (n := 61) (rs := [.cell 8 49, .tmp 9, .tmp 10]) func188 rfl rfl rfl (Nat.le_of_ble_eq_true rfl) (Sat.nil _) ?_
  have hn := hi.2.1
  have hsp : (zaj height xs 0).length ≤ 8193 := by have h1 := zdO height xs 0; have h2 : xs.length * height ≤ 256 * 32 := Nat.mul_le_mul hi.2.1 hh; omega
  have hmu : xs.length * height ≤ 256 * 32 := Nat.mul_le_mul hi.2.1 hh
  refine TC.ownNil 112 1 ?_
  refine TC.manyNil ?_
  refine TC.seq ?_
  refine TC.region ?_
  refine S.o (OpV.alloc zT (fun b8 => ?_))
  refine S.as ?_
  refine S.as ?_
  refine S.nil ?_
  refine TC.seq ?_
  refine TC.region ?_
  refine S.mv ?_
  refine S.mv ?_
  refine S.o (OpV.con0 J205 rfl (fun w hw => Calls.ret (zdQ height hh A c xs hc hi w hlow (Rd.ro hR w hw))) ?_)
  refine S.mv ?_
  refine S.r (Qt.extract rfl rfl) ?_
  refine S.r (Qt.extract rfl rfl) ?_
  refine S.as ?_
  refine S.as ?_
  refine S.nil ?_
  refine TC.seq ?_
  refine TC.block ?_
  refine TC.seq ?_
  refine TC.region ?_
  refine S.mv ?_
  refine S.r (Qt.nenil_nil uT rfl) ?_
  refine S.as ?_
  refine S.nil ?_
  refine S.if_f rfl ?_
  refine TC.seq ?_
  refine TC.region ?_
  refine S.mv ?_
  refine S.r (Qt.len_slice uT rfl) ?_
  refine S.mv ?_
  refine S.r (Qt.len_slice uT rfl) ?_
  refine S.r (Qt.dF (Qt.ne rfl rfl) (fun k => k h2)) ?_
  refine S.as ?_
  refine S.nil ?_
  refine S.if_f rfl ?_
  refine TC.seq ?_
  refine TC.region ?_
  refine S.mv ?_
  refine S.r (Qt.len_slice uT rfl) ?_
  refine S.mv ?_
  refine S.r (Qt.dF (Qt.ne rfl rfl) (fun k => k h3)) ?_
  refine S.as ?_
  refine S.nil ?_
  refine S.if_f rfl ?_
  refine TC.skip ?_
  refine TC.seq ?_
  refine TC.region ?_
  refine S.mv ?_
  refine S.mv ?_
  refine S.r (Qt.build2 (a := .slice B ls.length b) (b := .slice Z bs.length e) rfl rfl (buildClimb B ls.length b Z bs.length e)) ?_
  refine S.o (OpV.box (v := .agg #[.slice B ls.length b, .slice Z bs.length e, .slice none 0 0]) rfl (fun b44 => ?_))
  refine S.as ?_
  refine S.nil ?_
  refine TC.seq ?_
  refine TC.region ?_
  refine S.mv ?_
  refine S.mv ?_
  refine S.mv ?_
  refine S.o (OpV.con (Pre := zaZ 331 112 b44 B ls b Z bs e none [] 0) (R := _) J206 rfl (pc (pm2.trans (pc pm1))) (fun w hw => zou height hh height (Nat.le_refl _) 0 xs A c b44 B ls b Z bs e none [] 0 w (zek height) hi.rise hi.root hc hn ow ow hb hbs (by rw [List.length_nil]; omega) ow ow hw.sat.left (Ro.of_pre hw hR) (Ro.of_pre hw hB) (Ro.of_pre hw hD) (hT.pre hw)) ?_)
  rintro v L' ⟨A1', c1', A2', c2', O, d, tt, rfl, rfl, ett, le1, le2⟩
  refine S.mv ?_
  refine S.r (Qt.extract rfl rfl) ?_
  refine S.r (Qt.extract rfl rfl) ?_
  refine S.o (OpV.alloc zT (fun b14 => ?_))
  refine S.opN rfl (OpV.storeV0 (v := hv (_)) rfl rfl (zab ce49) (zai _) (zaf _) ?_)
  refine S.as ?_
  refine S.nil ?_
  refine TC.seq ?_
  refine TC.seq ?_
  refine TC.region ?_
  refine S.mv ?_
  refine S.r (Qt.nenil_nil uT rfl) ?_
  refine S.nil ?_
  refine S.if_f rfl ?_
  refine TC.skip ?_
  refine TC.seq ?_
  refine S.draw ([5], []) mixed (sk (sk (sk (sk (sd sn0))))) ?_
  refine D.qY 0 rfl (Qt.load rfl (Ld.hash1 (x := zaH height xs 0 (ls.take xs.length) (bs.take (zaj height xs 0).length)) hz0 rT ce49)) ?_
  refine D.p 1 rfl (Qt.move cw) ?_
  refine D.p 2 rfl (Qt.nilCheck rfl) ?_
  refine D.p 3 rfl (Qt.field uT rfl ce111 rfl) ?_
  refine D.p 4 rfl (Qt.load rfl (Ld.one (v := .slice O ([] ++ tt).length d) hz1 oT rfl)) ?_
  refine D.opN (k := 5) (sk (sk (sk (sk (sd sn0))))) rfl (by kernel_rfl) (by kernel_rfl) rfl (OpV.storeV4 (v := hv (_)) rfl rfl (zab ce49) (zai _) (zaf _) ⟨sk (sk (sk (sk (sd sn0)))), ?_⟩)
  refine D.qY 6 rfl (Qt.assign cw) ?_
  refine D.qY 7 rfl (Qt.assign cw) ?_
  refine D.done (sk (sk (sk (sk (sd sn0))))) (by kernel_rfl) ?_
  refine TC.ret ?_
  refine finQ.ret (RVs.cell rfl (Ld.all (Has.at 4 rfl) rT (zab ce49)) rv) (Sub.trans (sk (sk (sd (sd (sd sn0))))) (Sub.trans (sk (Sub.trans (sk sr) (Sub.of_perm pm2))) (Sub.of_perm pm2))) ?_
  rw [← h2, List.take_length, ← h3, List.take_length] at *
  exact ⟨O, d, tt, rfl, rfl, ett⟩
theorem zcU (z : Int) (k : Nat) (A : OAd) (c : Nat) (xs : List Nat) (B : OAd) (b : Nat) (ls : List H32) (Z : OAd) (e : Nat) (bs : List H32) (hce : ∀ w, Ro w [] (SlA A (u64s xs)) → Ro w [] (SlA B (hcs ls)) → Ro w [] (SlA Z (hcs bs)) → Calls prog 188 #[.int .i64 z, .slice A xs.length c, .slice B ls.length b, .slice Z bs.length e] w (Ret w (.tuple #[hv zac, .slice none 0 0, .iface 73 (.int .i64 (k : Int))]))) (w0 : World) (hR : Ro w0 [] (SlA A (u64s xs))) (hB : Ro w0 [] (SlA B (hcs ls))) (hD : Ro w0 [] (SlA Z (hcs bs))) :
  Calls prog 168 #[.int .i64 z, .slice A xs.length c, .slice B ls.length b, .slice Z bs.length e] w0 (Post w0 [] fun v L => v = .tuple #[hv zac, .iface 73 (.int .i64 (k : Int))] ∧ L = []) := by
 refine co 24 [.cell 8 49, .tmp 9] func168 ?_
 refine gw ?_
 intro b8
 refine gw ?_
 refine S.c0 J188 (fun w hw => hce w (Rd.ro hR w hw) (Rd.ro hB w hw) (Rd.ro hD w hw)) (gw ?_)
 intro b10
 refine S.opN rfl (OpV.storeV0 (v := hv (_)) rfl rfl (zab ce49) (zai _) (zaf _) ?_)
 refine gw ?_
 refine S.opN rfl (OpV.storeV1 (v := hv (_)) rfl rfl (zab ce49) (zai _) (zaf _) ?_)
 refine gw ?_
 refine TC.ret ?_
 refine finQ.ret (RVs.cell rfl (Ld.all hz1 rT (zab ce49)) rv) sn ?_
 exact ⟨rfl, rfl⟩
theorem zjq (height : Nat) (hh : height ≤ 32) (A : OAd) (c : Nat) (xs : List Nat) (hc : xs.length ≤ c) (B : OAd) (b : Nat) (ls : List H32) (Z : OAd) (e : Nat) (bs : List H32) (hi : idxOk height xs) (h2 : ls.length = xs.length) (h3 : bs.length = (zaj height xs 0).length) (hb : ls.length ≤ b) (hbs : bs.length ≤ e) (w0 : World) (hlow : ∀ x ∈ xs, x < 18446744073709551616) (hR : Ro w0 [] (SlA A (u64s xs))) (hB : Ro w0 [] (SlA B (hcs ls))) (hD : Ro w0 [] (SlA Z (hcs bs))) (hT : Tabs 3 1 w0 []) :
  Calls prog 168 #[.int .i64 (height : Int), .slice A xs.length c, .slice B ls.length b, .slice Z bs.length e] w0 (Post w0 [] fun v L => v = .tuple #[hv (zaH height xs 0 ls bs), .nilIface] ∧ L = []) := by
 refine co 24 [.cell 8 49, .tmp 9] func168 ?_
 refine gw ?_
 intro b8
 refine gw ?_
 refine S.cn J188 (fun w hw => zhO height hh A c xs hc B b ls Z e bs hi h2 h3 hb hbs w hlow (Rd.ro hR w hw) (Rd.ro hB w hw) (Rd.ro hD w hw) (hT.at hw)) ?_
 rintro v L' ⟨O, d, tt, rfl, rfl, ett⟩
 refine gw ?_
 intro b10
 refine S.opN rfl (OpV.storeV0 (v := hv (_)) rfl rfl (zab ce49) (zai _) (zaf _) ?_)
 refine gw ?_
 refine S.opN rfl (OpV.storeV3 (v := hv (_)) rfl rfl (zab ce49) (zai _) (zaf _) ?_)
 refine gw ?_
 refine TC.ret ?_
 refine finQ.ret (RVs.cell rfl (Ld.all hz3 rT (zab ce49)) rv) sn ?_
 exact ⟨rfl, rfl⟩
theorem ziv (z : Int) (A : OAd) (c : Nat) (xs : List Nat) (hc : xs.length ≤ c) (B : OAd) (b : Nat) (ls : List H32) (Z : OAd) (e : Nat) (bs : List H32) (h : z < 0 ∨ 32 < z ∨ ∃ height : Nat, z = (height : Int) ∧ height ≤ 32 ∧ ¬ idxOk height xs) (hlow : ∀ x ∈ xs, x < 18446744073709551616) (w : World) (hR : Ro w [] (SlA A (u64s xs))) : Calls prog 188 #[.int .i64 z, .slice A xs.length c, .slice B ls.length b, .slice Z bs.length e] w (Ret w (.tuple #[hv zac, .slice none 0 0, .iface 73 (.int .i64 1)])) := by
 refine Calls.ret (zmM z A c xs B b ls Z e bs (fun w1 h1 => ?_) w hR)
 rcases h with h | h | ⟨height, rfl, hh, hi⟩
 ·exact zhL z (.inl h) A c xs w1
 ·exact zhL z (.inr h) A c xs w1
 ·exact zck height hh A c xs hi w1 hlow h1
theorem ziw (z : Int) (A : OAd) (c : Nat) (xs : List Nat) (hc : xs.length ≤ c) (B : OAd) (b : Nat) (ls : List H32) (Z : OAd) (e : Nat) (bs : List H32) (hb : ls.length ≤ b) (hbs : bs.length ≤ e) (w0 : World) (hlow : ∀ x ∈ xs, x < 18446744073709551616) (hR : Ro w0 [] (SlA A (u64s xs))) (hB : Ro w0 [] (SlA B (hcs ls))) (hD : Ro w0 [] (SlA Z (hcs bs))) (hT : Tabs 3 1 w0 []) : Calls prog 168 #[.int .i64 z, .slice A xs.length c, .slice B ls.length b, .slice Z bs.length e] w0 (Ret w0 (.tuple #[hv (zbL z xs ls bs).1, errv 73 (zbL z xs ls bs).2])) := by
 by_cases hz : z < 0 ∨ 32 < z
 ·rw [zbL, if_pos hz]; exact Calls.ret (zcU z 1 A c xs B b ls Z e bs (fun w r1 r2 r3 => ziv z A c xs hc B b ls Z e bs ow hlow w r1) w0 hR hB hD)
 ·obtain ⟨height, rfl⟩ : ∃ n : Nat, z = (n : Int) := ⟨z.toNat, by omega⟩
  have hh : height ≤ 32 := by omega
  rw [zcH hh]
  by_cases hi : idxOk height xs
  ·by_cases h2 : ls.length = xs.length
   ·by_cases h3 : bs.length = (zaj height xs 0).length
    ·rw [zit hi h2 h3]; exact Calls.ret (zjq height hh A c xs hc B b ls Z e bs hi h2 h3 hb hbs w0 hlow hR hB hD hT)
    ·rw [zkH hi h2 h3]; exact Calls.ret (zcU _ 5 A c xs B b ls Z e bs (fun w r1 r2 r3 => Calls.ret (zhN height hh A c xs hc B b ls Z e bs hi h2 h3 w hlow r1 r2 r3)) w0 hR hB hD)
   ·rw [zkG hi h2]; exact Calls.ret (zcU _ 2 A c xs B b ls Z e bs (fun w r1 r2 r3 => Calls.ret (zhM height hh A c xs hc B b ls Z e bs hi h2 w hlow r1 r2 r3)) w0 hR hB hD)
  ·rw [zkF hi]; exact Calls.ret (zcU _ 1 A c xs B b ls Z e bs (fun w r1 r2 r3 => ziv _ A c xs hc B b ls Z e bs (.inr (.inr ⟨height, rfl, hh, hi⟩)) hlow w r1) w0 hR hB hD)
end Go.Proofs.YtgdjcmehlhebdaaGreatDoor
