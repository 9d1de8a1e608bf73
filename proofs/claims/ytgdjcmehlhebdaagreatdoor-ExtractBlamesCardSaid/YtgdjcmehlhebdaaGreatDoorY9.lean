/- Walks: a tree's steps -/
import Derived.Test.YtgdjcmehlhebdaaGreatDoorYZG
import Derived.Test.YtgdjcmehlhebdaaGreatDoorYZE
set_option maxHeartbeats 25600000
namespace Go.Proofs.YtgdjcmehlhebdaaGreatDoor
open _root_.Go.Proofs.Tryz
open Go.E
set_option maxRecDepth 4000
theorem zsI (x : H32) (A : OAd) (n c : Nat) : (vl (.agg (hvl x ++ [Value.slice A n c]).toArray)).all (·.oneCell') = true := by
 rw [zav, List.all_append, Bool.and_eq_true]; exact ⟨zco x, rfl⟩
theorem zk3 (A : OAd) (c : Nat) (xs : List Nat) (hx : xs.length ≤ 4096) (w0 : World) (hR : Ro w0 [] (SlA A (u64s xs))) :
  Calls prog 152 #[.slice A xs.length c] w0 (Post w0 [] fun v L => ∃ O d, v = .slice O xs.length d ∧ L = [OwnA 40 1 O xs.length d (u64s xs)]) := by
 refine co 8 [.tmp 2] func152 ?_
 refine TC.ownNil 40 1 (gw ?_)
 refine S.r (Qt.eqsl uT rfl) (gw ?_)
 refine TC.ifb rfl (fun hnl => gw ?_) (fun hnl => gw ?_)
 ·refine TC.ret (fin1 sr ?_)
  obtain rfl : A = none := Option.isNone_iff_eq_none.1 hnl
  have h := SlA.none_nil hR.1
  obtain rfl : xs = [] := by cases xs with
   | nil => rfl
   | cons x xs => cases h
  exact ⟨none, 0, rfl, rfl⟩
 ·refine S.o (OpV.slice0 uT ⟨_, elem40⟩ (fun g5 => ?_))
  refine gw ?_
  refine S.o (OpV.app0 (bytes := 8) (news := u64s xs) uT elem40 rfl rfl (Has.ro hR) (by rw [zbi, Nat.mul_one]) (zqI _) (by simp only [maxLen]; omega) ow (fun O d => ?_))
  refine gw ?_
  refine TC.ret (fin1 (sk (sd sn)) ?_)
  exact ⟨O, d, by rw [Nat.zero_add]; rfl, by rw [Nat.zero_add, List.nil_append]⟩
theorem zmb (E : Nat → H32) (tb mb height : Nat) (ms : Tm) (hh : height ≤ 32) (A : OAd) (c : Nat) (xs : List Nat) (hc : xs.length ≤ c) (hi : idxOk height xs) (w0 : World) (hB : Ro w0 [] (Blk tb 243 (zar E height mb))) (hM : Ro w0 [] (MapA mb zau hv (ms))) (hlow : ∀ x ∈ xs, x < 18446744073709551616) (hR : Ro w0 [] (SlA A (u64s xs))) :
  Calls prog 94 #[.pointer (some ⟨tb, 0, none⟩), .slice A xs.length c] w0 (Post w0 [] fun v L => ∃ I i A1 a1 B1 b1, v = .tuple #[.agg #[.slice I xs.length i, .slice A1 xs.length a1, .slice B1 (zaj height xs 0).length b1], .nilIface] ∧ L = [OwnA 40 1 I xs.length i (u64s xs), OwnA 49 32 A1 xs.length a1 (hcs (xs.map (fun x => getT E ms (0, x)))), OwnA 49 32 B1 (zaj height xs 0).length b1 (hcs ((zaj height xs 0).map (fun a => getT E ms a)))]) := by
 refine co 34 [.cell 4 194, .tmp 5] func94 ?_
 refine gw ?_
 intro b4
 refine gw ?_
 refine S.cn J83 (fun w hw => zgA E tb mb height ms hh A c xs hc hi w (Rd.ro hB w hw) (Rd.ro hM w hw) hlow (Rd.ro hR w hw)) ?_
 rintro v L' ⟨B1, b1, rfl, rfl⟩
 refine gw ?_
 refine S.cn J82 (fun w hw => zdn E tb mb height ms hh A c xs hi w (Rd.ro hB w hw) (Rd.ro hM w hw) hlow (Rd.ro hR w hw)) ?_
 rintro v L' ⟨A1, a1, rfl, rfl⟩
 refine gw ?_
 refine S.cn J152 (fun w hw => zk3 A c xs (by have := hi.2.1; omega) w (Rd.ro hR w hw)) ?_
 rintro v L' ⟨I, i, rfl, rfl⟩
 refine gw ?_
 refine S.r (Qt.as (Qt.buildS (vs := [.slice I xs.length i, .slice A1 xs.length a1, .slice B1 (zaj height xs 0).length b1]) (pls := #[(0, 1), (1, 1), (2, 1)]) uT (fun w => by kernel_rfl) ze194 rfl ⟨rfl, rfl, rfl, trivial⟩ rfl) (show _ = Value.agg #[.slice I xs.length i, .slice A1 xs.length a1, .slice B1 (zaj height xs 0).length b1] from rfl)) ?_
 refine S.opN rfl (OpV.storeV3 rfl cw (by exact ce194) (by rfl) (by rfl) ?_)
 refine gw ?_
 refine TC.ret ?_
 refine finQ.ret (RVs.cell rfl (Ld.all hz3 rT (ce194)) rv) (sk (sk (sk (sd sn0)))) ?_
 exact ⟨I, i, A1, a1, B1, b1, rfl, rfl⟩
theorem zmc (E : Nat → H32) (tb mb height : Nat) (ms : Tm) (hh : height ≤ 32) (b : Nat) (h1 : 1 ≤ b) (hb : b - 1 < 2 ^ height) (w0 : World) (hB : Ro w0 [] (Blk tb 243 (zar E height mb))) (hM : Ro w0 [] (MapA mb zau hv (ms))) :
  Calls prog 95 #[.pointer (some ⟨tb, 0, none⟩), .int .u64 (b : Int)] w0 (Post w0 [] fun v L => ∃ O d, v = .tuple #[.agg (hvl (getT E ms (0, b - 1)) ++ [Value.slice O height d]).toArray, .nilIface] ∧ L = [OwnA 49 32 O height d (hcs (zcG E ms height (b - 1)))]) := by
 refine co 34 [.cell 4 198, .tmp 5] func95 ?_
 have hb32 := zsh hh hb
 refine gw ?_
 intro b4
 refine gw ?_
 refine S.r (Qt.sub (b := 1) rfl rfl ow km) ?_
 refine S.c0 J138 (fun w hw => zrO E tb mb height ms (b - 1) hh hb w (Rd.ro hB w hw) (Rd.ro hM w hw)) (gw ?_)
 intro b6
 refine S.opN rfl (OpV.storeV0 (v := hv (_)) rfl rfl (zab ce49) (zai _) (zaf _) ?_)
 refine gw ?_
 refine S.r (Qt.sub (b := 1) rfl rfl ow km) ?_
 refine S.cn J153 (fun w hw => zol E tb mb height ms (b - 1) hh hb w (Rd.ro hB w hw) (Rd.ro hM w hw)) ?_
 rintro v L' ⟨O, d, rfl, rfl⟩
 refine gw ?_
 refine S.r (Qt.as (Qt.buildS (vs := [hv (getT E ms (0, b - 1)), .slice O height d]) (pls := #[(0, 32), (32, 1)]) uT (fun w => by kernel_rfl) ze198 rfl ⟨(by show some (0, 32) = some (0, _); rw [zaf]), (by show some (32, 1) = some (0 + (vl (hv (getT E ms (0, b - 1)))).length, _); rw [zaf]; rfl), trivial⟩ (by show 33 = _; rw [List.flatMap_cons, List.flatMap_singleton, List.length_append, zaf]; rfl)) (show _ = Value.agg (hvl (getT E ms (0, b - 1)) ++ [Value.slice O height d]).toArray by rw [List.flatMap_cons, List.flatMap_singleton, zie]; rfl)) ?_
 refine S.opN rfl (OpV.storeV2 (v := .agg (hvl (getT E ms (0, b - 1)) ++ [Value.slice O height d]).toArray) rfl rfl (by rw [zav, zbI]; exact ce198) (zsI _ _ _ _) (by rw [zav, zbI]; rfl) ?_)
 refine gw ?_
 refine TC.ret ?_
 refine finQ.ret (RVs.cell rfl (Ld.all hz2 rT (by rw [zav, zbI]; exact ce198)) rv) (sk (sd (sd sn0))) ?_
 exact ⟨O, d, rfl, rfl⟩
theorem build99 (n sm tb : Nat) (w : World) : (Instr.build 160 #[(0, .int .u64 (n : Int)), (1, .map (some sm)), (2, .pointer (some ⟨tb, 0, none⟩))]).run prog w = .ok (.agg #[.int .u64 (n : Int), .map (some sm), .pointer (some ⟨tb, 0, none⟩)]) w := by kernel_rfl
theorem build47 (A : OAd) (n c : Nat) (B : OAd) (m d : Nat) (w : World) : (Instr.build 182 #[(0, .slice A n c), (1, .slice B m d)]).run prog w = .ok (.agg #[.slice A n c, .slice B m d]) w := by kernel_rfl
theorem zfo (qb n sm tb : Nat) (w0 : World) (hQ : Ro w0 [] (Blk qb 160 [.int .u64 (n : Int), .map (some sm), .pointer (some ⟨tb, 0, none⟩)])) : Calls prog 27 #[.pointer (some ⟨qb, 0, none⟩)] w0 (Ret w0 (.int .u64 (n : Int))) := by
 refine Calls.ret ?_
 refine co 9 [.tmp 2] func27 ?_
 refine gw ?_
 refine TC.ret (fR ?_)
 exact ⟨rfl, rfl⟩
theorem zhV (E : Nat → H32) (hEm : ∀ w, Tabs 3 1 w [] → Calls prog 55 #[] w (Ret w (.agg (hcs (zbd E)).toArray))) (n : Nat) (h : okN n) (w0 : World) (hT : Tabs 3 1 w0 []) :
  Calls prog 21 #[.int .u64 (n : Int)] w0 (Post w0 [] fun v L => ∃ qb sm tb mb, v = .tuple #[.pointer (some ⟨qb, 0, none⟩), .nilIface] ∧ L = [Blk qb 160 [.int .u64 (n : Int), .map (some sm), .pointer (some ⟨tb, 0, none⟩)], MapA sm encU sv [], Blk tb 243 (zar E (hgt n) mb), MapA mb zau hv []]) := by
 refine co 28 [.tmp 2, .tmp 3] func21 ?_
 refine gw ?_
 refine S.c0 J39 (fun w hw => zfX n h w) (gw ?_)
 refine S.cn J67 (fun w hw => zlR E hEm (hgt n) (zb0 h) w (hT.at hw)) ?_
 rintro v L' ⟨tb, mb, rfl, rfl⟩
 refine gw ?_
 refine S.o (OpV.makeMap (enc := encU) (encv := sv) (fun sm => ?_))
 refine gw ?_
 refine S.r (Qt.build3 (a := .int .u64 (n : Int)) (b := .map (some sm)) (c := .pointer (some ⟨tb, 0, none⟩)) rfl rfl rfl (build99 _ _ _)) (gw ?_)
 intro b27
 refine gw ?_
 refine TC.ret (finQ.ret rv sr ?_)
 exact ⟨b27, sm, tb, mb, rfl, rfl⟩
theorem zex (E : Nat → H32) (n : Nat) (hn : okN n) (qb sm tb mb : Nat) (ms : Tm) (A : OAd) (c : Nat) (B : OAd) (d : Nat) (o : Order) (hxc : o.xs.length ≤ c) (hss : o.ss.length ≤ 65536) (hxx : o.xs.length ≤ 65536) (hob : o.blocks < 18446744073709551616) (rs : List Value) (err : Int) (P : OAd) (p : Nat) (pa : List H32) (Q : OAd) (q : Nat) (pb : List H32) (hrl : rs.length = 29) (hr1 : rs.all (·.oneCell') = true) (hre : rs[2]? = some (.int .i64 err)) (hra : rs[27]? = some (.slice P pa.length p)) (hrb : rs[28]? = some (.slice Q pb.length q)) (hp : pa.length ≤ p) (hq : pb.length ≤ q) (w0 : World) (hQ : Ro w0 [] (Blk qb 160 [.int .u64 (n : Int), .map (some sm), .pointer (some ⟨tb, 0, none⟩)])) (hB : Ro w0 [] (Blk tb 243 (zar E (hgt n) mb))) (hM : Ro w0 [] (MapA mb zau hv ms)) (hlow : ∀ x ∈ o.xs, x < 18446744073709551616) (hR : Ro w0 [] (SlA A (u64s o.xs))) (hS : Ro w0 [] (SlA B (o.ss.flatMap zaD))) (hPa : Ro w0 [] (SlA P (hcs pa))) (hPb : Ro w0 [] (SlA Q (hcs pb))) (hT : Tabs 3 1 w0 []) :
    Calls prog 35 #[.pointer (some ⟨qb, 0, none⟩), .agg (zaX A c B d o).toArray, .agg rs.toArray] w0 (Post w0 [] fun v L => PxQ 114 (zfk (fun x => getT E ms (0, x)) (fun a => getT E ms a) (fun i => zcG E ms (hgt n) i) n o err pa pb) v L) := by
  refine Calls.of (L := []) (n := 100) (rs := [.tmp 6]) func35 rfl rfl rfl (Nat.le_of_ble_eq_true rfl) (Sat.nil _) ?_
  refine TC.ownNil 114 2 ?_
  refine TC.manyNil ?_
  have hh := zb0 hn
  refine TC.seq ?_
  refine TC.region ?_
  refine S.o (OpV.box (v := .agg (zaX A c B d o).toArray) rfl (fun b4 => ?_))
  refine S.o (OpV.box (v := .agg rs.toArray) rfl (fun b5 => ?_))
  refine S.as ?_
  refine S.nil ?_
  refine TC.seq ?_
  refine TC.block ?_
  refine TC.seq ?_
  refine dw ([], []) ?_
  refine D.qY 0 rfl (Qt.move cw) ?_
  refine D.qY 1 rfl (Qt.eqp_some uT rfl) ?_
  refine D.qY 2 rfl (Qt.move cw) ?_
  refine D.gY 3 rfl rfl (Qt.field uT rfl ce3 rfl) ?_
  refine D.gY 4 rfl rfl (Qt.load rfl (Ld.one (v := .int .i64 err) hz0 oT hre)) ?_
  refine D.decgX (k := 5) rfl (by kernel_rfl) (by kernel_rfl) (by kernel_rfl) rfl rfl rfl (Qt.nei rfl rfl) (fun h17 => ?_) (fun h17 => ?_)
  · refine D.qY 6 rfl (Qt.pick_f rfl cw) ?_
    refine D.qY 7 rfl (Qt.move cw) ?_
    refine D.ps 8 rfl rfl ?_
    refine D.ps 9 rfl rfl ?_
    refine D.ps 10 rfl rfl ?_
    refine D.ps 11 rfl rfl ?_
    refine D.ps 12 rfl rfl ?_
    refine D.ps 13 rfl rfl ?_
    refine D.ps 14 rfl rfl ?_
    refine D.qY 15 rfl (Qt.pick_t rfl cw) ?_
    refine D.qY 16 rfl (Qt.assign cw) ?_
    refine D.done sn (by kernel_rfl) ?_
    refine S.if_t rfl ?_
    refine TC.seq ?_
    refine TC.region ?_
    refine S.as ?_
    refine S.nil ?_
    refine TC.ret (finQ.ret rv (Sub.trans (sk (sk (sd (sd sn0)))) (Sub.trans (sk (Sub.trans (sk sr) (Sub.of_perm pm2))) (Sub.of_perm pm3))) ?_)
    exact ⟨none, 0, [], [], rfl, rfl, (zjK (.inl h17)).symm, Nat.zero_le _, fun p hp => nomatch hp⟩
  · refine D.qY 6 rfl (Qt.pick_f rfl cw) ?_
    refine D.qY 7 rfl (Qt.move cw) ?_
    refine D.gY 8 rfl rfl (Qt.load rfl (Ld.all (vs := (zaX A c B d o)) hz1 rT ce58)) ?_
    refine D.gY 9 rfl rfl (Qt.move cw) ?_
    refine D.gY 10 rfl rfl (Qt.nilCheck rfl) ?_
    refine D.gY 11 rfl rfl (Qt.field uT rfl ce40 rfl) ?_
    refine D.gY 12 rfl rfl (Qt.load rfl (Ld.one (v := .int .u64 (n : Int)) (Has.ro hQ) oT rfl)) ?_
    by_cases hf : zce o n
    · refine D.cgX (k := 13) rfl (by kernel_rfl) (by kernel_rfl) (by kernel_rfl) rfl rfl rfl (CalU.con0 J93 rfl (fun w hw => (by have h := zdq A c B d o hss hxx n w hlow (Rd.ro hR w hw) (Rd.ro hS w hw); rw [decide_eq_true hf] at h; exact h : Calls prog 93 #[.agg (zaX A c B d o).toArray, .int .u64 (n : Int)] w (Ret w (.bool true))))) ?_
      refine D.gY 14 rfl rfl (Qt.not_t rfl) ?_
      refine D.qY 15 rfl (Qt.pick_f rfl cw) ?_
      refine D.qY 16 rfl (Qt.assign cw) ?_
      refine D.done sn (by kernel_rfl) ?_
      refine S.if_f rfl ?_
      refine TC.seq ?_
      refine TC.region ?_
      refine S.r (Qt.field uT rfl ce3 rfl) ?_
      refine S.r (Qt.load rfl (Ld.one (v := .int .i64 o.kind) hz1 oT rfl)) ?_
      refine S.dec rfl rfl (Qt.nei rfl rfl) (fun h31 => ?_) (fun h31 => ?_)
      · refine S.as ?_
        refine S.nil ?_
        refine S.if_t rfl ?_
        refine TC.seq ?_
        refine dr ([11], [6, 10]) ?_
        refine D.qY 0 rfl (Qt.move cw) ?_
        refine D.qY 1 rfl (Qt.nilCheck rfl) ?_
        refine D.qY 2 rfl (Qt.field uT rfl ce155 rfl) ?_
        refine D.qY 3 rfl (Qt.load rfl (Ld.one (v := .pointer (some ⟨tb, 0, none⟩)) (Has.ro hQ) oT rfl)) ?_
        refine D.qY 4 rfl (Qt.field uT rfl ce22 rfl) ?_
        refine D.qY 5 rfl (Qt.load rfl (Ld.one (v := .slice A o.xs.length c) hz1 oT rfl)) ?_
        refine D.orNN (k1 := 6) (k2 := 10) sr rfl rfl (by kernel_rfl) (by kernel_rfl) rfl rfl rfl rfl ?_ ?_
        · refine (OpV.con (Pre := []) (R := _) J94 rfl pr (fun w hw => zmb E tb mb (hgt n) ms hh A c o.xs hxc (zgM hn hf h31) w (Rd.ro hB w hw) (Rd.ro hM w hw) hlow (Rd.ro hR w hw)) ?_)
          rintro v L' ⟨I, i, A1, a1, B1, b1, rfl, rfl⟩
          refine ⟨sd (sd (sd (sk (sk (sk (sk sn0)))))), ?_⟩
          refine D.qY 7 rfl (Qt.move cw) ?_
          refine D.qY 8 rfl (Qt.extract rfl rfl) ?_
          refine D.p 9 rfl (Qt.extract rfl rfl) ?_
          refine D.nS (k := 10) (sd (sd (sd (sk (sk (sk (sk sn0))))))) rfl (by kernel_rfl) (by kernel_rfl) rfl rfl (OpV.alloc zT (fun b7 => ⟨sd sr, ?_⟩))
          refine D.opN (k := 11) (sd (sd (sd (sd (sk (sk (sk (sk sn0)))))))) rfl (by kernel_rfl) (by kernel_rfl) rfl (OpV.storeV0 (v := .agg #[.slice I o.xs.length i, .slice A1 o.xs.length a1, .slice B1 (zaj (hgt n) o.xs 0).length b1]) rfl rfl (by exact ce194) (by rfl) (by rfl) ⟨sd (sd (sd (sd (sk (sk (sk (sk sn0))))))), ?_⟩)
          refine D.qY 12 rfl (Qt.assign cw) ?_
          refine D.done (sd (sd (sd (sd (sk (sk (sk (sk sn0)))))))) (by kernel_rfl) ?_
          refine TC.seq ?_
          refine TC.seq ?_
          refine TC.region ?_
          refine S.mv ?_
          refine S.r (Qt.nenil_nil uT rfl) ?_
          refine S.nil ?_
          refine S.if_f rfl ?_
          refine TC.skip ?_
          refine TC.seq ?_
          refine dw ([], [17]) ?_
          refine D.qY 0 rfl (Qt.move cw) ?_
          refine D.qY 1 rfl (Qt.nilCheck rfl) ?_
          refine D.qY 2 rfl (Qt.field uT rfl ce155 rfl) ?_
          refine D.qY 3 rfl (Qt.load rfl (Ld.one (v := .pointer (some ⟨tb, 0, none⟩)) (Has.ro hQ) oT rfl)) ?_
          refine D.cX (k := 4) rfl (by kernel_rfl) (by kernel_rfl) (by kernel_rfl) rfl rfl (CalU.con0 J80 rfl (fun w hw => zbc E tb mb (hgt n) w (Rd.ro hB w hw))) ?_
          refine D.qY 5 rfl (Qt.field uT rfl ce22 rfl) ?_
          refine D.qY 6 rfl (Qt.load rfl (Ld.one (v := .slice A o.xs.length c) (Has.at 5 rfl) oT rfl)) ?_
          refine D.qY 7 rfl (Qt.field uT rfl ce33 rfl) ?_
          refine D.qY 8 rfl (Qt.load rfl (Ld.one (v := .slice A1 o.xs.length a1) hz0 oT rfl)) ?_
          refine D.qY 9 rfl (Qt.field uT rfl ce33 rfl) ?_
          refine D.qY 10 rfl (Qt.load rfl (Ld.one (v := .slice B1 (zaj (hgt n) o.xs 0).length b1) hz0 oT rfl)) ?_
          refine D.qY 11 rfl (Qt.build2 (a := .slice A1 o.xs.length a1) (b := .slice B1 (zaj (hgt n) o.xs 0).length b1) rfl rfl (build47 _ _ _ _ _ _)) ?_
          refine D.qY 12 rfl (Qt.field uT rfl ce33 rfl) ?_
          refine D.qY 13 rfl (Qt.load rfl (Ld.one (v := .slice P pa.length p) (Has.at 4 rfl) oT hra)) ?_
          refine D.qY 14 rfl (Qt.field uT rfl ce33 rfl) ?_
          refine D.qY 15 rfl (Qt.load rfl (Ld.one (v := .slice Q pb.length q) (Has.at 4 rfl) oT hrb)) ?_
          refine D.qY 16 rfl (Qt.build2 (a := .slice P pa.length p) (b := .slice Q pb.length q) rfl rfl (build47 _ _ _ _ _ _)) ?_
          refine D.nS (k := 17) sn rfl (by kernel_rfl) (by kernel_rfl) rfl rfl (OpV.con (Pre := []) (R := _) J84 rfl pr (fun w hw => (by have k := zdS (hgt n : Int) A c o.xs hxc A1 a1 (o.xs.map (fun x => getT E ms (0, x))) B1 b1 ((zaj (hgt n) o.xs 0).map (fun a => getT E ms a)) P p pa Q q pb (by rw [List.length_map]; exact (zaL (hw.ok (List.mem_of_getElem? (i := 2) rfl))).1) (by rw [List.length_map]; exact (zaL (hw.ok (List.mem_of_getElem? (i := 3) rfl))).1) hp hq w hlow (Rd.ro hR w hw) (Rd.own (Rd.at 2 rfl) w hw) (Rd.own (Rd.at 3 rfl) w hw) (Rd.ro hPa w hw) (Rd.ro hPb w hw) (hT.at hw); simp only [List.length_map] at k; exact k : Calls prog 84 #[.int .i64 (hgt n : Int), .slice A o.xs.length c, .agg #[.slice A1 o.xs.length a1, .slice B1 (zaj (hgt n) o.xs 0).length b1], .agg #[.slice P pa.length p, .slice Q pb.length q]] w (Post w [] fun v L => PxQ 114 (zbl (zbp (hgt n : Int) o.xs (o.xs.map (fun x => getT E ms (0, x))) ((zaj (hgt n) o.xs 0).map (fun a => getT E ms a))) (zbp (hgt n : Int) o.xs pa pb)) v L))) ?_)
          rintro v L' ⟨O, d2, pp, Ls, rfl, rfl, q1, q2, q3⟩
          refine ⟨sd (sd (sk (sk (sk (sk (sk (sk (sk (sk sn0))))))))), ?_⟩
          refine D.qY 18 rfl (Qt.assign cw) ?_
          refine D.done sn (by kernel_rfl) ?_
          refine TC.ret (finQ.ret rv (sk (sk (sd (sd (sd (sd (sd (sd (sd (sd sn0)))))))))) ?_)
          refine ⟨O, d2, pp, Ls, rfl, rfl, ?_, q2, q3⟩
          rw [zea h17 hf h31]; exact q1
        · refine (OpV.alloc zT (fun b7 => ⟨sd sr, ?_⟩))
          refine D.nS (k := 6) (sd (sk (sk (sk (sk sn0))))) rfl (by kernel_rfl) (by kernel_rfl) rfl rfl (OpV.con (Pre := []) (R := _) J94 rfl pr (fun w hw => zmb E tb mb (hgt n) ms hh A c o.xs hxc (zgM hn hf h31) w (Rd.ro hB w hw) (Rd.ro hM w hw) hlow (Rd.ro hR w hw)) ?_)
          rintro v L' ⟨I, i, A1, a1, B1, b1, rfl, rfl⟩
          refine ⟨sd (sd (sd (sk (sk (sk (sk (sk sn0))))))), ?_⟩
          refine D.qY 7 rfl (Qt.move cw) ?_
          refine D.qY 8 rfl (Qt.extract rfl rfl) ?_
          refine D.p 9 rfl (Qt.extract rfl rfl) ?_
          refine D.opN (k := 11) (sd (sd (sd (sd (sk (sk (sk (sk sn0)))))))) rfl (by kernel_rfl) (by kernel_rfl) rfl (OpV.storeV3 (v := .agg #[.slice I o.xs.length i, .slice A1 o.xs.length a1, .slice B1 (zaj (hgt n) o.xs 0).length b1]) rfl rfl (by exact ce194) (by rfl) (by rfl) ⟨sd (sd (sd (sd (sk (sk (sk (sk sn0))))))), ?_⟩)
          refine D.qY 12 rfl (Qt.assign cw) ?_
          refine D.done (sd (sd (sd (sd (sk (sk (sk (sk sn0)))))))) (by kernel_rfl) ?_
          refine TC.seq ?_
          refine TC.seq ?_
          refine TC.region ?_
          refine S.mv ?_
          refine S.r (Qt.nenil_nil uT rfl) ?_
          refine S.nil ?_
          refine S.if_f rfl ?_
          refine TC.skip ?_
          refine TC.seq ?_
          refine dw ([], [17]) ?_
          refine D.qY 0 rfl (Qt.move cw) ?_
          refine D.qY 1 rfl (Qt.nilCheck rfl) ?_
          refine D.qY 2 rfl (Qt.field uT rfl ce155 rfl) ?_
          refine D.qY 3 rfl (Qt.load rfl (Ld.one (v := .pointer (some ⟨tb, 0, none⟩)) (Has.ro hQ) oT rfl)) ?_
          refine D.cX (k := 4) rfl (by kernel_rfl) (by kernel_rfl) (by kernel_rfl) rfl rfl (CalU.con0 J80 rfl (fun w hw => zbc E tb mb (hgt n) w (Rd.ro hB w hw))) ?_
          refine D.qY 5 rfl (Qt.field uT rfl ce22 rfl) ?_
          refine D.qY 6 rfl (Qt.load rfl (Ld.one (v := .slice A o.xs.length c) (Has.at 5 rfl) oT rfl)) ?_
          refine D.qY 7 rfl (Qt.field uT rfl ce33 rfl) ?_
          refine D.qY 8 rfl (Qt.load rfl (Ld.one (v := .slice A1 o.xs.length a1) hz3 oT rfl)) ?_
          refine D.qY 9 rfl (Qt.field uT rfl ce33 rfl) ?_
          refine D.qY 10 rfl (Qt.load rfl (Ld.one (v := .slice B1 (zaj (hgt n) o.xs 0).length b1) hz3 oT rfl)) ?_
          refine D.qY 11 rfl (Qt.build2 (a := .slice A1 o.xs.length a1) (b := .slice B1 (zaj (hgt n) o.xs 0).length b1) rfl rfl (build47 _ _ _ _ _ _)) ?_
          refine D.qY 12 rfl (Qt.field uT rfl ce33 rfl) ?_
          refine D.qY 13 rfl (Qt.load rfl (Ld.one (v := .slice P pa.length p) (Has.at 4 rfl) oT hra)) ?_
          refine D.qY 14 rfl (Qt.field uT rfl ce33 rfl) ?_
          refine D.qY 15 rfl (Qt.load rfl (Ld.one (v := .slice Q pb.length q) (Has.at 4 rfl) oT hrb)) ?_
          refine D.qY 16 rfl (Qt.build2 (a := .slice P pa.length p) (b := .slice Q pb.length q) rfl rfl (build47 _ _ _ _ _ _)) ?_
          refine D.nS (k := 17) sn rfl (by kernel_rfl) (by kernel_rfl) rfl rfl (OpV.con (Pre := []) (R := _) J84 rfl pr (fun w hw => (by have k := zdS (hgt n : Int) A c o.xs hxc A1 a1 (o.xs.map (fun x => getT E ms (0, x))) B1 b1 ((zaj (hgt n) o.xs 0).map (fun a => getT E ms a)) P p pa Q q pb (by rw [List.length_map]; exact (zaL (hw.ok (List.mem_of_getElem? (i := 1) rfl))).1) (by rw [List.length_map]; exact (zaL (hw.ok (List.mem_of_getElem? (i := 2) rfl))).1) hp hq w hlow (Rd.ro hR w hw) (Rd.own (Rd.at 1 rfl) w hw) (Rd.own (Rd.at 2 rfl) w hw) (Rd.ro hPa w hw) (Rd.ro hPb w hw) (hT.at hw); simp only [List.length_map] at k; exact k : Calls prog 84 #[.int .i64 (hgt n : Int), .slice A o.xs.length c, .agg #[.slice A1 o.xs.length a1, .slice B1 (zaj (hgt n) o.xs 0).length b1], .agg #[.slice P pa.length p, .slice Q pb.length q]] w (Post w [] fun v L => PxQ 114 (zbl (zbp (hgt n : Int) o.xs (o.xs.map (fun x => getT E ms (0, x))) ((zaj (hgt n) o.xs 0).map (fun a => getT E ms a))) (zbp (hgt n : Int) o.xs pa pb)) v L))) ?_)
          rintro v L' ⟨O, d2, pp, Ls, rfl, rfl, q1, q2, q3⟩
          refine ⟨sd (sd (sk (sk (sk (sk (sk (sk (sk (sk sn0))))))))), ?_⟩
          refine D.qY 18 rfl (Qt.assign cw) ?_
          refine D.done sn (by kernel_rfl) ?_
          refine TC.ret (finQ.ret rv (sk (sk (sd (sd (sd (sd (sd (sd (sd (sd sn0)))))))))) ?_)
          refine ⟨O, d2, pp, Ls, rfl, rfl, ?_, q2, q3⟩
          rw [zea h17 hf h31]; exact q1
      · refine S.as ?_
        refine S.nil ?_
        refine S.if_f rfl ?_
        refine TC.seq ?_
        refine dw ([], []) ?_
        refine D.qY 0 rfl (Qt.field uT rfl ce40 rfl) ?_
        refine D.qY 1 rfl (Qt.load rfl (Ld.one (v := .int .u64 (o.blocks : Int)) hz1 oT rfl)) ?_
        refine D.qY 2 rfl (Qt.move cw) ?_
        refine D.qY 3 rfl (Qt.nilCheck rfl) ?_
        refine D.qY 4 rfl (Qt.field uT rfl ce40 rfl) ?_
        refine D.qY 5 rfl (Qt.load rfl (Ld.one (v := .int .u64 (n : Int)) (Has.ro hQ) oT rfl)) ?_
        refine D.decX (k := 6) rfl (by kernel_rfl) (by kernel_rfl) (by kernel_rfl) rfl rfl (Qt.lt rfl rfl) (fun h69 => ?_) (fun h69 => ?_)
        · refine D.qY 7 rfl (Qt.move cw) ?_
          refine D.gY 8 rfl rfl (Qt.field uT rfl ce33 rfl) ?_
          refine D.gY 9 rfl rfl (Qt.load rfl (Ld.one (v := .slice P pa.length p) hz0 oT hra)) ?_
          refine D.gY 10 rfl rfl (Qt.len_slice uT rfl) ?_
          refine D.decgX (k := 11) rfl (by kernel_rfl) (by kernel_rfl) (by kernel_rfl) rfl rfl rfl (Qt.eq (b := 1) rfl rfl) (fun h74 => ?_) (fun h74 => ?_)
          · refine D.qY 12 rfl (Qt.pick_t rfl cw) ?_
            refine D.qY 13 rfl (Qt.assign cw) ?_
            refine D.done sn (by kernel_rfl) ?_
            refine S.if_t rfl ?_
            refine TC.seq ?_
            refine dr ([11], [6, 10]) ?_
            refine D.qY 0 rfl (Qt.move cw) ?_
            refine D.qY 1 rfl (Qt.nilCheck rfl) ?_
            refine D.qY 2 rfl (Qt.field uT rfl ce155 rfl) ?_
            refine D.qY 3 rfl (Qt.load rfl (Ld.one (v := .pointer (some ⟨tb, 0, none⟩)) (Has.ro hQ) oT rfl)) ?_
            refine D.qY 4 rfl (Qt.field uT rfl ce40 rfl) ?_
            refine D.qY 5 rfl (Qt.load rfl (Ld.one (v := .int .u64 (o.blocks : Int)) hz1 oT rfl)) ?_
            refine D.orNN (k1 := 6) (k2 := 10) sr rfl rfl (by kernel_rfl) (by kernel_rfl) rfl rfl rfl rfl ?_ ?_
            · refine (OpV.con (Pre := []) (R := _) J95 rfl pr (fun w hw => zmc E tb mb (hgt n) ms hh o.blocks (za3 hf (Decidable.not_not.1 h31)).1 (by have := zdA hn; have := (za3 hf (Decidable.not_not.1 h31)).1; omega) w (Rd.ro hB w hw) (Rd.ro hM w hw)) ?_)
              rintro v L' ⟨Pq, pq, rfl, rfl⟩
              refine ⟨sd (sk (sk (sk (sk sn0)))), ?_⟩
              refine D.qY 7 rfl (Qt.move cw) ?_
              refine D.qY 8 rfl (Qt.extract rfl rfl) ?_
              refine D.p 9 rfl (Qt.extract rfl rfl) ?_
              refine D.nS (k := 10) (sd (sk (sk (sk (sk sn0))))) rfl (by kernel_rfl) (by kernel_rfl) rfl rfl (OpV.alloc zT (fun b9 => ⟨sd sr, ?_⟩))
              refine D.opN (k := 11) (sd (sd (sk (sk (sk (sk sn0)))))) rfl (by kernel_rfl) (by kernel_rfl) rfl (OpV.storeV0 (v := .agg (hvl (getT E ms (0, o.blocks - 1)) ++ [Value.slice Pq (hgt n) pq]).toArray) rfl rfl (by rw [zav, zbI]; exact ce198) (by rw [zav, List.all_append, zco]; rfl) (by rw [zav, zbI]; rfl) ⟨sd (sd (sk (sk (sk (sk sn0))))), ?_⟩)
              refine D.qY 12 rfl (Qt.assign cw) ?_
              refine D.done (sd (sd (sk (sk (sk (sk sn0)))))) (by kernel_rfl) ?_
              refine TC.seq ?_
              refine TC.seq ?_
              refine TC.region ?_
              refine S.mv ?_
              refine S.r (Qt.nenil_nil uT rfl) ?_
              refine S.nil ?_
              refine S.if_f rfl ?_
              refine TC.skip ?_
              refine TC.seq ?_
              refine dw ([], [11]) ?_
              refine D.qY 0 rfl (Qt.field uT rfl ce40 rfl) ?_
              refine D.qY 1 rfl (Qt.load rfl (Ld.one (v := .int .u64 (o.blocks : Int)) hz3 oT rfl)) ?_
              refine D.qY 2 rfl (Qt.sub (b := 1) rfl rfl (by have := (za3 hf (Decidable.not_not.1 h31)).1; omega) km) ?_
              refine D.qY 3 rfl (Qt.load rfl (Ld.all (vs := vl (.agg (hvl (getT E ms (0, o.blocks - 1)) ++ [Value.slice Pq (hgt n) pq]).toArray)) hz0 rT (by rw [zav, zbI]; exact ce198))) ?_
              refine D.qY 4 rfl (Qt.field uT rfl ce33 rfl) ?_
              refine D.qY 5 rfl (Qt.load rfl (Ld.one (v := .slice P pa.length p) hz2 oT hra)) ?_
              refine D.qY 6 rfl (Qt.index (i := 0) uT cT rfl rfl ow (Has.ro hPa) (by rw [zah]; omega)) ?_
              refine D.qY 7 rfl (Qt.load rfl (Ld.hashS (Has.ro hPa) 0 rT ce49 ow rfl)) ?_
              refine D.qY 8 rfl (Qt.field uT rfl ce33 rfl) ?_
              refine D.qY 9 rfl (Qt.load rfl (Ld.one (v := .slice Q pb.length q) hz2 oT hrb)) ?_
              refine D.qY 10 rfl (Qt.as (Qt.buildS (vs := [hv ((pa.getD 0 zac)), .slice Q pb.length q]) (pls := #[(0, 32), (32, 1)]) uT (fun w => by kernel_rfl) ze198 rfl ⟨(by show some (0, 32) = some (0, _); rw [zaf]), (by show some (32, 1) = some (0 + (vl (hv ((pa.getD 0 zac)))).length, _); rw [zaf]; rfl), trivial⟩ (by show 33 = _; rw [List.flatMap_cons, List.flatMap_singleton, List.length_append, zaf]; rfl)) (show _ = Value.agg (hvl ((pa.getD 0 zac)) ++ [Value.slice Q pb.length q]).toArray by rw [List.flatMap_cons, List.flatMap_singleton, zie]; rfl)) ?_
              refine D.nS (k := 11) sn rfl (by kernel_rfl) (by kernel_rfl) rfl rfl (OpV.con (Pre := []) (R := _) J96 rfl pr (fun w hw => (by have k := zgJ (o.blocks - 1) ow (getT E ms (0, o.blocks - 1)) Pq pq (zcG E ms (hgt n) (o.blocks - 1)) (pa.getD 0 zac) Q q pb w (Rd.own (Rd.at 1 rfl) w hw) (Rd.ro hPb w hw) (hT.at hw); rw [zcS] at k; exact k : Calls prog 96 #[.int .u64 ((o.blocks - 1 : Nat) : Int), .agg (hvl (getT E ms (0, o.blocks - 1)) ++ [Value.slice Pq (hgt n) pq]).toArray, .agg (hvl (pa.getD 0 zac) ++ [Value.slice Q pb.length q]).toArray] w (Post w [] fun v L => PxQ 114 (zbl (zc3 (getT E ms (0, o.blocks - 1)) (o.blocks - 1) (zcG E ms (hgt n) (o.blocks - 1))) (zc3 (pa.getD 0 zac) (o.blocks - 1) pb)) v L))) ?_)
              rintro v L' ⟨O, d2, pp, Ls, rfl, rfl, q1, q2, q3⟩
              refine ⟨sd (sd (sk (sk (sk (sk (sk (sk sn0))))))), ?_⟩
              refine D.qY 12 rfl (Qt.assign cw) ?_
              refine D.done sn (by kernel_rfl) ?_
              refine TC.ret (finQ.ret rv (sk (sk (sd (sd (sd (sd (sd (sd sn0)))))))) ?_)
              refine ⟨O, d2, pp, Ls, rfl, rfl, ?_, q2, q3⟩
              rw [zfl h17 hf h31 h69 h74]; exact q1
            · refine (OpV.alloc zT (fun b9 => ⟨sd sr, ?_⟩))
              refine D.nS (k := 6) (sd (sk (sk (sk (sk sn0))))) rfl (by kernel_rfl) (by kernel_rfl) rfl rfl (OpV.con (Pre := []) (R := _) J95 rfl pr (fun w hw => zmc E tb mb (hgt n) ms hh o.blocks (za3 hf (Decidable.not_not.1 h31)).1 (by have := zdA hn; have := (za3 hf (Decidable.not_not.1 h31)).1; omega) w (Rd.ro hB w hw) (Rd.ro hM w hw)) ?_)
              rintro v L' ⟨Pq, pq, rfl, rfl⟩
              refine ⟨sd (sk (sk (sk (sk (sk sn0))))), ?_⟩
              refine D.qY 7 rfl (Qt.move cw) ?_
              refine D.qY 8 rfl (Qt.extract rfl rfl) ?_
              refine D.p 9 rfl (Qt.extract rfl rfl) ?_
              refine D.opN (k := 11) (sd (sd (sk (sk (sk (sk sn0)))))) rfl (by kernel_rfl) (by kernel_rfl) rfl (OpV.storeV1 (v := .agg (hvl (getT E ms (0, o.blocks - 1)) ++ [Value.slice Pq (hgt n) pq]).toArray) rfl rfl (by rw [zav, zbI]; exact ce198) (by rw [zav, List.all_append, zco]; rfl) (by rw [zav, zbI]; rfl) ⟨sd (sd (sk (sk (sk (sk sn0))))), ?_⟩)
              refine D.qY 12 rfl (Qt.assign cw) ?_
              refine D.done (sd (sd (sk (sk (sk (sk sn0)))))) (by kernel_rfl) ?_
              refine TC.seq ?_
              refine TC.seq ?_
              refine TC.region ?_
              refine S.mv ?_
              refine S.r (Qt.nenil_nil uT rfl) ?_
              refine S.nil ?_
              refine S.if_f rfl ?_
              refine TC.skip ?_
              refine TC.seq ?_
              refine dw ([], [11]) ?_
              refine D.qY 0 rfl (Qt.field uT rfl ce40 rfl) ?_
              refine D.qY 1 rfl (Qt.load rfl (Ld.one (v := .int .u64 (o.blocks : Int)) hz3 oT rfl)) ?_
              refine D.qY 2 rfl (Qt.sub (b := 1) rfl rfl (by have := (za3 hf (Decidable.not_not.1 h31)).1; omega) km) ?_
              refine D.qY 3 rfl (Qt.load rfl (Ld.all (vs := vl (.agg (hvl (getT E ms (0, o.blocks - 1)) ++ [Value.slice Pq (hgt n) pq]).toArray)) hz1 rT (by rw [zav, zbI]; exact ce198))) ?_
              refine D.qY 4 rfl (Qt.field uT rfl ce33 rfl) ?_
              refine D.qY 5 rfl (Qt.load rfl (Ld.one (v := .slice P pa.length p) hz2 oT hra)) ?_
              refine D.qY 6 rfl (Qt.index (i := 0) uT cT rfl rfl ow (Has.ro hPa) (by rw [zah]; omega)) ?_
              refine D.qY 7 rfl (Qt.load rfl (Ld.hashS (Has.ro hPa) 0 rT ce49 ow rfl)) ?_
              refine D.qY 8 rfl (Qt.field uT rfl ce33 rfl) ?_
              refine D.qY 9 rfl (Qt.load rfl (Ld.one (v := .slice Q pb.length q) hz2 oT hrb)) ?_
              refine D.qY 10 rfl (Qt.as (Qt.buildS (vs := [hv ((pa.getD 0 zac)), .slice Q pb.length q]) (pls := #[(0, 32), (32, 1)]) uT (fun w => by kernel_rfl) ze198 rfl ⟨(by show some (0, 32) = some (0, _); rw [zaf]), (by show some (32, 1) = some (0 + (vl (hv ((pa.getD 0 zac)))).length, _); rw [zaf]; rfl), trivial⟩ (by show 33 = _; rw [List.flatMap_cons, List.flatMap_singleton, List.length_append, zaf]; rfl)) (show _ = Value.agg (hvl ((pa.getD 0 zac)) ++ [Value.slice Q pb.length q]).toArray by rw [List.flatMap_cons, List.flatMap_singleton, zie]; rfl)) ?_
              refine D.nS (k := 11) sn rfl (by kernel_rfl) (by kernel_rfl) rfl rfl (OpV.con (Pre := []) (R := _) J96 rfl pr (fun w hw => (by have k := zgJ (o.blocks - 1) ow (getT E ms (0, o.blocks - 1)) Pq pq (zcG E ms (hgt n) (o.blocks - 1)) (pa.getD 0 zac) Q q pb w (Rd.own (Rd.at 0 rfl) w hw) (Rd.ro hPb w hw) (hT.at hw); rw [zcS] at k; exact k : Calls prog 96 #[.int .u64 ((o.blocks - 1 : Nat) : Int), .agg (hvl (getT E ms (0, o.blocks - 1)) ++ [Value.slice Pq (hgt n) pq]).toArray, .agg (hvl (pa.getD 0 zac) ++ [Value.slice Q pb.length q]).toArray] w (Post w [] fun v L => PxQ 114 (zbl (zc3 (getT E ms (0, o.blocks - 1)) (o.blocks - 1) (zcG E ms (hgt n) (o.blocks - 1))) (zc3 (pa.getD 0 zac) (o.blocks - 1) pb)) v L))) ?_)
              rintro v L' ⟨O, d2, pp, Ls, rfl, rfl, q1, q2, q3⟩
              refine ⟨sd (sd (sk (sk (sk (sk (sk (sk sn0))))))), ?_⟩
              refine D.qY 12 rfl (Qt.assign cw) ?_
              refine D.done sn (by kernel_rfl) ?_
              refine TC.ret (finQ.ret rv (sk (sk (sd (sd (sd (sd (sd (sd sn0)))))))) ?_)
              refine ⟨O, d2, pp, Ls, rfl, rfl, ?_, q2, q3⟩
              rw [zfl h17 hf h31 h69 h74]; exact q1
          · refine D.qY 12 rfl (Qt.pick_t rfl cw) ?_
            refine D.qY 13 rfl (Qt.assign cw) ?_
            refine D.done sn (by kernel_rfl) ?_
            refine S.if_f rfl ?_
            refine TC.skip ?_
            refine TC.seq ?_
            refine TC.region ?_
            refine S.as ?_
            refine S.nil ?_
            refine TC.ret (finQ.ret rv (Sub.trans (sk (sk (sd (sd sn0)))) (Sub.trans (sk (Sub.trans (sk sr) (Sub.of_perm pm2))) (Sub.of_perm pm3))) ?_)
            exact ⟨none, 0, [], [], rfl, rfl, (zl7 h17 hf h31 (fun h => h74 h.2)).symm, Nat.zero_le _, fun p hp => nomatch hp⟩
        · refine D.qY 7 rfl (Qt.move cw) ?_
          refine D.ps 8 rfl rfl ?_
          refine D.ps 9 rfl rfl ?_
          refine D.ps 10 rfl rfl ?_
          refine D.ps 11 rfl rfl ?_
          refine D.qY 12 rfl (Qt.pick_f rfl cw) ?_
          refine D.qY 13 rfl (Qt.assign cw) ?_
          refine D.done sn (by kernel_rfl) ?_
          refine S.if_f rfl ?_
          refine TC.skip ?_
          refine TC.seq ?_
          refine TC.region ?_
          refine S.as ?_
          refine S.nil ?_
          refine TC.ret (finQ.ret rv (Sub.trans (sk (sk (sd (sd sn0)))) (Sub.trans (sk (Sub.trans (sk sr) (Sub.of_perm pm2))) (Sub.of_perm pm3))) ?_)
          exact ⟨none, 0, [], [], rfl, rfl, (zl7 h17 hf h31 (fun h => h69 h.1)).symm, Nat.zero_le _, fun p hp => nomatch hp⟩
    · refine D.cgX (k := 13) rfl (by kernel_rfl) (by kernel_rfl) (by kernel_rfl) rfl rfl rfl (CalU.con0 J93 rfl (fun w hw => (by have h := zdq A c B d o hss hxx n w hlow (Rd.ro hR w hw) (Rd.ro hS w hw); rw [decide_eq_false hf] at h; exact h : Calls prog 93 #[.agg (zaX A c B d o).toArray, .int .u64 (n : Int)] w (Ret w (.bool false))))) ?_
      refine D.gY 14 rfl rfl (Qt.not_f rfl) ?_
      refine D.qY 15 rfl (Qt.pick_f rfl cw) ?_
      refine D.qY 16 rfl (Qt.assign cw) ?_
      refine D.done sn (by kernel_rfl) ?_
      refine S.if_t rfl ?_
      refine TC.seq ?_
      refine TC.region ?_
      refine S.as ?_
      refine S.nil ?_
      refine TC.ret (finQ.ret rv (Sub.trans (sk (sk (sd (sd sn0)))) (Sub.trans (sk (Sub.trans (sk sr) (Sub.of_perm pm2))) (Sub.of_perm pm3))) ?_)
      exact ⟨none, 0, [], [], rfl, rfl, (zjK (.inr hf)).symm, Nat.zero_le _, fun p hp => nomatch hp⟩
theorem zv24 : zeJ prog 49 = some (hv zac) := by kernel_rfl
def rsA (A : OAd) (n c : Nat) : List Value := [.int .u64 0, .int .i64 3, .int .i64 0, .slice none 0 0, .bool false, .int .u64 0, .int .u64 0, .int .i64 0, .slice none 0 0, .slice none 0 0, .int .u64 0] ++ List.replicate 16 (.int .u8 0) ++ [.slice A n c, .slice none 0 0]
theorem build57 (A : OAd) (n c : Nat) (w : World) : (Instr.build 58 #[(0, .int .i64 2), (1, .slice A n c)]).run prog w = .ok (.agg #[.int .i64 2, .slice A n c, .slice none 0 0, .int .u64 0]) w := by kernel_rfl
theorem build63 (A : OAd) (n c : Nat) (w : World) : (Instr.build 65 #[(1, .int .i64 3), (6, .slice A n c)]).run prog w = .ok (.agg (rsA A n c).toArray) w := by kernel_rfl
theorem zk4 (E : Nat → H32) (hEm : ∀ w, Tabs 3 1 w [] → Calls prog 55 #[] w (Ret w (.agg (hcs (zbd E)).toArray))) (w0 : World) (hT : Tabs 3 1 w0 []) :
  Calls prog 8 #[] w0 (Post w0 [] fun v L => v = .bool true ∧ L = []) := by
 refine co 42 [.tmp 0] func8 ?_
 refine gw ?_
 refine S.cn J21 (fun w hw => zhV E hEm 2 (by decide) w (hT.at hw)) ?_
 rintro v L' ⟨qb, sm, tb, mb, rfl, rfl⟩
 refine gw ?_
 refine S.o (OpV.sliceLO (vs := u64s [0, 1]) uT elem40 rfl (by decide) rfl (by intro v hv; obtain ⟨x, _, rfl⟩ := List.mem_map.1 hv; rfl) (fun g13 => ?_))
 refine S.r (Qt.build2 (a := .int .i64 2) (b := .slice (some ⟨g13, 0, none⟩) 2 2) rfl rfl (build57 _ _ _)) ?_
 refine S.o (OpV.makeS (n := 2) (cs := hcs [zac, zac]) uT elem49 zv24 rfl rfl (by decide) (by decide) (by decide) (by kernel_rfl) (fun g15 => ?_))
 refine S.r (Qt.build2 (a := .int .i64 3) (b := .slice (some ⟨g15, 0, none⟩) 2 2) rfl rfl (build63 _ _ _)) ?_
 refine S.cn J35 (fun w hw => zex E 2 (by decide) qb sm tb mb [] (some ⟨g13, 0, none⟩) 2 none 0 ⟨2, [0, 1], [], 0⟩ (by decide) (by decide) (by decide) (by decide) (rsA (some ⟨g15, 0, none⟩) 2 2) 0 (some ⟨g15, 0, none⟩) 2 [zac, zac] none 0 [] rfl rfl rfl rfl rfl (by decide) (by decide) w (Rd.at 2 rfl w hw) (Rd.at 4 rfl w hw) (Rd.at 5 rfl w hw) (by decide : ∀ x ∈ ([0, 1] : List Nat), x < 18446744073709551616) (Rd.own (Rd.at 1 rfl) w hw) (zgN w) (Rd.blk (Rd.at 0 rfl) w hw) (zgN w) (hT.at hw)) ?_
 rintro v L' ⟨O, d2, pp, Ls, rfl, rfl, q1, q2, q3⟩
 rw [zm3] at q1
 have hpl : pp.length = 1 := by have := congrArg List.length q1; simpa using this
 have hx : (pp.getD 0 px0).1.2.2.length = 66 := by have h1 := congrArg (fun l : List Pr => (l.getD 0 pr0).1.length) q1; rw [ziy ow] at h1; exact h1.trans (zba ..)
 refine gw ?_
 refine S.c0 J44 (fun w hw => Calls.ret (zm6 none 0 [] (by decide) (by decide) w (zgN w) (fun p h => nomatch h) (fun p h => nomatch h) (hT.at hw))) (gw ?_)
 intro b4
 refine S.opN rfl (OpV.storeV0 (v := .agg #[.slice none 0 0, .slice none 0 0]) rfl rfl (by exact ce114) (by rfl) (by rfl) ?_)
 refine gw ?_
 refine S.r (Qt.dT (Qt.eq (b := 1) rfl rfl) (hpl)) (gw ?_)
 refine S.qg rfl rfl rfl (Qt.index (i := 0) uT cT rfl rfl ow (Has.own hz1) (by rw [zev]; omega)) ?_
 refine S.qg rfl rfl rfl (Qt.fieldS uT rfl ce112 rfl (Has.own hz1) (by rw [zev]; omega)) ?_
 refine S.qg rfl rfl rfl (Qt.load rfl (Ld.sl (v := .slice (pp.getD 0 px0).1.1 (pp.getD 0 px0).1.2.2.length (pp.getD 0 px0).1.2.1) (Has.own hz1) oT (zlW ow rfl 0 _ rfl))) (gw ?_)
 refine S.qg rfl rfl rfl (Qt.dT (Qt.eq (b := 66) rfl rfl) (hx)) (gw ?_)
 refine S.g0 J27 (fun w hw => zfo qb 2 sm tb w (Rd.at 5 rfl w hw)) ?_
 refine S.qg rfl rfl rfl (Qt.dT (Qt.eq (b := 2) rfl rfl) (rfl)) (gw ?_)
 refine TC.ret (fR ?_)
 exact ⟨rfl, rfl⟩
end Go.Proofs.YtgdjcmehlhebdaaGreatDoor
